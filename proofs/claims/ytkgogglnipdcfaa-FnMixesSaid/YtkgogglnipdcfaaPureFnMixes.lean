/- The law FnMixes, told over texts, numbers and lists: PlayMix, SortTexts and SetSize answer alike on both sides for what is drawn; and where all texts have room and no two have one tag, rounds turned about bring the same texts out. No condition. -/
import Derived.Test.YtkgogglnipdcfaaQFnMixesx7
import Derived.Test.YtkgogglnipdcfaaPk
namespace Go.Proofs.Ytkgogglnipdcfaa.Pure
open Go.RowKit Go.Proofs.Ytkgogglnipdcfaa.QFnMixes Go.Proofs.YtkgogglnipdcfaaW.PrintWords Go.Proofs.YtkgogglnipdcfaaW.PrintLast Go.Proofs.YtkgogglnipdcfaaW.PrintMore Go.Proofs.Ytkgogglnipdcfaa
set_option linter.unusedVariables false
set_option linter.unusedSimpArgs false

open Pk

def inR (lo hi x : Int) : Bool := decide (x ≥ lo) && decide (x ≤ hi)
theorem inR_iff {lo hi x : Int} : inR lo hi x = true ↔ lo ≤ x ∧ x ≤ hi := by simp [inR]
theorem l1In_eq (a lo hi : Int) : spec_l1In.f a lo hi = some (inR lo hi a) := by
  unfold spec_l1In.f inR
  by_cases h : a ≥ lo <;> simp [h]
theorem within_eq (a lo hi : Int) : impl_within.f a lo hi = some (inR lo hi a) := by
  unfold impl_within.f inR
  by_cases h : a ≥ lo <;> simp [h]
theorem allWithin_l (xs : List Int) (lo up : Int) (hn : xs.length ≤ 9223372036854775807) : ∀ (d i : Nat), i + d = xs.length → Ev (fun k => impl_allWithin.l0 k lo up xs (xs.length : Int) (i : Int)) ((xs.drop i).all (inR lo up)) := by
  intro d
  induction d with
  | zero =>
    intro i hi
    refine eround (fun k => by rw [impl_allWithin.l0]) ?_
    refine eneg (by omega) (enow ?_)
    rw [List.drop_eq_nil_of_le (by omega)]; rfl
  | succ d ih =>
    intro i hi
    have hlt : i < xs.length := by omega
    refine eround (fun k => by rw [impl_allWithin.l0]) ?_
    refine epos (by omega) (epos (by omega) (epos (by omega) ?_))
    rw [rd_get xs i hlt, List.drop_eq_getElem_cons hlt, List.all_cons]
    refine enb (within_eq _ _ _) ?_
    cases h : inR lo up xs[i] with
    | true =>
      refine epos rfl ?_
      rw [w64 (by omega) (by omega)]
      simpa using ih (i + 1) (by omega)
    | false => exact eneg (by simp) (enow (by simp))
theorem allWithin_e (xs : List Int) (lo up : Int) (hn : xs.length ≤ 9223372036854775807) : Ev (fun k => impl_allWithin.f k xs lo up) (xs.all (inR lo up)) :=
  allWithin_l xs lo up hn xs.length 0 (by omega)
def chainLt : List Int → Bool
  | a :: b :: r => decide (a < b) && chainLt (b :: r)
  | _ => true
theorem chainLt_drop (xs : List Int) (i : Nat) (h : i + 1 < xs.length) : chainLt (xs.drop i) = (decide (xs[i] < xs[i + 1]) && chainLt (xs.drop (i + 1))) := by
  rw [List.drop_eq_getElem_cons (show i < xs.length by omega), List.drop_eq_getElem_cons h]; rfl
theorem chainLt_end (xs : List Int) (i : Nat) (h : xs.length ≤ i + 1) : chainLt (xs.drop i) = true := by
  have : (xs.drop i).length ≤ 1 := by simp; omega
  match hx : xs.drop i, this with
  | [], _ => rfl
  | [_], _ => rfl
  | _ :: _ :: _, h => simp at h
def risB (lo up : Int) (xs : List Int) : Bool := xs.all (inR lo up) && chainLt xs
theorem implRis_l (xs : List Int) (lo up : Int) (hn : xs.length ≤ 9223372036854775807) : ∀ (d i : Nat), i + 1 + d = xs.length → Ev (fun k => impl_isRising.l0 k xs lo up ((i + 1 : Nat) : Int)) (xs.all (inR lo up) && chainLt (xs.drop i)) := by
  intro d
  induction d with
  | zero =>
    intro i hi
    refine eround (fun k => by rw [impl_isRising.l0]) (eneg (by omega) (ebind (allWithin_e xs lo up hn) (enow ?_)))
    rw [chainLt_end xs _ (by omega)]; simp
  | succ d ih =>
    intro i hi
    have e1 : wrap64 (((i + 1 : Nat) : Int) - 1) = (i : Int) := by rw [w64 (by omega) (by omega)]; omega
    have e2 : wrap64 (((i + 1 : Nat) : Int) + 1) = ((i + 1 + 1 : Nat) : Int) := by rw [w64 (by omega) (by omega)]; omega
    refine eround (fun k => by rw [impl_isRising.l0]) (epos (by omega) ?_)
    rw [e1, e2, rd_get xs i (by omega), rd_get xs (i + 1) (by omega), chainLt_drop xs i (by omega)]
    refine epos (by omega) (epos (by omega) (epos (by omega) ?_))
    by_cases h1 : xs[i] ≥ xs[i + 1]
    · exact epos h1 (enow (by simp; omega))
    · refine eneg h1 ?_
      simpa [show xs[i] < xs[i + 1] by omega] using ih (i + 1) (by omega)
theorem implRis_e (xs : List Int) (lo up : Int) (hn : xs.length ≤ 9223372036854775807) : Ev (fun k => impl_isRising.f k xs lo up) (risB lo up xs) := by
  unfold impl_isRising.f risB
  by_cases h : xs.length = 0
  · obtain rfl := List.eq_nil_of_length_eq_zero h
    refine eround (fun k => by rw [impl_isRising.l0]) (eneg (by simp) (ebind (allWithin_e [] lo up (by simp)) (enow (by simp [chainLt]))))
  · simpa using implRis_l xs lo up hn (xs.length - 1) 0 (by omega)
/-! texts in order -/
theorem u8_irr (a : UInt8) : ¬ a < a := fun z => by have := UInt8.lt_iff_toNat_lt.1 z; omega
theorem bl_irr : ∀ x : List UInt8, Op.bytesLess x x = false
  | [] => rfl
  | a :: x => by
    have h := bl_irr x
    have := u8_irr a
    simp [Op.bytesLess, this, h]
theorem bl_trans : ∀ x y z : List UInt8, Op.bytesLess x y = true → Op.bytesLess y z = true → Op.bytesLess x z = true
  | x, [], z => fun h _ => by cases x <;> simp [Op.bytesLess] at h
  | x, _ :: _, [] => fun _ h => by simp [Op.bytesLess] at h
  | [], _ :: _, _ :: _ => fun _ _ => rfl
  | a :: x, b :: y, c :: z => fun h1 h2 => by
    have ih := bl_trans x y z
    simp only [Op.bytesLess, Bool.or_eq_true, decide_eq_true_eq, Bool.and_eq_true, beq_iff_eq] at h1 h2 ⊢
    rcases h1 with h1 | ⟨rfl, h1⟩
    · rcases h2 with h2 | ⟨rfl, h2⟩
      · left
        have := UInt8.lt_iff_toNat_lt.1 h1
        have := UInt8.lt_iff_toNat_lt.1 h2
        exact UInt8.lt_iff_toNat_lt.2 (by omega)
      · exact Or.inl h1
    · rcases h2 with h2 | ⟨rfl, h2⟩
      · exact Or.inl h2
      · exact Or.inr ⟨rfl, ih h1 h2⟩
def ltT (a b : ByteArray) : Bool := Op.bytesLess a.toList b.toList
theorem ltT_irr (a : ByteArray) : ltT a a = false := bl_irr _
theorem ltT_trans {a b c : ByteArray} (h1 : ltT a b = true) (h2 : ltT b c = true) : ltT a c = true := bl_trans _ _ _ h1 h2
theorem ltT_asym {a b : ByteArray} (h : ltT a b = true) : ltT b a = false := by
  rw [Bool.eq_false_iff]
  intro h2
  have := ltT_trans h h2
  rw [ltT_irr] at this
  cases this
theorem ltT_tri {a b : ByteArray} (h1 : ltT a b = false) (h2 : ltT b a = false) : a = b := by
  have h := bytesLess_rev a.toList b.toList
  unfold ltT at h1 h2
  rw [h1, h2] at h
  have e : a.toList = b.toList := by simpa using h
  rw [ByteArray.toList_eq, ByteArray.toList_eq] at e
  exact ByteArray.ext (Array.toList_inj.1 e)
theorem leT_trans {a b c : ByteArray} (h1 : ltT b a = false) (h2 : ltT c b = false) : ltT c a = false := by
  rw [Bool.eq_false_iff]
  intro h
  cases h3 : ltT a b with
  | true =>
    have := ltT_trans h h3
    rw [h2] at this
    cases this
  | false =>
    have := ltT_tri h3 h1
    subst this
    rw [h2] at h
    cases h
def chainLe : List ByteArray → Bool
  | a :: b :: r => !ltT b a && chainLe (b :: r)
  | _ => true
theorem chainLe_pair : ∀ l : List ByteArray, chainLe l = true → l.Pairwise (fun a b => ltT b a = false)
  | [], _ => List.Pairwise.nil
  | [_], _ => List.pairwise_singleton _ _
  | a :: b :: r, h => by
    simp only [chainLe, Bool.and_eq_true, Bool.not_eq_true'] at h
    have ih := chainLe_pair (b :: r) h.2
    refine List.Pairwise.cons (fun c hc => ?_) ih
    rcases List.mem_cons.1 hc with rfl | hc
    · exact h.1
    · exact leT_trans h.1 ((List.pairwise_cons.1 ih).1 c hc)
theorem chainLe_drop (xs : List ByteArray) (i : Nat) (h : i + 1 < xs.length) : chainLe (xs.drop i) = (!ltT xs[i + 1] xs[i] && chainLe (xs.drop (i + 1))) := by
  rw [List.drop_eq_getElem_cons (show i < xs.length by omega), List.drop_eq_getElem_cons h]; rfl
theorem chainLe_end (xs : List ByteArray) (i : Nat) (h : xs.length ≤ i + 1) : chainLe (xs.drop i) = true := by
  have : (xs.drop i).length ≤ 1 := by simp; omega
  match hx : xs.drop i, this with
  | [], _ => rfl
  | [_], _ => rfl
  | _ :: _ :: _, h => simp at h
/-- x put behind all that are not above it. -/
def placeT (x : ByteArray) : List ByteArray → List ByteArray
  | [] => [x]
  | y :: r => if ltT x y = true then x :: y :: r else y :: placeT x r
theorem placeT_len (x : ByteArray) : ∀ l, (placeT x l).length = l.length + 1
  | [] => rfl
  | y :: r => by
    unfold placeT
    split
    · simp
    · simp [placeT_len x r]
theorem placeT_eq (x : ByteArray) : ∀ l : List ByteArray, l.Pairwise (fun a b => ltT b a = false) → l.takeWhile (fun y => ltT y x) ++ x :: l.dropWhile (fun y => ltT y x) = placeT x l
  | [], _ => rfl
  | y :: r, h => by
    obtain ⟨h1, h2⟩ := List.pairwise_cons.1 h
    have ih := placeT_eq x r h2
    unfold placeT
    by_cases c : ltT x y = true
    · rw [if_pos c]
      have := ltT_asym c
      simp [this]
    · rw [if_neg c]
      cases c2 : ltT y x with
      | true => simp [c2, ih]
      | false =>
        have e := ltT_tri (by simpa using c) c2
        subst e
        have hr : ∀ r : List ByteArray, (∀ z ∈ r, ltT z x = false) → placeT x r = x :: r := by
          intro r
          induction r with
          | nil => intro _; rfl
          | cons z r ih2 =>
            intro hz
            unfold placeT
            by_cases c3 : ltT x z = true
            · rw [if_pos c3]
            · rw [if_neg c3, ih2 (fun q hq => hz q (by simp [hq]))]
              rw [ltT_tri (by simpa using c3) (hz z (by simp))]
        rw [hr r h1]
        simp [c2]
theorem cut_while {α : Type} (p : α → Bool) : ∀ (l : List α) (t : Nat), t ≤ l.length → (∀ q (h : q < l.length), q < t → p l[q] = true) → (∀ q (h : q < l.length), t ≤ q → p l[q] = false) → l.take t = l.takeWhile p ∧ l.drop t = l.dropWhile p
  | [], t, _, _, _ => by simp
  | y :: r, 0, _, _, h2 => by
    have := h2 0 (by simp) (Nat.le_refl _)
    simp at this
    simp [this]
  | y :: r, t + 1, ht, h1, h2 => by
    have h0 := h1 0 (by simp) (by omega)
    simp at h0
    obtain ⟨e1, e2⟩ := cut_while p r t (by simpa using ht) (fun q hq hl => by have h := h1 (q + 1) (by simpa using hq) (by omega); rw [List.getElem_cons_succ] at h; exact h) (fun q hq hl => by have h := h2 (q + 1) (by simpa using hq) (by omega); rw [List.getElem_cons_succ] at h; exact h)
    simp [h0, e1, e2]
theorem l1Has_l (xs : List Int) (a : Int) (hn : xs.length ≤ 9223372036854775807) : ∀ (d i : Nat), i + d = xs.length → Ev (fun k => spec_l1Has.l0 k a xs (xs.length : Int) (i : Int)) (decide (a ∈ xs.drop i)) := by
  intro d
  induction d with
  | zero =>
    intro i hi
    refine eround (fun k => by rw [spec_l1Has.l0]) (eneg (by omega) (enow ?_))
    rw [List.drop_eq_nil_of_le (by omega)]; simp
  | succ d ih =>
    intro i hi
    have hlt : i < xs.length := by omega
    refine eround (fun k => by rw [spec_l1Has.l0]) (epos (by omega) (epos (by omega) (epos (by omega) ?_)))
    rw [rd_get xs i hlt, List.drop_eq_getElem_cons hlt]
    by_cases e : xs[i] = a
    · exact epos e (enow (by simp [e]))
    · refine eneg e ?_
      rw [w64 (by omega) (by omega)]
      have : decide (a ∈ xs[i] :: List.drop (i + 1) xs) = decide (a ∈ List.drop (i + 1) xs) := by
        apply decide_eq_decide.2
        rw [List.mem_cons]
        exact ⟨fun h => h.resolve_left (fun z => e z.symm), Or.inr⟩
      rw [this]
      exact ih (i + 1) (by omega)
theorem l1Has_e (xs : List Int) (a : Int) (hn : xs.length ≤ 9223372036854775807) : Ev (fun k => spec_l1Has.f k xs a) (decide (a ∈ xs)) := l1Has_l xs a hn xs.length 0 (by omega)
/-! tags -/
theorem tmod_rng (v : Int) (h0 : 0 ≤ v) : 0 ≤ Int.tmod v 4093 ∧ Int.tmod v 4093 ≤ 4092 := by
  rw [Int.tmod_eq_emod_of_nonneg h0]
  omega
theorem tag_l (s : ByteArray) (hs : s.size ≤ 9223372036854775807) : ∀ (d i : Nat) (a : Int), i + d = s.size → 0 ≤ a → a ≤ 4092 → ∃ r : Int, 0 ≤ r ∧ r ≤ 4092 ∧ Ev (fun k => impl_tag.l0 k s a (s.size : Int) (i : Int)) r ∧ Ev (fun k => spec_l8Tag.l0 k s a (i : Int)) r := by
  intro d
  induction d with
  | zero =>
    intro i a hi h0 h1
    exact ⟨a, h0, h1, eround (fun k => by rw [impl_tag.l0]) (eneg (by omega) (enow rfl)), eround (fun k => by rw [spec_l8Tag.l0]) (eneg (by omega) (enow rfl))⟩
  | succ d ih =>
    intro i a hi h0 h1
    obtain ⟨b0, b1⟩ := bt_range s (i : Int)
    obtain ⟨c0, c1⟩ := tmod_rng (a * 257 + bt s (i : Int) + 1) (by omega)
    obtain ⟨r, r0, r1, r2, r3⟩ := ih (i + 1) _ (by omega) c0 c1
    have w1 : wrap64 ((i : Int) + 1) = ((i + 1 : Nat) : Int) := by rw [w64 (by omega) (by omega)]; omega
    refine ⟨r, r0, r1, eround (fun k => by rw [impl_tag.l0]) (epos (by omega) (epos (by omega) (epos (by omega) ?_))), eround (fun k => by rw [spec_l8Tag.l0]) (epos (by omega) (epos (by omega) ?_))⟩
    · rw [w1, w64 (x := a * 257) (by omega) (by omega), w64 (x := bt s (i : Int)) (by omega) (by omega), w64 (x := a * 257 + bt s (i : Int)) (by omega) (by omega), w64 (x := a * 257 + bt s (i : Int) + 1) (by omega) (by omega)]
      exact r2
    · rw [w1, Int.mul_comm 257 a, w64 (x := a * 257) (by omega) (by omega), w64 (x := bt s (i : Int)) (by omega) (by omega), w64 (x := a * 257 + bt s (i : Int)) (by omega) (by omega), w64 (x := a * 257 + bt s (i : Int) + 1) (by omega) (by omega)]
      exact r3
noncomputable def tagOf (s : ByteArray) : Int := theEv 0 (fun k => impl_tag.f k s)
theorem tagOf_all (s : ByteArray) (hs : s.size ≤ 9223372036854775807) : Ev (fun k => impl_tag.f k s) (tagOf s) ∧ Ev (fun k => spec_l8Tag.f k s) (tagOf s) ∧ 0 ≤ tagOf s ∧ tagOf s ≤ 4092 := by
  obtain ⟨r, r0, r1, r2, r3⟩ := tag_l s hs s.size 0 0 (by omega) (by omega) (by omega)
  have h1 : Ev (fun k => impl_tag.f k s) r := r2
  have h2 := theEv_of (d := (0 : Int)) h1
  have e : theEv 0 (fun k => impl_tag.f k s) = r := Ev_unique h2 h1
  unfold tagOf
  rw [e]
  exact ⟨h1, r3, r0, r1⟩
/-! slices.Contains of numbers -/
theorem ixI_l (xs : List Int) (a : Int) (hn : xs.length ≤ 4194304) : ∀ (d i : Nat), i + d = xs.length → ∃ r : Int, Ev (fun k => slices_Index_int_int.l0 k xs a (xs.length : Int) (i : Int)) r ∧ (r ≥ 0 ↔ a ∈ xs.drop i) := by
  intro d
  induction d with
  | zero =>
    intro i hi
    refine ⟨-1, eround (fun k => by rw [slices_Index_int_int.l0]) (eneg (by omega) (enow rfl)), ?_⟩
    rw [List.drop_eq_nil_of_le (by omega)]; simp
  | succ d ih =>
    intro i hi
    have hlt : i < xs.length := by omega
    obtain ⟨r, h1, h3⟩ := ih (i + 1) (by omega)
    rw [List.drop_eq_getElem_cons hlt, List.mem_cons]
    by_cases e : a = xs[i]
    · refine ⟨(i : Int), eround (fun k => by rw [slices_Index_int_int.l0]) (epos (by omega) (epos (by omega) (epos (by omega) ?_))), by simp [e]⟩
      rw [rd_get xs i hlt]
      exact epos e (enow rfl)
    · refine ⟨r, eround (fun k => by rw [slices_Index_int_int.l0]) (epos (by omega) (epos (by omega) (epos (by omega) ?_))), by rw [h3]; simp [e]⟩
      rw [rd_get xs i hlt]
      refine eneg e ?_
      rw [w64 (by omega) (by omega)]
      exact h1
theorem coI_e (xs : List Int) (a : Int) (hn : xs.length ≤ 4194304) : Ev (fun k => slices_Contains_int_int.f k xs a) (decide (a ∈ xs)) := by
  obtain ⟨r, h1, h3⟩ := ixI_l xs a hn xs.length 0 (by omega)
  refine ebind (f := fun _ t => some (decide (t ≥ 0))) h1 (enow ?_)
  rw [List.drop_zero] at h3
  exact decide_eq_decide.2 h3
/-! texts that may be in a pool -/
def letA (l : List ByteArray) : Bool := l.all (fun s => decide ((s.size : Int) ≤ 24))
theorem ixL_l (xs : List ByteArray) (hn : xs.length ≤ 4194304) : ∀ (d i : Nat), i + d = xs.length → ∃ r : Int, Ev (fun k => slices_IndexFunc_224_at_188.l0 k xs (xs.length : Int) (i : Int)) r ∧ (r ≥ 0 ↔ letA (xs.drop i) = false) := by
  intro d
  induction d with
  | zero =>
    intro i hi
    refine ⟨-1, eround (fun k => by rw [slices_IndexFunc_224_at_188.l0]) (eneg (by omega) (enow rfl)), ?_⟩
    rw [List.drop_eq_nil_of_le (by omega)]; simp [letA]
  | succ d ih =>
    intro i hi
    have hlt : i < xs.length := by omega
    obtain ⟨r, h1, h3⟩ := ih (i + 1) (by omega)
    have hL : letA (xs.drop i) = (decide ((xs[i].size : Int) ≤ 24) && letA (xs.drop (i + 1))) := by rw [List.drop_eq_getElem_cons hlt]; rfl
    have hf : impl_areLetters_1.f xs[i] = some (!decide ((xs[i].size : Int) ≤ 24)) := rfl
    rw [hL]
    by_cases e : (xs[i].size : Int) ≤ 24
    · refine ⟨r, eround (fun k => by rw [slices_IndexFunc_224_at_188.l0]) (epos (by omega) (epos (by omega) (epos (by omega) ?_))), by rw [h3]; simp [e]⟩
      rw [show rdOf ByteArray.empty xs (i : Int) = xs[i] from getD_get xs i _ hlt]
      refine enb hf (eneg (by simp [e]) ?_)
      rw [w64 (by omega) (by omega)]
      exact h1
    · refine ⟨(i : Int), eround (fun k => by rw [slices_IndexFunc_224_at_188.l0]) (epos (by omega) (epos (by omega) (epos (by omega) ?_))), by simp [e]⟩
      rw [show rdOf ByteArray.empty xs (i : Int) = xs[i] from getD_get xs i _ hlt]
      exact enb hf (epos (by simp [e]) (enow rfl))
def letB (l : List ByteArray) : Bool := letA l && decide ((l.length : Int) ≤ 12)
theorem implLet_e (xs : List ByteArray) (hn : xs.length ≤ 4194304) : Ev (fun k => impl_areLetters.f k xs) (letB xs) := by
  unfold impl_areLetters.f letB
  by_cases h : (xs.length : Int) ≤ 12
  · obtain ⟨r, h1, h3⟩ := ixL_l xs hn xs.length 0 (by omega)
    rw [List.drop_zero] at h3
    refine epos h (ebind (a := decide (r ≥ 0)) (ebind (f := fun _ t => some (decide (t ≥ 0))) h1 (enow rfl)) (enow ?_))
    rw [decide_eq_true h, Bool.and_true]
    cases e : letA xs with
    | true => rw [e] at h3; simp at h3; simp; omega
    | false => rw [e] at h3; simp at h3; simp; omega
  · exact eneg h (enow (by simp [h]))
theorem specPool_l (xs : List ByteArray) (hn : xs.length ≤ 4194304) : ∀ (d i : Nat), i + d = xs.length → Ev (fun k => spec_l8Pool.l0 k xs xs (xs.length : Int) (i : Int)) (letA (xs.drop i) && decide ((xs.length : Int) ≤ 12)) := by
  intro d
  induction d with
  | zero =>
    intro i hi
    refine eround (fun k => by rw [spec_l8Pool.l0]) (eneg (by omega) (enow ?_))
    rw [List.drop_eq_nil_of_le (by omega)]; simp [letA]
  | succ d ih =>
    intro i hi
    have hlt : i < xs.length := by omega
    have hL : letA (xs.drop i) = (decide ((xs[i].size : Int) ≤ 24) && letA (xs.drop (i + 1))) := by rw [List.drop_eq_getElem_cons hlt]; rfl
    refine eround (fun k => by rw [spec_l8Pool.l0]) (epos (by omega) (epos (by omega) (epos (by omega) ?_)))
    rw [show rdOf ByteArray.empty xs (i : Int) = xs[i] from getD_get xs i _ hlt, hL]
    refine enb (a := decide ((xs[i].size : Int) ≤ 24)) rfl ?_
    by_cases e : (xs[i].size : Int) ≤ 24
    · refine epos (by simpa using e) ?_
      rw [w64 (by omega) (by omega), decide_eq_true e, Bool.true_and]
      exact ih (i + 1) (by omega)
    · exact eneg (by simpa using e) (enow (by simp [e]))
theorem specPool_e (xs : List ByteArray) (hn : xs.length ≤ 4194304) : Ev (fun k => spec_l8Pool.f k xs) (letB xs) := by
  have := specPool_l xs hn xs.length 0 (by omega)
  rw [List.drop_zero] at this
  exact this
/-! slices.IsSorted -/
theorem less_S (a b : ByteArray) : cmp_Less_string.f a b = some (ltT a b) := by
  unfold cmp_Less_string.f cmp_isNaN_string.f
  simp [ltT]
theorem sorted_l (xs : List ByteArray) (hn : xs.length ≤ 4194304) : ∀ i : Nat, i < xs.length → chainLe (xs.drop i) = true → Ev (fun k => slices_IsSorted_string_string.l0 k xs (i : Int)) (chainLe xs) := by
  intro i
  induction i with
  | zero =>
    intro _ h
    exact eround (fun k => by rw [slices_IsSorted_string_string.l0]) (eneg (by omega) (enow (by simpa using h.symm)))
  | succ i ih =>
    intro hi h
    have w1 : wrap64 (((i + 1 : Nat) : Int) - 1) = (i : Int) := by rw [w64 (by omega) (by omega)]; omega
    refine eround (fun k => by rw [slices_IsSorted_string_string.l0]) (epos (by omega) (epos (by omega) (epos (by omega) ?_)))
    rw [w1, show rdOf ByteArray.empty xs ((i + 1 : Nat) : Int) = xs[i + 1] from getD_get xs (i + 1) _ hi, show rdOf ByteArray.empty xs (i : Int) = xs[i] from getD_get xs i _ (by omega)]
    refine epos (by omega) (epos (by omega) (enb (less_S _ _) ?_))
    have hc := chainLe_drop xs i hi
    cases e : ltT xs[i + 1] xs[i] with
    | true =>
      refine epos rfl (enow ?_)
      symm
      rw [Bool.eq_false_iff]
      intro hx
      have hp := List.pairwise_iff_getElem.1 (chainLe_pair xs hx) i (i + 1) (by omega) hi (by omega)
      rw [e] at hp
      cases hp
    | false =>
      refine eneg (by decide) (ih (by omega) ?_)
      rw [hc, e, h]; rfl
theorem sorted_e (xs : List ByteArray) (hn : xs.length ≤ 4194304) : Ev (fun k => slices_IsSorted_string_string.f k xs) (chainLe xs) := by
  unfold slices_IsSorted_string_string.f
  by_cases h : xs.length = 0
  · obtain rfl := List.eq_nil_of_length_eq_zero h
    refine eround (fun k => by rw [slices_IsSorted_string_string.l0]) ?_
    exact eneg (show ¬ wrap64 ((([] : List ByteArray).length : Int) - 1) > 0 by rw [List.length_nil, w64 (by omega) (by omega)]; omega) (enow rfl)
  · have w1 : wrap64 ((xs.length : Int) - 1) = ((xs.length - 1 : Nat) : Int) := by rw [w64 (by omega) (by omega)]; omega
    rw [w1]
    exact sorted_l xs hn (xs.length - 1) (by omega) (chainLe_end xs _ (by omega))
/-! good mixes -/
noncomputable def tagsB (seen : List Int) : List Int → List ByteArray → Bool
  | _, [] => true
  | tags, s :: r => decide (tagOf s ∈ seen) && (!decide (tagOf s ∈ tags) && tagsB seen (tags ++ [tagOf s]) r)
def rngB (n : Int) (least wait old : Int) : Bool := inR 1 12 least && (inR 1 10 wait && (inR 0 10 old && (decide (n > 0) || decide (old = 0))))
def seenB (seen : List Int) : Bool := risB 0 4092 seen && decide ((seen.length : Int) ≤ 100)
noncomputable def goodM (pool : List ByteArray) (least wait old : Int) (seen : List Int) : Bool := chainLe pool && (tagsB seen [] pool && (letB pool && (rngB (pool.length : Int) least wait old && seenB seen)))
theorem implTags_l (pool : List ByteArray) (least wait old : Int) (seen : List Int) (hn : pool.length ≤ 1048576) (hs : seen.length ≤ 1048576) (hz : ∀ y ∈ pool, y.size ≤ 9223372036854775807) : ∀ (d i : Nat) (tags : List Int), i + d = pool.length → tags.length ≤ i → Ev (fun k => impl_GoodMix.l0 k tags pool (pool.length : Int) (i : Int) pool least wait old seen) (tagsB seen tags (pool.drop i)) := by
  intro d
  induction d with
  | zero =>
    intro i tags hi ht
    refine eround (fun k => by rw [impl_GoodMix.l0]) (eneg (by omega) (enow ?_))
    rw [List.drop_eq_nil_of_le (by omega)]; rfl
  | succ d ih =>
    intro i tags hi ht
    have hlt : i < pool.length := by omega
    obtain ⟨t1, _, _, _⟩ := tagOf_all pool[i] (hz _ (List.getElem_mem hlt))
    refine eround (fun k => by rw [impl_GoodMix.l0]) (epos (by omega) (epos (by omega) (epos (by omega) ?_)))
    rw [show rdOf ByteArray.empty pool (i : Int) = pool[i] from getD_get pool i _ hlt, List.drop_eq_getElem_cons hlt, tagsB]
    refine ebind t1 (ebind (coI_e seen _ (by omega)) ?_)
    cases e1 : decide (tagOf pool[i] ∈ seen) with
    | false => exact eneg (by decide) (enow (by simp))
    | true =>
      refine epos rfl (ebind (coI_e tags _ (by omega)) ?_)
      cases e2 : decide (tagOf pool[i] ∈ tags) with
      | true => exact epos rfl (enow (by simp))
      | false =>
        refine eneg (by decide) (epos (by omega) ?_)
        rw [w64 (by omega) (by omega)]
        simpa using ih (i + 1) (tags ++ [tagOf pool[i]]) (by omega) (by simp; omega)
theorem implGM_e (pool : List ByteArray) (least wait old : Int) (seen : List Int) (hn : pool.length ≤ 1048576) (hs : seen.length ≤ 1048576) (hz : ∀ y ∈ pool, y.size ≤ 9223372036854775807) : Ev (fun k => impl_GoodMix.f k pool least wait old seen) (goodM pool least wait old seen) := by
  unfold impl_GoodMix.f goodM
  have hj : ∀ _ : Bool, Ev (fun k => impl_GoodMix.j0 k true pool least wait old seen) false := fun _ => eround (fun k => by rw [impl_GoodMix.j0]) (epos rfl (enow rfl))
  refine ebind (implLet_e pool (by omega)) ?_
  cases e1 : letB pool with
  | false => exact eneg (by decide) (by simpa using hj true)
  | true =>
    refine epos rfl (ebind (sorted_e pool (by omega)) ?_)
    cases e2 : chainLe pool with
    | false => exact eneg (by decide) (by simpa using hj true)
    | true =>
      refine epos rfl (enb (within_eq _ _ _) ?_)
      unfold rngB
      cases e3 : inR 1 12 least with
      | false => exact eneg (by decide) (by simpa using hj true)
      | true =>
        refine epos rfl (enb (within_eq _ _ _) ?_)
        cases e4 : inR 1 10 wait with
        | false => exact eneg (by decide) (by simpa using hj true)
        | true =>
          refine epos rfl (enb (within_eq _ _ _) ?_)
          cases e5 : inR 0 10 old with
          | false => exact eneg (by decide) (by simpa using hj true)
          | true =>
            refine epos rfl ?_
            have hmain : Ev (fun k => impl_GoodMix.j0 k false pool least wait old seen) (tagsB seen [] pool && seenB seen) := by
              refine eround (fun k => by rw [impl_GoodMix.j0]) (eneg (by simp) ?_)
              have hj1 : Ev (fun k => impl_GoodMix.j1 k true pool least wait old seen) false := eround (fun k => by rw [impl_GoodMix.j1]) (epos rfl (enow rfl))
              unfold seenB
              by_cases h : (seen.length : Int) > 100
              · refine epos h ?_
                have : decide ((seen.length : Int) ≤ 100) = false := decide_eq_false (by omega)
                rw [this]
                simpa using hj1
              · refine eneg h (ebind (implRis_e seen 0 4092 (by omega)) ?_)
                rw [show decide ((seen.length : Int) ≤ 100) = true from decide_eq_true (by omega), Bool.and_true]
                cases e6 : risB 0 4092 seen with
                | false => simpa using hj1
                | true =>
                  rw [Bool.and_true]
                  refine eround (fun k => by rw [impl_GoodMix.j1]) (eneg (by simp) ?_)
                  simpa using implTags_l pool least wait old seen hn hs hz pool.length 0 [] (by omega) (by simp)
            by_cases h : (pool.length : Int) = 0
            · refine epos h ?_
              have hd : decide ((pool.length : Int) > 0) = false := decide_eq_false (by omega)
              rw [hd]
              by_cases h2 : old = 0
              · have : (old != 0) = false := by simp [h2]
                rw [this, decide_eq_true h2]
                simpa using hmain
              · have : (old != 0) = true := by simp [h2]
                rw [this, decide_eq_false h2]
                simpa using hj true
            · refine eneg h ?_
              have hd : decide ((pool.length : Int) > 0) = true := decide_eq_true (by omega)
              rw [hd]
              simpa using hmain
theorem bsS_l (xs : List ByteArray) (a : ByteArray) (p : ByteArray → Bool) (hp : ∀ y, cmp_Less_string.f y a = some (p y)) (hn : xs.length ≤ 4194304) (mono : ∀ q r (hr : r < xs.length) (hq : q ≤ r), p xs[r] = true → p xs[q] = true) : ∀ (d i j : Nat), j - i ≤ d → i ≤ j → j ≤ xs.length → (∀ q (h : q < xs.length), q < i → p xs[q] = true) → (∀ q (h : q < xs.length), j ≤ q → p xs[q] = false) →
    ∃ (t : Nat) (b : Bool), t ≤ xs.length ∧ Ev (fun k => slices_BinarySearch_string_string.l0 k xs a (xs.length : Int) (i : Int) (j : Int)) ((t : Int), b) ∧ (∀ q (h : q < xs.length), q < t → p xs[q] = true) ∧ (∀ q (h : q < xs.length), t ≤ q → p xs[q] = false) := by
  intro d
  induction d with
  | zero =>
    intro i j hd hij hj h1 h2
    have e : i = j := by omega
    subst e
    by_cases hi : i < xs.length
    · by_cases c : (fun u v : ByteArray => u.toList = v.toList) ((rdOf ByteArray.empty) xs (i : Int)) a
      · exact ⟨i, true, hj, eround (fun k => by rw [slices_BinarySearch_string_string.l0]) (eneg (by omega) (epos (by omega) (epos (by omega) (epos (by omega) (epos c (enow rfl)))))), h1, h2⟩
      · refine ⟨i, false, hj, eround (fun k => by rw [slices_BinarySearch_string_string.l0]) (eneg (by omega) (epos (by omega) (epos (by omega) (epos (by omega) (eneg c (enb (a := false) (by unfold slices_isNaN_string.f; simp) (eneg Bool.false_ne_true (enow rfl)))))))), h1, h2⟩
    · exact ⟨i, false, hj, eround (fun k => by rw [slices_BinarySearch_string_string.l0]) (eneg (by omega) (eneg (by omega) (enow rfl))), h1, h2⟩
  | succ d ih =>
    intro i j hd hij hj h1 h2
    by_cases c : i < j
    · have hm : wrap64 (IntKind.u64.wrap (wrap64 ((i : Int) + (j : Int))) / 2) = (((i + j) / 2 : Nat) : Int) := by
        rw [w64 (x := (i : Int) + j) (by omega) (by omega), u64_wrap_small ((i : Int) + j) (by omega) (by omega), w64 (by omega) (by omega)]
        omega
      have hlt : (i + j) / 2 < xs.length := by omega
      have hr : (rdOf ByteArray.empty) xs (((i + j) / 2 : Nat) : Int) = xs[(i + j) / 2] := (getD_get xs _ _ hlt)
      cases hb : p xs[(i + j) / 2] with
      | true =>
        obtain ⟨t, b, t1, t2, t3, t4⟩ := ih ((i + j) / 2 + 1) j (by omega) (by omega) hj (fun q hq hl => mono q _ hlt (by omega) hb) h2
        refine ⟨t, b, t1, eround (fun k => by rw [slices_BinarySearch_string_string.l0]) (epos (by omega) ?_), t3, t4⟩
        rw [hm, hr]
        refine epos (by omega) (epos (by omega) (enb (hp _) ?_))
        refine epos hb ?_
        rw [w64 (by omega) (by omega)]
        exact t2
      | false =>
        obtain ⟨t, b, t1, t2, t3, t4⟩ := ih i ((i + j) / 2) (by omega) (by omega) (by omega) h1 (fun q hq hl => by
          rw [Bool.eq_false_iff]
          intro z
          rw [mono _ q hq hl z] at hb
          cases hb)
        refine ⟨t, b, t1, eround (fun k => by rw [slices_BinarySearch_string_string.l0]) (epos (by omega) ?_), t3, t4⟩
        rw [hm, hr]
        refine epos (by omega) (epos (by omega) (enb (hp _) ?_))
        exact eneg (by rw [hb]; decide) t2
    · exact by
        have e : i = j := by omega
        subst e
        by_cases hi : i < xs.length
        · by_cases c : (fun u v : ByteArray => u.toList = v.toList) ((rdOf ByteArray.empty) xs (i : Int)) a
          · exact ⟨i, true, hj, eround (fun k => by rw [slices_BinarySearch_string_string.l0]) (eneg (by omega) (epos (by omega) (epos (by omega) (epos (by omega) (epos c (enow rfl)))))), h1, h2⟩
          · refine ⟨i, false, hj, eround (fun k => by rw [slices_BinarySearch_string_string.l0]) (eneg (by omega) (epos (by omega) (epos (by omega) (epos (by omega) (eneg c (enb (a := false) (by unfold slices_isNaN_string.f; simp) (eneg Bool.false_ne_true (enow rfl)))))))), h1, h2⟩
        · exact ⟨i, false, hj, eround (fun k => by rw [slices_BinarySearch_string_string.l0]) (eneg (by omega) (eneg (by omega) (enow rfl))), h1, h2⟩
theorem bsS_e (xs : List ByteArray) (a : ByteArray) (p : ByteArray → Bool) (hp : ∀ y, cmp_Less_string.f y a = some (p y)) (hn : xs.length ≤ 4194304) (mono : ∀ q r (hr : r < xs.length) (hq : q ≤ r), p xs[r] = true → p xs[q] = true) :
    Ev (fun k => impl_placed_string.f k xs a) (xs.takeWhile p ++ a :: xs.dropWhile p) := by
  obtain ⟨t, b, t1, t2, t3, t4⟩ := bsS_l xs a p hp hn mono xs.length 0 xs.length (by omega) (by omega) (Nat.le_refl _) (fun q h hl => by omega) (fun q h hl => by omega)
  obtain ⟨e1, e2⟩ := cut_while p xs t t1 t3 t4
  unfold impl_placed_string.f slices_BinarySearch_string_string.f
  refine ebind t2 ?_
  refine enb (a := xs) (by unfold slices_Clone_string_string.f; simp; omega) ?_
  refine epos (by omega) (epos (by omega) (epos (by omega) (enow ?_)))
  rw [Int.toNat_natCast, e1, e2]
theorem bsI_l (xs : List Int) (a : Int) (p : Int → Bool) (hp : ∀ y, cmp_Less_int.f y a = some (p y)) (hn : xs.length ≤ 4194304) (mono : ∀ q r (hr : r < xs.length) (hq : q ≤ r), p xs[r] = true → p xs[q] = true) : ∀ (d i j : Nat), j - i ≤ d → i ≤ j → j ≤ xs.length → (∀ q (h : q < xs.length), q < i → p xs[q] = true) → (∀ q (h : q < xs.length), j ≤ q → p xs[q] = false) →
    ∃ (t : Nat) (b : Bool), t ≤ xs.length ∧ Ev (fun k => slices_BinarySearch_int_int.l0 k xs a (xs.length : Int) (i : Int) (j : Int)) ((t : Int), b) ∧ (∀ q (h : q < xs.length), q < t → p xs[q] = true) ∧ (∀ q (h : q < xs.length), t ≤ q → p xs[q] = false) := by
  intro d
  induction d with
  | zero =>
    intro i j hd hij hj h1 h2
    have e : i = j := by omega
    subst e
    by_cases hi : i < xs.length
    · by_cases c : (fun u v : Int => u = v) (rd xs (i : Int)) a
      · exact ⟨i, true, hj, eround (fun k => by rw [slices_BinarySearch_int_int.l0]) (eneg (by omega) (epos (by omega) (epos (by omega) (epos (by omega) (epos c (enow rfl)))))), h1, h2⟩
      · refine ⟨i, false, hj, eround (fun k => by rw [slices_BinarySearch_int_int.l0]) (eneg (by omega) (epos (by omega) (epos (by omega) (epos (by omega) (eneg c (enb (a := false) (by unfold slices_isNaN_int.f; simp) (eneg Bool.false_ne_true (enow rfl)))))))), h1, h2⟩
    · exact ⟨i, false, hj, eround (fun k => by rw [slices_BinarySearch_int_int.l0]) (eneg (by omega) (eneg (by omega) (enow rfl))), h1, h2⟩
  | succ d ih =>
    intro i j hd hij hj h1 h2
    by_cases c : i < j
    · have hm : wrap64 (IntKind.u64.wrap (wrap64 ((i : Int) + (j : Int))) / 2) = (((i + j) / 2 : Nat) : Int) := by
        rw [w64 (x := (i : Int) + j) (by omega) (by omega), u64_wrap_small ((i : Int) + j) (by omega) (by omega), w64 (by omega) (by omega)]
        omega
      have hlt : (i + j) / 2 < xs.length := by omega
      have hr : rd xs (((i + j) / 2 : Nat) : Int) = xs[(i + j) / 2] := (rd_get xs _ hlt)
      cases hb : p xs[(i + j) / 2] with
      | true =>
        obtain ⟨t, b, t1, t2, t3, t4⟩ := ih ((i + j) / 2 + 1) j (by omega) (by omega) hj (fun q hq hl => mono q _ hlt (by omega) hb) h2
        refine ⟨t, b, t1, eround (fun k => by rw [slices_BinarySearch_int_int.l0]) (epos (by omega) ?_), t3, t4⟩
        rw [hm, hr]
        refine epos (by omega) (epos (by omega) (enb (hp _) ?_))
        refine epos hb ?_
        rw [w64 (by omega) (by omega)]
        exact t2
      | false =>
        obtain ⟨t, b, t1, t2, t3, t4⟩ := ih i ((i + j) / 2) (by omega) (by omega) (by omega) h1 (fun q hq hl => by
          rw [Bool.eq_false_iff]
          intro z
          rw [mono _ q hq hl z] at hb
          cases hb)
        refine ⟨t, b, t1, eround (fun k => by rw [slices_BinarySearch_int_int.l0]) (epos (by omega) ?_), t3, t4⟩
        rw [hm, hr]
        refine epos (by omega) (epos (by omega) (enb (hp _) ?_))
        exact eneg (by rw [hb]; decide) t2
    · exact by
        have e : i = j := by omega
        subst e
        by_cases hi : i < xs.length
        · by_cases c : (fun u v : Int => u = v) (rd xs (i : Int)) a
          · exact ⟨i, true, hj, eround (fun k => by rw [slices_BinarySearch_int_int.l0]) (eneg (by omega) (epos (by omega) (epos (by omega) (epos (by omega) (epos c (enow rfl)))))), h1, h2⟩
          · refine ⟨i, false, hj, eround (fun k => by rw [slices_BinarySearch_int_int.l0]) (eneg (by omega) (epos (by omega) (epos (by omega) (epos (by omega) (eneg c (enb (a := false) (by unfold slices_isNaN_int.f; simp) (eneg Bool.false_ne_true (enow rfl)))))))), h1, h2⟩
        · exact ⟨i, false, hj, eround (fun k => by rw [slices_BinarySearch_int_int.l0]) (eneg (by omega) (eneg (by omega) (enow rfl))), h1, h2⟩
theorem bsI_e (xs : List Int) (a : Int) (p : Int → Bool) (hp : ∀ y, cmp_Less_int.f y a = some (p y)) (hn : xs.length ≤ 4194304) (mono : ∀ q r (hr : r < xs.length) (hq : q ≤ r), p xs[r] = true → p xs[q] = true) :
    Ev (fun k => impl_placed_int.f k xs a) (xs.takeWhile p ++ a :: xs.dropWhile p) := by
  obtain ⟨t, b, t1, t2, t3, t4⟩ := bsI_l xs a p hp hn mono xs.length 0 xs.length (by omega) (by omega) (Nat.le_refl _) (fun q h hl => by omega) (fun q h hl => by omega)
  obtain ⟨e1, e2⟩ := cut_while p xs t t1 t3 t4
  unfold impl_placed_int.f slices_BinarySearch_int_int.f
  refine ebind t2 ?_
  refine enb (a := xs) (by unfold slices_Clone_int_int.f; simp; omega) ?_
  refine epos (by omega) (epos (by omega) (epos (by omega) (enow ?_)))
  rw [Int.toNat_natCast, e1, e2]
theorem less_I (a b : Int) : cmp_Less_int.f a b = some (decide (a < b)) := by
  unfold cmp_Less_int.f cmp_isNaN_int.f
  simp
theorem placedS_e (xs : List ByteArray) (x : ByteArray) (hn : xs.length ≤ 4194304) (hc : chainLe xs = true) : Ev (fun k => impl_placed_string.f k xs x) (placeT x xs) := by
  have hp := chainLe_pair xs hc
  have := bsS_e xs x (fun y => ltT y x) (fun y => less_S y x) hn (fun q r hr hq h => by
    rcases Nat.lt_or_eq_of_le hq with hq | rfl
    · have h2 := List.pairwise_iff_getElem.1 hp q r (by omega) hr hq
      cases h3 : ltT xs[q] x with
      | true => rfl
      | false =>
        have := leT_trans h3 h2
        rw [h] at this
        cases this
    · exact h)
  rwa [placeT_eq x xs hp] at this
theorem chainLt_pair : ∀ l : List Int, chainLt l = true → l.Pairwise (fun a b => a < b)
  | [], _ => List.Pairwise.nil
  | [_], _ => List.pairwise_singleton _ _
  | a :: b :: r, h => by
    simp only [chainLt, Bool.and_eq_true, decide_eq_true_eq] at h
    have ih := chainLt_pair (b :: r) h.2
    refine List.Pairwise.cons (fun c hc => ?_) ih
    rcases List.mem_cons.1 hc with rfl | hc
    · exact h.1
    · have := (List.pairwise_cons.1 ih).1 c hc
      omega
def placeI (x : Int) (l : List Int) : List Int := l.takeWhile (fun y => decide (y < x)) ++ x :: l.dropWhile (fun y => decide (y < x))
theorem placeI_len (x : Int) (l : List Int) : (placeI x l).length = l.length + 1 := by
  unfold placeI
  have := congrArg List.length (List.takeWhile_append_dropWhile (p := fun y => decide (y < x)) (l := l))
  simp only [List.length_append, List.length_cons] at this ⊢
  omega
theorem placedI_e (xs : List Int) (x : Int) (hn : xs.length ≤ 4194304) (hc : chainLt xs = true) : Ev (fun k => impl_placed_int.f k xs x) (placeI x xs) := by
  have hp := chainLt_pair xs hc
  exact bsI_e xs x (fun y => decide (y < x)) (fun y => less_I y x) hn (fun q r hr hq h => by
    rcases Nat.lt_or_eq_of_le hq with hq | rfl
    · have h2 := List.pairwise_iff_getElem.1 hp q r (by omega) hr hq
      have h3 : xs[r] < x := by simpa using h
      exact decide_eq_true (by omega)
    · exact h)
def putI (x : Int) : List Int → List Int
  | [] => [x]
  | y :: r => if y < x then y :: putI x r else if y = x then y :: r else x :: y :: r
theorem putI_new (x : Int) : ∀ l : List Int, x ∉ l → putI x l = placeI x l
  | [], _ => rfl
  | y :: r, h => by
    have ih := putI_new x r (fun z => h (by simp [z]))
    have hne : ¬ y = x := fun z => h (by simp [z])
    unfold putI
    by_cases c : y < x
    · rw [if_pos c, ih]
      simp [placeI, c]
    · rw [if_neg c, if_neg hne]
      simp [placeI, c]
theorem put_l (xs : List Int) (x : Int) (hn : xs.length ≤ 1048576) : ∀ (d i : Nat), i + d = xs.length → Ev (fun k => spec_l1Put.l0 k xs x (i : Int)) (xs.take i ++ putI x (xs.drop i)) := by
  intro d
  induction d with
  | zero =>
    intro i hi
    have e1 : xs.take i = xs := List.take_of_length_le (by omega)
    have e2 : xs.drop i = [] := List.drop_eq_nil_of_le (by omega)
    refine eround (fun k => by rw [spec_l1Put.l0]) ?_
    refine eneg (by omega) (enb rfl (epos (by omega) (epos (by omega) (enb rfl ?_))))
    rw [Int.toNat_natCast, e1, e2]
    refine epos (by simp; omega) (enb rfl (epos (by simp; omega) (enb rfl (enb rfl (epos (by simp; omega) (enow ?_))))))
    simp [putI]
  | succ d ih =>
    intro i hi
    have hlt : i < xs.length := by omega
    refine eround (fun k => by rw [spec_l1Put.l0]) ?_
    refine epos (by omega) (epos (by omega) ?_)
    rw [rd_get xs i hlt]
    have e3 : xs.drop i = xs[i] :: xs.drop (i + 1) := List.drop_eq_getElem_cons hlt
    by_cases c : xs[i] < x
    · refine epos c ?_
      rw [w64 (by omega) (by omega), e3, putI, if_pos c, show (i : Int) + 1 = ((i + 1 : Nat) : Int) by omega]
      have := ih (i + 1) (by omega)
      rw [List.take_succ_eq_append_getElem hlt, List.append_assoc] at this
      exact this
    · refine eneg c ?_
      by_cases c2 : xs[i] = x
      · refine epos c2 (enow ?_)
        rw [e3, putI, if_neg c, if_pos c2, ← e3, List.take_append_drop]
      · refine eneg c2 (enb rfl (epos (by omega) (enb rfl ?_)))
        rw [Int.toNat_natCast]
        refine epos (by simp; omega) (enb rfl (epos (by simp; omega) (enb rfl (enb rfl (epos (by simp; omega) (enow ?_))))))
        rw [e3, putI, if_neg c, if_neg c2, ← e3]
        simp
theorem put_e (xs : List Int) (x : Int) (hn : xs.length ≤ 1048576) : Ev (fun k => spec_l1Put.f k xs x) (putI x xs) := by
  have := put_l xs x hn xs.length 0 (by omega)
  rw [List.take_zero, List.nil_append, List.drop_zero] at this
  exact this
theorem place_l (xs : List ByteArray) (x : ByteArray) (hn : xs.length ≤ 1048576) : ∀ (d i : Nat), i + d = xs.length → Ev (fun k => spec_l8Place.l0 k xs x (i : Int)) (xs.take i ++ placeT x (xs.drop i)) := by
  intro d
  induction d with
  | zero =>
    intro i hi
    have e1 : xs.take i = xs := List.take_of_length_le (by omega)
    have e2 : xs.drop i = [] := List.drop_eq_nil_of_le (by omega)
    refine eround (fun k => by rw [spec_l8Place.l0]) ?_
    refine eneg (by omega) (enb rfl (epos (by omega) (epos (by omega) ?_)))
    rw [Int.toNat_natCast, e1, e2]
    refine epos (by simp; omega) (enb rfl (epos (by simp; omega) (enb rfl (epos (by simp; omega) (enow ?_)))))
    simp [placeT]
  | succ d ih =>
    intro i hi
    have hlt : i < xs.length := by omega
    refine eround (fun k => by rw [spec_l8Place.l0]) ?_
    refine epos (by omega) (epos (by omega) ?_)
    rw [show rdOf ByteArray.empty xs (i : Int) = xs[i] from getD_get xs i _ hlt]
    have e3 : xs.drop i = xs[i] :: xs.drop (i + 1) := List.drop_eq_getElem_cons hlt
    by_cases c : ltT x xs[i] = true
    · refine epos c (enb rfl (epos (by omega) ?_))
      rw [Int.toNat_natCast]
      refine epos (by simp; omega) (enb rfl (epos (by simp; omega) (enb rfl (epos (by simp; omega) (enow ?_)))))
      rw [e3, placeT, if_pos c, ← e3]
      simp
    · refine eneg c ?_
      rw [w64 (by omega) (by omega), e3, placeT, if_neg c, show (i : Int) + 1 = ((i + 1 : Nat) : Int) by omega]
      have := ih (i + 1) (by omega)
      rw [List.take_succ_eq_append_getElem hlt, List.append_assoc] at this
      exact this
theorem place_e (xs : List ByteArray) (x : ByteArray) (hn : xs.length ≤ 1048576) : Ev (fun k => spec_l8Place.f k xs x) (placeT x xs) := by
  have := place_l xs x hn xs.length 0 (by omega)
  rw [List.take_zero, List.nil_append, List.drop_zero] at this
  exact this
theorem goodM_parts {pool : List ByteArray} {least wait old : Int} {seen : List Int} (h : goodM pool least wait old seen = true) : chainLe pool = true ∧ pool.length ≤ 12 ∧ chainLt seen = true ∧ seen.length ≤ 100 := by
  unfold goodM letB seenB risB at h
  simp only [Bool.and_eq_true, decide_eq_true_eq] at h
  obtain ⟨h1, _, ⟨_, h2⟩, _, ⟨_, h3⟩, h4⟩ := h
  exact ⟨h1, by omega, h3, by omega⟩
abbrev MixR := List ByteArray × Int × Int × Int × List Int
noncomputable def putM (m : MixR) (x : ByteArray) : MixR × Int :=
  if tagOf x ∈ m.2.2.2.2 then (m, 1) else if m.1.length = 12 ∨ m.2.2.2.2.length = 100 then (m, 2) else ((placeT x m.1, m.2.1, m.2.2.1, m.2.2.2.1, placeI (tagOf x) m.2.2.2.2), 0)
theorem specPut_e (m : MixR) (x : ByteArray) (hp : m.1.length ≤ 1048576) (hs : m.2.2.2.2.length ≤ 1048576) (hx : x.size ≤ 9223372036854775807) : Ev (fun k => spec_l8Put.f k m.1 m.2.1 m.2.2.1 m.2.2.2.1 m.2.2.2.2 x) ((putM m x).1.1, (putM m x).1.2.1, (putM m x).1.2.2.1, (putM m x).1.2.2.2.1, (putM m x).1.2.2.2.2, (putM m x).2) := by
  obtain ⟨_, t1, _, _⟩ := tagOf_all x hx
  unfold spec_l8Put.f putM
  refine ebind t1 (ebind (l1Has_e _ _ (by omega)) ?_)
  by_cases c : tagOf x ∈ m.2.2.2.2
  · rw [if_pos c]
    exact epos (decide_eq_true c) (enow rfl)
  · rw [if_neg c]
    refine eneg (by simpa using c) ?_
    have h2 : Ev (fun k => spec_l8Put.j0 k x m.2.2.2.2 true m.1 m.2.1 m.2.2.1 m.2.2.2.1) (m.1, m.2.1, m.2.2.1, m.2.2.2.1, m.2.2.2.2, 2) := eround (fun k => by rw [spec_l8Put.j0]) (epos rfl (enow rfl))
    by_cases c1 : (m.1.length : Int) = 12
    · rw [if_pos (Or.inl (by omega))]
      exact epos c1 h2
    · refine eneg c1 ?_
      by_cases c2 : m.2.2.2.2.length = 100
      · rw [if_pos (Or.inr c2)]
        have : ((m.2.2.2.2.length : Int) == 100) = true := by simp; omega
        rw [this]
        exact h2
      · rw [if_neg (by omega)]
        have : ((m.2.2.2.2.length : Int) == 100) = false := by simp; omega
        rw [this]
        have e3 := put_e m.2.2.2.2 (tagOf x) hs
        rw [putI_new _ _ c] at e3
        refine eround (fun k => by rw [spec_l8Put.j0]) ?_
        refine eneg (by simp) ?_
        refine ebind (place_e m.1 x hp) ?_
        refine ebind t1 ?_
        refine ebind e3 ?_
        exact enow rfl
noncomputable def putR (m : MixR) (x : ByteArray) : List ByteArray × Int × Int × Int × List Int × Int × Bool :=
  if goodM m.1 m.2.1 m.2.2.1 m.2.2.2.1 m.2.2.2.2 = true then (if (x.size : Int) ≤ 24 then ((putM m x).1.1, (putM m x).1.2.1, (putM m x).1.2.2.1, (putM m x).1.2.2.2.1, (putM m x).1.2.2.2.2, (putM m x).2, true) else ([], 0, 0, 0, [], 0, false)) else ([], 0, 0, 0, [], 0, false)
theorem putM_small (m : MixR) (x : ByteArray) (hp : m.1.length ≤ 1000) (hs : m.2.2.2.2.length ≤ 1000) : (putM m x).1.1.length ≤ 1001 ∧ (putM m x).1.2.2.2.2.length ≤ 1001 := by
  unfold putM
  split
  · refine ⟨?_, ?_⟩ <;> dsimp only <;> omega
  · split
    · refine ⟨?_, ?_⟩ <;> dsimp only <;> omega
    · dsimp only
      rw [placeT_len, placeI_len]
      omega
theorem implPM_e (m : MixR) (x : ByteArray) (hp : m.1.length ≤ 1048576) (hs : m.2.2.2.2.length ≤ 1048576) (hz : ∀ y ∈ m.1, y.size ≤ 9223372036854775807) (hx : x.size ≤ 9223372036854775807) : Ev (fun k => impl_PutMix.f k m.1 m.2.1 m.2.2.1 m.2.2.2.1 m.2.2.2.2 x) (putR m x) := by
  unfold impl_PutMix.f putR
  have hj : Ev (fun k => impl_PutMix.j0 k x true m.1 m.2.1 m.2.2.1 m.2.2.2.1 m.2.2.2.2) (([], 0, 0, 0, [], 0, false) : List ByteArray × Int × Int × Int × List Int × Int × Bool) := eround (fun k => by rw [impl_PutMix.j0]) (epos rfl (enow rfl))
  refine ebind (implGM_e m.1 m.2.1 m.2.2.1 m.2.2.2.1 m.2.2.2.2 hp hs hz) ?_
  by_cases g : goodM m.1 m.2.1 m.2.2.1 m.2.2.2.1 m.2.2.2.2 = true
  · rw [if_pos g]
    refine epos g (enb (a := decide ((x.size : Int) ≤ 24)) rfl ?_)
    obtain ⟨g1, g2, g3, g4⟩ := goodM_parts g
    obtain ⟨t1, _, _, _⟩ := tagOf_all x hx
    by_cases c : (x.size : Int) ≤ 24
    · rw [if_pos c, decide_eq_true c]
      refine eround (fun k => by rw [impl_PutMix.j0]) (eneg (by simp) ?_)
      have o1 : slices_Clone_string_string.f m.1 = some m.1 := by unfold slices_Clone_string_string.f; simp; omega
      have o2 : slices_Clone_int_int.f m.2.2.2.2 = some m.2.2.2.2 := by unfold slices_Clone_int_int.f; simp; omega
      refine enb (a := m) (by unfold impl_Mix_own.f; rw [o1, Option.bind_some, o2]; rfl) ?_
      refine ebind t1 (ebind (coI_e _ _ (by omega)) ?_)
      unfold putM
      by_cases c : tagOf x ∈ m.2.2.2.2
      · rw [if_pos c]
        exact epos (decide_eq_true c) (enow rfl)
      · rw [if_neg c]
        refine eneg (by simpa using c) ?_
        have h2 : Ev (fun k => impl_PutMix.j1 k x (tagOf x) true m.1 m.2.1 m.2.2.1 m.2.2.2.1 m.2.2.2.2 m.1 m.2.1 m.2.2.1 m.2.2.2.1 m.2.2.2.2) (m.1, m.2.1, m.2.2.1, m.2.2.2.1, m.2.2.2.2, 2, true) := eround (fun k => by rw [impl_PutMix.j1]) (epos rfl (enow rfl))
        by_cases c1 : (m.1.length : Int) = 12
        · rw [if_pos (Or.inl (by omega))]
          exact epos c1 h2
        · refine eneg c1 ?_
          by_cases c2 : m.2.2.2.2.length = 100
          · rw [if_pos (Or.inr c2)]
            have : ((m.2.2.2.2.length : Int) == 100) = true := by simp; omega
            rw [this]
            exact h2
          · rw [if_neg (by omega)]
            have : ((m.2.2.2.2.length : Int) == 100) = false := by simp; omega
            rw [this]
            refine eround (fun k => by rw [impl_PutMix.j1]) ?_
            refine eneg (by simp) ?_
            refine ebind (placedS_e m.1 x (by omega) g1) ?_
            refine ebind (placedI_e m.2.2.2.2 (tagOf x) (by omega) g3) ?_
            exact enow rfl
    · rw [if_neg c, decide_eq_false c]
      exact hj
  · rw [if_neg g]
    exact eneg g hj
theorem putR_small (m : MixR) (x : ByteArray) : (putR m x).1.length ≤ 1048576 ∧ (putR m x).2.2.2.2.1.length ≤ 1048576 := by
  unfold putR
  by_cases g : goodM m.1 m.2.1 m.2.2.1 m.2.2.2.1 m.2.2.2.2 = true
  · rw [if_pos g]
    obtain ⟨g1, g2, g3, g4⟩ := goodM_parts g
    obtain ⟨s1, s2⟩ := putM_small m x (by omega) (by omega)
    split
    · dsimp only; omega
    · simp
  · rw [if_neg g]
    simp
theorem placeT_perm (x : ByteArray) : ∀ l, (placeT x l).Perm (x :: l)
  | [] => List.Perm.refl _
  | y :: r => by
    unfold placeT
    split
    · exact List.Perm.refl _
    · exact ((placeT_perm x r).cons y).trans (List.Perm.swap x y r)
theorem placeI_perm (x : Int) (l : List Int) : (placeI x l).Perm (x :: l) := by
  unfold placeI
  have h : (l.takeWhile (fun y => decide (y < x)) ++ x :: l.dropWhile (fun y => decide (y < x))).Perm (x :: (l.takeWhile (fun y => decide (y < x)) ++ l.dropWhile (fun y => decide (y < x)))) := List.perm_middle
  rwa [List.takeWhile_append_dropWhile] at h
theorem tagsB_iff (seen : List Int) : ∀ (l : List ByteArray) (tags : List Int), tagsB seen tags l = true ↔ (∀ s ∈ l, tagOf s ∈ seen) ∧ (l.map tagOf).Nodup ∧ ∀ s ∈ l, tagOf s ∉ tags
  | [], tags => by simp [tagsB]
  | s :: r, tags => by
    rw [tagsB]
    simp only [Bool.and_eq_true, decide_eq_true_eq, Bool.not_eq_true', decide_eq_false_iff_not]
    rw [tagsB_iff seen r (tags ++ [tagOf s])]
    constructor
    · rintro ⟨h1, h2, h3, h4, h5⟩
      refine ⟨?_, ?_, ?_⟩
      · intro z hz
        rcases List.mem_cons.1 hz with rfl | hz
        · exact h1
        · exact h3 z hz
      · rw [List.map_cons, List.nodup_cons]
        refine ⟨fun hm => ?_, h4⟩
        obtain ⟨z, hz, he⟩ := List.mem_map.1 hm
        exact h5 z hz (by rw [he]; simp)
      · intro z hz
        rcases List.mem_cons.1 hz with rfl | hz
        · exact h2
        · exact fun hm => h5 z hz (List.mem_append.2 (Or.inl hm))
    · rintro ⟨h1, h2, h3⟩
      rw [List.map_cons, List.nodup_cons] at h2
      refine ⟨h1 s (by simp), h3 s (by simp), fun z hz => h1 z (by simp [hz]), h2.2, fun z hz hm => ?_⟩
      rcases List.mem_append.1 hm with hm | hm
      · exact h3 z (by simp [hz]) hm
      · rw [List.mem_singleton] at hm
        exact h2.1 (List.mem_map.2 ⟨z, hz, hm⟩)
theorem pair_chainLe : ∀ l : List ByteArray, l.Pairwise (fun a b => ltT b a = false) → chainLe l = true
  | [], _ => rfl
  | [_], _ => rfl
  | a :: b :: r, h => by
    obtain ⟨h1, h2⟩ := List.pairwise_cons.1 h
    simp only [chainLe, Bool.and_eq_true, Bool.not_eq_true']
    exact ⟨h1 b (by simp), pair_chainLe (b :: r) h2⟩
theorem placeT_pair (x : ByteArray) : ∀ l : List ByteArray, l.Pairwise (fun a b => ltT b a = false) → (placeT x l).Pairwise (fun a b => ltT b a = false)
  | [], _ => List.pairwise_singleton _ _
  | y :: r, h => by
    obtain ⟨h1, h2⟩ := List.pairwise_cons.1 h
    unfold placeT
    by_cases c : ltT x y = true
    · rw [if_pos c]
      refine List.Pairwise.cons (fun z hz => ?_) h
      rcases List.mem_cons.1 hz with rfl | hz
      · exact ltT_asym c
      · exact leT_trans (ltT_asym c) (h1 z hz)
    · rw [if_neg c]
      refine List.Pairwise.cons (fun z hz => ?_) (placeT_pair x r h2)
      rcases List.mem_cons.1 ((placeT_perm x r).mem_iff.1 hz) with rfl | hz
      · simpa using c
      · exact h1 z hz
theorem pair_chainLt : ∀ l : List Int, l.Pairwise (fun a b => a < b) → chainLt l = true
  | [], _ => rfl
  | [_], _ => rfl
  | a :: b :: r, h => by
    obtain ⟨h1, h2⟩ := List.pairwise_cons.1 h
    simp only [chainLt, Bool.and_eq_true, decide_eq_true_eq]
    exact ⟨h1 b (by simp), pair_chainLt (b :: r) h2⟩
theorem placeI_pair (x : Int) : ∀ l : List Int, l.Pairwise (fun a b => a < b) → x ∉ l → (placeI x l).Pairwise (fun a b => a < b)
  | [], _, _ => List.pairwise_singleton _ _
  | y :: r, h, hx => by
    obtain ⟨h1, h2⟩ := List.pairwise_cons.1 h
    have hne : y ≠ x := fun z => hx (by simp [z])
    by_cases c : y < x
    · have e : placeI x (y :: r) = y :: placeI x r := by simp [placeI, c]
      rw [e]
      refine List.Pairwise.cons (fun z hz => ?_) (placeI_pair x r h2 (fun z => hx (by simp [z])))
      rcases List.mem_cons.1 ((placeI_perm x r).mem_iff.1 hz) with rfl | hz
      · exact c
      · exact h1 z hz
    · have e : placeI x (y :: r) = x :: y :: r := by simp [placeI, c]
      rw [e]
      refine List.Pairwise.cons (fun z hz => ?_) h
      rcases List.mem_cons.1 hz with rfl | hz
      · omega
      · have := h1 z hz; omega
theorem letA_iff {l : List ByteArray} : letA l = true ↔ ∀ s ∈ l, (s.size : Int) ≤ 24 := by
  unfold letA
  rw [List.all_eq_true]
  exact ⟨fun h s hs => by simpa using h s hs, fun h s hs => by simpa using h s hs⟩
/-- Putting a letter into a good mix leaves a good one. -/
theorem putM_good {m : MixR} (g : goodM m.1 m.2.1 m.2.2.1 m.2.2.2.1 m.2.2.2.2 = true) {x : ByteArray} (hx : (x.size : Int) ≤ 24) : goodM (putM m x).1.1 (putM m x).1.2.1 (putM m x).1.2.2.1 (putM m x).1.2.2.2.1 (putM m x).1.2.2.2.2 = true := by
  obtain ⟨p, a, b, c, l⟩ := m
  unfold putM
  dsimp only at g ⊢
  by_cases c1 : tagOf x ∈ l
  · rw [if_pos c1]; exact g
  · rw [if_neg c1]
    by_cases c2 : p.length = 12 ∨ l.length = 100
    · rw [if_pos c2]; exact g
    · rw [if_neg c2]
      obtain ⟨_, _, t0, t1⟩ := tagOf_all x (by omega)
      unfold goodM letB seenB risB rngB at g ⊢
      simp only [Bool.and_eq_true, decide_eq_true_eq, List.all_eq_true, Bool.or_eq_true] at g ⊢
      obtain ⟨h1, h2, ⟨h3, h4⟩, ⟨h5, h6, h7, h8⟩, ⟨h9, h10⟩, h11⟩ := g
      obtain ⟨k1, k2, k3⟩ := (tagsB_iff l p []).1 h2
      refine ⟨pair_chainLe _ (placeT_pair x p (chainLe_pair p h1)), (tagsB_iff _ _ []).2 ⟨?_, ?_, by simp⟩, ⟨?_, ?_⟩, ⟨h5, h6, h7, ?_⟩, ⟨?_, ?_⟩, ?_⟩
      · intro s hs
        rw [(placeI_perm _ _).mem_iff]
        rcases List.mem_cons.1 ((placeT_perm x p).mem_iff.1 hs) with rfl | hs
        · simp
        · exact List.mem_cons_of_mem _ (k1 s hs)
      · have hp := (placeT_perm x p).map tagOf
        rw [hp.nodup_iff, List.map_cons, List.nodup_cons]
        refine ⟨fun hm => ?_, k2⟩
        obtain ⟨z, hz, he⟩ := List.mem_map.1 hm
        exact c1 (he ▸ k1 z hz)
      · rw [letA_iff] at h3 ⊢
        intro s hs
        rcases List.mem_cons.1 ((placeT_perm x p).mem_iff.1 hs) with rfl | hs
        · exact hx
        · exact h3 s hs
      · rw [placeT_len]; omega
      · left; rw [placeT_len]; omega
      · intro z hz
        rcases List.mem_cons.1 ((placeI_perm _ _).mem_iff.1 hz) with rfl | hz
        · rw [inR_iff]; omega
        · exact h9 z hz
      · exact pair_chainLt _ (placeI_pair _ l (chainLt_pair l h10) c1)
      · rw [placeI_len]; omega
noncomputable def tickM (m : MixR) : MixR × List ByteArray :=
  if m.1.length = 0 then (m, []) else if ((m.1.length : Int) < m.2.1 ∧ mn 10 (m.2.2.2.1 + 1) < m.2.2.1) then ((m.1, m.2.1, m.2.2.1, mn 10 (m.2.2.2.1 + 1), m.2.2.2.2), []) else (([], m.2.1, m.2.2.1, 0, m.2.2.2.2), m.1)
theorem goodM_rng {m : MixR} (g : goodM m.1 m.2.1 m.2.2.1 m.2.2.2.1 m.2.2.2.2 = true) : (1 ≤ m.2.1 ∧ m.2.1 ≤ 12) ∧ (1 ≤ m.2.2.1 ∧ m.2.2.1 ≤ 10) ∧ (0 ≤ m.2.2.2.1 ∧ m.2.2.2.1 ≤ 10) ∧ (m.1.length = 0 → m.2.2.2.1 = 0) := by
  unfold goodM rngB at g
  simp only [Bool.and_eq_true, decide_eq_true_eq, Bool.or_eq_true] at g
  obtain ⟨h1, h2, h3, ⟨h5, h6, h7, h8⟩, h9⟩ := g
  exact ⟨inR_iff.1 h5, inR_iff.1 h6, inR_iff.1 h7, fun h => by omega⟩
theorem tickM_good {m : MixR} (g : goodM m.1 m.2.1 m.2.2.1 m.2.2.2.1 m.2.2.2.2 = true) : goodM (tickM m).1.1 (tickM m).1.2.1 (tickM m).1.2.2.1 (tickM m).1.2.2.2.1 (tickM m).1.2.2.2.2 = true ∧ (tickM m).2.length ≤ 12 := by
  obtain ⟨r1, r2, r3, r4⟩ := goodM_rng g
  obtain ⟨_, q2, _, _⟩ := goodM_parts g
  obtain ⟨p, a, b, c, l⟩ := m
  unfold tickM
  dsimp only at *
  by_cases c1 : p.length = 0
  · rw [if_pos c1]; exact ⟨g, by simp⟩
  · rw [if_neg c1]
    unfold goodM rngB at g
    simp only [Bool.and_eq_true, decide_eq_true_eq, Bool.or_eq_true] at g
    obtain ⟨h1, h2, h3, ⟨h5, h6, h7, h8⟩, h9⟩ := g
    by_cases c2 : ((p.length : Int) < a ∧ mn 10 (c + 1) < b)
    · rw [if_pos c2]
      unfold goodM rngB
      simp only [Bool.and_eq_true, decide_eq_true_eq, Bool.or_eq_true]
      refine ⟨⟨h1, h2, h3, ⟨h5, h6, ?_, Or.inl (by omega)⟩, h9⟩, by simp⟩
      rw [inR_iff]
      unfold mn
      split <;> omega
    · rw [if_neg c2]
      unfold goodM rngB
      simp only [Bool.and_eq_true, decide_eq_true_eq, Bool.or_eq_true]
      refine ⟨⟨rfl, rfl, rfl, ⟨h5, h6, by rw [inR_iff]; omega, ?_⟩, h9⟩, q2⟩
      right
      first | rfl | trivial
theorem specTick_eq (m : MixR) (r3 : 0 ≤ m.2.2.2.1 ∧ m.2.2.2.1 ≤ 10) : spec_l8Tick.f m.1 m.2.1 m.2.2.1 m.2.2.2.1 m.2.2.2.2 = some ((tickM m).1.1, (tickM m).1.2.1, (tickM m).1.2.2.1, (tickM m).1.2.2.2.1, (tickM m).1.2.2.2.2, (tickM m).2) := by
  obtain ⟨p, a, b, c, l⟩ := m
  unfold spec_l8Tick.f tickM
  dsimp only at *
  by_cases c1 : p.length = 0
  · rw [if_pos (by omega), if_pos c1]
  · rw [if_neg (by omega), if_neg c1]
    have e : spec_l1Least.f 10 (wrap64 (c + 1)) = some (mn 10 (c + 1)) := by
      rw [w64 (by omega) (by omega)]
      unfold spec_l1Least.f mn
      split <;> split <;> first | rfl | (congr 1; omega)
    rw [e, Option.bind_some]
    by_cases c2 : (p.length : Int) < a
    · rw [if_pos c2]
      by_cases c3 : mn 10 (c + 1) < b
      · rw [if_pos c3, if_pos ⟨c2, c3⟩]
      · rw [if_neg c3, if_neg (fun z => c3 z.2)]
    · rw [if_neg c2, if_neg (fun z => c2 z.1)]
theorem implTick_e (m : MixR) (g : goodM m.1 m.2.1 m.2.2.1 m.2.2.2.1 m.2.2.2.2 = true) : Ev (fun k => impl_TickMix.f k m.1 m.2.1 m.2.2.1 m.2.2.2.1 m.2.2.2.2) ((tickM m).1.1, (tickM m).1.2.1, (tickM m).1.2.2.1, (tickM m).1.2.2.2.1, (tickM m).1.2.2.2.2, (tickM m).2, true) := by
  obtain ⟨r1, r2, r3, r4⟩ := goodM_rng g
  obtain ⟨q1, q2, q3, q4⟩ := goodM_parts g
  unfold impl_TickMix.f
  have hz : ∀ y ∈ m.1, y.size ≤ 9223372036854775807 := by
    unfold goodM letB at g
    simp only [Bool.and_eq_true] at g
    intro y hy
    have := letA_iff.1 g.2.2.1.1 y hy
    omega
  refine ebind (implGM_e m.1 m.2.1 m.2.2.1 m.2.2.2.1 m.2.2.2.2 (by omega) (by omega) hz) ?_
  refine epos g ?_
  have o1 : slices_Clone_string_string.f m.1 = some m.1 := by unfold slices_Clone_string_string.f; simp; omega
  have o2 : slices_Clone_int_int.f m.2.2.2.2 = some m.2.2.2.2 := by unfold slices_Clone_int_int.f; simp; omega
  refine enb (a := m) (by unfold impl_Mix_own.f; rw [o1, Option.bind_some, o2]; rfl) ?_
  obtain ⟨p, a, b, c, l⟩ := m
  unfold tickM
  dsimp only at *
  rw [w64 (x := c + 1) (by omega) (by omega)]
  clear hz o1 o2 q1 q3 q4 g
  by_cases c1 : p.length = 0
  · have hc := r4 c1
    rw [if_pos c1]
    refine eneg (by omega) (epos (by omega) (epos (by omega) (enow ?_)))
    rfl
  · rw [if_neg c1]
    refine epos (by omega) ?_
    by_cases c2 : (p.length : Int) < a
    · refine epos c2 ?_
      by_cases c3 : mn 10 (c + 1) < b
      · have h3 : (p.length : Int) < a ∧ mn 10 (c + 1) < b := ⟨c2, c3⟩
        exact epos c3 (enow (by rw [if_pos h3]))
      · have h3 : ¬ ((p.length : Int) < a ∧ mn 10 (c + 1) < b) := fun z => c3 z.2
        exact eneg c3 (enow (by rw [if_neg h3]))
    · have h3 : ¬ ((p.length : Int) < a ∧ mn 10 (c + 1) < b) := fun z => c2 z.1
      exact eneg c2 (enow (by rw [if_neg h3]))
abbrev GM (m : MixR) : Prop := goodM m.1 m.2.1 m.2.2.1 m.2.2.2.1 m.2.2.2.2 = true
noncomputable def putAll : MixR → List ByteArray → MixR
  | m, [] => m
  | m, x :: r => putAll (putM m x).1 r
theorem putAll_good : ∀ (l : List ByteArray) (m : MixR), GM m → (∀ s ∈ l, (s.size : Int) ≤ 24) → GM (putAll m l)
  | [], _, g, _ => g
  | x :: r, m, g, h => putAll_good r (putM m x).1 (putM_good g (h x (by simp))) (fun s hs => h s (by simp [hs]))
theorem pm_l1 (out rounds : List (List ByteArray)) (i : Nat) (texts : List ByteArray) (ht : texts.length ≤ 12) (hs : ∀ s ∈ texts, (s.size : Int) ≤ 24) (ho : out.length ≤ 1000) {R : List (List ByteArray) × Bool}
    (HI : ∀ m, GM m → m = putAll m [] → True) (m0 : MixR) :
    ∀ (d j : Nat) (m : MixR), j + d = texts.length → GM m → putAll m (texts.drop j) = m0 →
      (Ev (fun k => impl_PlayMix.l0 k (out ++ [(tickM m0).2]) rounds (rounds.length : Int) (wrap64 ((i : Int) + 1)) (tickM m0).1.1 (tickM m0).1.2.1 (tickM m0).1.2.2.1 (tickM m0).1.2.2.2.1 (tickM m0).1.2.2.2.2) R → Ev (fun k => impl_PlayMix.l1 k out rounds (rounds.length : Int) (i : Int) texts (texts.length : Int) (j : Int) m.1 m.2.1 m.2.2.1 m.2.2.2.1 m.2.2.2.2) R) ∧
      (Ev (fun k => spec_PlayMix.l0 k (out ++ [(tickM m0).2]) rounds (rounds.length : Int) (wrap64 ((i : Int) + 1)) (tickM m0).1.1 (tickM m0).1.2.1 (tickM m0).1.2.2.1 (tickM m0).1.2.2.2.1 (tickM m0).1.2.2.2.2) R → Ev (fun k => spec_PlayMix.l1 k out rounds (rounds.length : Int) (i : Int) texts (texts.length : Int) (j : Int) m.1 m.2.1 m.2.2.1 m.2.2.2.1 m.2.2.2.2) R) := by
  intro d
  induction d with
  | zero =>
    intro j m hj g hm
    rw [List.drop_eq_nil_of_le (by omega)] at hm
    have hm' : m = m0 := hm
    subst hm'
    have hr := (goodM_rng g).2.2.1
    have h12 := (tickM_good g).2
    refine ⟨fun h => ?_, fun h => ?_⟩
    · refine eround (fun k => by rw [impl_PlayMix.l1]) ?_
      refine eneg (by omega) ?_
      refine ebind (implTick_e m g) ?_
      exact epos (by omega) h
    · refine eround (fun k => by rw [spec_PlayMix.l1]) ?_
      refine eneg (by omega) ?_
      refine enb (specTick_eq m hr) (enb rfl ?_)
      refine epos (by simp; omega) (epos (by omega) ?_)
      simpa using h
  | succ d ih =>
    intro j m hj g hm
    have hlt : j < texts.length := by omega
    have hx := hs _ (List.getElem_mem hlt)
    rw [List.drop_eq_getElem_cons hlt] at hm
    obtain ⟨i1, i2⟩ := ih (j + 1) (putM m texts[j]).1 (by omega) (putM_good g hx) hm
    obtain ⟨q1, q2, q3, q4⟩ := goodM_parts g
    have hz : ∀ y ∈ m.1, y.size ≤ 9223372036854775807 := by
      have g2 := g
      unfold GM goodM letB at g2
      simp only [Bool.and_eq_true] at g2
      intro y hy
      have := letA_iff.1 g2.2.2.1.1 y hy
      omega
    have nx : wrap64 ((j : Int) + 1) = ((j + 1 : Nat) : Int) := by rw [w64 (by omega) (by omega)]; omega
    have er : rdOf ByteArray.empty texts (j : Int) = texts[j] := getD_get texts j _ hlt
    have e1 := implPM_e m texts[j] (by omega) (by omega) hz (by omega)
    have e2 := specPut_e m texts[j] (by omega) (by omega) (by omega)
    have ep : putR m texts[j] = ((putM m texts[j]).1.1, (putM m texts[j]).1.2.1, (putM m texts[j]).1.2.2.1, (putM m texts[j]).1.2.2.2.1, (putM m texts[j]).1.2.2.2.2, (putM m texts[j]).2, true) := by
      unfold putR
      rw [if_pos g, if_pos hx]
    rw [ep] at e1
    refine ⟨fun h => ?_, fun h => ?_⟩
    · refine eround (fun k => by rw [impl_PlayMix.l1]) ?_
      refine epos (by omega) (epos (by omega) (epos (by omega) ?_))
      rw [er, nx]
      exact ebind e1 (i1 h)
    · refine eround (fun k => by rw [spec_PlayMix.l1]) ?_
      refine epos (by omega) (epos (by omega) (epos (by omega) ?_))
      rw [er, nx]
      exact ebind e2 (i2 h)
/-- What goes out, round by round. -/
noncomputable def pmF : MixR → List (List ByteArray) → List (List ByteArray) × Bool
  | _, [] => ([], true)
  | m, l :: r => if letB l = true then (if (pmF (tickM (putAll m l)).1 r).2 = true then ((tickM (putAll m l)).2 :: (pmF (tickM (putAll m l)).1 r).1, true) else ([], false)) else ([], false)
noncomputable def pmO (out : List (List ByteArray)) (q : List (List ByteArray) × Bool) : List (List ByteArray) × Bool := if q.2 = true then (out ++ q.1, true) else ([], false)
theorem pmF_len : ∀ (r : List (List ByteArray)) (m : MixR), (pmF m r).1.length ≤ r.length
  | [], _ => by simp [pmF]
  | l :: r, m => by
    have := pmF_len r (tickM (putAll m l)).1
    unfold pmF
    split
    · split
      · simp only [List.length_cons]; omega
      · simp
    · simp
theorem pmF_small : ∀ (r : List (List ByteArray)) (m : MixR), GM m → ∀ y ∈ (pmF m r).1, y.length ≤ 12
  | [], _, _ => by simp [pmF]
  | l :: r, m, g => by
    unfold pmF
    split
    · next c =>
      unfold letB at c
      simp only [Bool.and_eq_true, decide_eq_true_eq] at c
      obtain ⟨g3, g4⟩ := tickM_good (putAll_good l m g (letA_iff.1 c.1))
      have ih := pmF_small r _ g3
      split
      · intro y hy
        rcases List.mem_cons.1 hy with rfl | hy
        · exact g4
        · exact ih y hy
      · simp
    · simp
theorem pmf_l0 (rounds : List (List ByteArray)) (hn : rounds.length ≤ 20) (hl : ∀ y ∈ rounds, y.length ≤ 1048576) : ∀ (d i : Nat) (out : List (List ByteArray)) (m : MixR), i + d = rounds.length → out.length ≤ i → GM m →
    Ev (fun k => impl_PlayMix.l0 k out rounds (rounds.length : Int) (i : Int) m.1 m.2.1 m.2.2.1 m.2.2.2.1 m.2.2.2.2) (pmO out (pmF m (rounds.drop i))) ∧ Ev (fun k => spec_PlayMix.l0 k out rounds (rounds.length : Int) (i : Int) m.1 m.2.1 m.2.2.1 m.2.2.2.1 m.2.2.2.2) (pmO out (pmF m (rounds.drop i))) := by
  intro d
  induction d with
  | zero =>
    intro i out m hi ho g
    rw [List.drop_eq_nil_of_le (by omega)]
    have e : pmO out (pmF m []) = (out, true) := by unfold pmO pmF; simp
    rw [e]
    refine ⟨?_, ?_⟩
    · refine eround (fun k => by rw [impl_PlayMix.l0]) ?_
      exact eneg (by omega) (enow rfl)
    · refine eround (fun k => by rw [spec_PlayMix.l0]) ?_
      exact eneg (by omega) (enow rfl)
  | succ d ih =>
    intro i out m hi ho g
    have hlt : i < rounds.length := by omega
    have hR := hl _ (List.getElem_mem hlt)
    have er : rd_L2 rounds (i : Int) = rounds[i] := getD_get rounds i _ hlt
    rw [List.drop_eq_getElem_cons hlt]
    cases c : letB rounds[i] with
    | false =>
      have e : pmO out (pmF m (rounds[i] :: rounds.drop (i + 1))) = ([], false) := by unfold pmO pmF; rw [c]; simp
      rw [e]
      refine ⟨?_, ?_⟩
      · refine eround (fun k => by rw [impl_PlayMix.l0]) ?_
        refine epos (by omega) (epos (by omega) (epos (by omega) ?_))
        rw [er]
        refine ebind (implLet_e rounds[i] (by omega)) ?_
        rw [c]
        exact eneg Bool.false_ne_true (enow rfl)
      · refine eround (fun k => by rw [spec_PlayMix.l0]) ?_
        refine epos (by omega) (epos (by omega) (epos (by omega) ?_))
        rw [er]
        refine ebind (specPool_e rounds[i] (by omega)) ?_
        rw [c]
        exact eneg Bool.false_ne_true (enow rfl)
    | true =>
      have c' := c
      unfold letB at c'
      simp only [Bool.and_eq_true, decide_eq_true_eq] at c'
      have hs := letA_iff.1 c'.1
      have g2 := putAll_good rounds[i] m g hs
      obtain ⟨g3, g4⟩ := tickM_good g2
      obtain ⟨R2, R3⟩ := ih (i + 1) (out ++ [(tickM (putAll m rounds[i])).2]) (tickM (putAll m rounds[i])).1 (by omega) (by simp; omega) g3
      have e : pmO out (pmF m (rounds[i] :: rounds.drop (i + 1))) = pmO (out ++ [(tickM (putAll m rounds[i])).2]) (pmF (tickM (putAll m rounds[i])).1 (rounds.drop (i + 1))) := by
        rw [pmF, if_pos c]
        unfold pmO
        cases hq : (pmF (tickM (putAll m rounds[i])).1 (rounds.drop (i + 1))).2 <;> simp
      rw [e]
      have nx : wrap64 ((i : Int) + 1) = ((i + 1 : Nat) : Int) := by rw [w64 (by omega) (by omega)]; omega
      rw [← nx] at R2 R3
      obtain ⟨k1, _⟩ := pm_l1 out rounds i rounds[i] (by omega) hs (by omega) (R := pmO (out ++ [(tickM (putAll m rounds[i])).2]) (pmF (tickM (putAll m rounds[i])).1 (rounds.drop (i + 1)))) (fun _ _ _ => trivial) (putAll m rounds[i]) rounds[i].length 0 m (by omega) g rfl
      obtain ⟨_, k2⟩ := pm_l1 out rounds i rounds[i] (by omega) hs (by omega) (R := pmO (out ++ [(tickM (putAll m rounds[i])).2]) (pmF (tickM (putAll m rounds[i])).1 (rounds.drop (i + 1)))) (fun _ _ _ => trivial) (putAll m rounds[i]) rounds[i].length 0 m (by omega) g rfl
      refine ⟨?_, ?_⟩
      · refine eround (fun k => by rw [impl_PlayMix.l0]) ?_
        refine epos (by omega) (epos (by omega) (epos (by omega) ?_))
        rw [er]
        refine ebind (implLet_e rounds[i] (by omega)) ?_
        exact epos c (k1 R2)
      · refine eround (fun k => by rw [spec_PlayMix.l0]) ?_
        refine epos (by omega) (epos (by omega) (epos (by omega) ?_))
        rw [er]
        refine ebind (specPool_e rounds[i] (by omega)) ?_
        exact epos c (k2 R3)
theorem GM_new {a b : Int} (h : inR 1 12 a = true ∧ inR 1 10 b = true) : GM (([], a, b, 0, []) : MixR) := by
  unfold GM goodM letB seenB rngB
  simp only [Bool.and_eq_true]
  exact ⟨rfl, rfl, ⟨rfl, rfl⟩, ⟨h.1, h.2, rfl, rfl⟩, ⟨rfl, rfl⟩⟩
noncomputable def pmR (a b : Int) (rounds : List (List ByteArray)) : List (List ByteArray) × Bool := if (inR 1 12 a = true ∧ inR 1 10 b = true) ∧ rounds.length ≤ 20 then pmO [] (pmF ([], a, b, 0, []) rounds) else ([], false)
theorem pmR_in (a b : Int) (rounds : List (List ByteArray)) : (pmR a b rounds).1.length ≤ 20 ∧ ∀ y ∈ (pmR a b rounds).1, y.length ≤ 12 := by
  unfold pmR
  split
  · next h =>
    have h1 := pmF_len rounds ([], a, b, 0, [])
    have h2 := pmF_small rounds _ (GM_new h.1)
    unfold pmO
    split
    · exact ⟨by simp only [List.nil_append]; omega, h2⟩
    · simp
  · simp
theorem playMixF_e (a b : Int) (rounds : List (List ByteArray)) (hl : ∀ y ∈ rounds, y.length ≤ 1048576) : Ev (fun k => impl_PlayMix.f k a b rounds) (pmR a b rounds) ∧ Ev (fun k => spec_PlayMix.f k a b rounds) (pmR a b rounds) := by
  have hb : ∀ (p : List ByteArray) (x y z : Int) (s : List Int), Ev (fun k => impl_PlayMix.j0 k rounds true p x y z s) (([], false) : List (List ByteArray) × Bool) := fun p x y z s => eround (fun k => by rw [impl_PlayMix.j0]) (epos rfl (enow rfl))
  have hb2 : ∀ (p : List ByteArray) (x y z : Int) (s : List Int), Ev (fun k => spec_PlayMix.j0 k rounds true p x y z s) (([], false) : List (List ByteArray) × Bool) := fun p x y z s => eround (fun k => by rw [spec_PlayMix.j0]) (epos rfl (enow rfl))
  by_cases h : inR 1 12 a = true ∧ inR 1 10 b = true
  · have n1 : impl_NewMix.f a b = some ([], a, b, 0, [], true) := by
      unfold impl_NewMix.f
      rw [within_eq, h.1, Option.bind_some, if_pos rfl, within_eq, h.2]
      rfl
    have n2 : spec_NewMix.f a b = some ([], a, b, 0, [], true) := by
      unfold spec_NewMix.f
      rw [l1In_eq, h.1, Option.bind_some, if_pos rfl, l1In_eq, h.2]
      rfl
    by_cases hc : (rounds.length : Int) > 20
    · have e : pmR a b rounds = ([], false) := by unfold pmR; rw [if_neg (by omega)]
      rw [e]
      refine ⟨?_, ?_⟩
      · unfold impl_PlayMix.f
        refine enb n1 (epos rfl ?_)
        rw [decide_eq_true hc]
        exact hb _ _ _ _ _
      · unfold spec_PlayMix.f
        refine enb n2 (epos rfl ?_)
        rw [decide_eq_true hc]
        exact hb2 _ _ _ _ _
    · have e : pmR a b rounds = pmO [] (pmF ([], a, b, 0, []) rounds) := by unfold pmR; rw [if_pos ⟨h, by omega⟩]
      rw [e]
      obtain ⟨R2, R3⟩ := pmf_l0 rounds (by omega) hl rounds.length 0 [] ([], a, b, 0, []) (by omega) (by simp) (GM_new h)
      rw [List.drop_zero] at R2 R3
      refine ⟨?_, ?_⟩
      · unfold impl_PlayMix.f
        refine enb n1 (epos rfl ?_)
        rw [decide_eq_false hc]
        refine eround (fun k => by rw [impl_PlayMix.j0]) ?_
        exact eneg Bool.false_ne_true R2
      · unfold spec_PlayMix.f
        refine enb n2 (epos rfl ?_)
        rw [decide_eq_false hc]
        refine eround (fun k => by rw [spec_PlayMix.j0]) ?_
        exact eneg Bool.false_ne_true R3
  · have n1 : impl_NewMix.f a b = some ([], 0, 0, 0, [], false) := by
      unfold impl_NewMix.f
      rw [within_eq, Option.bind_some]
      cases e : inR 1 12 a with
      | false => rfl
      | true =>
        rw [if_pos rfl, within_eq]
        cases e2 : inR 1 10 b with
        | false => rfl
        | true => exact absurd ⟨e, e2⟩ h
    have n2 : spec_NewMix.f a b = some ([], 0, 0, 0, [], false) := by
      unfold spec_NewMix.f
      rw [l1In_eq, Option.bind_some]
      cases e : inR 1 12 a with
      | false => rfl
      | true =>
        rw [if_pos rfl, l1In_eq]
        cases e2 : inR 1 10 b with
        | false => rfl
        | true => exact absurd ⟨e, e2⟩ h
    have e : pmR a b rounds = ([], false) := by unfold pmR; rw [if_neg (fun z => h z.1)]
    rw [e]
    refine ⟨?_, ?_⟩
    · unfold impl_PlayMix.f
      exact enb n1 (eneg Bool.false_ne_true (hb _ _ _ _ _))
    · unfold spec_PlayMix.f
      exact enb n2 (eneg Bool.false_ne_true (hb2 _ _ _ _ _))
/-- Two strictly ordered lists with the same members are one. -/
theorem one_of {α : Type} (R : α → α → Prop) (irr : ∀ x, ¬ R x x) (tr : ∀ x y z, R x y → R y z → R x z) : ∀ (a b : List α), a.Pairwise R → b.Pairwise R → (∀ x, x ∈ a ↔ x ∈ b) → a = b
  | [], [], _, _, _ => rfl
  | [], y :: b, _, _, h => by have := (h y).2 List.mem_cons_self; cases this
  | x :: a, [], _, _, h => by have := (h x).1 List.mem_cons_self; cases this
  | x :: a, y :: b, ha, hb, h => by
    obtain ⟨ha1, ha2⟩ := List.pairwise_cons.1 ha
    obtain ⟨hb1, hb2⟩ := List.pairwise_cons.1 hb
    have e : x = y := by
      rcases List.mem_cons.1 ((h x).1 List.mem_cons_self) with e | hx
      · exact e
      · rcases List.mem_cons.1 ((h y).2 List.mem_cons_self) with e | hy
        · exact e.symm
        · exact absurd (tr _ _ _ (ha1 y hy) (hb1 x hx)) (irr x)
    subst e
    congr 1
    refine one_of R irr tr a b ha2 hb2 fun z => ⟨fun hz => ?_, fun hz => ?_⟩
    · rcases List.mem_cons.1 ((h z).1 (List.mem_cons_of_mem _ hz)) with e | h2
      · exact absurd (e ▸ ha1 z hz) (irr x)
      · exact h2
    · rcases List.mem_cons.1 ((h z).2 (List.mem_cons_of_mem _ hz)) with e | h2
      · exact absurd (e ▸ hb1 z hz) (irr x)
      · exact h2
theorem GM_order {m : MixR} (g : GM m) : m.1.Pairwise (fun a b => ltT a b = true) ∧ m.2.2.2.2.Pairwise (fun a b => a < b) := by
  obtain ⟨q1, q2, q3, q4⟩ := goodM_parts g
  have g2 := g
  unfold GM goodM at g2
  simp only [Bool.and_eq_true] at g2
  obtain ⟨_, t2, _⟩ := (tagsB_iff _ _ _).1 g2.2.1
  refine ⟨?_, chainLt_pair _ q3⟩
  have h1 := chainLe_pair _ q1
  have h2 : m.1.Pairwise (fun a b => tagOf a ≠ tagOf b) := List.pairwise_map.1 t2
  refine (h1.and h2).imp fun {a b} h => ?_
  cases h3 : ltT a b with
  | true => rfl
  | false => exact absurd (congrArg tagOf (ltT_tri h3 h.1)) h.2
def apartT (l : List ByteArray) : Prop := ∀ x ∈ l, ∀ y ∈ l, tagOf x = tagOf y → x = y
theorem pa_in : ∀ (l : List ByteArray) (m : MixR), apartT l → m.1.length + l.length ≤ 12 → m.2.2.2.2.length + l.length ≤ 100 →
    (∀ z, z ∈ (putAll m l).1 ↔ z ∈ m.1 ∨ (z ∈ l ∧ tagOf z ∉ m.2.2.2.2)) ∧ (∀ t, t ∈ (putAll m l).2.2.2.2 ↔ t ∈ m.2.2.2.2 ∨ ∃ z ∈ l, tagOf z = t) ∧
    ((putAll m l).2.1 = m.2.1 ∧ (putAll m l).2.2.1 = m.2.2.1 ∧ (putAll m l).2.2.2.1 = m.2.2.2.1) ∧ (putAll m l).1.length ≤ m.1.length + l.length ∧ (putAll m l).2.2.2.2.length ≤ m.2.2.2.2.length + l.length
  | [], m, _, _, _ => by simp [putAll]
  | x :: r, m, ha, h1, h2 => by
    simp only [List.length_cons] at h1 h2
    have hr : apartT r := fun a h b k => ha a (List.mem_cons_of_mem _ h) b (List.mem_cons_of_mem _ k)
    by_cases c : tagOf x ∈ m.2.2.2.2
    · have e : (putM m x).1 = m := by unfold putM; rw [if_pos c]
      obtain ⟨i1, i2, i3, i4, i5⟩ := pa_in r m hr (by omega) (by omega)
      rw [putAll, e]
      refine ⟨fun z => ?_, fun t => ?_, i3, by simp only [List.length_cons]; omega, by simp only [List.length_cons]; omega⟩
      · rw [i1]
        constructor
        · rintro (h | ⟨h, k⟩)
          · exact .inl h
          · exact .inr ⟨List.mem_cons_of_mem _ h, k⟩
        · rintro (h | ⟨h, k⟩)
          · exact .inl h
          · rcases List.mem_cons.1 h with rfl | h
            · exact absurd c k
            · exact .inr ⟨h, k⟩
      · rw [i2]
        constructor
        · rintro (h | ⟨z, h, k⟩)
          · exact .inl h
          · exact .inr ⟨z, List.mem_cons_of_mem _ h, k⟩
        · rintro (h | ⟨z, h, k⟩)
          · exact .inl h
          · rcases List.mem_cons.1 h with rfl | h
            · exact .inl (k ▸ c)
            · exact .inr ⟨z, h, k⟩
    · have e : (putM m x).1 = (placeT x m.1, m.2.1, m.2.2.1, m.2.2.2.1, placeI (tagOf x) m.2.2.2.2) := by
        unfold putM
        rw [if_neg c, if_neg (by omega)]
      have l1 := placeT_len x m.1
      have l2 := placeI_len (tagOf x) m.2.2.2.2
      obtain ⟨i1, i2, i3, i4, i5⟩ := pa_in r (placeT x m.1, m.2.1, m.2.2.1, m.2.2.2.1, placeI (tagOf x) m.2.2.2.2) hr (by dsimp only; omega) (by dsimp only; omega)
      rw [putAll, e]
      dsimp only at i1 i2 i3 i4 i5
      have p1 : ∀ z, z ∈ placeT x m.1 ↔ z = x ∨ z ∈ m.1 := fun z => by rw [(placeT_perm x m.1).mem_iff, List.mem_cons]
      have p2 : ∀ t, t ∈ placeI (tagOf x) m.2.2.2.2 ↔ t = tagOf x ∨ t ∈ m.2.2.2.2 := fun t => by rw [(placeI_perm (tagOf x) m.2.2.2.2).mem_iff, List.mem_cons]
      refine ⟨fun z => ?_, fun t => ?_, i3, by simp only [List.length_cons]; omega, by simp only [List.length_cons]; omega⟩
      · rw [i1, p1, p2]
        constructor
        · rintro ((rfl | h) | ⟨h, k⟩)
          · exact .inr ⟨List.mem_cons_self, c⟩
          · exact .inl h
          · exact .inr ⟨List.mem_cons_of_mem _ h, fun z => k (.inr z)⟩
        · rintro (h | ⟨h, k⟩)
          · exact .inl (.inr h)
          · by_cases hx : tagOf z = tagOf x
            · exact .inl (.inl (ha z h x List.mem_cons_self hx))
            · rcases List.mem_cons.1 h with rfl | h
              · exact absurd rfl hx
              · exact .inr ⟨h, fun q => q.elim hx k⟩
      · rw [i2, p2]
        constructor
        · rintro ((rfl | h) | ⟨z, h, k⟩)
          · exact .inr ⟨x, List.mem_cons_self, rfl⟩
          · exact .inl h
          · exact .inr ⟨z, List.mem_cons_of_mem _ h, k⟩
        · rintro (h | ⟨z, h, k⟩)
          · exact .inl (.inr h)
          · rcases List.mem_cons.1 h with rfl | h
            · exact .inl (.inl k.symm)
            · exact .inr ⟨z, h, k⟩
theorem pa_rev (l : List ByteArray) (m : MixR) (g : GM m) (hs : ∀ s ∈ l, (s.size : Int) ≤ 24) (ha : apartT l) (h1 : m.1.length + l.length ≤ 12) (h2 : m.2.2.2.2.length + l.length ≤ 100) : putAll m l.reverse = putAll m l := by
  have har : apartT l.reverse := fun a h b k => ha a (List.mem_reverse.1 h) b (List.mem_reverse.1 k)
  obtain ⟨i1, i2, ⟨i3, i4, i5⟩, _, _⟩ := pa_in l m ha h1 h2
  obtain ⟨j1, j2, ⟨j3, j4, j5⟩, _, _⟩ := pa_in l.reverse m har (by rw [List.length_reverse]; omega) (by rw [List.length_reverse]; omega)
  obtain ⟨o1, o2⟩ := GM_order (putAll_good l m g hs)
  obtain ⟨o3, o4⟩ := GM_order (putAll_good l.reverse m g (fun s h => hs s (List.mem_reverse.1 h)))
  have e1 : (putAll m l.reverse).1 = (putAll m l).1 := by
    refine one_of (fun a b : ByteArray => ltT a b = true) (fun x h => by rw [ltT_irr] at h; cases h) (fun x y z => ltT_trans) _ _ o3 o1 fun z => ?_
    rw [i1, j1, List.mem_reverse]
  have e2 : (putAll m l.reverse).2.2.2.2 = (putAll m l).2.2.2.2 := by
    refine one_of (fun a b : Int => a < b) (fun x => by omega) (fun x y z => by omega) _ _ o4 o2 fun z => ?_
    rw [i2, j2]
    constructor
    · rintro (h | ⟨z, h, k⟩)
      · exact .inl h
      · exact .inr ⟨z, List.mem_reverse.1 h, k⟩
    · rintro (h | ⟨z, h, k⟩)
      · exact .inl h
      · exact .inr ⟨z, List.mem_reverse.2 h, k⟩
  refine Prod.ext e1 (Prod.ext ?_ (Prod.ext ?_ (Prod.ext ?_ e2)))
  · rw [i3, j3]
  · rw [i4, j4]
  · rw [i5, j5]
theorem letB_rev (l : List ByteArray) : letB l.reverse = letB l := by
  unfold letB letA
  rw [List.all_reverse, List.length_reverse]
theorem tick_len (m : MixR) : (tickM m).1.1.length ≤ m.1.length ∧ (tickM m).1.2.2.2.2 = m.2.2.2.2 := by
  unfold tickM
  split
  · exact ⟨Nat.le_refl _, rfl⟩
  · split
    · exact ⟨Nat.le_refl _, rfl⟩
    · exact ⟨Nat.zero_le _, rfl⟩
theorem pmF_rev : ∀ (r : List (List ByteArray)) (m : MixR), GM m → apartT r.flatten → m.1.length + r.flatten.length ≤ 12 → m.2.2.2.2.length + r.flatten.length ≤ 100 → pmF m (r.map List.reverse) = pmF m r
  | [], m, _, _, _, _ => rfl
  | l :: r, m, g, ha, h1, h2 => by
    rw [List.flatten_cons, List.length_append] at h1 h2
    have hal : apartT l := fun a h b k => ha a (by simp [h]) b (by simp [k])
    have har : apartT r.flatten := fun a h b k => ha a (by rw [List.flatten_cons]; exact List.mem_append_right _ h) b (by rw [List.flatten_cons]; exact List.mem_append_right _ k)
    rw [List.map_cons, pmF, pmF, letB_rev]
    cases c : letB l with
    | false => rfl
    | true =>
      have c' := c
      unfold letB at c'
      simp only [Bool.and_eq_true, decide_eq_true_eq] at c'
      have hs := letA_iff.1 c'.1
      rw [pa_rev l m g hs hal (by omega) (by omega)]
      obtain ⟨_, _, _, k4, k5⟩ := pa_in l m hal (by omega) (by omega)
      obtain ⟨t1, t2⟩ := tick_len (putAll m l)
      rw [pmF_rev r (tickM (putAll m l)).1 (tickM_good (putAll_good l m g hs)).1 har (by omega) (by rw [t2]; omega)]
theorem pmR_rev (a b : Int) (rounds : List (List ByteArray)) (ha : apartT rounds.flatten) (h : rounds.flatten.length ≤ 12) : pmR a b (rounds.map List.reverse) = pmR a b rounds := by
  unfold pmR
  rw [List.length_map]
  by_cases c : (inR 1 12 a = true ∧ inR 1 10 b = true) ∧ rounds.length ≤ 20
  · rw [if_pos c, if_pos c, pmF_rev rounds _ (GM_new c.1) ha (by dsimp only [List.length_nil]; omega) (by dsimp only [List.length_nil]; omega)]
  · rw [if_neg c, if_neg c]
/-! the cursor of what is drawn -/
def bytes (s : List Int) : Prop := ∀ x ∈ s, 0 ≤ x ∧ x ≤ 255
theorem bytes_of {s : List Int} (h : ∀ x ∈ s, (Lit.int .u8 x).wf = true) : bytes s := by
  intro x hx
  have := h x hx
  simp [Lit.wf, IntKind.min, IntKind.max, IntKind.bits, IntKind.signed] at this
  omega
theorem u64_range (y : Int) : 0 ≤ IntKind.u64.wrap y ∧ IntKind.u64.wrap y < 18446744073709551616 := by
  simp only [IntKind.wrap, IntKind.bits, IntKind.signed]
  constructor
  · simp; omega
  · simp; omega
theorem wraps_u64 (n : Int) (h0 : 0 ≤ n) (h1 : n < 2 ^ 62) : IntKind.u64.wrap n = n := by
  have : (2 : Int) ^ 62 = 4611686018427387904 := by decide
  exact u64_wrap_small n h0 (by omega)
theorem and255 (x : Int) (h0 : 0 ≤ x) (h1 : x < 4611686018427387904) : 0 ≤ Go.bits .and .u64 x 255 ∧ Go.bits .and .u64 x 255 ≤ 255 := by
  obtain ⟨a, rfl⟩ := Int.eq_ofNat_of_zero_le h0
  have ha : a < 2 ^ 62 := by have : (2 : Nat) ^ 62 = 4611686018427387904 := by decide
                             omega
  have := (bits_nat .u64 62 (by decide) wraps_u64 a 255 ha (by decide)).1
  rw [show ((255 : Nat) : Int) = 255 from rfl] at this
  rw [this]
  have : a &&& 255 ≤ 255 := Nat.and_le_right
  omega
theorem and_u64 (y : Int) : 0 ≤ wrap64 (Go.bits .and .u64 (IntKind.u64.wrap y / 1099511627776) 255) ∧ wrap64 (Go.bits .and .u64 (IntKind.u64.wrap y / 1099511627776) 255) ≤ 255 := by
  have r := u64_range y
  have := and255 (IntKind.u64.wrap y / 1099511627776) (by omega) (by omega)
  rw [w64 (by omega) (by omega)]
  exact this
theorem bytes_rd {s : List Int} (hb : bytes s) (p : Int) (h0 : 0 ≤ p) (h1 : p < s.length) : 0 ≤ rd s p ∧ rd s p ≤ 255 := by
  obtain ⟨i, rfl⟩ := Int.eq_ofNat_of_zero_le h0
  rw [rd_get s i (by omega)]
  exact hb _ (List.getElem_mem _)
theorem next_e (s : List Int) (hb : bytes s) (p x : Int) (h0 : 0 ≤ p) (h1 : p ≤ 1152921504606846976) : ∃ v x', spec_l1Cur_next.f s p x = some (v, p + 1, x') ∧ 0 ≤ v ∧ v ≤ 255 := by
  unfold spec_l1Cur_next.f
  rw [w64 (x := p + 1) (by omega) (by omega)]
  by_cases h : p < (s.length : Int)
  · have := bytes_rd hb p h0 h
    rw [w64 (x := rd s p) (by omega) (by omega), if_pos h, if_pos h0, if_pos (by omega)]
    exact ⟨_, _, rfl, this⟩
  · rw [if_neg h, if_neg (by omega)]
    exact ⟨_, _, rfl, and_u64 _⟩
theorem tmod_range (v n : Int) (h0 : 0 ≤ v) (h : 1 < n) : 0 ≤ Int.tmod v n ∧ Int.tmod v n < n := by
  rw [Int.tmod_eq_emod_of_nonneg h0]
  exact ⟨Int.emod_nonneg _ (by omega), Int.emod_lt_of_pos _ (by omega)⟩
theorem pick_e (s : List Int) (hb : bytes s) (p x n : Int) (h0 : 0 ≤ p) (h1 : p ≤ 1152921504606846900) : ∃ r p' x', spec_l1Cur_pick.f s p x n = some (r, p', x') ∧ (0 ≤ r ∧ (n ≤ 1 → r = 0) ∧ (1 < n → r < n)) ∧ p ≤ p' ∧ p' ≤ p + 2 := by
  unfold spec_l1Cur_pick.f
  by_cases hn : n ≤ 1
  · exact ⟨0, p, x, by rw [if_pos hn], ⟨by omega, fun _ => rfl, fun h => by omega⟩, by omega, by omega⟩
  · rw [if_neg hn]
    obtain ⟨v, x', e, v0, v1⟩ := next_e s hb p x h0 (by omega)
    rw [e, Option.bind_some]
    by_cases h2 : n > 200
    · obtain ⟨u, x'', e', u0, u1⟩ := next_e s hb (p + 1) x' (by omega) (by omega)
      rw [if_pos h2]
      simp only [e', Option.bind_some]
      rw [if_neg (by omega), w64 (x := v * 256) (by omega) (by omega), w64 (by omega) (by omega)]
      have := tmod_range (v * 256 + u) n (by omega) (by omega)
      exact ⟨_, _, _, rfl, ⟨this.1, fun h => by omega, fun _ => this.2⟩, by omega, by omega⟩
    · rw [if_neg h2, if_neg (by omega)]
      have := tmod_range v n v0 (by omega)
      exact ⟨_, p + 1, x', rfl, ⟨this.1, fun h => by omega, fun _ => this.2⟩, by omega, by omega⟩
theorem one_e (s : List Int) (hb : bytes s) (p x n : Int) (h0 : 0 ≤ p) (h1 : p ≤ 1152921504606846900) : ∃ b p' x', spec_l1Cur_one.f s p x n = some (b, p', x') ∧ p ≤ p' ∧ p' ≤ p + 2 := by
  obtain ⟨r, p', x', e, _, h2, h3⟩ := pick_e s hb p x n h0 h1
  exact ⟨r == 0, p', x', by unfold spec_l1Cur_one.f; simp only [e, Option.bind_some], h2, h3⟩
theorem of_e (s : List Int) (hb : bytes s) (p x : Int) (l : List ByteArray) (hl : 1 ≤ l.length) (h0 : 0 ≤ p) (h1 : p ≤ 1152921504606846900) : ∃ v p' x', spec_l1Cur_of.f s p x l = some (v, p', x') ∧ p ≤ p' ∧ p' ≤ p + 2 := by
  obtain ⟨r, p', x', e, ⟨r0, r1, r2⟩, h2, h3⟩ := pick_e s hb p x (l.length : Int) h0 h1
  have hr : r < (l.length : Int) := by
    by_cases h : 1 < (l.length : Int)
    · exact r2 h
    · have := r1 (by omega); omega
  refine ⟨rdOf ByteArray.empty l r, p', x', ?_, h2, h3⟩
  unfold spec_l1Cur_of.f
  simp only [e, Option.bind_some]
  rw [if_pos r0, if_pos hr]
theorem letter_e (s : List Int) (hb : bytes s) (p x : Int) (h0 : 0 ≤ p) (h1 : p ≤ 1152921504606846900) : ∃ v p' x', spec_l1Cur_letter.f s p x = some (v, p', x') ∧ p ≤ p' ∧ p' ≤ p + 2 := by
  unfold spec_l1Cur_letter.f
  suffices H : ∀ l : List ByteArray, 1 ≤ l.length → ∃ v p' x', ((spec_l1Cur_of.f s p x l).bind fun b => some (b.1, b.2.1, b.2.2)) = some (v, p', x') ∧ p ≤ p' ∧ p' ≤ p + 2 from H _ (by decide)
  intro l hl
  obtain ⟨v, p', x', e, h2, h3⟩ := of_e s hb p x l hl h0 h1
  exact ⟨v, p', x', by rw [e]; rfl, h2, h3⟩
theorem lets_l (s : List Int) (hb : bytes s) : ∀ (d : Nat) (out : List ByteArray) (p x : Int), out.length + d ≤ 1000 → 0 ≤ p → p + 4 * d ≤ 1152921504606800000 → ∃ l p' x', Ev (fun k => spec_l1Cur_letters.l0 k out (d : Int) s p x) (l, p', x') ∧ l.length ≤ out.length + d + 1 ∧ p ≤ p' ∧ p' ≤ p + 4 * d + 8 := by
  intro d
  induction d with
  | zero =>
    intro out p x hl h0 h1
    obtain ⟨b, p1, x1, e, g1, g2⟩ := one_e s hb p x 30 h0 (by omega)
    cases b with
    | false =>
      refine ⟨out, p1, x1, ?_, by omega, by omega, by omega⟩
      refine eround (fun k => by rw [spec_l1Cur_letters.l0]) (eneg (by omega) ?_)
      refine enb e ?_
      refine eneg (by simp) ?_
      exact enow rfl
    | true =>
      obtain ⟨v, p2, x2, e2, g3, g4⟩ := letter_e s hb p1 x1 (by omega) (by omega)
      refine ⟨out ++ [v], p2, x2, ?_, by simp, by omega, by omega⟩
      refine eround (fun k => by rw [spec_l1Cur_letters.l0]) (eneg (by omega) ?_)
      refine enb e ?_
      refine epos rfl ?_
      refine enb e2 ?_
      refine epos (by omega) ?_
      exact enow rfl
  | succ d ih =>
    intro out p x hl h0 h1
    obtain ⟨v, p1, x1, e1, g1, g2⟩ := of_e s hb p x [(⟨#[97]⟩ : ByteArray), (⟨#[98]⟩ : ByteArray), (⟨#[99]⟩ : ByteArray), (⟨#[100, 100]⟩ : ByteArray), (⟨#[101]⟩ : ByteArray), (⟨#[102]⟩ : ByteArray), (⟨#[103, 49]⟩ : ByteArray), (⟨#[104, 50]⟩ : ByteArray), (⟨#[108, 101, 116, 116, 101, 114]⟩ : ByteArray)] (by simp) h0 (by omega)
    obtain ⟨l, p5, x5, E, hl5, g9, g10⟩ := ih (out ++ [v]) p1 x1 (by simp; omega) (by omega) (by push_cast at h1; omega)
    refine ⟨l, p5, x5, ?_, by simp at hl5; omega, by omega, by push_cast; omega⟩
    refine eround (fun k => by rw [spec_l1Cur_letters.l0]) (epos (by omega) ?_)
    refine enb e1 ?_
    refine epos (by omega) ?_
    rw [w64 (by omega) (by omega), show ((d + 1 : Nat) : Int) - 1 = (d : Int) by omega]
    exact E
theorem lets_e (s : List Int) (hb : bytes s) (p x n : Int) (hn : 1 ≤ n ∧ n ≤ 10) (h0 : 0 ≤ p) (h1 : p ≤ 1152921504606000000) : ∃ l p' x', Ev (fun k => spec_l1Cur_letters.f k s p x n) (l, p', x') ∧ (l.length : Int) ≤ n + 1 ∧ p ≤ p' ∧ p' ≤ p + 100 := by
  obtain ⟨r, p1, x1, e1, ⟨r0, _, r2⟩, g1, g2⟩ := pick_e s hb p x (wrap64 (n + 1)) h0 (by omega)
  rw [w64 (by omega) (by omega)] at r2
  have := r2 (by omega)
  obtain ⟨l, p2, x2, E, hl, g3, g4⟩ := lets_l s hb r.toNat [] p1 x1 (by simp; omega) (by omega) (by omega)
  refine ⟨l, p2, x2, ?_, by simp at hl; omega, by omega, by omega⟩
  unfold spec_l1Cur_letters.f
  refine enb e1 ?_
  rw [show ((r.toNat : Nat) : Int) = r by omega] at E
  exact E
theorem rnds_l (s : List Int) (hb : bytes s) : ∀ (d : Nat) (out : List (List ByteArray)) (p x : Int), out.length + d ≤ 1000 → (∀ y ∈ out, y.length ≤ 12) → 0 ≤ p → p + 200 * d ≤ 1152921504606000000 → ∃ l p' x', Ev (fun k => spec_l1Cur_rounds.l0 k out (d : Int) s p x) (l, p', x') ∧ (l.length = out.length + d ∧ ∀ y ∈ l, y.length ≤ 12) ∧ p ≤ p' ∧ p' ≤ p + 200 * d := by
  intro d
  induction d with
  | zero =>
    intro out p x hl ho h0 h1
    exact ⟨out, p, x, eround (fun k => by rw [spec_l1Cur_rounds.l0]) (eneg (by omega) (enow rfl)), ⟨by omega, ho⟩, by omega, by omega⟩
  | succ d ih =>
    intro out p x hl ho h0 h1
    obtain ⟨v, p1, x1, e1, hv, g1, g2⟩ := lets_e s hb p x 3 (by omega) h0 (by push_cast at h1; omega)
    obtain ⟨l, p5, x5, E, ⟨hl5, hy5⟩, g9, g10⟩ := ih (out ++ [v]) p1 x1 (by simp; omega) (fun y hy => by
      rcases List.mem_append.1 hy with h | h
      · exact ho y h
      · rw [List.mem_singleton.1 h]; omega) (by omega) (by push_cast at h1; omega)
    refine ⟨l, p5, x5, ?_, ⟨by simp at hl5; omega, hy5⟩, by omega, by push_cast; omega⟩
    refine eround (fun k => by rw [spec_l1Cur_rounds.l0]) (epos (by omega) ?_)
    refine ebind e1 ?_
    refine epos (by omega) ?_
    rw [w64 (by omega) (by omega), show ((d + 1 : Nat) : Int) - 1 = (d : Int) by omega]
    exact E
theorem rnds_e (s : List Int) (hb : bytes s) (p x : Int) (h0 : 0 ≤ p) (h1 : p ≤ 1152921504605000000) : ∃ l p' x', Ev (fun k => spec_l1Cur_rounds.f k s p x) (l, p', x') ∧ (l.length ≤ 21 ∧ ∀ y ∈ l, y.length ≤ 12) ∧ p ≤ p' ∧ p' ≤ p + 6000 := by
  obtain ⟨n, p1, x1, e1, ⟨n0, _, n1⟩, g1, g2⟩ := pick_e s hb p x 8 h0 (by omega)
  obtain ⟨b, p2, x2, e2, g3, g4⟩ := one_e s hb p1 x1 20 (by omega) (by omega)
  have := n1 (by omega)
  cases b with
  | true =>
    obtain ⟨m, p3, x3, e3, ⟨m0, _, m1⟩, g5, g6⟩ := pick_e s hb p2 x2 2 (by omega) (by omega)
    have := m1 (by omega)
    obtain ⟨l, p4, x4, E, ⟨hl, hy⟩, g7, g8⟩ := rnds_l s hb (20 + m).toNat [] p3 x3 (by simp; omega) (by simp) (by omega) (by omega)
    refine ⟨l, p4, x4, ?_, ⟨by simp at hl; omega, hy⟩, by omega, by omega⟩
    unfold spec_l1Cur_rounds.f
    refine enb e1 ?_
    refine enb e2 ?_
    refine epos rfl ?_
    refine enb e3 ?_
    refine eround (fun k => by rw [spec_l1Cur_rounds.j0]) ?_
    rw [w64 (by omega) (by omega), show 20 + m = (((20 + m).toNat : Nat) : Int) by omega]
    exact E
  | false =>
    obtain ⟨l, p4, x4, E, ⟨hl, hy⟩, g7, g8⟩ := rnds_l s hb n.toNat [] p2 x2 (by simp; omega) (by simp) (by omega) (by omega)
    refine ⟨l, p4, x4, ?_, ⟨by simp at hl; omega, hy⟩, by omega, by omega⟩
    unfold spec_l1Cur_rounds.f
    refine enb e1 ?_
    refine enb e2 ?_
    refine eneg (by simp) ?_
    refine eround (fun k => by rw [spec_l1Cur_rounds.j0]) ?_
    rw [show ((n.toNat : Nat) : Int) = n by omega] at E
    exact E
noncomputable def stR (l : List ByteArray) : List ByteArray × Bool := if letB l = true then (l.foldl (fun out x => placeT x out) [], true) else ([], false)
theorem fold_perm : ∀ (l out : List ByteArray), out.Pairwise (fun a b => ltT b a = false) → (l.foldl (fun out x => placeT x out) out).Perm (l ++ out) ∧ (l.foldl (fun out x => placeT x out) out).Pairwise (fun a b => ltT b a = false)
  | [], out, h => ⟨List.Perm.refl _, h⟩
  | x :: r, out, h => by
    obtain ⟨h1, h2⟩ := fold_perm r (placeT x out) (placeT_pair x out h)
    refine ⟨?_, h2⟩
    rw [List.foldl_cons]
    refine h1.trans ?_
    refine ((placeT_perm x out).append_left r).trans ?_
    exact List.perm_middle
theorem stR_len (l : List ByteArray) : (stR l).1.length ≤ l.length := by
  unfold stR
  split
  · have := (fold_perm l [] List.Pairwise.nil).1.length_eq
    rw [List.append_nil] at this
    dsimp only
    omega
  · simp
theorem leS_total (x y : List UInt8) : x ≤ y ∨ y ≤ x := List.le_total x y
theorem sts_fold (l : List ByteArray) : stsSort l = l.foldl (fun out x => placeT x out) [] := by
  obtain ⟨p1, p2⟩ := fold_perm l [] List.Pairwise.nil
  rw [List.append_nil] at p1
  have hd : ∀ x : ByteArray, x.data.toList = x.toList := fun x => (ByteArray.toList_eq x).symm
  have q0 := List.pairwise_mergeSort (le := fun x y : List UInt8 => decide (x ≤ y)) (fun a b c h1 h2 => by
    rw [decide_eq_true_eq] at *
    exact List.le_trans h1 h2) (fun a b => by
    rw [Bool.or_eq_true, decide_eq_true_eq, decide_eq_true_eq]
    exact leS_total a b) (l.map fun x => x.data.toList)
  have q1 : (stsSort l).Pairwise (fun a b => ltT b a = false) := by
    unfold stsSort
    rw [List.pairwise_map]
    refine q0.imp fun {a b} h => ?_
    unfold ltT
    rw [bytesLess_eq, decide_eq_false_iff_not, ← hd, ← hd]
    rw [decide_eq_true_eq] at h
    exact h
  have q2 : (stsSort l).Perm l := by
    unfold stsSort
    have := (List.mergeSort_perm (l.map fun x => x.data.toList) (fun x y : List UInt8 => decide (x ≤ y))).map (fun x : List UInt8 => (⟨x.toArray⟩ : ByteArray))
    rw [List.map_map] at this
    have e : (List.map ((fun x : List UInt8 => (⟨x.toArray⟩ : ByteArray)) ∘ fun x : ByteArray => x.data.toList) l) = l := by
      conv => rhs; rw [← List.map_id l]
      refine List.map_congr_left fun x _ => ?_
      rfl
    rw [e] at this
    exact this
  exact List.Perm.eq_of_pairwise (fun a b _ _ h1 h2 => ltT_tri h2 h1) q1 p2 (q2.trans p1.symm)
theorem implST_e (l : List ByteArray) (hl : l.length ≤ 1048576) : Ev (fun k => impl_SortTexts.f k l) (stR l) := by
  unfold impl_SortTexts.f stR
  refine ebind (implLet_e l (by omega)) ?_
  cases c : letB l with
  | false => exact eneg Bool.false_ne_true (enow rfl)
  | true => exact epos rfl (epos (by omega) (enow (by rw [sts_fold]; rfl)))
theorem specSort_l (l : List ByteArray) (hl : l.length ≤ 1048576) : ∀ (d i : Nat) (out : List ByteArray), i + d = l.length → out.length ≤ i → Ev (fun k => spec_l8Sort.l0 k out l (l.length : Int) (i : Int)) ((l.drop i).foldl (fun out x => placeT x out) out) := by
  intro d
  induction d with
  | zero =>
    intro i out hi ho
    rw [List.drop_eq_nil_of_le (by omega), List.foldl_nil]
    exact eround (fun k => by rw [spec_l8Sort.l0]) (eneg (by omega) (enow rfl))
  | succ d ih =>
    intro i out hi ho
    have hlt : i < l.length := by omega
    have hp := placeT_len l[i] out
    refine eround (fun k => by rw [spec_l8Sort.l0]) (epos (by omega) (epos (by omega) (epos (by omega) ?_)))
    rw [show rdOf ByteArray.empty l (i : Int) = l[i] from getD_get l i _ hlt, List.drop_eq_getElem_cons hlt, List.foldl_cons, w64 (by omega) (by omega)]
    refine ebind (place_e out l[i] (by omega)) ?_
    exact ih (i + 1) (placeT l[i] out) (by omega) (by omega)
theorem specST_e (l : List ByteArray) (hl : l.length ≤ 1048576) : Ev (fun k => spec_SortTexts.f k l) (stR l) := by
  unfold spec_SortTexts.f stR
  refine ebind (specPool_e l (by omega)) ?_
  cases c : letB l with
  | false => exact eneg Bool.false_ne_true (enow rfl)
  | true =>
    refine epos rfl (ebind (specSort_l l hl l.length 0 [] (by omega) (by simp)) (enow ?_))
    rw [List.drop_zero]
    rfl
theorem sameX_l (xs : List ByteArray) (hs : xs.length ≤ 1048576) : ∀ (d i : Nat), i + d = xs.length → Ev (fun k => laws_sameTexts.l0 k xs xs (xs.length : Int) (i : Int)) true := by
  intro d
  induction d with
  | zero =>
    intro i hi
    exact eround (fun k => by rw [laws_sameTexts.l0]) (eneg (by omega) (enow rfl))
  | succ d ih =>
    intro i hi
    refine eround (fun k => by rw [laws_sameTexts.l0]) (epos (by omega) (epos (by omega) (epos (by omega) (epos (by omega) (epos rfl ?_)))))
    rw [w64 (by omega) (by omega)]
    exact ih (i + 1) (by omega)
theorem sameX_r (xs : List ByteArray) (hs : xs.length ≤ 1048576) : Ev (fun k => laws_sameTexts.f k xs xs) true := by
  unfold laws_sameTexts.f
  exact epos rfl (sameX_l xs hs xs.length 0 (by omega))
theorem drawPM_e (s : List Int) (hb : bytes s) : ∃ a b rs, Ev (fun k => spec_DrawPlayMix.f k s) (a, b, rs) ∧ rs.length ≤ 21 ∧ ∀ y ∈ rs, y.length ≤ 12 := by
  obtain ⟨a, p1, x1, e1, _, g1, g2⟩ := pick_e s hb 0 0 6 (by omega) (by omega)
  obtain ⟨b, p2, x2, e2, _, g3, g4⟩ := pick_e s hb p1 x1 5 (by omega) (by omega)
  obtain ⟨rs, p3, x3, e3, h, g5, g6⟩ := rnds_e s hb p2 x2 (by omega) (by omega)
  refine ⟨wrap64 (1 + a), wrap64 (1 + b), rs, ?_, h.1, h.2⟩
  unfold spec_DrawPlayMix.f
  refine enb e1 ?_
  refine enb e2 ?_
  refine ebind e3 ?_
  exact enow rfl
theorem drawST_e (s : List Int) (hb : bytes s) : ∃ l, Ev (fun k => spec_DrawSortTexts.f k s) l ∧ l.length ≤ 13 := by
  obtain ⟨b, p1, x1, e1, g1, g2⟩ := one_e s hb 0 0 20 (by omega) (by omega)
  cases b with
  | true =>
    obtain ⟨r, p2, x2, e2, ⟨r0, _, r2⟩, g3, g4⟩ := pick_e s hb p1 x1 2 (by omega) (by omega)
    have := r2 (by omega)
    have hw : wrap64 (12 + r) = 12 + r := w64 (by omega) (by omega)
    refine ⟨List.replicate (12 + r).toNat (⟨#[]⟩ : ByteArray), ?_, by rw [List.length_replicate]; omega⟩
    unfold spec_DrawSortTexts.f
    refine enb e1 ?_
    refine epos rfl ?_
    refine enb e2 ?_
    dsimp only
    rw [hw]
    exact epos (by omega) (epos (by omega) (enow rfl))
  | false =>
    obtain ⟨l, p2, x2, e2, hl, _, _⟩ := lets_e s hb p1 x1 7 (by omega) (by omega) (by omega)
    refine ⟨l, ?_, by omega⟩
    unfold spec_DrawSortTexts.f
    refine enb e1 ?_
    refine eneg (by simp) ?_
    refine ebind e2 ?_
    exact enow rfl
theorem drawSS_e (s : List Int) (hb : bytes s) : ∃ rs n, Ev (fun k => spec_DrawSetSize.f k s) (rs, n) ∧ rs.length ≤ 21 := by
  obtain ⟨rs, p1, x1, e1, h, g1, g2⟩ := rnds_e s hb 0 0 (by omega) (by omega)
  obtain ⟨r, p2, x2, e2, _, _, _⟩ := pick_e s hb p1 x1 (wrap64 ((rs.length : Int) + 2)) (by omega) (by omega)
  refine ⟨rs, wrap64 (r - 1), ?_, h.1⟩
  unfold spec_DrawSetSize.f
  refine ebind e1 ?_
  refine enb e2 ?_
  exact enow rfl
theorem setSize_e (rs : List (List ByteArray)) (n : Int) (h : rs.length ≤ 21) : ∃ o, impl_SetSize.f rs n = some o ∧ spec_SetSize.f rs n = some o := by
  unfold impl_SetSize.f spec_SetSize.f
  by_cases c : (rs.length : Int) > 20
  · rw [if_pos c, if_pos c]
    exact ⟨_, rfl, rfl⟩
  · rw [if_neg c, if_neg c, within_eq, Option.bind_some, w64 (by omega) (by omega)]
    by_cases c1 : n < 0
    · have : inR 0 ((rs.length : Int) - 1) n = false := by rw [Bool.eq_false_iff]; intro z; have := inR_iff.1 z; omega
      rw [this, if_pos c1]
      exact ⟨_, rfl, rfl⟩
    · rw [if_neg c1]
      by_cases c2 : n ≥ (rs.length : Int)
      · have : inR 0 ((rs.length : Int) - 1) n = false := by rw [Bool.eq_false_iff]; intro z; have := inR_iff.1 z; omega
        rw [this, if_pos c2]
        exact ⟨_, rfl, rfl⟩
      · have : inR 0 ((rs.length : Int) - 1) n = true := inR_iff.2 (by omega)
        rw [this, if_pos rfl, if_neg c2, if_pos (show (0 : Int) ≤ n by omega), if_pos (show n < (rs.length : Int) by omega)]
        exact ⟨_, rfl, rfl⟩
theorem fm_j11 (s : List Int) (hb : bytes s) : Ev (fun k => laws_FnMixes.j11 k s) true := by
  obtain ⟨l, e1, hl⟩ := drawST_e s hb
  obtain ⟨rs, n, e2, hr⟩ := drawSS_e s hb
  obtain ⟨o, e3, e4⟩ := setSize_e rs n hr
  have h1 := stR_len l
  refine eround (fun k => by rw [laws_FnMixes.j11]) ?_
  refine ebind e1 (ebind (implST_e l (by omega)) (ebind (specST_e l (by omega)) (ebind e2 ?_)))
  refine enb e3 (enb e4 ?_)
  refine epos (by simp) (ebind (sameX_r (stR l).1 (by omega)) (epos rfl (epos (by simp) (enow (by simp)))))
theorem fm_l6 (s : List Int) (hb : bytes s) (o : List (List ByteArray)) (ho : o.length ≤ 20 ∧ ∀ y ∈ o, y.length ≤ 12) : ∀ (d i : Nat), i + d = o.length → Ev (fun k => laws_FnMixes.l6 k s o o (o.length : Int) (i : Int)) true := by
  intro d
  induction d with
  | zero =>
    intro i hi
    exact eround (fun k => by rw [laws_FnMixes.l6]) (eneg (by omega) (fm_j11 s hb))
  | succ d ih =>
    intro i hi
    have hlt : i < o.length := by omega
    have := ho.2 _ (List.getElem_mem hlt)
    refine eround (fun k => by rw [laws_FnMixes.l6]) (epos (by omega) (epos (by omega) (epos (by omega) (epos (by omega) ?_))))
    rw [show rd_L2 o (i : Int) = o[i] from getD_get o i _ hlt, w64 (by omega) (by omega)]
    exact ebind (sameX_r o[i] (by omega)) (epos rfl (ih (i + 1) (by omega)))
theorem fm_l5 (s : List Int) (a b : Int) (rs o T : List (List ByteArray)) (i n : Int) (l : List ByteArray) (hl : l.length ≤ 12) (hT : T.length ≤ 1000)
    (H : Ev (fun k => laws_FnMixes.l4 k s a b rs o (T ++ [l.reverse]) n (wrap64 (i + 1))) true) : ∀ j : Nat, j ≤ l.length → Ev (fun k => laws_FnMixes.l5 k s a b rs o T l ((l.drop j).reverse) ((j : Int) - 1) n i) true := by
  intro j
  induction j with
  | zero =>
    intro hj
    rw [List.drop_zero]
    exact eround (fun k => by rw [laws_FnMixes.l5]) (eneg (by omega) (epos (by omega) H))
  | succ j ih =>
    intro hj
    have hlt : j < l.length := by omega
    have nx := ih (by omega)
    rw [List.drop_eq_getElem_cons hlt, List.reverse_cons] at nx
    rw [show ((j + 1 : Nat) : Int) - 1 = (j : Int) by omega]
    refine eround (fun k => by rw [laws_FnMixes.l5]) (epos (by omega) (epos (by omega) (epos (by omega) (epos (by rw [List.length_reverse, List.length_drop]; omega) ?_))))
    rw [show rdOf ByteArray.empty l (j : Int) = l[j] from getD_get l j _ hlt, w64 (by omega) (by omega)]
    exact nx
theorem fm_l4 (s : List Int) (hb : bytes s) (a b : Int) (rs : List (List ByteArray)) (hr : rs.length ≤ 21 ∧ ∀ y ∈ rs, y.length ≤ 12) (hok : (pmR a b rs).2 = true) (hrev : pmR a b (rs.map List.reverse) = pmR a b rs) : ∀ (d i : Nat), i + d = rs.length → Ev (fun k => laws_FnMixes.l4 k s a b rs (pmR a b rs).1 ((rs.take i).map List.reverse) (rs.length : Int) (i : Int)) true := by
  intro d
  induction d with
  | zero =>
    intro i hi
    rw [List.take_of_length_le (by omega)]
    have e := (playMixF_e a b (rs.map List.reverse) (fun y hy => by
      obtain ⟨z, hz, rfl⟩ := List.mem_map.1 hy
      have := hr.2 z hz
      rw [List.length_reverse]
      omega)).1
    rw [hrev] at e
    refine eround (fun k => by rw [laws_FnMixes.l4]) (eneg (by omega) ?_)
    refine ebind e (epos hok ?_)
    refine eround (fun k => by rw [laws_FnMixes.j9]) (eneg (by simp) ?_)
    exact fm_l6 s hb (pmR a b rs).1 (pmR_in a b rs) (pmR a b rs).1.length 0 (by omega)
  | succ d ih =>
    intro i hi
    have hlt : i < rs.length := by omega
    have := hr.2 _ (List.getElem_mem hlt)
    have nx := ih (i + 1) (by omega)
    rw [List.take_succ_eq_append_getElem hlt, List.map_append, List.map_singleton] at nx
    refine eround (fun k => by rw [laws_FnMixes.l4]) (epos (by omega) (epos (by omega) (epos (by omega) ?_)))
    rw [show rd_L2 rs (i : Int) = rs[i] from getD_get rs i _ hlt]
    have key := fm_l5 s a b rs (pmR a b rs).1 ((rs.take i).map List.reverse) (i : Int) (rs.length : Int) rs[i] (by omega) (by rw [List.length_map, List.length_take]; omega) (by rw [w64 (by omega) (by omega)]; exact nx) rs[i].length (Nat.le_refl _)
    rw [List.drop_length] at key
    rw [w64 (x := (rs[i].length : Int) - 1) (by omega) (by omega)]
    exact key
/-- What is known while texts are gathered: A: no two texts have one tag yet; T: texts; G: their tags. -/
def gath (A : Bool) (T : List ByteArray) (G : List Int) : Prop := G.length = T.length ∧ (A = true → G = T.map tagOf ∧ apartT T)
theorem fm_l3 (s : List Int) (a b : Int) (rs o : List (List ByteArray)) (ok A : Bool) (T : List ByteArray) (G : List Int) (x : ByteArray) (t i n : Int) (l : List ByteArray) (n2 j : Int) (hG : G.length = T.length) (hT : T.length ≤ 1000)
    (H : ∀ A' : Bool, (A' = true → A = true ∧ ∀ q (h : q < T.length), T[q] ≠ x → G[q]'(by omega) ≠ t) → Ev (fun k => laws_FnMixes.l2 k s a b rs o ok A' (G ++ [t]) (T ++ [x]) n i l n2 (wrap64 (j + 1))) true) :
    ∀ (d q : Nat) (A' : Bool), q + d = T.length → (A' = true → A = true ∧ ∀ p (h : p < T.length), p < q → T[p] ≠ x → G[p]'(by omega) ≠ t) → Ev (fun k => laws_FnMixes.l3 k s a b rs o ok A' G T x t n i l n2 j (T.length : Int) (q : Int)) true := by
  intro d
  induction d with
  | zero =>
    intro q A' hq hA
    refine eround (fun k => by rw [laws_FnMixes.l3]) (eneg (by omega) (epos (by omega) (epos (by omega) ?_)))
    exact H A' fun z => ⟨(hA z).1, fun p hp => (hA z).2 p hp (by omega)⟩
  | succ d ih =>
    intro q A' hq hA
    have hlt : q < T.length := by omega
    have hlg : q < G.length := by omega
    refine eround (fun k => by rw [laws_FnMixes.l3]) (epos (by omega) (epos (by omega) (epos (by omega) ?_)))
    rw [show rdOf ByteArray.empty T (q : Int) = T[q] from getD_get T q _ hlt, w64 (by omega) (by omega)]
    have step : ∀ A2 : Bool, (A2 = true → A' = true ∧ (T[q] ≠ x → G[q] ≠ t)) → Ev (fun k => laws_FnMixes.l3 k s a b rs o ok A2 G T x t n i l n2 j (T.length : Int) ((q : Int) + 1)) true := fun A2 h2 => ih (q + 1) A2 (by omega) fun z => by
      obtain ⟨z1, z2⟩ := h2 z
      refine ⟨(hA z1).1, fun p hp hpq => ?_⟩
      by_cases e : p = q
      · subst e
        exact z2
      · exact (hA z1).2 p hp (by omega)
    by_cases c : T[q].toList = x.toList
    · refine epos c (step A' fun z => ⟨z, fun h => absurd ?_ h⟩)
      rw [ByteArray.toList_eq, ByteArray.toList_eq] at c
      exact ByteArray.ext (Array.toList_inj.1 c)
    · refine eneg c (epos (by omega) ?_)
      rw [rd_get G q hlg]
      by_cases c2 : G[q] = t
      · exact epos c2 (step false fun z => by cases z)
      · exact eneg c2 (step A' fun z => ⟨z, fun _ => c2⟩)
theorem tagOf_e (x : ByteArray) : ∃ t : Int, ∃ f : Bool, Ev (fun k => impl_TagOf.f k x) (t, f) ∧ (f = true → t = tagOf x) := by
  unfold impl_TagOf.f impl_isLetter.f
  by_cases c : (x.size : Int) ≤ 24
  · exact ⟨tagOf x, true, enb rfl (epos (decide_eq_true c) (ebind (tagOf_all x (by omega)).1 (enow rfl))), fun _ => rfl⟩
  · exact ⟨0, false, enb rfl (eneg (by simpa using c) (enow rfl)), fun h => by cases h⟩
theorem fm_l2 (s : List Int) (a b : Int) (rs o : List (List ByteArray)) (ok : Bool) (n : Int) (i : Nat) (hi : i ≤ 21) (l rest all : List ByteArray) (hl : l.length ≤ 12)
    (H : ∀ (A : Bool) (T : List ByteArray) (G : List Int), gath A T G → T.length ≤ 12 * (i + 1) → T ++ rest = all → Ev (fun k => laws_FnMixes.l1 k s a b rs o ok A G T n (wrap64 ((i : Int) + 1))) true) :
    ∀ (d j : Nat) (A : Bool) (T : List ByteArray) (G : List Int), j + d = l.length → gath A T G → T.length ≤ 12 * i + j → T ++ (l.drop j ++ rest) = all → Ev (fun k => laws_FnMixes.l2 k s a b rs o ok A G T n (i : Int) l (l.length : Int) (j : Int)) true := by
  intro d
  induction d with
  | zero =>
    intro j A T G hj hg hT hall
    rw [List.drop_eq_nil_of_le (by omega), List.nil_append] at hall
    exact eround (fun k => by rw [laws_FnMixes.l2]) (eneg (by omega) (H A T G hg (by omega) hall))
  | succ d ih =>
    intro j A T G hj hg hT hall
    have hlt : j < l.length := by omega
    obtain ⟨t, f, e1, ef⟩ := tagOf_e l[j]
    refine eround (fun k => by rw [laws_FnMixes.l2]) (epos (by omega) (epos (by omega) (epos (by omega) ?_)))
    rw [show rdOf ByteArray.empty l (j : Int) = l[j] from getD_get l j _ hlt]
    refine ebind e1 ?_
    have nx : ∀ A0 : Bool, (A0 = true → A = true ∧ f = true) → Ev (fun k => laws_FnMixes.l3 k s a b rs o ok A0 G T l[j] t n (i : Int) l (l.length : Int) (j : Int) (T.length : Int) 0) true := fun A0 h0 => by
      refine fm_l3 s a b rs o ok A0 T G l[j] t (i : Int) n l (l.length : Int) (j : Int) hg.1 (by omega) (fun A' hA' => ?_) T.length 0 A0 (by omega) (fun z => ⟨z, fun p hp h => by omega⟩)
      rw [w64 (by omega) (by omega)]
      refine ih (j + 1) A' (T ++ [l[j]]) (G ++ [t]) (by omega) ⟨by rw [List.length_append, List.length_append, hg.1]; rfl, fun z => ?_⟩ (by rw [List.length_append, List.length_singleton]; omega) ?_
      · obtain ⟨z1, z2⟩ := hA' z
        obtain ⟨z3, z4⟩ := h0 z1
        obtain ⟨eG, hap⟩ := hg.2 z3
        have et := ef z4
        refine ⟨by rw [eG, et, List.map_append, List.map_singleton], ?_⟩
        have hne : ∀ y ∈ T, y ≠ l[j] → tagOf y ≠ tagOf l[j] := fun y hy hn => by
          obtain ⟨q, hq, rfl⟩ := List.getElem_of_mem hy
          have := z2 q hq hn
          rw [← et]
          subst eG
          simpa using this
        intro u hu v hv huv
        rcases List.mem_append.1 hu with hu | hu
        · rcases List.mem_append.1 hv with hv | hv
          · exact hap u hu v hv huv
          · rw [List.mem_singleton] at hv
            subst hv
            exact Decidable.byContradiction fun hn => hne u hu hn huv
        · rw [List.mem_singleton] at hu
          subst hu
          rcases List.mem_append.1 hv with hv | hv
          · exact Decidable.byContradiction fun hn => hne v hv (fun e => hn e.symm) huv.symm
          · rw [List.mem_singleton] at hv
            exact hv.symm
      · rw [List.drop_eq_getElem_cons hlt] at hall
        rw [List.append_assoc, List.singleton_append]
        exact hall
    cases f with
    | true => exact epos rfl (eround (fun k => by rw [laws_FnMixes.j4]) (nx A fun z => ⟨z, rfl⟩))
    | false => exact eneg (by simp) (eround (fun k => by rw [laws_FnMixes.j4]) (nx false fun z => by cases z))
theorem fm_l1 (s : List Int) (hb : bytes s) (a b : Int) (rs : List (List ByteArray)) (hr : rs.length ≤ 21 ∧ ∀ y ∈ rs, y.length ≤ 12) : ∀ (d i : Nat) (A : Bool) (T : List ByteArray) (G : List Int), i + d = rs.length → gath A T G → T.length ≤ 12 * i → T ++ (rs.drop i).flatten = rs.flatten → Ev (fun k => laws_FnMixes.l1 k s a b rs (pmR a b rs).1 (pmR a b rs).2 A G T (rs.length : Int) (i : Int)) true := by
  intro d
  induction d with
  | zero =>
    intro i A T G hi hg hT hall
    have no : Ev (fun k => laws_FnMixes.j6 k s a b rs (pmR a b rs).1 false) true := eround (fun k => by rw [laws_FnMixes.j6]) (eneg (by simp) (fm_j11 s hb))
    rw [List.drop_eq_nil_of_le (by omega), List.flatten_nil, List.append_nil] at hall
    refine eround (fun k => by rw [laws_FnMixes.l1]) (eneg (by omega) ?_)
    by_cases hok : (pmR a b rs).2 = true
    · refine epos hok ?_
      cases A with
      | false => exact eneg (by simp) no
      | true =>
        refine epos rfl ?_
        by_cases h12 : (T.length : Int) ≤ 12
        · rw [decide_eq_true h12]
          refine eround (fun k => by rw [laws_FnMixes.j6]) (epos rfl ?_)
          have hap := (hg.2 rfl).2
          rw [hall] at hap h12
          exact fm_l4 s hb a b rs hr hok (pmR_rev a b rs hap (by omega)) rs.length 0 (by omega)
        · rw [decide_eq_false h12]
          exact no
    · exact eneg hok no
  | succ d ih =>
    intro i A T G hi hg hT hall
    have hlt : i < rs.length := by omega
    have h12 := hr.2 _ (List.getElem_mem hlt)
    rw [List.drop_eq_getElem_cons hlt, List.flatten_cons] at hall
    refine eround (fun k => by rw [laws_FnMixes.l1]) (epos (by omega) (epos (by omega) (epos (by omega) ?_)))
    rw [show rd_L2 rs (i : Int) = rs[i] from getD_get rs i _ hlt]
    refine fm_l2 s a b rs (pmR a b rs).1 (pmR a b rs).2 (rs.length : Int) i (by omega) rs[i] (rs.drop (i + 1)).flatten rs.flatten h12 (fun A' T' G' hg' hT' hall' => ?_) rs[i].length 0 A T G (by omega) hg (by omega) (by rw [List.drop_zero]; exact hall)
    rw [w64 (by omega) (by omega)]
    exact ih (i + 1) A' T' G' (by omega) hg' (by omega) hall'
theorem fm_l0 (s : List Int) (hb : bytes s) (a b : Int) (rs : List (List ByteArray)) (hr : rs.length ≤ 21 ∧ ∀ y ∈ rs, y.length ≤ 12) : ∀ (d i : Nat), i + d = (pmR a b rs).1.length → Ev (fun k => laws_FnMixes.l0 k s a b rs (pmR a b rs).1 (pmR a b rs).2 (pmR a b rs).1 ((pmR a b rs).1.length : Int) (i : Int)) true := by
  have ho := pmR_in a b rs
  intro d
  induction d with
  | zero =>
    intro i hi
    refine eround (fun k => by rw [laws_FnMixes.l0]) (eneg (by omega) ?_)
    exact fm_l1 s hb a b rs hr rs.length 0 true [] [] (by omega) ⟨rfl, fun _ => ⟨rfl, fun x hx => by cases hx⟩⟩ (by simp) (by simp)
  | succ d ih =>
    intro i hi
    have hlt : i < (pmR a b rs).1.length := by omega
    have := ho.2 _ (List.getElem_mem hlt)
    refine eround (fun k => by rw [laws_FnMixes.l0]) (epos (by omega) (epos (by omega) (epos (by omega) (epos (by omega) ?_))))
    rw [show rd_L2 (pmR a b rs).1 (i : Int) = (pmR a b rs).1[i] from getD_get _ i _ hlt, w64 (by omega) (by omega)]
    exact ebind (sameX_r (pmR a b rs).1[i] (by omega)) (epos rfl (ih (i + 1) (by omega)))
theorem FnMixes : laws_FnMixes.Pure := by
  intro s t _ _ hs _ _ ht
  have hbs := bytes_of hs
  have hbt := bytes_of ht
  apply Ev.rounds
  unfold laws_FnMixes.f
  by_cases hbig : (wrap64 ((s.length : Int) + (t.length : Int))) > 1048576
  · exact epos hbig (enow rfl)
  refine eneg hbig ?_
  obtain ⟨a, b, rs, e1, hr⟩ := drawPM_e s hbs
  obtain ⟨e2, e3⟩ := playMixF_e a b rs (fun y hy => by have := hr.2 y hy; omega)
  refine ebind e1 (ebind e2 (ebind e3 ?_))
  refine eneg (by simp) ?_
  refine eround (fun k => by rw [laws_FnMixes.j0]) (eneg (by simp) ?_)
  exact fm_l0 t hbt a b rs hr (pmR a b rs).1.length 0 (by omega)

end Go.Proofs.Ytkgogglnipdcfaa.Pure
