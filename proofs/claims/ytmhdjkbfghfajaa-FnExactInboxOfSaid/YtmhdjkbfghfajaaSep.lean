import Derived.Test.YtmhdjkbfghfajaaMk
/-! words on what lies apart: a list of things, each in blocks of its own -/
namespace Go.Proofs.YtmhdjkbfghfajaaW.PrintMore
open Go.RowKit Go.Proofs.YtmhdjkbfghfajaaW.PrintWords Go.Proofs.YtmhdjkbfghfajaaW.PrintLast
set_option linter.unusedVariables false
theorem getD_app_l {α : Type} {l l' : List α} {z : α} {j : Nat} (h : j < l.length) : (l ++ l').getD j z = l.getD j z := by
  rw [List.getD_eq_getElem?_getD, List.getD_eq_getElem?_getD, List.getElem?_append_left h]
theorem getD_app_r {α : Type} {l l' : List α} {z : α} {j : Nat} (h : l.length ≤ j) : (l ++ l').getD j z = l'.getD (j - l.length) z := by
  rw [List.getD_eq_getElem?_getD, List.getD_eq_getElem?_getD, List.getElem?_append_right h]
theorem idxOf_at {is : List Nat} (hn : is.Nodup) (j : Nat) (hj : j < is.length) : is.idxOf is[j] = j := by
  induction is generalizing j with
  | nil => exact absurd hj (Nat.not_lt_zero _)
  | cons a r ih =>
    obtain ⟨h1, h2⟩ := List.nodup_cons.1 hn
    cases j with
    | zero => simp
    | succ j =>
      have hj' : j < r.length := by simpa using hj
      have hne : (a == r[j]) = false := by
        rw [beq_eq_false_iff_ne]
        intro e
        exact h1 (e ▸ List.getElem_mem hj')
      simp only [List.getElem_cons_succ, List.idxOf_cons, hne, ih h2 j hj']
      rfl
/-- What is said of some blocks (ok), made from b on. -/
structure SA where
  P : Nat → (Nat → Prop) → World → Prop
  mv : ∀ {b ok W W1}, P b ok W → (∀ k, ok k → k < W.heap.size → W1.heap[k]? = W.heap[k]?) → P b ok W1
  bd : ∀ {b ok W}, P b ok W → P b (fun k => ok k ∧ b ≤ k ∧ k < W.heap.size) W
  mono : ∀ {b ok ok' W}, (∀ k, ok k → ok' k) → P b ok W → P b ok' W
  lower : ∀ {b b' ok W}, b' ≤ b → P b ok W → P b' ok W
/-- A row of a call's own. -/
def rA {α : Type} (d : Kd α) (e : Nat) (v : Value) (xs : List α) : SA where
  P := fun b ok W => d.R e W b ok v xs
  mv := fun h hm => Kd.R_step h hm
  bd := fun h => Kd.R_mono (Kd.R_bound h) (fun _ hk => ⟨hk.1, hk.2.1, hk.2.2.1⟩)
  mono := fun hm h => Kd.R_mono h hm
  lower := fun hb h => Kd.R_lower h hb
/-- A row of rows, each of them in a block of its own. -/
def sA {α : Type} (d : Kd α) (e : Nat) (v : Value) (xs : List α) : SA where
  P := fun b ok W => Kd.S d e W b ok v xs
  mv := fun h hm => Kd.S_step h hm
  bd := fun h => Kd.S_mono (Kd.S_bound h) (fun _ hk => ⟨hk.1, hk.2.1, hk.2.2.1⟩)
  mono := fun hm h => Kd.S_mono h hm
  lower := fun hb h => Kd.S_lower h hb
/-- A block known whole. -/
def bA (g : Nat) (cs : Array Value) (t : TypeId) : SA where
  P := fun b ok W => (ok g ∧ b ≤ g) ∧ W.heap[g]? = some (.cells cs t (0, 0))
  mv := fun h hm => ⟨h.1, (hm g h.1.1 (blk_lt h.2)).trans h.2⟩
  bd := fun h => ⟨⟨⟨h.1.1, h.1.2, blk_lt h.2⟩, h.1.2⟩, h.2⟩
  mono := fun hm h => ⟨⟨hm _ h.1.1, h.1.2⟩, h.2⟩
  lower := fun hb h => ⟨⟨h.1.1, Nat.le_trans hb h.1.2⟩, h.2⟩
def nA : SA where
  P := fun _ _ _ => True
  mv := fun h _ => h
  bd := fun h => h
  mono := fun _ h => h
  lower := fun _ h => h
/-- The i-th thing lies in the blocks of colour i. -/
def SepAt (c : Nat → Nat) (b : Nat) (W : World) : Nat → List SA → Prop
  | _, [] => True
  | i, A :: L => A.P b (fun k => c k = i) W ∧ SepAt c b W (i + 1) L
/-- Made since w0, nothing else changed, and apart from each other. -/
structure Sep (w0 W : World) (L : List SA) : Prop where
  base : Below w0.heap.size w0 W
  cols : ∃ c, SepAt c w0.heap.size W 0 L
theorem SepAt.get {c : Nat → Nat} {b : Nat} {W : World} : ∀ {L : List SA} {i : Nat} (j : Nat), SepAt c b W i L → j < L.length → (L.getD j nA).P b (fun k => c k = i + j) W
  | [], _, _, _, hj => absurd hj (Nat.not_lt_zero _)
  | A :: L, i, 0, h, _ => h.1
  | A :: L, i, j + 1, h, hj => by
    have := SepAt.get (i := i + 1) j h.2 (by simpa using hj)
    rw [show i + (j + 1) = i + 1 + j from by omega]
    simpa using this
theorem SepAt.of {c : Nat → Nat} {b : Nat} {W : World} : ∀ {L : List SA} {i : Nat}, (∀ j, j < L.length → (L.getD j nA).P b (fun k => c k = i + j) W) → SepAt c b W i L
  | [], _, _ => trivial
  | A :: L, i, h => ⟨by have := h 0 (by simp); simpa using this, SepAt.of (fun j hj => by
      have := h (j + 1) (by simpa using hj)
      rw [show i + 1 + j = i + (j + 1) from by omega]
      simpa using this)⟩
/-- Things go over: to another world, other colours. -/
theorem SepAt.to {c c' : Nat → Nat} {b : Nat} {W W1 : World} (n : Nat) : ∀ {L : List SA} {i : Nat}, SepAt c b W i L → (∀ k j, i ≤ j → c k = j → k < W.heap.size → b ≤ k → c' k = j + n ∧ W1.heap[k]? = W.heap[k]?) → SepAt c' b W1 (i + n) L
  | [], _, _, _ => trivial
  | A :: L, i, h, hc => ⟨A.mono (fun k hk => (hc k i (Nat.le_refl _) hk.1 hk.2.2 hk.2.1).1) (A.mv (A.bd h.1) (fun k hk _ => (hc k i (Nat.le_refl _) hk.1 hk.2.2 hk.2.1).2)), by
      have := SepAt.to (i := i + 1) n h.2 (fun k j hj => hc k j (by omega))
      rw [show i + 1 + n = i + n + 1 from by omega] at this
      exact this⟩
theorem Sep.nil (w : World) : Sep w w [] := ⟨Below.refl _ _, fun _ => 0, trivial⟩
theorem Sep.below {w0 W W1 : World} {L : List SA} (h : Sep w0 W L) (hb : Below W.heap.size W W1) : Sep w0 W1 L := by
  obtain ⟨h1, c, h2⟩ := h
  exact ⟨below_step h1 hb, c, SepAt.to 0 h2 (fun k j _ hk hlt _ => ⟨hk, hb.block k hlt⟩)⟩
theorem Sep.drewN {w0 W : World} {L : List SA} (h : Sep w0 W L) (n : Nat) : Sep w0 (W.drewN n) L := h.below (pw_below_drewN (Below.refl _ _) n)
theorem Sep.drew {w0 W : World} {L : List SA} (h : Sep w0 W L) : Sep w0 W.drew L := h.below (below_drew (Below.refl _ _))
/-- What has just been made (several things, apart from each other). -/
theorem Sep.news {w0 W W1 : World} {L As : List SA} (h : Sep w0 W L) (hb : Below W.heap.size W W1) (ha : ∃ c, SepAt c W.heap.size W1 0 As) : Sep w0 W1 (As ++ L) := by
  obtain ⟨h1, c, h2⟩ := h
  obtain ⟨ca, h3⟩ := ha
  have hlow : ∀ {i : Nat} {L : List SA}, SepAt ca W.heap.size W1 i L → SepAt ca w0.heap.size W1 i L := by
    intro i L
    induction L generalizing i with
    | nil => exact fun _ => trivial
    | cons A L ih => exact fun h => ⟨A.lower h1.size h.1, ih h.2⟩
  refine ⟨below_step h1 hb, fun k => if k < W.heap.size then c k + As.length else if ca k < As.length then ca k else As.length + L.length, SepAt.of (fun j hj => ?_)⟩
  by_cases hja : j < As.length
  · have := SepAt.get j h3 hja
    rw [getD_app_l hja]
    refine SA.lower _ h1.size (SA.mono _ (fun k hk => ?_) (SA.bd _ this))
    show (if k < W.heap.size then c k + As.length else if ca k < As.length then ca k else As.length + L.length) = 0 + j
    rw [if_neg (by omega), if_pos (by omega)]
    exact hk.1
  · rw [getD_app_r (by omega)]
    have := SepAt.get (j - As.length) (SepAt.to (c' := c) 0 h2 (fun k j _ hk hlt _ => ⟨hk, hb.block k hlt⟩)) (by rw [List.length_append] at hj; omega)
    have h4 := SepAt.get (j - As.length) h2 (by rw [List.length_append] at hj; omega)
    refine SA.mono _ (fun k hk => ?_) (SA.mv _ (SA.bd _ h4) (fun k hk _ => hb.block k hk.2.2))
    show (if k < W.heap.size then c k + As.length else if ca k < As.length then ca k else As.length + L.length) = 0 + j
    rw [if_pos hk.2.2, hk.1]
    omega
theorem Sep.new {w0 W W1 : World} {L : List SA} {A : SA} {ok : Nat → Prop} (h : Sep w0 W L) (hb : Below W.heap.size W W1) (ha : A.P W.heap.size ok W1) : Sep w0 W1 (A :: L) :=
  Sep.news (As := [A]) h hb ⟨fun _ => 0, A.mono (fun _ _ => rfl) ha, trivial⟩
/-- A choice of them, in another order. -/
def selL (L : List SA) (is : List Nat) : List SA := is.map fun i => L.getD i nA
theorem Sep.sel {w0 W : World} {L : List SA} (h : Sep w0 W L) (is : List Nat) (hn : (is.Nodup ∧ ∀ i ∈ is, i < L.length) := by exact of_decide_eq_true rfl) : Sep w0 W (selL L is) := by
  obtain ⟨h1, c, h2⟩ := h
  obtain ⟨hn, hl⟩ := hn
  refine ⟨h1, fun k => is.idxOf (c k), SepAt.of (fun j hj => ?_)⟩
  have hj' : j < is.length := by simpa [selL] using hj
  have e : (selL L is).getD j nA = L.getD is[j] nA := by
    unfold selL
    rw [List.getD_eq_getElem?_getD, List.getElem?_map, List.getElem?_eq_getElem hj']
    rfl
  rw [e]
  have h3 := SepAt.get is[j] h2 (hl _ (List.getElem_mem hj'))
  refine SA.mono _ (fun k hk => ?_) h3
  show is.idxOf (c k) = 0 + j
  rw [hk, Nat.zero_add, Nat.zero_add]
  exact idxOf_at hn j hj'
theorem Sep.at {w0 W : World} {L : List SA} (h : Sep w0 W L) (i : Nat) {A : SA} (e : L.getD i nA = A := by rfl) (hi : i < L.length := by exact of_decide_eq_true rfl) : ∃ ok, A.P w0.heap.size ok W := by
  obtain ⟨h1, c, h2⟩ := h
  subst e
  exact ⟨_, SepAt.get i h2 hi⟩
theorem Sep.rdS {w0 W : World} {L : List SA} (h : Sep w0 W L) (i : Nat) {α : Type} {d : Kd α} {t : Nat} {A : Option Addr} {n c : Nat} {xs : List α} (e : L.getD i nA = sA d t (.slice A n c) xs := by rfl) (hi : i < L.length := by exact of_decide_eq_true rfl) : n = xs.length ∧ n ≤ c ∧ d.C W A xs.length xs := by
  obtain ⟨ok, h⟩ := h.at i e hi
  exact Kd.S_reads' h
theorem Sep.rdR {w0 W : World} {L : List SA} (h : Sep w0 W L) (i : Nat) {α : Type} {d : Kd α} {t : Nat} {A : Option Addr} {n c : Nat} {xs : List α} (e : L.getD i nA = rA d t (.slice A n c) xs := by rfl) (hi : i < L.length := by exact of_decide_eq_true rfl) : n = xs.length ∧ n ≤ c ∧ d.C W A xs.length xs := by
  obtain ⟨ok, h⟩ := h.at i e hi
  exact Kd.R_reads' h
theorem Sep.slS {w0 W : World} {L : List SA} (h : Sep w0 W L) (i : Nat) {α : Type} {d : Kd α} {t : Nat} {v : Value} {xs : List α} (e : L.getD i nA = sA d t v xs := by rfl) (hi : i < L.length := by exact of_decide_eq_true rfl) : ∃ A c, v = .slice A xs.length c := by
  obtain ⟨ok, h⟩ := h.at i e hi
  exact Kd.S_slice h
theorem Sep.slR {w0 W : World} {L : List SA} (h : Sep w0 W L) (i : Nat) {α : Type} {d : Kd α} {t : Nat} {v : Value} {xs : List α} (e : L.getD i nA = rA d t v xs := by rfl) (hi : i < L.length := by exact of_decide_eq_true rfl) : ∃ A c, v = .slice A xs.length c := by
  obtain ⟨ok, h⟩ := h.at i e hi
  exact Kd.R_slice h
theorem Sep.blk {w0 W : World} {L : List SA} (h : Sep w0 W L) (i : Nat) {g : Nat} {cs : Array Value} {t : TypeId} (e : L.getD i nA = bA g cs t := by rfl) (hi : i < L.length := by exact of_decide_eq_true rfl) : Aside0 (W.heap[g]? = some (.cells cs t (0, 0))) := by
  obtain ⟨ok, h⟩ := h.at i e hi
  exact ⟨h.2⟩
theorem Sep.ge {w0 W : World} {L : List SA} (h : Sep w0 W L) (i : Nat) {g : Nat} {cs : Array Value} {t : TypeId} (e : L.getD i nA = bA g cs t := by rfl) (hi : i < L.length := by exact of_decide_eq_true rfl) : w0.heap.size ≤ g := by
  obtain ⟨ok, h⟩ := h.at i e hi
  exact h.1.2
/-- The first one has been written (it may have grown), the others not. -/
theorem Sep.wr {w0 W W1 : World} {A' : SA} {L : List SA} {c : Nat → Nat} (ht : SepAt c w0.heap.size W 1 L) (hk : Kept W W1 (fun k => c k = 0)) (hb : Below w0.heap.size w0 W1) (ha : A'.P w0.heap.size (fun k => c k = 0 ∨ W.heap.size ≤ k) W1) : Sep w0 W1 (A' :: L) := by
  refine ⟨hb, fun k => if k < W.heap.size then c k else 0, ?_, ?_⟩
  · refine SA.mono _ (fun k hk => ?_) ha
    show (if k < W.heap.size then c k else 0) = 0
    rcases hk with hk | hk
    · rw [hk]; split <;> rfl
    · rw [if_neg (by omega)]
  · refine SepAt.to (i := 1) 0 ht (fun k j hj hkj hlt _ => ⟨?_, hk.2 k hlt (fun e => by omega)⟩)
    show (if k < W.heap.size then c k else 0) = j + 0
    rw [if_pos hlt]
    exact hkj
/-- A store into a block that is the first one. -/
theorem Sep.put {w0 W : World} {g : Nat} {cs : Array Value} {t : TypeId} {L : List SA} (h : Sep w0 W (bA g cs t :: L)) (j : Nat) (u : Value) (cs' : Array Value) (e : cs' = cs.set! j u := by rfl) : Sep w0 (W.setCell ⟨g, j, none⟩ u) (bA g cs' t :: L) := by
  obtain ⟨h1, c, ⟨⟨h2, h3⟩, h4⟩, h5⟩ := h
  refine ⟨below_set h1 h3, c, ⟨⟨h2, h3⟩, ?_⟩, ?_⟩
  · subst e
    exact blk_put h4 j u (by simp)
  · refine SepAt.to (i := 1) 0 h5 (fun k q hq hkq _ _ => ⟨hkq, Below.heap_setCell W ⟨g, j, none⟩ u k (fun e => ?_)⟩)
    have h2' : c g = 0 := h2
    have : c k = 0 := by rw [show k = g from e]; exact h2'
    omega
theorem Sep.box {w0 W W1 : World} {L : List SA} {g : Nat} {cs : Array Value} {t : TypeId} (h : Sep w0 W L) (hg : g = W.heap.size) (ho : W1.heap[g]? = some (.cells cs t (0, 0))) (hb : Below W.heap.size W W1) : Sep w0 W1 (bA g cs t :: L) :=
  h.new hb (A := bA g cs t) (ok := fun _ => True) ⟨⟨trivial, by rw [hg]; exact Nat.le_refl _⟩, ho⟩
theorem Sep.put5 {w0 W : World} {g : Nat} {z0 z1 z2 z3 z4 : Value} {t : TypeId} {L : List SA} (h : Sep w0 W (bA g #[z0, z1, z2, z3, z4] t :: L)) (a0 a1 a2 a3 a4 : Value) :
    Sep w0 (((((W.setCell ⟨g, 0, none⟩ a0).setCell ⟨g, 1, none⟩ a1).setCell ⟨g, 2, none⟩ a2).setCell ⟨g, 3, none⟩ a3).setCell ⟨g, 4, none⟩ a4) (bA g #[a0, a1, a2, a3, a4] t :: L) :=
  ((((h.put 0 a0 _).put 1 a1 _).put 2 a2 _).put 3 a3 _).put 4 a4 _
theorem List_getD_set {α : Type} {z : α} : ∀ (L : List α) (i j : Nat) (x : α), (L.set i x).getD j z = if i = j ∧ j < L.length then x else L.getD j z
  | [], _, _, _ => by simp
  | a :: L, 0, 0, x => by simp
  | a :: L, 0, j + 1, x => by simp
  | a :: L, i + 1, 0, x => by simp
  | a :: L, i + 1, j + 1, x => by
    have := List_getD_set (z := z) L i j x
    simp only [List.set_cons_succ, List.length_cons, Nat.add_lt_add_iff_right, Nat.add_right_cancel_iff]
    simpa using this
/-- A store into a block, wherever it stands. -/
theorem Sep.putI {w0 W : World} {L : List SA} {g : Nat} {cs : Array Value} {t : TypeId} (h : Sep w0 W L) (i j : Nat) (u : Value) (cs' : Array Value) (e : L.getD i nA = bA g cs t := by rfl) (hi : i < L.length := by exact of_decide_eq_true rfl) (ec : cs' = cs.setIfInBounds j u := by rfl) : Sep w0 (W.setCell ⟨g, j, none⟩ u) (L.set i (bA g cs' t)) := by
  obtain ⟨h1, c, h2⟩ := h
  have h3 := SepAt.get i h2 hi
  rw [e] at h3
  obtain ⟨⟨h4, h5⟩, h6⟩ := h3
  refine ⟨below_set h1 h5, c, SepAt.of (fun q hq => ?_)⟩
  rw [List.length_set] at hq
  have h7 := SepAt.get q h2 hq
  rw [List_getD_set]
  by_cases hqi : i = q
  · subst hqi
    rw [if_pos ⟨rfl, hq⟩]
    subst ec
    exact ⟨⟨h4, h5⟩, blk_put h6 j u rfl⟩
  · rw [if_neg (fun a => hqi a.1)]
    refine SA.mv _ h7 (fun k hk _ => Below.heap_setCell W ⟨g, j, none⟩ u k (fun e => ?_))
    have h4' : c g = 0 + i := h4
    rw [show k = g from e] at hk
    omega
theorem Sep.put5I {w0 W : World} {L : List SA} {g : Nat} {z0 z1 z2 z3 z4 : Value} {t : TypeId} (h : Sep w0 W L) (i : Nat) (a0 a1 a2 a3 a4 : Value) (e : L.getD i nA = bA g #[z0, z1, z2, z3, z4] t := by rfl) (hi : i < L.length := by exact of_decide_eq_true rfl) :
    Sep w0 (((((W.setCell ⟨g, 0, none⟩ a0).setCell ⟨g, 1, none⟩ a1).setCell ⟨g, 2, none⟩ a2).setCell ⟨g, 3, none⟩ a3).setCell ⟨g, 4, none⟩ a4) (L.set i (bA g #[a0, a1, a2, a3, a4] t)) := by
  have e1 : ∀ (cs : Array Value) (L' : List SA), i < L'.length → (L'.set i (bA g cs t)).getD i nA = bA g cs t := fun cs L' h => by rw [List_getD_set, if_pos ⟨rfl, h⟩]
  have l1 : ∀ (A : SA) (L' : List SA), i < L'.length → i < (L'.set i A).length := fun A L' h => by rw [List.length_set]; exact h
  have h0 := h.putI i 0 a0 #[a0, z1, z2, z3, z4] e hi
  have h1 := h0.putI i 1 a1 #[a0, a1, z2, z3, z4] (e1 _ _ hi) (l1 _ _ hi)
  have h2 := h1.putI i 2 a2 #[a0, a1, a2, z3, z4] (e1 _ _ (l1 _ _ hi)) (l1 _ _ (l1 _ _ hi))
  have h3 := h2.putI i 3 a3 #[a0, a1, a2, a3, z4] (e1 _ _ (l1 _ _ (l1 _ _ hi))) (l1 _ _ (l1 _ _ (l1 _ _ hi)))
  have h4 := h3.putI i 4 a4 #[a0, a1, a2, a3, a4] (e1 _ _ (l1 _ _ (l1 _ _ (l1 _ _ hi)))) (l1 _ _ (l1 _ _ (l1 _ _ (l1 _ _ hi))))
  rw [List.set_set, List.set_set, List.set_set, List.set_set] at h4
  exact h4
theorem Sep.gen {w0 W : World} {L : List SA} (h : Sep w0 W L) : ∃ W', W = W' ∧ Sep w0 W' L := ⟨W, rfl, h⟩
end Go.Proofs.YtmhdjkbfghfajaaW.PrintMore
