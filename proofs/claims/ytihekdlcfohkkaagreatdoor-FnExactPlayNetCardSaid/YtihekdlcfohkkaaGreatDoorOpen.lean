import Derived.Test.YtihekdlcfohkkaaGreatDoorWMore
import Derived.Test.YtihekdlcfohkkaaGreatDoorWSized
import Derived.ChangeArms
import Derived.ChangeSame
import Derived.WideShapes
import Derived.OpenShut
import Derived.ShutString
import Derived.ChangeOld
/-! What an argument's reading gives: a plain value, and that its memory reads as that value's kind says. For kinds of any depth. -/
namespace Go.Proofs.YtihekdlcfohkkaaGreatDoor.Open
open Go.RowKit Go.Proofs.YtihekdlcfohkkaaGreatDoorW.PrintWords
set_option linter.unusedVariables false

def Opens {α : Type} (P : Program) (t : TypeId) (d : Kd α) (G : α → Prop) : Prop :=
  ∀ (H : Type) (enc : TypeId × Value → H) (w : World) (held : Bool) (n : Nat) (cs : List Value) (x : DataW H × List MemPlace), DataW.trod enc P w 0 (fun _ => true) held n t cs = some x → ∃ v : α, d.K w v cs ∧ G v

variable {P : Program}

theorem opens_int {t : TypeId} {k : IntKind} (ht : P.underlying t = some (.int k)) : Opens P t (Kd.int k) (fun n => (Lit.int k n).wf = true) := by
  intro H enc w held n cs x h
  cases n with
  | zero => simp [DataW.trod] at h
  | succ n =>
    unfold DataW.trod at h
    rw [ht] at h
    split at h <;> simp_all
    all_goals (refine ⟨_, rfl, ?_⟩; simp_all)

theorem opens_bool {t : TypeId} (ht : P.underlying t = some .bool) : Opens P t Kd.bool (fun _ => True) := by
  intro H enc w held n cs x h
  cases n with
  | zero => simp [DataW.trod] at h
  | succ n =>
    unfold DataW.trod at h
    rw [ht] at h
    split at h <;> simp_all
    all_goals (rename_i b _; cases b <;> simp [Kd.bool, Kd.scalar])

theorem opens_string {t : TypeId} (ht : P.underlying t = some .string) : Opens P t Kd.string (fun s => s.size ≤ maxLen) := by
  intro H enc w held n cs x h
  cases n with
  | zero => simp [DataW.trod] at h
  | succ n =>
    unfold DataW.trod at h
    rw [ht] at h
    split at h <;> simp_all
    all_goals (refine ⟨_, rfl, ?_⟩; simp_all)

theorem cells_some {w : World} {a : Addr} {n : Nat} {cs : List Value} (h : w.cells? 0 a n = some cs) : cs.length = n ∧ ∀ (j : Nat) u, cs[j]? = some u → w.cell? (a.add j) = some u := by
  unfold World.cells? at h
  split at h
  · have hl := Go.mapM_some_length h
    simp only [List.length_range] at hl
    refine ⟨hl, fun j u hj => ?_⟩
    have hj' : j < n := by have := (List.getElem?_eq_some_iff.1 hj).1; omega
    have := Go.mapM_some_get h j j (by simp [hj'])
    rw [hj] at this
    exact this
  · cases h

theorem choose_list {α : Type} {n : Nat} {Q : Nat → α → Prop} (h : ∀ i, i < n → ∃ v, Q i v) : ∃ xs : List α, xs.length = n ∧ ∀ i x, xs[i]? = some x → Q i x := by
  induction n with
  | zero => exact ⟨[], rfl, fun i x hx => by simp at hx⟩
  | succ n ih =>
    obtain ⟨xs, hl, hx⟩ := ih (fun i hi => h i (by omega))
    obtain ⟨v, hv⟩ := h n (by omega)
    refine ⟨xs ++ [v], by simp [hl], fun i x hi => ?_⟩
    rcases Nat.lt_or_ge i n with h1 | h1
    · rw [List.getElem?_append_left (by omega)] at hi
      exact hx i x hi
    · have : i = n := by have := (List.getElem?_eq_some_iff.1 hi).1; simp [hl] at this; omega
      subst this
      have : v = x := by simpa [hl] using hi
      subst this
      exact hv

theorem add_add (a : Addr) (i j : Nat) : (a.add i).add j = a.add (i + j) := by
  by_cases hi : i = 0
  · subst hi; simp [Addr.add]
  · by_cases hj : j = 0
    · subst hj; simp [Addr.add]
    · simp [Addr.add, hi, hj, Nat.add_assoc]

theorem opens_slice {α : Type} {t e : TypeId} {d : Kd α} {G : α → Prop} (ht : P.underlying t = some (.slice e)) (hc : P.cellsOf e = d.sz) (he : Opens P e d G) :
    Opens P t (Kd.slice e d) (fun l => l.length ≤ maxLen ∧ ∀ x ∈ l, G x) := by
  intro H enc w held n cs x h
  rcases DataW.trod_slice ht h with ⟨rfl, _⟩ | ⟨a, len, cap, elems, rest, m, _, rfl, _, _, hl, hm, hlen, hel, _, _⟩
  · exact ⟨[], ⟨none, 0, rfl, Nat.le_refl _, rfl, Nat.zero_le _, fun h => absurd h (Nat.lt_irrefl _)⟩, Nat.zero_le _, fun x hx => by simp at hx⟩
  · have each : ∀ i, i < len → ∃ v : α, (∃ c, c.length = d.sz ∧ d.K w v c ∧ ∀ j u, c[j]? = some u → w.cell? (a.add (i * d.sz + j)) = some u) ∧ G v := by
      intro i hi
      have hE := hel i hi
      rw [hc] at hE
      have hs : ∃ y, elems[i]? = some y := ⟨elems[i]'(by omega), List.getElem?_eq_getElem (by omega)⟩
      obtain ⟨y, hy⟩ := hs
      rw [hy, Option.bind_eq_some_iff] at hE
      obtain ⟨c, hc1, hy1⟩ := hE
      obtain ⟨v, hv, hg⟩ := he H enc w held m c y hy1
      obtain ⟨hcl, hcc⟩ := cells_some hc1
      refine ⟨v, ⟨c, hcl, hv, fun j u hj => ?_⟩, hg⟩
      have := hcc j u hj
      rwa [add_add] at this
    obtain ⟨xs, hxl, hx⟩ := choose_list each
    subst hxl
    refine ⟨xs, ⟨some a, cap, rfl, hl, rfl, Nat.le_trans hl hm, fun _ => ⟨a, rfl, fun j p hj => ?_⟩⟩, Nat.le_trans hl hm, fun x hx' => ?_⟩
    · obtain ⟨c, h1, h2, h3⟩ := (hx j p hj).1
      exact ⟨c, h1, h2, h3⟩
    · obtain ⟨i, hi⟩ := List.mem_iff_getElem?.1 hx'
      exact (hx i x hi).2

/-- The fields of a struct, from one offset on. -/
def Fits {α : Type} (P : Program) (fs : List Field) (off : Nat) (d : Kd α) (G : α → Prop) : Prop :=
  ∀ (H : Type) (enc : TypeId × Value → H) (w : World) (held : Bool) (n : Nat) (cs : List Value), (∀ f ∈ fs, ∃ x, DataW.trod enc P w 0 (fun _ => true) held n f.type ((cs.drop f.offset).take (P.cellsOf f.type)) = some x) → ∃ v : α, d.K w v ((cs.drop off).take d.sz) ∧ G v

theorem fits_one {α : Type} {f : Field} {off : Nat} {d : Kd α} {G : α → Prop} (ho : f.offset = off) (hc : P.cellsOf f.type = d.sz) (h : Opens P f.type d G) : Fits P [f] off d G := by
  intro H enc w held n cs hf
  obtain ⟨x, hx⟩ := hf f (by simp)
  rw [ho, hc] at hx
  exact h H enc w held n _ x hx

theorem fits_cons {α β : Type} {f : Field} {fs : List Field} {off : Nat} {d : Kd α} {G : α → Prop} {ds : Kd β} {Gs : β → Prop} (ho : f.offset = off) (hc : P.cellsOf f.type = d.sz) (h : Opens P f.type d G) (hs : Fits P fs (off + d.sz) ds Gs) :
    Fits P (f :: fs) off (Kd.pair d ds) (fun x => G x.1 ∧ Gs x.2) := by
  intro H enc w held n cs hf
  obtain ⟨v, hv, hg⟩ := fits_one ho hc h H enc w held n cs (fun g hg => hf g (by simp at hg; simp [hg]))
  obtain ⟨u, hu, hgu⟩ := hs H enc w held n cs (fun g hg => hf g (by simp [hg]))
  refine ⟨(v, u), ⟨_, _, ?_, hv, hu⟩, hg, hgu⟩
  show (cs.drop off).take (d.sz + ds.sz) = _
  rw [List.take_add, List.drop_drop]

theorem opens_struct {α : Type} {t : TypeId} {fs : Array Field} {d : Kd α} {G : α → Prop} (ht : P.underlying t = some (.struct fs)) (hc : P.cellsOf t = d.sz) (h : Fits P fs.toList 0 d G) : Opens P t d G := by
  intro H enc w held n cs x hx
  obtain ⟨xs, m, _, _, hl, hlen, hf⟩ := DataW.trod_struct ht hx
  obtain ⟨v, hv, hg⟩ := h H enc w held m cs (fun f hfm => by
    obtain ⟨i, hi⟩ := List.mem_iff_getElem?.1 hfm
    have hi' : fs[i]? = some f := by simpa using hi
    have hlt : i < xs.length := by rw [hlen]; exact (Array.getElem?_eq_some_iff.1 hi').1
    exact ⟨_, (hf i f hi').trans (List.getElem?_eq_getElem hlt)⟩)
  refine ⟨v, ?_, hg⟩
  rwa [List.drop_zero, ← hc, ← hl, List.take_length] at hv

theorem opens_iso {α β : Type} {t : TypeId} {d : Kd α} {G : α → Prop} (f : β → α) (g : α → β) (hfg : ∀ a, f (g a) = a) (h : Opens P t d G) : Opens P t (Kd.iso d f) (fun x => G (f x)) := by
  intro H enc w held n cs x hx
  obtain ⟨v, hv, hg⟩ := h H enc w held n cs x hx
  refine ⟨g v, ?_, ?_⟩
  · show d.K w (f (g v)) cs
    rw [hfg]
    exact hv
  · show G (f (g v))
    rw [hfg]
    exact hg

end Go.Proofs.YtihekdlcfohkkaaGreatDoor.Open
