import Derived.Test.YtkgogglnipdcfaaProg
import Derived.Test.YtkgogglnipdcfaaSq
import Derived.Shelf.SlSortCmp.NoneTotal
import Derived.Test.YtkgogglnipdcfaaCpt
namespace Go.Proofs.YtkgogglnipdcfaaW.PrintMore
open Go.RowKit Go.Shelf Go.Lib Go.Proofs.YtkgogglnipdcfaaW.PrintWords Go.Proofs.YtkgogglnipdcfaaW.PrintLast
set_option linter.unusedVariables false
set_option linter.unusedSimpArgs false
/-! ### rows whose elements are told by their cells alone -/
section
variable {α : Type} [Inhabited α] {enc : α → List Value} {k : Nat}
theorem flat_get (hk : ∀ x, (enc x).length = k) (xs : List α) (t : Nat) (ht : t < xs.length * k) (hq : t / k < xs.length) : (Sort.flatK enc k xs.toArray).toList[t]? = (enc xs[t / k])[t % k]? := by
  rw [Array.getElem?_toList]
  have k0 : 0 < k := by rcases Nat.eq_zero_or_pos k with h | h; · subst h; simp at ht
                        · exact h
  have hs : t < (Sort.flatK enc k xs.toArray).size := by simpa using ht
  have hm : t % k < (enc xs[t / k]).length := by rw [hk]; exact Nat.mod_lt _ k0
  rw [Array.getElem?_eq_getElem hs, ← getElem!_pos (Sort.flatK enc k xs.toArray) t hs, Sort.get_flatK enc k _ t (by simpa using ht), List.getElem?_eq_getElem hm]
  rw [getElem!_pos (xs.toArray) (t / k) (by simpa using hq)]
  simp only [List.getElem_toArray]
  rw [getElem!_pos (enc xs[t / k]) (t % k) hm]
theorem flat_of_reps (hk : ∀ x, (enc x).length = k) {xs : List α} {inner : List Value} (h : Reps (fun x cs => cs = enc x) k xs inner) : inner = (Sort.flatK enc k xs.toArray).toList := by
  apply List.ext_getElem?
  intro t
  rcases Nat.lt_or_ge t (xs.length * k) with ht | ht
  · have k0 : 0 < k := by rcases Nat.eq_zero_or_pos k with h | h; · subst h; simp at ht
                          · exact h
    have hq : t / k < xs.length := Nat.div_lt_of_lt_mul (by rwa [Nat.mul_comm])
    rw [flat_get hk xs t ht hq]
    have h2 : (inner.drop (t / k * k)).take k = enc xs[t / k] := h.2 (t / k) _ (List.getElem?_eq_getElem hq)
    rw [← h2, List.getElem?_take_of_lt (Nat.mod_lt _ k0), List.getElem?_drop]
    congr 1
    exact (Nat.div_add_mod' t k).symm
  · have h1 := h.1
    rw [List.getElem?_eq_none (show inner.length ≤ t by omega), List.getElem?_eq_none (show (Sort.flatK enc k xs.toArray).toList.length ≤ t by rw [Array.length_toList, Sort.size_flatK, List.size_toArray]; exact ht)]
theorem reps_flat (hk : ∀ x, (enc x).length = k) (xs : List α) : Reps (fun x cs => cs = enc x) k xs (Sort.flatK enc k xs.toArray).toList := by
  refine ⟨by simp, fun q x hx => ?_⟩
  obtain ⟨hq, rfl⟩ := List.getElem?_eq_some_iff.1 hx
  apply List.ext_getElem?
  intro j
  rcases Nat.lt_or_ge j k with hj | hj
  · rw [List.getElem?_take_of_lt hj, List.getElem?_drop]
    have e1 : (q * k + j) / k = q := by rw [Nat.mul_comm, Nat.mul_add_div (by omega), Nat.div_eq_of_lt hj, Nat.add_zero]
    have e2 : (q * k + j) % k = j := by rw [Nat.mul_comm, Nat.mul_add_mod, Nat.mod_eq_of_lt hj]
    have hb : q * k + k ≤ xs.length * k := by have := Nat.mul_le_mul_right k (show q + 1 ≤ xs.length from hq); rwa [Nat.add_mul, Nat.one_mul] at this
    have hq' : (q * k + j) / k < xs.length := by rw [e1]; exact hq
    rw [flat_get hk xs (q * k + j) (by omega) hq']
    simp only [e1, e2]
  · rw [List.getElem?_take_eq_none hj, List.getElem?_eq_none (show (enc xs[q]).length ≤ j by rw [hk]; exact hj)]
theorem holdsK_of {w : World} {g : Nat} {cur : Array Value} {e : TypeId} (D : Array α) (hb : w.heap[g]? = some (.cells cur e (0, 0))) (ht : cur.toList.take (D.size * k) = (Sort.flatK enc k D).toList) : Sort.HoldsK enc k w g 0 D := by
  intro j hj
  have hj' : j < D.size * k := by simpa using hj
  refine ⟨?_, by simp [World.frozen?, hb]⟩
  have h1 := congrArg (fun l => l[j]?) ht
  simp only [List.getElem?_take_of_lt hj', Array.getElem?_toList] at h1
  rw [blk_cell hb, Nat.zero_add, h1, Array.getElem?_eq_getElem hj, getElem!_pos (Sort.flatK enc k D) j hj]
  rfl
theorem heap_put {w : World} {g n : Nat} {os : Array Obj} {cur : Array Value} {e : TypeId} (F : Array Value) (hb : w.heap[g]? = some (.cells cur e (0, 0))) :
    (Sort.grow (Sort.putRow id (Sort.ahead w n) g 0 F) os).heap[g]? = some (.cells (Sort.putCells id 0 F cur) e (0, 0)) := by
  have hg : g < w.heap.size := (Array.getElem?_eq_some_iff.1 hb).1
  rw [Sort.heap_grow_old _ _ (by simpa using hg)]
  simp [Sort.putRow, Sort.mapBlock, Sort.ahead, Array.getElem?_modify, hb, Sort.onCells]
theorem grown_put {w : World} {g n : Nat} {os : Array Obj} (F : Array Value) : w.grownBy (Sort.grow (Sort.putRow id (Sort.ahead w n) g 0 F) os) (some g) := by
  refine ⟨rfl, rfl, rfl, by simp, fun i hi hne => ?_⟩
  rw [Sort.heap_grow_old _ _ (by simpa using hi)]
  have : g ≠ i := fun e => hne (by rw [e])
  simp [Sort.putRow, Sort.mapBlock, Sort.ahead, Array.getElem?_modify, this]
theorem take_put (cur F : Array Value) (m : Nat) (h : F.size ≤ cur.size) (hm : m ≤ F.size) : (Sort.putCells id 0 F cur).toList.take m = F.toList.take m := by
  apply List.ext_getElem?
  intro j
  by_cases hj : j < m
  · rw [List.getElem?_take_of_lt hj, List.getElem?_take_of_lt hj, Array.getElem?_toList, Array.getElem?_toList, Array.getElem?_eq_getElem (show j < F.size by omega)]
    have : j < cur.size := by omega
    simp [Sort.putCells, show j < F.size by omega, this]
  · rw [List.getElem?_take_eq_none (by omega), List.getElem?_take_eq_none (by omega)]
end
/-- An element is told by its cells. -/
def Flat {α : Type} (d : Kd α) (enc : α → List Value) : Prop := (∀ w base ok x cs, d.M w base ok x cs ↔ cs = enc x) ∧ (∀ x, (enc x).length = d.sz) ∧ ∀ x, ∀ v ∈ enc x, v.oneCell' = true
section
variable {α : Type} [Inhabited α] {d : Kd α} {enc : α → List Value} {e : Nat} {w0 w : World} {base : Nat} {ok : Nat → Prop} {v : Value} {xs : List α}
theorem Flat.own (hF : Flat d enc) (h : d.R e w base ok v xs) : (∀ k, v.ownBlock = some k → ok k) ∧ w.ownsRow base e d.sz v xs.length (Sort.flatK enc d.sz xs.toArray).toList := by
  obtain ⟨h0, inner, ho, hr⟩ := h
  refine ⟨h0, ?_⟩
  rw [← flat_of_reps hF.2.1 (hr.imp_ (fun x cs hx => (hF.1 _ _ _ _ _).1 hx))]
  exact ho
theorem Flat.row (hF : Flat d enc) (h0 : ∀ k, v.ownBlock = some k → ok k) (ho : w.ownsRow base e d.sz v xs.length (Sort.flatK enc d.sz xs.toArray).toList) : d.R e w base ok v xs :=
  ⟨h0, _, ho, (reps_flat hF.2.1 xs).imp_ (fun x cs hx => (hF.1 _ _ _ _ _).2 hx)⟩
/-- What a library function that writes into its row alone leaves. -/
theorem Flat.put (hF : Flat d enc) {g cap n : Nat} {os : Array Obj} {D : Array α} {F : Array Value} (hB : Below w0.heap.size w0 w) (h : d.R e w w0.heap.size ok (.slice (some ⟨g, 0, none⟩) xs.length cap) xs) (hD : D.size = xs.length) (hFs : F.size = D.size * d.sz) (m : Nat) (hm : m ≤ xs.length)
    (hFt : F.toList.take (m * d.sz) = (Sort.flatK enc d.sz D).toList.take (m * d.sz)) :
    d.R e (Sort.grow (Sort.putRow id (Sort.ahead w n) g 0 F) os) w0.heap.size (fun k_ => ok k_ ∨ w.heap.size ≤ k_) (.slice (some ⟨g, 0, none⟩) m cap) (D.toList.take m) ∧ Below w0.heap.size w0 (Sort.grow (Sort.putRow id (Sort.ahead w n) g 0 F) os) ∧ Kept w (Sort.grow (Sort.putRow id (Sort.ahead w n) g 0 F) os) ok := by
  obtain ⟨h0, ho⟩ := hF.own h
  have hg0 : ok g := h0 g rfl
  rcases ho.2 with ⟨h1, _⟩ | ⟨g', cap', cur, h1, hb, hh, hc, hm', hs, ht⟩
  · cases h1
  injection h1 with e1 _ e2
  injection e1 with e1
  injection e1 with e1
  subst e1 e2
  have hl : (D.toList.take m).length = m := by simp; omega
  have hmk : m * d.sz ≤ D.size * d.sz := Nat.mul_le_mul_right _ (by omega)
  have hck : D.size * d.sz ≤ cap * d.sz := Nat.mul_le_mul_right _ (by omega)
  refine ⟨?_, hB.grown (grown_put F) hB.size (fun k hk => by cases hk; exact hb), (Kept.refl w ok).of_grown (grown_put F) (fun k hk => by cases hk; exact .inl hg0)⟩
  have hF2 : (Sort.flatK enc d.sz (D.toList.take m).toArray).toList = (Sort.flatK enc d.sz D).toList.take (m * d.sz) := by
    apply List.ext_getElem?
    intro t
    rcases Nat.lt_or_ge t (m * d.sz) with h2 | h2
    · have k0 : 0 < d.sz := by rcases Nat.eq_zero_or_pos d.sz with h | h; · rw [h] at h2; simp at h2
                               · exact h
      have hq : t / d.sz < m := Nat.div_lt_of_lt_mul (by rwa [Nat.mul_comm])
      have hq1 : t / d.sz < (D.toList.take m).length := by rw [hl]; exact hq
      have hq2 : t / d.sz < D.toList.length := by simp; omega
      have e3 := flat_get hF.2.1 D.toList t (by rw [Array.length_toList]; omega) hq2
      rw [Array.toArray_toList] at e3
      rw [List.getElem?_take_of_lt h2, flat_get hF.2.1 (D.toList.take m) t (by rw [hl]; exact h2) hq1, e3]
      simp
    · rw [List.getElem?_take_eq_none h2, List.getElem?_eq_none (show (Sort.flatK enc d.sz (D.toList.take m).toArray).toList.length ≤ t by rw [Array.length_toList, Sort.size_flatK, List.size_toArray, hl]; exact h2)]
  refine hF.row (fun k hk => by cases hk; exact .inl hg0) ⟨by simp, .inr ⟨g, cap, _, by rw [hl], hb, heap_put F hh, by rw [hl]; omega, hm', by simp [Sort.putCells, hs], ?_⟩⟩
  rw [hl, hF2, take_put _ _ _ (by rw [hFs, hs]; omega) (by rw [hFs]; omega), hFt]
end
/-! ### the sort and the compacting, as steps of a printed walk -/
def sortC_ren : Go.Shelf.Ren := ⟨fun | 6 => 201 | 14 => 229 | 15 => 230 | 20 => 241 | 21 => 242 | 22 => 243 | 23 => 244 | 24 => 245 | 25 => 246 | 26 => 247 | 27 => 248 | 28 => 249 | 29 => 250 | 46 => 261 | 47 => 262 | 48 => 263 | 49 => 264 | 50 => 265 | 57 => 269 | n => n, fun | 0 => 0 | 3 => 3 | 4 => 4 | 5 => 5 | 9 => 9 | 22 => 70 | 24 => 85 | 25 => 217 | 39 => 228 | 45 => 241 | 46 => 242 | 50 => 121 | 53 => 248 | 55 => 149 | 66 => 256 | 70 => 260 | 76 => 264 | 77 => 265 | n => n, fun n => n⟩
theorem sortC : Go.Proofs.SlLaysF0.n6 Try.prog sortC_ren := { mixed := by kernel_rfl, f6 := ⟨Try.f201.name, by decide, Try.func201.trans (congrArg some (by kernel_rfl))⟩, f14 := ⟨Try.f229.name, by decide, Try.func229.trans (congrArg some (by kernel_rfl))⟩, f15 := Try.func230.trans (congrArg some (by kernel_rfl)), f20 := ⟨Try.f241.name, by decide, Try.func241.trans (congrArg some (by kernel_rfl))⟩, f21 := ⟨Try.f242.name, by decide, Try.func242.trans (congrArg some (by kernel_rfl))⟩, f22 := ⟨Try.f243.name, by decide, Try.func243.trans (congrArg some (by kernel_rfl))⟩, f23 := ⟨Try.f244.name, by decide, Try.func244.trans (congrArg some (by kernel_rfl))⟩, f24 := ⟨Try.f245.name, by decide, Try.func245.trans (congrArg some (by kernel_rfl))⟩, f25 := ⟨Try.f246.name, by decide, Try.func246.trans (congrArg some (by kernel_rfl))⟩, f26 := ⟨Try.f247.name, by decide, Try.func247.trans (congrArg some (by kernel_rfl))⟩, f27 := ⟨Try.f248.name, by decide, Try.func248.trans (congrArg some (by kernel_rfl))⟩, f28 := Try.func249.trans (congrArg some (by kernel_rfl)), f29 := Try.func250.trans (congrArg some (by kernel_rfl)), f46 := ⟨Try.f261.name, by decide, Try.func261.trans (congrArg some (by kernel_rfl))⟩, f47 := Try.func262.trans (congrArg some (by kernel_rfl)), f48 := Try.func263.trans (congrArg some (by kernel_rfl)), f49 := ⟨Try.f264.name, by decide, Try.func264.trans (congrArg some (by kernel_rfl))⟩, f50 := ⟨Try.f265.name, by decide, Try.func265.trans (congrArg some (by kernel_rfl))⟩, f57 := ⟨Try.f269.name, by decide, Try.func269.trans (congrArg some (by kernel_rfl))⟩, t0 := Try.underlying0, a0 := Try.isAgg0, z0 := Try.sizeOf0, v0 := Try.zeroValue0, t3 := Try.underlying3, a3 := Try.isAgg3, z3 := Try.sizeOf3, v3 := Try.zeroValue3, t4 := Try.underlying4, a4 := Try.isAgg4, z4 := Try.sizeOf4, v4 := Try.zeroValue4, t5 := Try.underlying5, a5 := Try.isAgg5, z5 := Try.sizeOf5, v5 := Try.zeroValue5, t9 := Try.underlying9, a9 := Try.isAgg9, z9 := Try.sizeOf9, v9 := Try.zeroValue9, t22 := Try.underlying70, a22 := Try.isAgg70, z22 := Try.sizeOf70, v22 := Try.zeroValue70, t25 := Try.underlying217, a25 := Try.isAgg217, z25 := Try.sizeOf217, v25 := Try.zeroValue217, t39 := Try.underlying228, a39 := Try.isAgg228, z39 := Try.sizeOf228, v39 := Try.zeroValue228, t45 := Try.underlying241, a45 := Try.isAgg241, z45 := Try.sizeOf241, v45 := Try.zeroValue241, t46 := Try.underlying242, a46 := Try.isAgg242, z46 := Try.sizeOf242, v46 := Try.zeroValue242, t50 := Try.underlying121, a50 := Try.isAgg121, z50 := Try.sizeOf121, v50 := Try.zeroValue121, t53 := Try.underlying248, a53 := Try.isAgg248, z53 := Try.sizeOf248, v53 := Try.zeroValue248, t55 := Try.underlying149, a55 := Try.isAgg149, z55 := Try.sizeOf149, v55 := Try.zeroValue149, t66 := Try.underlying256, a66 := Try.isAgg256, z66 := Try.sizeOf256, v66 := Try.zeroValue256, t70 := Try.underlying260, a70 := Try.isAgg260, z70 := Try.sizeOf260, v70 := Try.zeroValue260, t76 := Try.underlying264, a76 := Try.isAgg264, z76 := Try.sizeOf264, v76 := Try.zeroValue264, t77 := Try.underlying265, a77 := Try.isAgg265, z77 := Try.sizeOf265, v77 := Try.zeroValue265 }

section
variable {α : Type} [Inhabited α] {d : Kd α} {enc : α → List Value} {w0 w : World} {P0 : Nat → Prop} {v : Value} {xs : List α}
theorem sort_step (hF : Flat d enc) (zE : ∀ w, (Go.sizeOf 85).run Try.prog w = .ok d.sz w) (aE : ∀ w, (isAgg 85).run Try.prog w = .ok true w) (cf : α → α → Int) (hO : Sort.SWO (Go.Proofs.ltOf cf)) (hT : ∀ x y, Go.Proofs.ltOf cf x y = false → Go.Proofs.ltOf cf y x = false → x = y)
    (hcmp : ∀ (W : World) (x y : α), Calls Try.prog 202 #[.agg (enc x).toArray, .agg (enc y).toArray] W fun e w' => e = .returned (.int .i64 (cf x y)) ∧ ∃ q os, w' = Sort.grow (W.drewN q) os)
    (hB : Below w0.heap.size w0 w) (h : d.R 85 w w0.heap.size P0 v xs) (hl : xs.length < 4611686018427387904) :
    Calls Try.prog 201 #[v, .func (.func 202) #[] #[]] w fun e w' => e = .returned (.tuple #[]) ∧ d.R 85 w' w0.heap.size (fun k_ => P0 k_ ∨ w.heap.size ≤ k_) v (xs.mergeSort fun x y => !(Go.Proofs.ltOf cf) y x) ∧ Below w0.heap.size w0 w' ∧ Kept w w' (fun k_ => P0 k_) := by
  obtain ⟨h0, ho⟩ := hF.own h
  rcases ho.2 with ⟨rfl, hn⟩ | ⟨g, cap, cur, rfl, hb, hh, hc, hm, hs, ht⟩
  · have e0 : xs = [] := List.eq_nil_of_length_eq_zero hn
    subst e0
    refine (Go.Proofs.AnyF.slices_SortFunc_none sortC none 0 _ w).mono ?_
    rintro e w' ⟨rfl, rfl⟩
    exact ⟨rfl, by rw [List.mergeSort_nil]; exact Kd.R_mono h (fun k hk => .inl hk), hB, Kept.refl _ _⟩
  · have hH : Sort.HoldsK enc d.sz w g 0 xs.toArray := holdsK_of xs.toArray hh (by rw [List.size_toArray]; exact ht)
    have hlt : g < w.heap.size := blk_lt hh
    refine (Go.Proofs.AnyQ.slices_SortFunc_total sortC d.sz aE zE enc hF.2.1 hF.2.2 cf hO 202 #[] g 0 cap xs.toArray w (fun args w => enters_ Try.func202 rfl rfl args w) (fun m os dk hdk x y => hcmp _ x y) hH hlt (by simpa using hl) hT).mono ?_
    rintro e w' ⟨rfl, n, os, rfl⟩
    have hp := hF.put (n := n) (os := os) (D := (xs.mergeSort fun x y => !(Go.Proofs.ltOf cf) y x).toArray) (F := Sort.flatK enc d.sz (xs.mergeSort fun x y => !(Go.Proofs.ltOf cf) y x).toArray) hB h (by simp) (by simp) xs.length (Nat.le_refl _) rfl
    rw [List.take_of_length_le (by simp)] at hp
    exact ⟨rfl, hp.1, hp.2.1, hp.2.2⟩
theorem compact_step [DecidableEq α] (hF : Flat d enc) (zE : ∀ w, (Go.sizeOf 85).run Try.prog w = .ok d.sz w) (aE : ∀ w, (isAgg 85).run Try.prog w = .ok true w) (k0 : 0 < d.sz)
    (heq : ∀ (x y : α) (w : World), Sem.run Try.prog (binOp .eql 85 (.agg (enc x).toArray) (.agg (enc y).toArray)) w = .ok (.bool (decide (x = y))) w)
    (hne : ∀ (x y : α) (w : World), Sem.run Try.prog (binOp .neq 85 (.agg (enc x).toArray) (.agg (enc y).toArray)) w = .ok (.bool (!decide (x = y))) w)
    (hgd : ∀ (op : BinOp) (a b : Operand) (x y : α) (w : World), Sem.run Try.prog (eqGuard op 85 a b (.agg (enc x).toArray) (.agg (enc y).toArray)) w = .ok () w)
    (z : Value) (vE : ∀ w, (zeroValue 85).run Try.prog w = .ok z w) (hz : z.cells.size = d.sz) (hz1 : ∀ v ∈ z.cells.toList, v.oneCell' = true)
    (hB : Below w0.heap.size w0 w) (h : d.R 85 w w0.heap.size P0 v xs) :
    Calls Try.prog 203 #[v] w fun e w' => ∃ v0_ : Value, e = .returned (v0_) ∧ d.R 85 w' w0.heap.size (fun k_ => (P0 k_ ∨ w.heap.size ≤ k_)) v0_ (Lib.compactUpTo xs.toArray xs.length) ∧ Below w0.heap.size w0 w' ∧ Kept w w' (fun k_ => P0 k_) := by
  obtain ⟨h0, ho⟩ := hF.own h
  rcases ho.2 with ⟨rfl, hn⟩ | ⟨g, cap, cur, rfl, hb, hh, hc, hm, hs, ht⟩
  · have e0 : xs = [] := List.eq_nil_of_length_eq_zero hn
    subst e0
    go_enter Try.func203, Try.ntmps203
    go_wp2
    go_ret
    exact ⟨_, rfl, Kd.R_mono h (fun k hk => .inl hk), hB, Kept.refl _ _⟩
  · have hH : Sort.HoldsK enc d.sz w g 0 xs.toArray := holdsK_of xs.toArray hh (by rw [List.size_toArray]; exact ht)
    have hlt : g < w.heap.size := blk_lt hh
    refine (Go.Proofs.YtkgogglnipdcfaaC.compact_ d.sz zE aE enc hF.2.1 hF.2.2 heq hne hgd z vE hz hz1 k0 g 0 cap xs.toArray w hH hlt (by simp; unfold maxLen at hm; omega) (by simpa using hc)).mono ?_
    rintro e w' ⟨rfl, dk, n, os, F, f1, f2, f3, f4, rfl⟩
    simp only [List.size_toArray] at f1 f2 f3 f4 ⊢
    have hle : (Lib.compactUpTo xs.toArray xs.length).length ≤ xs.length := by
      have e1 := congrArg List.length f2
      rw [List.length_take, show dk.toList.length = xs.length from (Array.length_toList (xs := dk)).trans f1] at e1
      omega
    have hp := hF.put (n := n) (os := os) (D := dk) (F := F) hB h f1 (by rw [f3, f1]) _ hle f4
    rw [f2] at hp
    exact ⟨_, rfl, hp.1, hp.2.1, hp.2.2⟩
end
/-! ### how far a walk has drawn -/
section
variable {P : Program} {ops : Array Oper} {rest : List Oper} {o : Oper} {a : Act} {Q : Exit → Act → World → Prop} {Kc : Act → World → Prop}
theorem box_eventD {W : World} (hgd : o.guard = none) {N : Tmp} (_hd : o.dst = some N) {cs : Array Value} {t : TypeId}
    (hrun : (execOp a.eval o).run P W = .ok (.value (.pointer (some ⟨W.heap.size, 0, none⟩))) (W.alloc (.cells cs t (0, 0))))
    (h : ∀ g, g = W.heap.size → ∀ w1, w1.heap[g]? = some (.cells cs t (0, 0)) → Below W.heap.size W w1 → w1.drawn = W.drawn → wpList P ops Q rest (a.put o.dst (.pointer (some ⟨g, 0, none⟩))) w1) : wpList P ops Q (o :: rest) a W :=
  Kd.event_run hgd hrun (h _ rfl _ (blk_new W _) (below_alloc (Below.refl _ _) _) rfl)
end
theorem R_lit_stepD {P : Program} {ops : Array Oper} {o : Oper} {a : Act} {Q : Exit → Act → World → Prop} {Kc : Act → World → Prop} {α : Type} (d : Kd α) {w0 W : World} (base e : Nat) (hw : Region.wanted o (yielded ops a.tmps) = true) {N : Tmp} (_hd : o.dst = some N) {xs : List α} {inner : List Value} {ok okp : Nat → Prop}
    (hrun : (execOp a.eval o).run P W = .ok (.value (.slice (some ⟨W.heap.size, 0, none⟩) xs.length xs.length)) (W.alloc (.cells inner.toArray e)))
    (hrep : Reps (d.M W base okp) d.sz xs inner) (hok : ∀ k, okp k → ok k) (hfresh : ok W.heap.size) (HB : Below base w0 W) (hbase : base ≤ W.heap.size) (hm : xs.length ≤ 9223372036854775807)
    (h : ∀ v1 w1, d.R e w1 base ok v1 xs → Below base w0 w1 → W.grownBy w1 none → (∃ b, v1.ownBlock = some b ∧ W.heap.size ≤ b) → w1.drawn = W.drawn → Kc (a.put o.dst v1) w1) : if Region.wanted o (yielded ops a.tmps) = true then Oper.wp P o a W Kc Q else Kc (a.put o.dst undef) W := by
  refine event_step hw hrun (h _ _ ⟨fun k hk => ?_, inner, ?_, ?_⟩ (HB.alloc hbase _) (World.grownBy_alloc W _ none) ⟨W.heap.size, by simp [Value.ownBlock], Nat.le_refl _⟩ rfl)
  · have e1 : W.heap.size = k := by simpa [Value.ownBlock] using hk
    exact e1 ▸ hfresh
  · have h2 := World.ownsRow_lit (base := base) (e := e) (size := d.sz) W inner.toArray xs.length hbase (by simpa [maxLen] using hm) (by simpa using hrep.1)
    simpa using h2
  · refine hrep.imp_ (fun p c hp => d.M_mono (fun k hk => ⟨hok k hk.1, fun he => ?_⟩) (Kd.M_below (d.M_bound hp) (below_alloc (Below.refl _ _) _)))
    have h3 : k = W.heap.size := by simpa [Value.ownBlock] using he
    have := hk.2.2.1
    omega
theorem drn (w : World) (n : Nat) : (w.drewN n).drawn = w.drawn + n := rfl
theorem drn1 (w : World) : w.drew.drawn = w.drawn + 1 := rfl
theorem laid_of {w w' : World} (h : Below w.heap.size w w') (hd : w.drawn ≤ w'.drawn) : ∃ q os, w' = Sort.grow (w.drewN q) os := by
  refine ⟨w'.drawn - w.drawn, w'.heap.extract w.heap.size w'.heap.size, ?_⟩
  cases w with
  | mk hp tp dr os out =>
  cases w' with
  | mk hp' tp' dr' os' out' =>
  obtain ⟨h1, h2, h3, h4, h5⟩ := h
  dsimp only at h1 h2 h3 h4 h5 hd
  subst h1 h2 h3
  have e1 : hp' = hp ++ hp'.extract hp.size hp'.size := by
    apply Array.ext_getElem?
    intro i
    rcases Nat.lt_or_ge i hp.size with hi | hi
    · rw [Array.getElem?_append_left hi]
      exact h5 i hi
    · rw [Array.getElem?_append_right hi, Array.getElem?_extract]
      simp only [Nat.min_self]
      rw [Nat.add_sub_cancel' hi]
      split
      · rfl
      · exact Array.getElem?_eq_none (by omega)
  have e2 : dr' = dr + (dr' - dr) := by omega
  simp only [Sort.grow, World.drewN]
  rw [← e1, ← e2]
end Go.Proofs.YtkgogglnipdcfaaW.PrintMore
