import Derived.Test.YtkgogglnipdcfaaProg
import Derived.Shelf.SlSortCmp.KitK
import Derived.Shelf.RegionOpenPlain
import Derived.WalkKit
import Derived.Deep.LoopGhost
import Derived.Deep.Draws
import Derived.Lib.Walk
import Derived.Lib.SliceRun
import Derived.Lib.SlicesCompact
/-! slices.Compact over elements of several cells -/
namespace Go.Proofs.YtkgogglnipdcfaaC
open Go.Shelf Go.RowKit Go.Lib Go.Sort
set_option linter.unusedVariables false
set_option linter.unusedSimpArgs false
section
variable {α : Type} [Inhabited α]
theorem setMany_put (enc : α → List Value) (k : Nat) (hk : ∀ x, (enc x).length = k) (d : Array α) (i : Nat) (hi : i < d.size) (x : α) :
    setMany (flatK enc k d) (i * k) (enc x) = flatK enc k (d.setIfInBounds i x) := by
  refine ext_get! (by simp) fun t ht => ?_
  have ht' : t < d.size * k := by simpa using ht
  have k0 : 0 < k := by rcases Nat.eq_zero_or_pos k with h | h; · subst h; simp at ht'
                        · exact h
  rw [get_setMany _ _ _ t (by simpa using ht'), get_flatK _ _ _ t ht', get_flatK _ _ _ t (by simpa using ht'), hk]
  by_cases a : t / k = i
  · rw [if_pos ((blk_iff k i t k0).2 a), a, getElem!_set_same d i x hi]
    congr 1
    subst a
    rw [Nat.mod_eq_sub_div_mul]
  · rw [if_neg (fun h => a ((blk_iff k i t k0).1 h)), getElem!_set_other d i (t / k) x a]
theorem SWK.put {enc : α → List Value} {k : Nat} {w0 W : World} {blk off : Nat} {dk : Array α} (h : SWK enc k w0 blk off dk W) (hk : ∀ x, (enc x).length = k) (hblk : blk < w0.heap.size) (i : Nat) (hi : i < dk.size) (x : α) :
    SWK enc k w0 blk off (dk.setIfInBounds i x) (W.setCells blk (off + i * k) (enc x)) := by
  obtain ⟨n, os, rfl⟩ := h
  refine ⟨n, os, ?_⟩
  unfold sortWorldK
  rw [← putRowK_grow enc k (Sort.ahead w0 n) os blk off dk hblk, ← putRowK_grow enc k (Sort.ahead w0 n) os blk off _ hblk]
  unfold putRowK
  rw [setCells_putRow _ _ _ _ _ _ (by rw [hk, size_flatK]; exact rowK_bnd dk k i hi), setMany_put enc k hk dk i hi x]
/-- What the row's cells are behind the clearing. -/
theorem SWK.cleared {enc : α → List Value} {k : Nat} {w0 W : World} {blk off : Nat} {dk : Array α} (h : SWK enc k w0 blk off dk W) (hblk : blk < w0.heap.size) (m : Nat) (vs : List Value) (hm : m * k + vs.length ≤ dk.size * k) :
    ∃ n os F, F.size = dk.size * k ∧ F.toList.take (m * k) = (flatK enc k dk).toList.take (m * k) ∧ W.setCells blk (off + m * k) vs = grow (putRow id (Sort.ahead w0 n) blk off F) os := by
  obtain ⟨n, os, rfl⟩ := h
  refine ⟨n, os, setMany (flatK enc k dk) (m * k) vs, by simp, ?_, ?_⟩
  · apply List.ext_getElem?
    intro t
    rcases Nat.lt_or_ge t (m * k) with ht | ht
    · have h1 : t < (flatK enc k dk).size := by rw [size_flatK]; omega
      have h2 : t < (setMany (flatK enc k dk) (m * k) vs).size := by rw [size_setMany]; exact h1
      have e := get_setMany vs (m * k) (flatK enc k dk) t h1
      rw [if_neg (by omega), getElem!_pos _ t h2, getElem!_pos _ t h1] at e
      rw [List.getElem?_take_of_lt ht, List.getElem?_take_of_lt ht, Array.getElem?_toList, Array.getElem?_toList, Array.getElem?_eq_getElem h1, Array.getElem?_eq_getElem h2, e]
    · rw [List.getElem?_take_eq_none ht, List.getElem?_take_eq_none ht]
  · unfold sortWorldK
    rw [← putRowK_grow enc k (Sort.ahead w0 n) os blk off dk hblk]
    unfold putRowK
    rw [setCells_putRow _ _ _ _ _ _ (by rw [size_flatK]; exact hm)]
    exact putRow_grow id (Sort.ahead w0 n) os blk off _ hblk
/-- What came of the row: its first elements, what the cells hold. -/
def Left (enc : α → List Value) (k : Nat) (w : World) (blk off : Nat) (d : Array α) (l : List α) (w' : World) : Prop :=
  ∃ (dk : Array α) (n : Nat) (os : Array Obj) (F : Array Value), dk.size = d.size ∧ dk.toList.take l.length = l ∧ F.size = d.size * k ∧ F.toList.take (l.length * k) = (flatK enc k dk).toList.take (l.length * k) ∧ w' = grow (putRow id (Sort.ahead w n) blk off F) os
theorem Left.of {enc : α → List Value} {k : Nat} {w W : World} {blk off : Nat} {d dk : Array α} (h : SWK enc k w blk off dk W) (hs : dk.size = d.size) (l : List α) (hl : dk.toList.take l.length = l) : Left enc k w blk off d l W := by
  obtain ⟨n, os, rfl⟩ := h
  exact ⟨dk, n, os, flatK enc k dk, hs, hl, by rw [size_flatK, hs], rfl, rfl⟩
end
variable {α : Type} [Inhabited α] [DecidableEq α]
theorem low_take {d dk : Array α} {kk : Nat} (h : CompInv d d.size kk dk) : dk.toList.take (compactUpTo d d.size).length = compactUpTo d d.size := by
  have h0 := h.size
  have h1 := h.lt
  rw [h.len]
  apply List.ext_getElem?
  intro j
  rcases Nat.lt_or_ge j kk with hj | hj
  · rw [List.getElem?_take_of_lt hj, h.low j hj, Array.getElem?_toList, Array.getElem?_eq_getElem (show j < dk.size by omega), getElem!_pos dk j (by omega)]
  · rw [List.getElem?_take_eq_none hj, List.getElem?_eq_none (by rw [h.len]; exact hj)]
theorem run_clearK {P : Program} (w : World) (t e ty : TypeId) (z : Value) (ht : P.underlying t = some (.slice e)) (hv : ∀ w, (zeroValue e).run P w = .ok z w) (b o n c : Nat) (hn : 0 < n)
    (hst : (storeCells ⟨b, o, none⟩ (Builtin.zeroCells z.cells n).toList 0).run P w = .ok () (w.setCells b o (Builtin.zeroCells z.cells n).toList)) :
    (Builtin.clear_ #[t] ty #[.slice (some ⟨b, o, none⟩) n c]).run P w = .ok (.tuple #[]) (w.setCells b o (Builtin.zeroCells z.cells n).toList) := by
  obtain ⟨m, rfl⟩ : ∃ m, n = m + 1 := ⟨n - 1, by omega⟩
  simp [Builtin.clear_, run_underlying ht, hv, hst]
theorem zero_one (zs : Array Value) (k : Nat) (hz : zs.size = k) (k0 : 0 < k) (h : ∀ v ∈ zs.toList, v.oneCell' = true) (n : Nat) : ∀ v ∈ (Builtin.zeroCells zs n).toList, v.oneCell' = true := by
  intro v hv
  simp only [Builtin.zeroCells, Array.toList_map, List.mem_map] at hv
  obtain ⟨i, hi, rfl⟩ := hv
  have hm : i % zs.size < zs.size := Nat.mod_lt _ (by omega)
  refine h _ ?_
  first | (rw [getElem!_pos zs _ hm]; exact Array.getElem_mem_toList hm) | simp
set_option maxHeartbeats 4000000 in
set_option maxRecDepth 1000000 in
theorem compact_ (k : Nat) (zE : ∀ w, (Go.sizeOf 85).run Try.prog w = .ok k w) (aE : ∀ w, (isAgg 85).run Try.prog w = .ok true w) (enc : α → List Value) (hk : ∀ x, (enc x).length = k) (h1 : ∀ x, ∀ v ∈ enc x, v.oneCell' = true)
    (heq : ∀ (x y : α) (w : World), Sem.run Try.prog (binOp .eql 85 (.agg (enc x).toArray) (.agg (enc y).toArray)) w = .ok (.bool (decide (x = y))) w)
    (hne : ∀ (x y : α) (w : World), Sem.run Try.prog (binOp .neq 85 (.agg (enc x).toArray) (.agg (enc y).toArray)) w = .ok (.bool (!decide (x = y))) w)
    (hgd : ∀ (op : BinOp) (a b : Operand) (x y : α) (w : World), Sem.run Try.prog (eqGuard op 85 a b (.agg (enc x).toArray) (.agg (enc y).toArray)) w = .ok () w)
    (z : Value) (v85 : ∀ w, (zeroValue 85).run Try.prog w = .ok z w) (hz : z.cells.size = k) (hz1 : ∀ v ∈ z.cells.toList, v.oneCell' = true) (k0 : 0 < k)
    (blk off cap : Nat) (d : Array α) (w : World) (hH : HoldsK enc k w blk off d) (hblk : blk < w.heap.size) (hsz : d.size ≤ 9223372036854775807) (hcap : d.size ≤ cap) :
    Calls Try.prog 203 #[.slice (some ⟨blk, off, none⟩) d.size cap] w fun e w' => e = .returned (.slice (some ⟨blk, off, none⟩) (compactUpTo d d.size).length cap) ∧ Left enc k w blk off d (compactUpTo d d.size) w' := by
  have mixed : Try.prog.follows .mixedOrders = true := by kernel_rfl
  have t0 := Try.underlying0; have a0 := Try.isAgg0; have z0 := Try.sizeOf0; have v0 := Try.zeroValue0
  have t3 := Try.underlying3; have a3 := Try.isAgg3; have z3 := Try.sizeOf3; have v3 := Try.zeroValue3
  have t4 := Try.underlying4; have a4 := Try.isAgg4; have z4 := Try.sizeOf4; have v4 := Try.zeroValue4
  have t70 := Try.underlying70; have a70 := Try.isAgg70; have z70 := Try.sizeOf70; have v70 := Try.zeroValue70
  have R : RowK enc k w blk off d := ⟨hk, h1, hH, hblk⟩
  have S0 : Aside (SWK enc k w blk off d w) := SWK.start hH
  have RR : Aside (RowK enc k w blk off d) := R
  have same : Aside (∀ W, (∀ j, j < d.size → keeps d j = true) → SWK enc k w blk off d W → (compactUpTo d d.size).length = d.size ∧ Left enc k w blk off d (compactUpTo d d.size) W) := by
    intro W hall hW
    have e : compactUpTo d d.size = d.toList := by rw [compactUpTo_all d _ hall, range_map_get]
    rw [e]
    exact ⟨by simp, Left.of hW rfl _ (by rw [List.take_length])⟩
  clear R hH
  by_cases h2 : d.size < 2
  · go_enter Try.func203, Try.ntmps203
    go_wp2
    go_ret
    obtain ⟨e1, e2⟩ := same.out w (fun j hj => keeps_lt_one d j (by omega)) S0.out
    exact ⟨by rw [e1]; rfl, e2⟩
  · go_enter Try.func203, Try.ntmps203
    go_wp2
    go_loopg [3] d.size (fun g s3 wr => ∃ kk : Nat, 1 ≤ kk ∧ kk ≤ d.size ∧ d.size - kk ≤ g ∧ s3 = .int .i64 kk ∧ Aside (SWK enc k w blk off d wr) ∧ Aside (∀ j, j < kk → keeps d j = true))
    case atStart => exact ⟨1, Nat.le_refl _, by omega, by omega, rfl, S0, keeps_lt_one d⟩
    case round =>
      obtain ⟨kk, hk1, hkd, hg, rfl, S1, A⟩ := hrel
      clear S0
      by_cases hlt : kk < d.size
      · have l1 : Sem.run Try.prog (loadCellsFrom ⟨blk, off + kk * k, none⟩ 0 k #[]) wr.drew = .ok (enc d[kk]!).toArray wr.drew := S1.out.drew.load RR.out rfl _ kk hlt
        have l0 : Sem.run Try.prog (loadCellsFrom ⟨blk, off + (kk - 1) * k, none⟩ 0 k #[]) wr.drew = .ok (enc d[kk - 1]!).toArray wr.drew := S1.out.drew.load RR.out rfl _ (kk - 1) (by omega)
        generalize hx : d[kk]! = x at l1
        generalize hy : d[kk - 1]! = y at l0
        have B : Aside (d[kk]! = x ∧ d[kk - 1]! = y) := ⟨hx, hy⟩
        clear hx hy
        by_cases hdup : x = y
        · subst hdup
          go_wp2_with fail
          go_region_o
          go_wp2
          clear l0 l1
          go_loopg [3, 5] d.size (fun g s3 s5 wr2 => ∃ (kc k2 : Nat) (dk : Array α), s3 = .int .i64 kc ∧ s5 = .int .i64 k2 ∧ 1 ≤ k2 ∧ kk + k2 ≤ d.size ∧ d.size - (kk + k2) ≤ g ∧ kc < kk + k2 ∧ dk.size = d.size ∧ Aside (SWK enc k w blk off dk wr2) ∧ Aside (CompInv d (kk + k2) kc dk))
          case atStart =>
            have I0 : CompInv d (kk + 1) kk d := CompInv.start A.out (keeps_neg (by omega) (by rw [B.out.1, B.out.2]))
            exact ⟨kk, 1, d, rfl, rfl, Nat.le_refl _, by omega, by omega, I0.lt, rfl, S1.out.drew, I0⟩
          case round =>
            obtain ⟨kc, k2, dk, rfl, rfl, h1', hle, hg2, hkc, hds, S2, I2⟩ := hrel
            by_cases hlt2 : kk + k2 < d.size
            · have em : dk[kk + k2]! = d[kk + k2]! := I2.out.high (kk + k2) (by omega)
              have ep : dk[kk + k2 - 1]! = d[kk + k2 - 1]! := I2.out.high (kk + k2 - 1) (by omega)
              have hmul : off + kk * k + k2 * k = off + (kk + k2) * k := by rw [Nat.add_mul, Nat.add_assoc]
              have hmul' : off + kk * k + (k2 - 1) * k = off + (kk + k2 - 1) * k := by rw [Nat.add_assoc, ← Nat.add_mul, show kk + (k2 - 1) = kk + k2 - 1 by omega]
              have l1 : Sem.run Try.prog (loadCellsFrom ⟨blk, off + kk * k + k2 * k, none⟩ 0 k #[]) wr.drew = .ok (enc d[kk + k2]!).toArray wr.drew := by
                rw [hmul, ← em]; exact S2.out.drew.load RR.out hds _ (kk + k2) (by omega)
              have l0 : Sem.run Try.prog (loadCellsFrom ⟨blk, off + kk * k + (k2 - 1) * k, none⟩ 0 k #[]) wr.drew = .ok (enc d[kk + k2 - 1]!).toArray wr.drew := by
                rw [hmul', ← ep]; exact S2.out.drew.load RR.out hds _ (kk + k2 - 1) (by omega)
              clear em ep hmul'
              generalize hu : d[kk + k2]! = u at l1
              generalize hv : d[kk + k2 - 1]! = v at l0
              have C : Aside (d[kk + k2]! = u ∧ d[kk + k2 - 1]! = v) := ⟨hu, hv⟩
              have HM : Aside (off + kk * k + k2 * k = off + (kk + k2) * k) := hmul
              clear hu hv hmul
              by_cases huv : u = v
              · subst huv
                go_wp2_with fail
                go_region_o
                go_wp2
                go_roundg (d.size - (kk + (k2 + 1)))
                case measure => omega
                case rel => exact ⟨kc, k2 + 1, dk, rfl, by go_num, by omega, by omega, Nat.le_refl _, by omega, hds, S2.out.drew, I2.out.skip (keeps_neg (by omega) (by rw [C.out.1, C.out.2]))⟩
              · have l2 : ∀ W, W = wr.drew → Sem.run Try.prog (storeCells ⟨blk, off + kc * k, none⟩ (enc u) 0) W = .ok () (W.setCells blk (off + kc * k) (enc u)) := by
                  rintro W rfl
                  exact stores_of_holds _ (S2.out.drew.holds RR.out.hblk RR.out.hH hds) (kc * k) _ (by rw [RR.out.hk, size_flatK]; exact rowK_bnd dk k kc (by omega)) (RR.out.h1 _)
                have l3 := l2 _ rfl
                clear l2
                have hsu : (enc u).length = k := RR.out.hk u
                have S3 : Aside (SWK enc k w blk off (dk.setIfInBounds kc u) (wr.drew.setCells blk (off + kc * k) (enc u))) := SWK.put S2.out.drew RR.out.hk RR.out.hblk kc (by omega) u
                go_wp2_with fail
                go_region_o
                go_wp2
                go_roundg (d.size - (kk + (k2 + 1)))
                case measure => omega
                case rel => exact ⟨kc + 1, k2 + 1, dk.setIfInBounds kc u, by go_num, by go_num, by omega, by omega, Nat.le_refl _, by omega, by simpa using hds, S3, by have := I2.out.keep hlt2 (keeps_pos (by rw [C.out.1, C.out.2]; exact huv)); rwa [C.out.1] at this⟩
            · have hend : kk + k2 = d.size := by omega
              have I3 : CompInv d d.size kc dk := by have := I2.out; rwa [hend] at this
              have hlen := I3.len
              have hcd : kc < d.size := I3.lt
              have hzs : (Builtin.zeroCells z.cells (d.size - kc)).toList.length = (d.size - kc) * k := by simp [Builtin.zeroCells, hz]
              have hmk : kc * k + (d.size - kc) * k = d.size * k := by rw [← Nat.add_mul, show kc + (d.size - kc) = d.size by omega]
              have hst : (storeCells ⟨blk, off + kc * k, none⟩ (Builtin.zeroCells z.cells (d.size - kc)).toList 0).run Try.prog wr = .ok () (wr.setCells blk (off + kc * k) (Builtin.zeroCells z.cells (d.size - kc)).toList) :=
                stores_of_holds _ (S2.out.holds RR.out.hblk RR.out.hH hds) (kc * k) _ (by rw [hzs, size_flatK, hds]; omega) (zero_one z.cells k hz k0 hz1 _)
              have hcl : ∀ ty, (Builtin.clear_ #[70] ty #[.slice (some ⟨blk, off + kc * k, none⟩) (d.size - kc) (cap - kc)]).run Try.prog wr = .ok (.tuple #[]) (wr.setCells blk (off + kc * k) (Builtin.zeroCells z.cells (d.size - kc)).toList) :=
                fun ty => run_clearK wr 70 85 ty z t70 v85 blk (off + kc * k) (d.size - kc) (cap - kc) (by omega) hst
              clear hst
              have hL : Aside (Left enc k w blk off d (compactUpTo d d.size) (wr.setCells blk (off + kc * k) (Builtin.zeroCells z.cells (d.size - kc)).toList)) := by
                obtain ⟨n, os, F, f1, f2, f3⟩ := SWK.cleared S2.out RR.out.hblk kc (Builtin.zeroCells z.cells (d.size - kc)).toList (by rw [hzs, hds]; omega)
                exact ⟨dk, n, os, F, hds, low_take I3, by rw [f1, hds], by rw [hlen]; exact f2, f3⟩
              have HL : Aside ((compactUpTo d d.size).length = kc) := hlen
              clear I3 hlen hzs hmk
              generalize (Builtin.zeroCells z.cells (d.size - kc)).toList = zl at hcl hL
              go_wp2
              go_ret
              exact ⟨by rw [HL.out]; rfl, hL.out⟩
        · go_wp2_with fail
          go_region_o
          go_wp2
          go_roundg (d.size - (kk + 1))
          case measure => omega
          case rel =>
            refine ⟨kk + 1, by omega, by omega, Nat.le_refl _, by go_num, S1.out.drew, (show Aside _ from fun j hj => ?_)⟩
            by_cases e : j = kk
            · subst e
              exact keeps_pos (by rw [B.out.1, B.out.2]; exact hdup)
            · exact A.out j (by omega)
      · have : kk = d.size := by omega
        subst this
        go_wp2
        go_ret
        obtain ⟨e1, e2⟩ := same.out wr A.out S1.out
        exact ⟨by rw [e1]; rfl, e2⟩
end Go.Proofs.YtkgogglnipdcfaaC
