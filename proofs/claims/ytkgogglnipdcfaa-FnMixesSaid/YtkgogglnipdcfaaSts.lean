import Derived.Test.YtkgogglnipdcfaaProg
import Derived.Test.YtkgogglnipdcfaaSq
import Derived.RangeFuncBox
import Derived.RangeFuncLeaves
import Derived.Shelf.Abstract
import Derived.WalkKit
import Derived.OwnWalkIn
import Derived.TacticsInMore
import Derived.LoopNIn
import Derived.LoopIn
import Derived.Maps.AppendAt
import Derived.Shelf.SortM.Plain
import Derived.Shelf.SortM.SortNone
import Derived.Sort.OwnSorted
/-! slices.Sorted(slices.Values(l)) at texts -/
namespace Go.Proofs.YtkgogglnipdcfaaW.PrintMore
open Go.RowKit Go.Shelf Go.Sort Go.Proofs.YtkgogglnipdcfaaW.PrintWords Go.Proofs.YtkgogglnipdcfaaW.PrintLast
set_option linter.unusedVariables false
set_option linter.unusedSimpArgs false
attribute [local go_sem] Oper.semAt_some
def stsLay_ren : Go.Shelf.Ren := ⟨fun | 6 => 214 | 8 => 230 | 9 => 234 | 19 => 249 | 20 => 250 | 21 => 251 | 22 => 252 | 23 => 253 | 24 => 254 | 25 => 255 | 26 => 256 | 27 => 216 | 28 => 257 | 29 => 258 | 31 => 262 | 32 => 263 | 36 => 266 | 37 => 267 | 38 => 268 | 39 => 235 | 41 => 270 | n => n, fun | 0 => 0 | 3 => 3 | 4 => 4 | 5 => 5 | 9 => 9 | 26 => 22 | 27 => 22 | 29 => 9 | 32 => 228 | 35 => 241 | 36 => 242 | 41 => 121 | 44 => 248 | 46 => 149 | 53 => 256 | 57 => 260 | 63 => 264 | 64 => 265 | n => n, fun n => n⟩
theorem stsLay : Go.Proofs.SlLaysM.n6 Try.prog stsLay_ren := { mixed := by kernel_rfl, f6 := ⟨Try.f214.name, by decide, Try.func214.trans (congrArg some (by kernel_rfl))⟩, f8 := Try.func230.trans (congrArg some (by kernel_rfl)), f9 := ⟨Try.f234.name, by decide, Try.func234.trans (congrArg some (by kernel_rfl))⟩, f19 := Try.func249.trans (congrArg some (by kernel_rfl)), f20 := Try.func250.trans (congrArg some (by kernel_rfl)), f21 := ⟨Try.f251.name, by decide, Try.func251.trans (congrArg some (by kernel_rfl))⟩, f22 := ⟨Try.f252.name, by decide, Try.func252.trans (congrArg some (by kernel_rfl))⟩, f23 := ⟨Try.f253.name, by decide, Try.func253.trans (congrArg some (by kernel_rfl))⟩, f24 := ⟨Try.f254.name, by decide, Try.func254.trans (congrArg some (by kernel_rfl))⟩, f25 := ⟨Try.f255.name, by decide, Try.func255.trans (congrArg some (by kernel_rfl))⟩, f26 := ⟨Try.f256.name, by decide, Try.func256.trans (congrArg some (by kernel_rfl))⟩, f27 := ⟨Try.f216.name, by decide, Try.func216.trans (congrArg some (by kernel_rfl))⟩, f28 := ⟨Try.f257.name, by decide, Try.func257.trans (congrArg some (by kernel_rfl))⟩, f29 := ⟨Try.f258.name, by decide, Try.func258.trans (congrArg some (by kernel_rfl))⟩, f31 := Try.func262.trans (congrArg some (by kernel_rfl)), f32 := Try.func263.trans (congrArg some (by kernel_rfl)), f36 := ⟨Try.f266.name, by decide, Try.func266.trans (congrArg some (by kernel_rfl))⟩, f37 := ⟨Try.f267.name, by decide, Try.func267.trans (congrArg some (by kernel_rfl))⟩, f38 := ⟨Try.f268.name, by decide, Try.func268.trans (congrArg some (by kernel_rfl))⟩, f39 := ⟨Try.f235.name, by decide, Try.func235.trans (congrArg some (by kernel_rfl))⟩, f41 := ⟨Try.f270.name, by decide, Try.func270.trans (congrArg some (by kernel_rfl))⟩, t0 := Try.underlying0, a0 := Try.isAgg0, z0 := Try.sizeOf0, v0 := Try.zeroValue0, t3 := Try.underlying3, a3 := Try.isAgg3, z3 := Try.sizeOf3, v3 := Try.zeroValue3, t4 := Try.underlying4, a4 := Try.isAgg4, z4 := Try.sizeOf4, v4 := Try.zeroValue4, t5 := Try.underlying5, a5 := Try.isAgg5, z5 := Try.sizeOf5, v5 := Try.zeroValue5, t9 := Try.underlying9, a9 := Try.isAgg9, z9 := Try.sizeOf9, v9 := Try.zeroValue9, t26 := Try.underlying22, a26 := Try.isAgg22, z26 := Try.sizeOf22, v26 := Try.zeroValue22, t27 := Try.underlying22, a27 := Try.isAgg22, z27 := Try.sizeOf22, v27 := Try.zeroValue22, t29 := Try.underlying9, a29 := Try.isAgg9, z29 := Try.sizeOf9, v29 := Try.zeroValue9, t32 := Try.underlying228, a32 := Try.isAgg228, z32 := Try.sizeOf228, v32 := Try.zeroValue228, t35 := Try.underlying241, a35 := Try.isAgg241, z35 := Try.sizeOf241, v35 := Try.zeroValue241, t36 := Try.underlying242, a36 := Try.isAgg242, z36 := Try.sizeOf242, v36 := Try.zeroValue242, t41 := Try.underlying121, a41 := Try.isAgg121, z41 := Try.sizeOf121, v41 := Try.zeroValue121, t44 := Try.underlying248, a44 := Try.isAgg248, z44 := Try.sizeOf248, v44 := Try.zeroValue248, t46 := Try.underlying149, a46 := Try.isAgg149, z46 := Try.sizeOf149, v46 := Try.zeroValue149, t53 := Try.underlying256, a53 := Try.isAgg256, z53 := Try.sizeOf256, v53 := Try.zeroValue256, t57 := Try.underlying260, a57 := Try.isAgg260, z57 := Try.sizeOf260, v57 := Try.zeroValue260, t63 := Try.underlying264, a63 := Try.isAgg264, z63 := Try.sizeOf264, v63 := Try.zeroValue264, t64 := Try.underlying265, a64 := Try.isAgg265, z64 := Try.sizeOf265, v64 := Try.zeroValue265 }
/-! ### slices.Values (170, its iterator 215), slices.AppendSeq (233), slices.Collect (213), slices.Sorted (169) at texts: the element's type 9, the row's 22; slices.Sort (214) by the shelf's contract -/
theorem sts_info : (Try.prog.info? 9).map (fun i => (i.zero, i.size, i.bytes)) = some (some (.string ⟨#[]⟩), 1, 16) := by kernel_rfl
def stsUpto {α : Type} (f : Nat → α) (k : Nat) : List α := (List.range k).map f
theorem stsUpto_succ {α : Type} (f : Nat → α) (k : Nat) : stsUpto f (k + 1) = stsUpto f k ++ [f k] := by simp [stsUpto, List.range_succ]
theorem stsUpto_length {α : Type} (f : Nat → α) (k : Nat) : (stsUpto f k).length = k := by simp [stsUpto]
set_option maxRecDepth 100000 in
set_option maxHeartbeats 2000000 in
theorem sts_round (F : Fence) (n : Nat) (hF : F.fn 215) (hro : F.round = none) (hn : 1 ≤ n) (l Bs n0 len cap : Nat) (A : Option Addr) (f : Nat → ByteArray) (hreach : len ≤ 4194304) (J Jx : List ByteArray → World → Prop)
    (hY : ∀ pre x W, J pre W → pre.length < len → YieldAt F (n - 1) Try.prog l #[.string x] W fun e W' =>
      (e = .returned (.bool true) ∧ J (pre ++ [x]) W' ∧ Below n0 W W') ∨ (e = .returned (.bool false) ∧ Jx (pre ++ [x]) W'))
    (W : World) (hBs : W.cell? ⟨Bs, 0, none⟩ = some (.slice A len cap)) (hc : ∀ j, j < len → ∃ ad : Addr, A = some ad ∧ (ad.add j).block < n0 ∧ W.cell? (ad.add j) = some (.string (f j))) (h0 : J [] W) :
    CallsIn F n Try.prog 215 #[.func (.yield l) #[] #[], .pointer (some ⟨Bs, 0, none⟩)] W fun e W' => (∃ v, e = .returned v) ∧
      ((∃ ys, ys = stsUpto f len ∧ J ys W') ∨ (∃ pre, (∃ k, k ≤ len ∧ pre = stsUpto f k) ∧ Jx pre W')) := by
  refine callsIn_of_wp Try.func215 rfl hF ?_ hro
  simp only [Try.ntmps215, List.size_toArray, List.length_cons, List.length_nil, Nat.reduceAdd, Nat.reduceSub, Array.replicate_succ, Array.replicate_zero, List.push_toArray, List.append_toArray, List.nil_append, List.cons_append]
  gi_wp2
  gi_loopw [7] (fun i wr => ∃ k : Nat, k ≤ len ∧ i = .int .i64 k ∧ J (stsUpto f k) wr ∧ Below n0 W wr)
    (fun i _ => len - (intOf i).toNat)
  case atStart => exact ⟨0, Nat.zero_le _, rfl, h0, Below.refl _ _⟩
  case round =>
    obtain ⟨k, hk, rfl, hJs, hnx⟩ := hrel
    by_cases hlt : k < len
    · obtain ⟨ad, rfl, hb, hcw⟩ := hc k hlt
      have hcx : wr.cell? (ad.add k) = some (.string (f k)) := (hnx.cell (p := ad.add k) hb).trans hcw
      obtain ⟨fn, tmps, assign, body, hy, hR⟩ := hY _ (f k) wr hJs (by rw [stsUpto_length]; exact hlt)
      gi_wp2
      refine hR.mono ?_
      rintro e W3 (⟨rfl, hJ3, hk3⟩ | ⟨rfl, hJx3⟩)
      · gi_wp2
        go_roundw
        case rel => exact ⟨k + 1, by omega, by simp, by rw [stsUpto_succ]; exact hJ3, hnx.trans hk3⟩
        case measure => simp [intOf]; omega
      · gi_wp2
        refine bodyPost_ret (results_none rfl _ _ _) rfl ?_
        exact ⟨⟨_, rfl⟩, .inr ⟨_, ⟨k + 1, by omega, (stsUpto_succ _ _).symm⟩, hJx3⟩⟩
    · obtain rfl : k = len := by omega
      gi_wp2
      go_end0
      exact ⟨⟨_, rfl⟩, .inl ⟨_, rfl, hJs⟩⟩
set_option maxHeartbeats 1000000 in
theorem sts_values (F : Fence) (n : Nat) (hF : F.fn 170) (hro : F.round = none) (a : Option Addr) (len cap : Nat) (w : World) :
    CallsIn F n Try.prog 170 #[.slice a len cap] w fun e w' => e = .returned (.func (.func 215) #[] #[.pointer (some ⟨w.heap.size, 0, none⟩)]) ∧ w' = w.alloc (.cells #[.slice a len cap] 22) := by
  refine callsIn_of_wp Try.func170 rfl hF ?_ hro
  simp only [Try.ntmps170, List.size_toArray, List.length_cons, List.length_nil, Nat.reduceAdd, Nat.reduceSub, Array.replicate_succ, Array.replicate_zero, List.push_toArray, List.append_toArray, List.nil_append, List.cons_append]
  gi_wp2
  go_ret
  exact ⟨rfl, rfl⟩
theorem sts_stops (F : Fence) (n : Nat) (hF : F.fn 215) (hro : F.round = none) (hn : 1 ≤ n) (Bs n0 len cap : Nat) (A : Option Addr) (f : Nat → ByteArray) (hreach : len ≤ 4194304) (w : World) (hBs : Bs < w.heap.size) (hn0 : n0 ≤ w.heap.size)
    (hv : w.cell? ⟨Bs, 0, none⟩ = some (.slice A len cap)) (hc : ∀ j, j < len → ∃ ad : Addr, A = some ad ∧ (ad.add j).block < n0 ∧ w.cell? (ad.add j) = some (.string (f j))) :
    SeqStopsK F n Try.prog 215 #[.pointer (some ⟨Bs, 0, none⟩)] (fun x : ByteArray => #[Value.string x]) (Below n0) (fun ys => ys = stsUpto f len) (fun _ => True) len w := fun l J Jx W hW _ _ hY h0 => by
  refine (sts_round F n hF hro hn l Bs n0 len cap A f hreach J Jx hY W ((hW.cell (p := ⟨Bs, 0, none⟩) hBs).trans hv) (fun j hj => ?_) h0).mono ?_
  · obtain ⟨ad, e, hb, hx⟩ := hc j hj
    exact ⟨ad, e, hb, (hW.cell (p := ad.add j) (Nat.lt_of_lt_of_le hb hn0)).trans hx⟩
  · rintro e W' ⟨he, ⟨ys, rfl, hj⟩ | ⟨pre, _, hj⟩⟩
    · exact ⟨he, .inl ⟨_, rfl, hj⟩⟩
    · exact ⟨he, .inr ⟨_, trivial, hj⟩⟩
set_option maxRecDepth 100000 in
set_option maxHeartbeats 4000000 in
theorem sts_append (F : Fence) (n : Nat) (hF : F.fn 233) (hG : F.fn 215) (hro : F.round = none) (hn : 2 ≤ n) (Bs len cap : Nat) (A : Option Addr) (f : Nat → ByteArray) (hreach : len ≤ 4194304) (w : World) (hBs : Bs < w.heap.size)
    (hv : w.cell? ⟨Bs, 0, none⟩ = some (.slice A len cap)) (hc : ∀ j, j < len → ∃ ad : Addr, A = some ad ∧ (ad.add j).block < w.heap.size ∧ w.cell? (ad.add j) = some (.string (f j))) :
    CallsIn F n Try.prog 233 #[.slice none 0 0, .func (.func 215) #[] #[.pointer (some ⟨Bs, 0, none⟩)]] w fun e W' => ∃ v, e = .returned v ∧ W'.ownsRow w.heap.size 9 1 v (stsUpto f len).length ((stsUpto f len).map Value.string) ∧ Below w.heap.size w W' := by
  have h1 : 1 ≤ n := by omega
  obtain ⟨i0, hi, hz0, hz1, hz2⟩ := info_parts sts_info
  refine callsIn_of_wp_marks Try.func233 rfl hF ?_ hro
  simp only [Try.ntmps233, List.size_toArray, List.length_cons, List.length_nil, Nat.reduceAdd, Nat.reduceSub, Array.replicate_succ, Array.replicate_zero, List.push_toArray, List.append_toArray, List.nil_append, List.cons_append]
  gi_wp2
  have bO := Boxed.new w 22 (.slice none 0 0)
  have hB0 : Below w.heap.size w (w.alloc (.cells #[.slice none 0 0] 22)) := (Below.refl _ w).alloc (Nat.le_refl _) _
  refine wpIn_rangeFunc_ownG hro h1 (gf := 215) (lb := #[.pointer (some ⟨Bs, 0, none⟩)]) rfl hG (enters_of Try.func215 (by kernel_rfl) rfl)
    (sts_stops F (n - 1) hG hro (by omega) Bs w.heap.size len cap A f hreach _ (by simp; omega) (by simp) ((hB0.cell (p := ⟨Bs, 0, none⟩) hBs).trans hv) (fun j hj => by
      obtain ⟨ad, e, hb, hx⟩ := hc j hj
      exact ⟨ad, e, hb, (hB0.cell (p := ad.add j) hb).trans hx⟩)) belowK_t (belowK_b (by simp)) (Below.refl _ _) (fun _ => rfl)
    (fun pre W => (∃ v, Boxed W w.heap.size 22 v ∧ W.ownsRow w.heap.size 9 1 v pre.length (pre.map Value.string)) ∧ Below w.heap.size w W)
    (fun _ _ _ => False)
    (OwnFrom.and (Own.from (fun s X Y row h hg hr => by
      obtain ⟨v, h1, h2, _⟩ := holdsRow_own w.heap.size w.heap.size 22 9 1 (fun pre : List ByteArray => pre.length) (fun pre => pre.map Value.string) (fun _ _ => True) s X Y row (by obtain ⟨v, h1, h2⟩ := h; exact ⟨v, h1, h2, trivial⟩) hg hr
      exact ⟨v, h1, h2⟩) _) (ownFrom_below (Nat.le_refl _) (by simp)))
    (fun _ _ _ _ _ hs _ _ => hs)
    ⟨⟨_, bO, World.ownsRow_nil _ _ _ _⟩, hB0⟩
    (fun x => { tmps := #[.slice none 0 0, .func (.func 215) #[] #[.pointer (some ⟨Bs, 0, none⟩)], .pointer (some ⟨w.heap.size, 0, none⟩), undef, .slice none 0 0, .string x, .func (.func 215) #[] #[.pointer (some ⟨Bs, 0, none⟩)], .string x, undef, undef, undef, undef, undef], defers := [] }) ?assign ?body ?done ?stop
  case assign =>
    intro l x W K hK
    gi_wp2
    exact hK
  case body =>
    rintro l pre x W ⟨⟨v, hv, hrow⟩, hB⟩ hlt
    have hc := hv.cell
    gi_wp2_with (gi_at_builtin; refine wpListIn_append_own _ rfl _ _ 22 rfl w.heap.size 9 i0 (.string ⟨#[]⟩) 1 16 Try.underlying22 hi hz0 hz1 hz2 rfl (by decide) _ _ _ rfl (hrow.alloc _) ⟨W.heap.size, 0, none⟩ 1 1 [.string x] rfl rfl (cell_one_new _ _ _) (by simp [Value.oneCell']) (by unfold maxLen; omega) (by omega) (by have := hB.size; simp; omega) ?_; intro v' w1 hown' hgrow _; obtain ⟨g', cap', rfl⟩ := ownsRow_succ hown'; obtain ⟨hv1, hv2, hr2, hk2, hb2⟩ := hv.appended (by decide) hrow hB.size (Nat.le_refl _) hown' hgrow; have hc1 := hv1.cell; have hf1 := hv1.frozen)
    exact ⟨hk2.from _, hb2, ⟨_, hv2, by simpa using hr2⟩, hB.trans hb2⟩
  case done =>
    rintro D ys W hD rfl ⟨⟨v, hv, hrow⟩, hB⟩ hK
    have hc := hv.cell
    gi_wp2
    refine ⟨by simp, .inl ⟨_, _, rfl, run_takeDeferred hK, ?_⟩⟩
    exact ⟨_, results_tmp rfl _ _ _, v, rfl, ownsRow_putObj hrow _ hK rfl, hB.trans (belowK_b (w := w) (Nat.le_refl _) W D _ _ (by simp at hD; omega) hK rfl rfl)⟩
  case stop =>
    rintro D c pre W _ _ h _
    exact h.elim
set_option maxHeartbeats 1000000 in
theorem sts_collect (F : Fence) (n : Nat) (hF : F.fn 213) (hA : F.fn 233) (hG : F.fn 215) (hro : F.round = none) (hn : 3 ≤ n) (Bs len cap : Nat) (A : Option Addr) (f : Nat → ByteArray) (hreach : len ≤ 4194304) (w : World) (hBs : Bs < w.heap.size)
    (hv : w.cell? ⟨Bs, 0, none⟩ = some (.slice A len cap)) (hc : ∀ j, j < len → ∃ ad : Addr, A = some ad ∧ (ad.add j).block < w.heap.size ∧ w.cell? (ad.add j) = some (.string (f j))) :
    CallsIn F n Try.prog 213 #[.func (.func 215) #[] #[.pointer (some ⟨Bs, 0, none⟩)]] w fun e W' => ∃ v, e = .returned v ∧ W'.ownsRow w.heap.size 9 1 v (stsUpto f len).length ((stsUpto f len).map Value.string) ∧ Below w.heap.size w W' := by
  have h1 : 1 ≤ n := by omega
  refine callsIn_of_wp Try.func213 rfl hF ?_ hro
  simp only [Try.ntmps213, List.size_toArray, List.length_cons, List.length_nil, Nat.reduceAdd, Nat.reduceSub, Array.replicate_succ, Array.replicate_zero, List.push_toArray, List.append_toArray, List.nil_append, List.cons_append]
  gi_wp2_with (gi_at_call 233; refine (sts_append F (n - 1) hA hG hro (by omega) Bs len cap A f hreach _ hBs hv hc).mono ?_; rintro e w' ⟨v, rfl, hrow, hb⟩)
  go_ret
  exact ⟨v, rfl, hrow, hb⟩
/-- The texts in order. -/
def stsSort (l : List ByteArray) : List ByteArray := ((l.map fun x => x.data.toList).mergeSort fun x y => decide (x ≤ y)).map fun x => ⟨x.toArray⟩
theorem stsSort_length (l : List ByteArray) : (stsSort l).length = l.length := by simp [stsSort]
theorem sts_enc (l : List ByteArray) : l.map Value.string = (l.map fun x => x.data.toList).map encStr := by
  rw [List.map_map]
  refine List.map_congr_left fun x _ => ?_
  simp [encStr]
theorem stsSort_enc (l : List ByteArray) : (stsSort l).map Value.string = ((l.map fun x => x.data.toList).mergeSort fun x y => decide (x ≤ y)).map encStr := by
  rw [stsSort, List.map_map]
  rfl
set_option maxRecDepth 100000 in
set_option maxHeartbeats 2000000 in
theorem sts_sorted (len cap Bs : Nat) (A : Option Addr) (f : Nat → ByteArray) (hreach : len ≤ 4194304) (w : World) (hBs : Bs < w.heap.size)
    (hv : w.cell? ⟨Bs, 0, none⟩ = some (.slice A len cap)) (hc : ∀ j, j < len → ∃ ad : Addr, A = some ad ∧ (ad.add j).block < w.heap.size ∧ w.cell? (ad.add j) = some (.string (f j))) :
    CallsIn Fence.wide 5 Try.prog 169 #[.func (.func 215) #[] #[.pointer (some ⟨Bs, 0, none⟩)]] w fun e W' => ∃ v, e = .returned v ∧ W'.ownsRow w.heap.size 9 1 v (stsSort (stsUpto f len)).length ((stsSort (stsUpto f len)).map Value.string) ∧ Below w.heap.size w W' := by
  have h1 : 1 ≤ 5 := by omega
  have hS : ∀ g, Fence.wide.fn g := fun _ => trivial
  refine callsIn_of_wp Try.func169 rfl (hS _) ?_ rfl
  simp only [Try.ntmps169, List.size_toArray, List.length_cons, List.length_nil, Nat.reduceAdd, Nat.reduceSub, Array.replicate_succ, Array.replicate_zero, List.push_toArray, List.append_toArray, List.nil_append, List.cons_append]
  have hfC := hS 213
  have hfO := hS 214
  gi_wp2_with (gi_at_call 213; refine (sts_collect Fence.wide _ (hS _) (hS _) (hS _) rfl (by omega) Bs len cap A f hreach _ hBs hv hc).mono ?_; rintro e W ⟨v, rfl, hrow, hb⟩)
  rw [sts_enc] at hrow
  obtain ⟨ss, hss⟩ : ∃ ss, ((stsUpto f len).map fun x => x.data.toList) = ss := ⟨_, rfl⟩
  have hll : (stsUpto f len).length = ss.length := by rw [← hss, List.length_map]
  have e1 : (stsSort (stsUpto f len)).map Value.string = (ss.mergeSort fun x y => decide (x ≤ y)).map encStr := by rw [stsSort_enc, hss]
  have e2 : (stsSort (stsUpto f len)).length = ss.length := by rw [stsSort_length, hll]
  rw [hss, hll] at hrow
  have hlen : ss.length < 4611686018427387904 := by rw [← hll, stsUpto_length]; omega
  rcases hrow.2 with ⟨rfl, hz⟩ | ⟨gb, cp, cur, rfl, hbase, hgb, r1, r2, r3, r4⟩
  · have hs0 : ss = [] := List.eq_nil_of_length_eq_zero hz
    subst hs0
    gi_wp2_with (gi_at_call 214; refine (callsIn_wide.2 (AnyM.slices_Sort_string_none stsLay none 0 W)).mono ?_; rintro e w' ⟨rfl, rfl⟩)
    go_ret
    exact ⟨_, rfl, by rw [e1, e2]; simpa using hrow, hb⟩
  · have hH : Holds encStr W gb 0 ss.toArray := holds_of_block hgb (by simpa using r4)
    have hgl : gb < W.heap.size := (Array.getElem?_eq_some_iff.1 hgb).1
    gi_wp2_with (gi_at_call 214; refine (callsIn_wide.2 (AnyM.slices_Sort_string stsLay gb 0 cp ss W hH hgl hlen)).mono ?_; rintro e w' ⟨rfl, nn, os, rfl⟩)
    go_ret
    exact ⟨_, rfl, by rw [e1, e2]; exact ownsRow_sorted (by simp) hbase hgb r1 r2 r3, hb.grown (grownBy_sorted _) hb.size (fun j hj => by cases hj; exact hbase)⟩
end Go.Proofs.YtkgogglnipdcfaaW.PrintMore
