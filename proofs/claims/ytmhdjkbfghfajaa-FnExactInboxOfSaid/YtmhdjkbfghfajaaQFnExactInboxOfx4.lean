-- printed by this session's own program (wip/tools/pp.py: the kit's print.py with changes); Lean checks it
import Derived.Test.YtmhdjkbfghfajaaQFnExactInboxOfx0
import Derived.Test.YtmhdjkbfghfajaaQFnExactInboxOfx3
namespace Go.Proofs.Ytmhdjkbfghfajaa.QFnExactInboxOf
open Go.RowKit Go.Proofs.YtmhdjkbfghfajaaW.PrintWords Go.Proofs.YtmhdjkbfghfajaaW.PrintLast Go.Proofs.YtmhdjkbfghfajaaW.PrintMore
attribute [local go_sem] max2_int min2_int max_two min_two max_three min_three max_four min_four strLss strGtr strLeq strGeq   -- for this text's walks alone
set_option linter.unusedVariables false
set_option linter.unusedSimpArgs false

/-! ### impl_GoodNet: function 19 -/
mutual
def impl_GoodNet.j0 : Nat → Bool → List Int → List (List ByteArray) → List (List ByteArray) → List (List ByteArray) → Int → Option (Bool)
  | 0, _, _, _, _, _, _ => none
  | k + 1, x47, x208000, x208001, x208002, x208003, x208004 => if x47 = true then (some false) else (impl_GoodNet.l0 k x208001 (x208001.length : Int) 0 x208000 x208001 x208002 x208003 x208004)
def impl_GoodNet.l0 : Nat → List (List ByteArray) → Int → Int → List Int → List (List ByteArray) → List (List ByteArray) → List (List ByteArray) → Int → Option (Bool)
  | 0, _, _, _, _, _, _, _, _ => none
  | k + 1, x49, x50, x51, x208000, x208001, x208002, x208003, x208004 => if x51 < x50 then (if 0 ≤ x51 then (if x51 < (x49.length : Int) then ((impl_areOnions.f k (rd_L2 x49 x51)).bind fun t212 => (if t212 = true then (if x51 < (x208002.length : Int) then ((impl_areOnions.f k (rd_L2 x208002 x51)).bind fun t214 => (impl_GoodNet.j2 k x51 (rd_L2 x49 x51) x49 x50 x51 (!t214) x208000 x208001 x208002 x208003 x208004)) else (none)) else (impl_GoodNet.j2 k x51 (rd_L2 x49 x51) x49 x50 x51 true x208000 x208001 x208002 x208003 x208004))) else (none)) else (none)) else (impl_GoodNet.l2 k x208003 (x208003.length : Int) 0)
def impl_GoodNet.j2 : Nat → Int → List ByteArray → List (List ByteArray) → Int → Int → Bool → List Int → List (List ByteArray) → List (List ByteArray) → List (List ByteArray) → Int → Option (Bool)
  | 0, _, _, _, _, _, _, _, _, _, _, _ => none
  | k + 1, x4, x5, x49, x50, x51, x67, x208000, x208001, x208002, x208003, x208004 => if x67 = true then (some false) else (impl_GoodNet.l1 k x4 x49 x50 x51 x5 (x5.length : Int) 0 x208000 x208001 x208002 x208003 x208004)
def impl_GoodNet.l1 : Nat → Int → List (List ByteArray) → Int → Int → List ByteArray → Int → Int → List Int → List (List ByteArray) → List (List ByteArray) → List (List ByteArray) → Int → Option (Bool)
  | 0, _, _, _, _, _, _, _, _, _, _, _, _ => none
  | k + 1, x4, x49, x50, x51, x68, x69, x70, x208000, x208001, x208002, x208003, x208004 => if x70 < x69 then (if 0 ≤ x70 then (if x70 < (x68.length : Int) then (if 0 ≤ x4 then (if x4 < (x208002.length : Int) then ((slices_Contains_string_string.f k (rd_L2 x208002 x4) (rdOf ByteArray.empty x68 x70)).bind fun t217 => (if t217 = true then (impl_GoodNet.l1 k x4 x49 x50 x51 x68 x69 (wrap64 (x70 + 1)) x208000 x208001 x208002 x208003 x208004) else (some false))) else (none)) else (none)) else (none)) else (none)) else (impl_GoodNet.l0 k x49 x50 (wrap64 (x51 + 1)) x208000 x208001 x208002 x208003 x208004)
def impl_GoodNet.l2 : Nat → List (List ByteArray) → Int → Int → Option (Bool)
  | 0, _, _, _ => none
  | k + 1, x85, x86, x87 => if x87 < x86 then (if 0 ≤ x87 then (if x87 < (x85.length : Int) then (if ((rd_L2 x85 x87).length : Int) > 60 then (some false) else ((slices_ContainsFunc_35_at_36.f k (rd_L2 x85 x87)).bind fun t219 => (if t219 = true then (some false) else (impl_GoodNet.l2 k x85 x86 (wrap64 (x87 + 1)))))) else (none)) else (none)) else (some true)
end
def impl_GoodNet.f (k : Nat) (l0_0 : List Int) (l0_1 : List (List ByteArray)) (l0_2 : List (List ByteArray)) (l0_3 : List (List ByteArray)) (a0_4 : Int) : Option (Bool) := (impl_within.f (l0_0.length : Int) 1 4).bind fun t208 => (if t208 = true then ((impl_areKeys.f k l0_0).bind fun t209 => (if t209 = true then (if (l0_1.length : Int) = (l0_0.length : Int) then (if (l0_2.length : Int) = (l0_0.length : Int) then (if (l0_3.length : Int) = 4 then ((impl_within.f a0_4 0 60).bind fun t210 => (impl_GoodNet.j0 k (!t210) l0_0 l0_1 l0_2 l0_3 a0_4)) else (impl_GoodNet.j0 k true l0_0 l0_1 l0_2 l0_3 a0_4)) else (impl_GoodNet.j0 k true l0_0 l0_1 l0_2 l0_3 a0_4)) else (impl_GoodNet.j0 k true l0_0 l0_1 l0_2 l0_3 a0_4)) else (impl_GoodNet.j0 k true l0_0 l0_1 l0_2 l0_3 a0_4))) else (impl_GoodNet.j0 k true l0_0 l0_1 l0_2 l0_3 a0_4))
theorem impl_GoodNet.mono_l : ∀ k, (∀ y0 y1 y2 y3 y4 y5, LeO (impl_GoodNet.j0 k y0 y1 y2 y3 y4 y5) (impl_GoodNet.j0 (k + 1) y0 y1 y2 y3 y4 y5)) ∧ (∀ y0 y1 y2 y3 y4 y5 y6 y7, LeO (impl_GoodNet.l0 k y0 y1 y2 y3 y4 y5 y6 y7) (impl_GoodNet.l0 (k + 1) y0 y1 y2 y3 y4 y5 y6 y7)) ∧ (∀ y0 y1 y2 y3 y4 y5 y6 y7 y8 y9 y10, LeO (impl_GoodNet.j2 k y0 y1 y2 y3 y4 y5 y6 y7 y8 y9 y10) (impl_GoodNet.j2 (k + 1) y0 y1 y2 y3 y4 y5 y6 y7 y8 y9 y10)) ∧ (∀ y0 y1 y2 y3 y4 y5 y6 y7 y8 y9 y10 y11, LeO (impl_GoodNet.l1 k y0 y1 y2 y3 y4 y5 y6 y7 y8 y9 y10 y11) (impl_GoodNet.l1 (k + 1) y0 y1 y2 y3 y4 y5 y6 y7 y8 y9 y10 y11)) ∧ (∀ y0 y1 y2, LeO (impl_GoodNet.l2 k y0 y1 y2) (impl_GoodNet.l2 (k + 1) y0 y1 y2))
 | 0 => ⟨fun _ _ _ _ _ _ r h => by simp [impl_GoodNet.j0] at h, fun _ _ _ _ _ _ _ _ r h => by simp [impl_GoodNet.l0] at h, fun _ _ _ _ _ _ _ _ _ _ _ r h => by simp [impl_GoodNet.j2] at h, fun _ _ _ _ _ _ _ _ _ _ _ _ r h => by simp [impl_GoodNet.l1] at h, fun _ _ _ r h => by simp [impl_GoodNet.l2] at h⟩
 | k + 1 => by
  obtain ⟨ih0, ih1, ih2, ih3, ih4⟩ := impl_GoodNet.mono_l k
  refine ⟨?_, ?_, ?_, ?_, ?_⟩
  ·intro y0 y1 y2 y3 y4 y5
   unfold impl_GoodNet.j0
   repeat' (first | (with_reducible first | exact ih0 _ _ _ _ _ _ | exact ih1 _ _ _ _ _ _ _ _ | exact ih2 _ _ _ _ _ _ _ _ _ _ _ | exact ih3 _ _ _ _ _ _ _ _ _ _ _ _ | exact ih4 _ _ _ | exact impl_areKeys.mono _ _ | exact impl_areOnions.mono _ _ | exact slices_ContainsFunc_35_at_36.mono _ _ | exact slices_Contains_string_string.mono _ _ _ | exact LeO.refl _ | exact LeO.none _ | refine LeO.ite ?_ ?_ | refine LeO.bind ?_ (fun _ => ?_)) | exact ih0 _ _ _ _ _ _ | exact ih1 _ _ _ _ _ _ _ _ | exact ih2 _ _ _ _ _ _ _ _ _ _ _ | exact ih3 _ _ _ _ _ _ _ _ _ _ _ _ | exact ih4 _ _ _ | exact impl_areKeys.mono _ _ | exact impl_areOnions.mono _ _ | exact slices_ContainsFunc_35_at_36.mono _ _ | exact slices_Contains_string_string.mono _ _ _ | exact LeO.none _ | refine LeO.ite ?_ ?_ | refine LeO.bind ?_ (fun _ => ?_))
  ·intro y0 y1 y2 y3 y4 y5 y6 y7
   unfold impl_GoodNet.l0
   repeat' (first | (with_reducible first | exact ih0 _ _ _ _ _ _ | exact ih1 _ _ _ _ _ _ _ _ | exact ih2 _ _ _ _ _ _ _ _ _ _ _ | exact ih3 _ _ _ _ _ _ _ _ _ _ _ _ | exact ih4 _ _ _ | exact impl_areKeys.mono _ _ | exact impl_areOnions.mono _ _ | exact slices_ContainsFunc_35_at_36.mono _ _ | exact slices_Contains_string_string.mono _ _ _ | exact LeO.refl _ | exact LeO.none _ | refine LeO.ite ?_ ?_ | refine LeO.bind ?_ (fun _ => ?_)) | exact ih0 _ _ _ _ _ _ | exact ih1 _ _ _ _ _ _ _ _ | exact ih2 _ _ _ _ _ _ _ _ _ _ _ | exact ih3 _ _ _ _ _ _ _ _ _ _ _ _ | exact ih4 _ _ _ | exact impl_areKeys.mono _ _ | exact impl_areOnions.mono _ _ | exact slices_ContainsFunc_35_at_36.mono _ _ | exact slices_Contains_string_string.mono _ _ _ | exact LeO.none _ | refine LeO.ite ?_ ?_ | refine LeO.bind ?_ (fun _ => ?_))
  ·intro y0 y1 y2 y3 y4 y5 y6 y7 y8 y9 y10
   unfold impl_GoodNet.j2
   repeat' (first | (with_reducible first | exact ih0 _ _ _ _ _ _ | exact ih1 _ _ _ _ _ _ _ _ | exact ih2 _ _ _ _ _ _ _ _ _ _ _ | exact ih3 _ _ _ _ _ _ _ _ _ _ _ _ | exact ih4 _ _ _ | exact impl_areKeys.mono _ _ | exact impl_areOnions.mono _ _ | exact slices_ContainsFunc_35_at_36.mono _ _ | exact slices_Contains_string_string.mono _ _ _ | exact LeO.refl _ | exact LeO.none _ | refine LeO.ite ?_ ?_ | refine LeO.bind ?_ (fun _ => ?_)) | exact ih0 _ _ _ _ _ _ | exact ih1 _ _ _ _ _ _ _ _ | exact ih2 _ _ _ _ _ _ _ _ _ _ _ | exact ih3 _ _ _ _ _ _ _ _ _ _ _ _ | exact ih4 _ _ _ | exact impl_areKeys.mono _ _ | exact impl_areOnions.mono _ _ | exact slices_ContainsFunc_35_at_36.mono _ _ | exact slices_Contains_string_string.mono _ _ _ | exact LeO.none _ | refine LeO.ite ?_ ?_ | refine LeO.bind ?_ (fun _ => ?_))
  ·intro y0 y1 y2 y3 y4 y5 y6 y7 y8 y9 y10 y11
   unfold impl_GoodNet.l1
   repeat' (first | (with_reducible first | exact ih0 _ _ _ _ _ _ | exact ih1 _ _ _ _ _ _ _ _ | exact ih2 _ _ _ _ _ _ _ _ _ _ _ | exact ih3 _ _ _ _ _ _ _ _ _ _ _ _ | exact ih4 _ _ _ | exact impl_areKeys.mono _ _ | exact impl_areOnions.mono _ _ | exact slices_ContainsFunc_35_at_36.mono _ _ | exact slices_Contains_string_string.mono _ _ _ | exact LeO.refl _ | exact LeO.none _ | refine LeO.ite ?_ ?_ | refine LeO.bind ?_ (fun _ => ?_)) | exact ih0 _ _ _ _ _ _ | exact ih1 _ _ _ _ _ _ _ _ | exact ih2 _ _ _ _ _ _ _ _ _ _ _ | exact ih3 _ _ _ _ _ _ _ _ _ _ _ _ | exact ih4 _ _ _ | exact impl_areKeys.mono _ _ | exact impl_areOnions.mono _ _ | exact slices_ContainsFunc_35_at_36.mono _ _ | exact slices_Contains_string_string.mono _ _ _ | exact LeO.none _ | refine LeO.ite ?_ ?_ | refine LeO.bind ?_ (fun _ => ?_))
  ·intro y0 y1 y2
   unfold impl_GoodNet.l2
   repeat' (first | (with_reducible first | exact ih0 _ _ _ _ _ _ | exact ih1 _ _ _ _ _ _ _ _ | exact ih2 _ _ _ _ _ _ _ _ _ _ _ | exact ih3 _ _ _ _ _ _ _ _ _ _ _ _ | exact ih4 _ _ _ | exact impl_areKeys.mono _ _ | exact impl_areOnions.mono _ _ | exact slices_ContainsFunc_35_at_36.mono _ _ | exact slices_Contains_string_string.mono _ _ _ | exact LeO.refl _ | exact LeO.none _ | refine LeO.ite ?_ ?_ | refine LeO.bind ?_ (fun _ => ?_)) | exact ih0 _ _ _ _ _ _ | exact ih1 _ _ _ _ _ _ _ _ | exact ih2 _ _ _ _ _ _ _ _ _ _ _ | exact ih3 _ _ _ _ _ _ _ _ _ _ _ _ | exact ih4 _ _ _ | exact impl_areKeys.mono _ _ | exact impl_areOnions.mono _ _ | exact slices_ContainsFunc_35_at_36.mono _ _ | exact slices_Contains_string_string.mono _ _ _ | exact LeO.none _ | refine LeO.ite ?_ ?_ | refine LeO.bind ?_ (fun _ => ?_))
theorem impl_GoodNet.mono : ∀ a0 a1 a2 a3 a4 k, LeO (impl_GoodNet.f k a0 a1 a2 a3 a4) (impl_GoodNet.f (k + 1) a0 a1 a2 a3 a4) := by
 intro a0 a1 a2 a3 a4 k
 obtain ⟨ih0, ih1, ih2, ih3, ih4⟩ := impl_GoodNet.mono_l k
 unfold impl_GoodNet.f
 repeat' (first | (with_reducible first | exact ih0 _ _ _ _ _ _ | exact ih1 _ _ _ _ _ _ _ _ | exact ih2 _ _ _ _ _ _ _ _ _ _ _ | exact ih3 _ _ _ _ _ _ _ _ _ _ _ _ | exact ih4 _ _ _ | exact impl_areKeys.mono _ _ | exact impl_areOnions.mono _ _ | exact slices_ContainsFunc_35_at_36.mono _ _ | exact slices_Contains_string_string.mono _ _ _ | exact LeO.refl _ | exact LeO.none _ | refine LeO.ite ?_ ?_ | refine LeO.bind ?_ (fun _ => ?_)) | exact ih0 _ _ _ _ _ _ | exact ih1 _ _ _ _ _ _ _ _ | exact ih2 _ _ _ _ _ _ _ _ _ _ _ | exact ih3 _ _ _ _ _ _ _ _ _ _ _ _ | exact ih4 _ _ _ | exact impl_areKeys.mono _ _ | exact impl_areOnions.mono _ _ | exact slices_ContainsFunc_35_at_36.mono _ _ | exact slices_Contains_string_string.mono _ _ _ | exact LeO.none _ | refine LeO.ite ?_ ?_ | refine LeO.bind ?_ (fun _ => ?_))
set_option maxHeartbeats 8000000 in
set_option maxRecDepth 100000 in
theorem impl_GoodNet.calls (k : Nat) (A0_0 : Option Addr) (c0_0 : Nat) (l0_0 : List Int) (A0_1 : Option Addr) (c0_1 : Nat) (l0_1 : List (List ByteArray)) (A0_2 : Option Addr) (c0_2 : Nat) (l0_2 : List (List ByteArray)) (A0_3 : Option Addr) (c0_3 : Nat) (l0_3 : List (List ByteArray)) (a0_4 : Int) (r : Bool) (w : World) (hr0_0 : Kd.C (Kd.int .i64) w A0_0 l0_0.length l0_0) (hc0_0 : l0_0.length ≤ c0_0) (hr0_1 : Kd.C (Kd.slice 9 Kd.string) w A0_1 l0_1.length l0_1) (hc0_1 : l0_1.length ≤ c0_1) (hr0_2 : Kd.C (Kd.slice 9 Kd.string) w A0_2 l0_2.length l0_2) (hc0_2 : l0_2.length ≤ c0_2) (hr0_3 : Kd.C (Kd.slice 9 Kd.string) w A0_3 l0_3.length l0_3) (hc0_3 : l0_3.length ≤ c0_3) (h : impl_GoodNet.f k l0_0 l0_1 l0_2 l0_3 a0_4 = some r) :
  Calls Try.prog 19 #[.agg #[.slice A0_0 l0_0.length c0_0, .slice A0_1 l0_1.length c0_1, .slice A0_2 l0_2.length c0_2, .slice A0_3 l0_3.length c0_3, .int .i64 a0_4]] w fun e w' => e = .returned (.bool r) ∧ Below w.heap.size w w' := by
 have hu30 := Try.underlying30
 have HR0_0 := Aside0.mk hr0_0; have HC0_0 := Aside0.mk hc0_0; clear hr0_0 hc0_0; have HR0_1 := Aside0.mk hr0_1; have HC0_1 := Aside0.mk hc0_1; clear hr0_1 hc0_1; have HR0_2 := Aside0.mk hr0_2; have HC0_2 := Aside0.mk hc0_2; clear hr0_2 hc0_2; have HR0_3 := Aside0.mk hr0_3; have HC0_3 := Aside0.mk hc0_3; clear hr0_3 hc0_3
 have HB := Aside0.mk (Below.refl w.heap.size w)
 have H : ((impl_within.f (l0_0.length : Int) 1 4).bind fun t208 => (if t208 = true then ((impl_areKeys.f k l0_0).bind fun t209 => (if t209 = true then (if (l0_1.length : Int) = (l0_0.length : Int) then (if (l0_2.length : Int) = (l0_0.length : Int) then (if (l0_3.length : Int) = 4 then ((impl_within.f a0_4 0 60).bind fun t210 => (impl_GoodNet.j0 k (!t210) l0_0 l0_1 l0_2 l0_3 a0_4)) else (impl_GoodNet.j0 k true l0_0 l0_1 l0_2 l0_3 a0_4)) else (impl_GoodNet.j0 k true l0_0 l0_1 l0_2 l0_3 a0_4)) else (impl_GoodNet.j0 k true l0_0 l0_1 l0_2 l0_3 a0_4)) else (impl_GoodNet.j0 k true l0_0 l0_1 l0_2 l0_3 a0_4))) else (impl_GoodNet.j0 k true l0_0 l0_1 l0_2 l0_3 a0_4))) = some r := h
 clear h; have HC2 := Aside0.mk H; clear H
 go_enter Try.func19, Try.ntmps19
 go_upto_region 2 with (first | ((with_reducible refine gate_dst (N := 1) rfl ?_); (try (refine gate_guard (by rfl) ?_; dsimp only)); refine boxev 1 #[.slice A0_0 l0_0.length c0_0, .slice A0_1 l0_1.length c0_1, .slice A0_2 l0_2.length c0_2, .slice A0_3 l0_3.length c0_3, .int .i64 a0_4] 30 ?_; intro gb207 hg w3 hbox hb; have BK207 := ak (hbox); have GW207 := ak (hgl hg (belowd HB)); have GE207 := ak (hgl hg (belowd HB)); replace HB := ak (below_step (belowd HB) hb); clear hb hbox hg; obtain ⟨hcz4_0, hcz4_1, hcz4_2, hcz4_3, hcz4_4, hfz4_0, hfz4_1, hfz4_2, hfz4_3, hfz4_4⟩ := box5 BK207))
 (try simp only [Act.put, List.setIfInBounds_toArray, List.set_cons_zero, List.set_cons_succ])
 go_cut [47] (fun v47 wc => ∃ (kq : Nat) (x47_1 : Bool), v47 = .bool x47_1 ∧ Aside0 (impl_GoodNet.j0 kq x47_1 l0_0 l0_1 l0_2 l0_3 a0_4 = some r) ∧ Aside0 (kq ≤ k) ∧ Aside0 (wc.heap[gb207]? = some (.cells #[(.slice A0_0 l0_0.length c0_0), (.slice A0_1 l0_1.length c0_1), (.slice A0_2 l0_2.length c0_2), (.slice A0_3 l0_3.length c0_3), .int .i64 a0_4] 30 (0, 0))) ∧ Aside0 (Below w.heap.size w wc))
 case first =>
  have H := HC2.out; clear HC2; replace H := bS H; obtain ⟨t208, A5, H⟩ := H
  replace H : (if t208 = true then ((impl_areKeys.f k l0_0).bind fun t209 => (if t209 = true then (if (l0_1.length : Int) = (l0_0.length : Int) then (if (l0_2.length : Int) = (l0_0.length : Int) then (if (l0_3.length : Int) = 4 then ((impl_within.f a0_4 0 60).bind fun t210 => (impl_GoodNet.j0 k (!t210) l0_0 l0_1 l0_2 l0_3 a0_4)) else (impl_GoodNet.j0 k true l0_0 l0_1 l0_2 l0_3 a0_4)) else (impl_GoodNet.j0 k true l0_0 l0_1 l0_2 l0_3 a0_4)) else (impl_GoodNet.j0 k true l0_0 l0_1 l0_2 l0_3 a0_4)) else (impl_GoodNet.j0 k true l0_0 l0_1 l0_2 l0_3 a0_4))) else (impl_GoodNet.j0 k true l0_0 l0_1 l0_2 l0_3 a0_4)) = some r := H
  by_cases c6 : t208 = true
  ·subst c6
   have H1 : ((impl_areKeys.f k l0_0).bind fun t209 => (if t209 = true then (if (l0_1.length : Int) = (l0_0.length : Int) then (if (l0_2.length : Int) = (l0_0.length : Int) then (if (l0_3.length : Int) = 4 then ((impl_within.f a0_4 0 60).bind fun t210 => (impl_GoodNet.j0 k (!t210) l0_0 l0_1 l0_2 l0_3 a0_4)) else (impl_GoodNet.j0 k true l0_0 l0_1 l0_2 l0_3 a0_4)) else (impl_GoodNet.j0 k true l0_0 l0_1 l0_2 l0_3 a0_4)) else (impl_GoodNet.j0 k true l0_0 l0_1 l0_2 l0_3 a0_4)) else (impl_GoodNet.j0 k true l0_0 l0_1 l0_2 l0_3 a0_4))) = some r := by rw [if_pos rfl] at H; exact H
   clear H
   have H := H1
   clear H1; replace H := bS H; obtain ⟨t209, A7, H⟩ := H
   replace H : (if t209 = true then (if (l0_1.length : Int) = (l0_0.length : Int) then (if (l0_2.length : Int) = (l0_0.length : Int) then (if (l0_3.length : Int) = 4 then ((impl_within.f a0_4 0 60).bind fun t210 => (impl_GoodNet.j0 k (!t210) l0_0 l0_1 l0_2 l0_3 a0_4)) else (impl_GoodNet.j0 k true l0_0 l0_1 l0_2 l0_3 a0_4)) else (impl_GoodNet.j0 k true l0_0 l0_1 l0_2 l0_3 a0_4)) else (impl_GoodNet.j0 k true l0_0 l0_1 l0_2 l0_3 a0_4)) else (impl_GoodNet.j0 k true l0_0 l0_1 l0_2 l0_3 a0_4)) = some r := H
   by_cases c8 : t209 = true
   ·subst c8
    have H1 : (if (l0_1.length : Int) = (l0_0.length : Int) then (if (l0_2.length : Int) = (l0_0.length : Int) then (if (l0_3.length : Int) = 4 then ((impl_within.f a0_4 0 60).bind fun t210 => (impl_GoodNet.j0 k (!t210) l0_0 l0_1 l0_2 l0_3 a0_4)) else (impl_GoodNet.j0 k true l0_0 l0_1 l0_2 l0_3 a0_4)) else (impl_GoodNet.j0 k true l0_0 l0_1 l0_2 l0_3 a0_4)) else (impl_GoodNet.j0 k true l0_0 l0_1 l0_2 l0_3 a0_4)) = some r := by rw [if_pos rfl] at H; exact H
    clear H
    have H := H1
    clear H1
    by_cases c9 : (l0_1.length : Int) = (l0_0.length : Int)
    ·rw [if_pos c9] at H
     have c9b0 : ((l0_1.length : Int) == (l0_0.length : Int)) = true := beq_iff_eq.mpr c9
     have c9b1 : ((l0_1.length : Int) != (l0_0.length : Int)) = false := bne_eq_false_iff_eq.mpr c9
     have c9b2 : (l0_1.length == l0_0.length) = true := by first | simpa using c9 | (simp at c9 ⊢; omega)
     clear c9
     (first | rw [c9b0] | (simp only [i64_w, i32_w]; rw [c9b0]) | skip)
     by_cases c10 : (l0_2.length : Int) = (l0_0.length : Int)
     ·rw [if_pos c10] at H
      have c10b0 : ((l0_2.length : Int) == (l0_0.length : Int)) = true := beq_iff_eq.mpr c10
      have c10b1 : ((l0_2.length : Int) != (l0_0.length : Int)) = false := bne_eq_false_iff_eq.mpr c10
      have c10b2 : (l0_2.length == l0_0.length) = true := by first | simpa using c10 | (simp at c10 ⊢; omega)
      clear c10
      by_cases c11 : (l0_3.length : Int) = 4
      ·rw [if_pos c11] at H
       have c11b0 : ((l0_3.length : Int) == 4) = true := beq_iff_eq.mpr c11
       have c11b1 : ((l0_3.length : Int) != 4) = false := bne_eq_false_iff_eq.mpr c11
       clear c11; replace H := bS H; obtain ⟨t210, A12, H⟩ := H
       replace H : (impl_GoodNet.j0 k (!t210) l0_0 l0_1 l0_2 l0_3 a0_4) = some r := H
       have H' := Aside0.mk H
       clear H
       go_wp2_with (first | ((with_reducible refine gate_callee (f := 20) rfl ?_); refine goesLa (some 14) rfl Try.func20 #[.int .i64 (l0_0.length : Int), .int .i64 1, .int .i64 4] rfl ?_; (with_reducible refine (impl_within.calls (l0_0.length : Int) 1 4 true _ A5.out).mono ?_); rintro e w' ⟨rfl, ⟨nd, rfl⟩⟩; refine ⟨_, rfl, ?_⟩; obtain ⟨hcz13_0, hcz13_1, hcz13_2, hcz13_3, hcz13_4, hfz13_0, hfz13_1, hfz13_2, hfz13_3, hfz13_4⟩ := box5 BK207) | (go_at_call 32; (with_reducible refine (impl_areKeys.calls k _ _ l0_0 true _ ?side1 ?side2 A7.out).mono ?_); (case side1 => exact cd (Kd.C_below HR0_0.out (belowg1 HB GE207))); (case side2 => exact HC0_0.out); rintro e w' ⟨rfl, ⟨nd, rfl⟩⟩) | (go_at_call 20; (with_reducible refine (impl_within.calls a0_4 0 60 t210 _ A12.out).mono ?_); rintro e w' ⟨rfl, ⟨nd, rfl⟩⟩))
       go_meet
       case rel => exact ⟨_, (!t210), er, H', ⟨by first | omega | exact Nat.le_refl _⟩, ⟨blkd BK207⟩, ⟨belowg1 HB GE207⟩⟩
      ·rw [if_neg c11] at H
       have c11b0 : ((l0_3.length : Int) == 4) = false := beq_eq_false_iff_ne.mpr c11
       have c11b1 : ((l0_3.length : Int) != 4) = true := bne_iff_ne.mpr c11
       have H' := Aside0.mk H
       clear H
       go_wp2_with (first | ((with_reducible refine gate_callee (f := 20) rfl ?_); refine goesLa (some 14) rfl Try.func20 #[.int .i64 (l0_0.length : Int), .int .i64 1, .int .i64 4] rfl ?_; (with_reducible refine (impl_within.calls (l0_0.length : Int) 1 4 true _ A5.out).mono ?_); rintro e w' ⟨rfl, ⟨nd, rfl⟩⟩; refine ⟨_, rfl, ?_⟩; obtain ⟨hcz14_0, hcz14_1, hcz14_2, hcz14_3, hcz14_4, hfz14_0, hfz14_1, hfz14_2, hfz14_3, hfz14_4⟩ := box5 BK207) | (go_at_call 32; (with_reducible refine (impl_areKeys.calls k _ _ l0_0 true _ ?side1 ?side2 A7.out).mono ?_); (case side1 => exact cd (Kd.C_below HR0_0.out (belowg1 HB GE207))); (case side2 => exact HC0_0.out); rintro e w' ⟨rfl, ⟨nd, rfl⟩⟩))
       go_meet
       case rel => exact ⟨_, (true), er, H', ⟨by first | omega | exact Nat.le_refl _⟩, ⟨blkd BK207⟩, ⟨belowg1 HB GE207⟩⟩
     ·rw [if_neg c10] at H
      have c10b0 : ((l0_2.length : Int) == (l0_0.length : Int)) = false := beq_eq_false_iff_ne.mpr c10
      have c10b1 : ((l0_2.length : Int) != (l0_0.length : Int)) = true := bne_iff_ne.mpr c10
      have c10b2 : (l0_2.length == l0_0.length) = false := by first | simpa using c10 | (simp at c10 ⊢; omega)
      have H' := Aside0.mk H
      clear H
      go_wp2_with (first | ((with_reducible refine gate_callee (f := 20) rfl ?_); refine goesLa (some 14) rfl Try.func20 #[.int .i64 (l0_0.length : Int), .int .i64 1, .int .i64 4] rfl ?_; (with_reducible refine (impl_within.calls (l0_0.length : Int) 1 4 true _ A5.out).mono ?_); rintro e w' ⟨rfl, ⟨nd, rfl⟩⟩; refine ⟨_, rfl, ?_⟩; obtain ⟨hcz15_0, hcz15_1, hcz15_2, hcz15_3, hcz15_4, hfz15_0, hfz15_1, hfz15_2, hfz15_3, hfz15_4⟩ := box5 BK207) | (go_at_call 32; (with_reducible refine (impl_areKeys.calls k _ _ l0_0 true _ ?side1 ?side2 A7.out).mono ?_); (case side1 => exact cd (Kd.C_below HR0_0.out (belowg1 HB GE207))); (case side2 => exact HC0_0.out); rintro e w' ⟨rfl, ⟨nd, rfl⟩⟩))
      go_meet
      case rel => exact ⟨_, (true), er, H', ⟨by first | omega | exact Nat.le_refl _⟩, ⟨blkd BK207⟩, ⟨belowg1 HB GE207⟩⟩
    ·rw [if_neg c9] at H
     have c9b0 : ((l0_1.length : Int) == (l0_0.length : Int)) = false := beq_eq_false_iff_ne.mpr c9
     have c9b1 : ((l0_1.length : Int) != (l0_0.length : Int)) = true := bne_iff_ne.mpr c9
     have c9b2 : (l0_1.length == l0_0.length) = false := by first | simpa using c9 | (simp at c9 ⊢; omega)
     (first | rw [c9b0] | (simp only [i64_w, i32_w]; rw [c9b0]) | skip)
     have H' := Aside0.mk H
     clear H
     go_wp2_with (first | ((with_reducible refine gate_callee (f := 20) rfl ?_); refine goesLa (some 14) rfl Try.func20 #[.int .i64 (l0_0.length : Int), .int .i64 1, .int .i64 4] rfl ?_; (with_reducible refine (impl_within.calls (l0_0.length : Int) 1 4 true _ A5.out).mono ?_); rintro e w' ⟨rfl, ⟨nd, rfl⟩⟩; refine ⟨_, rfl, ?_⟩; obtain ⟨hcz16_0, hcz16_1, hcz16_2, hcz16_3, hcz16_4, hfz16_0, hfz16_1, hfz16_2, hfz16_3, hfz16_4⟩ := box5 BK207) | (go_at_call 32; (with_reducible refine (impl_areKeys.calls k _ _ l0_0 true _ ?side1 ?side2 A7.out).mono ?_); (case side1 => exact cd (Kd.C_below HR0_0.out (belowg1 HB GE207))); (case side2 => exact HC0_0.out); rintro e w' ⟨rfl, ⟨nd, rfl⟩⟩))
     go_meet
     case rel => exact ⟨_, (true), er, H', ⟨by first | omega | exact Nat.le_refl _⟩, ⟨blkd BK207⟩, ⟨belowg1 HB GE207⟩⟩
   ·replace c8 := Bool.eq_false_iff.mpr c8
    subst c8
    have H1 : (impl_GoodNet.j0 k true l0_0 l0_1 l0_2 l0_3 a0_4) = some r := by rw [if_neg (show ¬ (false = true) by decide)] at H; exact H
    clear H
    have H := H1
    clear H1
    have H' := Aside0.mk H
    clear H
    go_wp2_with (first | ((with_reducible refine gate_callee (f := 20) rfl ?_); refine goesLa (some 14) rfl Try.func20 #[.int .i64 (l0_0.length : Int), .int .i64 1, .int .i64 4] rfl ?_; (with_reducible refine (impl_within.calls (l0_0.length : Int) 1 4 true _ A5.out).mono ?_); rintro e w' ⟨rfl, ⟨nd, rfl⟩⟩; refine ⟨_, rfl, ?_⟩; obtain ⟨hcz17_0, hcz17_1, hcz17_2, hcz17_3, hcz17_4, hfz17_0, hfz17_1, hfz17_2, hfz17_3, hfz17_4⟩ := box5 BK207) | (go_at_call 32; (with_reducible refine (impl_areKeys.calls k _ _ l0_0 false _ ?side1 ?side2 A7.out).mono ?_); (case side1 => exact cd (Kd.C_below HR0_0.out (belowg1 HB GE207))); (case side2 => exact HC0_0.out); rintro e w' ⟨rfl, ⟨nd, rfl⟩⟩))
    go_meet
    case rel => exact ⟨_, (true), er, H', ⟨by first | omega | exact Nat.le_refl _⟩, ⟨blkd BK207⟩, ⟨belowg1 HB GE207⟩⟩
  ·replace c6 := Bool.eq_false_iff.mpr c6
   subst c6
   have H1 : (impl_GoodNet.j0 k true l0_0 l0_1 l0_2 l0_3 a0_4) = some r := by rw [if_neg (show ¬ (false = true) by decide)] at H; exact H
   clear H
   have H := H1
   clear H1
   have H' := Aside0.mk H
   clear H
   go_wp2_with (first | ((with_reducible refine gate_callee (f := 20) rfl ?_); refine goesLa (some 14) rfl Try.func20 #[.int .i64 (l0_0.length : Int), .int .i64 1, .int .i64 4] rfl ?_; (with_reducible refine (impl_within.calls (l0_0.length : Int) 1 4 false _ A5.out).mono ?_); rintro e w' ⟨rfl, ⟨nd, rfl⟩⟩; refine ⟨_, rfl, ?_⟩))
   go_meet
   case rel => exact ⟨_, (true), er, H', ⟨by first | omega | exact Nat.le_refl _⟩, ⟨blkd BK207⟩, ⟨belowg1 HB GE207⟩⟩
 case rest =>
  clear HC2; (try clear hcz4_0); (try clear hcz4_1); (try clear hcz4_2); (try clear hcz4_3); (try clear hcz4_4); (try clear hfz4_0); (try clear hfz4_1); (try clear hfz4_2); (try clear hfz4_3); (try clear hfz4_4)
  obtain ⟨kq, x47_1, rfl, HA, HJ1, BK207, HB⟩ := hcut
  cases kq with
  | zero => exact absurd HA.out (by simp [impl_GoodNet.j0])
  | succ kj1 =>
   have H := HA.out; clear HA
   simp only [impl_GoodNet.j0] at H
   by_cases c18 : x47_1 = true
   ·subst c18
    have H1 : (some false) = some r := by rw [if_pos rfl] at H; exact H
    clear H
    have H := H1
    clear H1
    obtain rfl := Option.some.inj H
    go_wp2
    go_ret
    exact ⟨er2, belowg1 HB GE207⟩
   ·replace c18 := Bool.eq_false_iff.mpr c18
    subst c18
    have H1 : (impl_GoodNet.l0 kj1 l0_1 (l0_1.length : Int) 0 l0_0 l0_1 l0_2 l0_3 a0_4) = some r := by rw [if_neg (show ¬ (false = true) by decide)] at H; exact H
    clear H
    have H := H1
    clear H1
    have H' := Aside0.mk H
    clear H; obtain ⟨hcz19_0, hcz19_1, hcz19_2, hcz19_3, hcz19_4, hfz19_0, hfz19_1, hfz19_2, hfz19_3, hfz19_4⟩ := box5 BK207; go_wp2
    go_loopg [51] kj1 (fun kq v51 w' => ∃ (x51_2 : Int), v51 = .int .i64 x51_2 ∧ Aside0 (impl_GoodNet.l0 kq l0_1 (l0_1.length : Int) x51_2 l0_0 l0_1 l0_2 l0_3 a0_4 = some r) ∧ Aside0 (kq ≤ kj1) ∧ Aside0 (w'.heap[gb207]? = some (.cells #[(.slice A0_0 l0_0.length c0_0), (.slice A0_1 l0_1.length c0_1), (.slice A0_2 l0_2.length c0_2), (.slice A0_3 l0_3.length c0_3), .int .i64 a0_4] 30 (0, 0))) ∧ Aside0 (Below w.heap.size w w'))
    case atStart => exact ⟨(0), er, H', ⟨Nat.le_refl _⟩, ⟨blkd BK207⟩, ⟨belowg1 HB GE207⟩⟩
    case round =>
     clear H'
     (try clear c18); (try clear hcz19_0); (try clear hcz19_1); (try clear hcz19_2); (try clear hcz19_3); (try clear hcz19_4); (try clear hfz19_0); (try clear hfz19_1); (try clear hfz19_2); (try clear hfz19_3); (try clear hfz19_4)
     obtain ⟨x51_2, rfl, HA, HK2, BK207, HB⟩ := hrel
     cases gk with
     | zero => exact absurd HA.out (by simp [impl_GoodNet.l0])
     | succ k2 =>
      have H := HA.out; clear HA
      simp only [impl_GoodNet.l0] at H
      by_cases c20 : x51_2 < (l0_1.length : Int)
      ·rw [if_pos c20] at H
       have c20b0 : decide (x51_2 < (l0_1.length : Int)) = true := decide_eq_true c20
       clear c20; replace H := ifS H; obtain ⟨c21, H⟩ := H; have c21b0 := decide_eq_true c21; clear c21; replace H := ifS H; obtain ⟨c22, H⟩ := H; have c22b0 := decide_eq_true c22; clear c22; have HC23 := Aside0.mk H; clear H
       have p211 : 0 ≤ (x51_2 : Int) := da
       have q211 : x51_2 < (l0_1.length : Int) := da
       obtain ⟨ad211, A211_0, c211_0, e211, hx211_0, hl211_0, hi211_0⟩ := at_L2 HR0_1.out x51_2 p211 q211
       cases e211
       replace hx211_0 := (HB.out.cell (World.block_lt_of_cell? w _ hx211_0)).trans hx211_0
       have HR211_0 := Aside0.mk hi211_0; have HC211_0 := Aside0.mk hl211_0; clear hi211_0 hl211_0; replace p211 := eq_true p211; replace q211 := eq_true q211
       go_upto_region 7 with (fail)
       go_cut [67] (fun v67 wc => ∃ (kq : Nat) (x67_22 : Bool), v67 = .bool x67_22 ∧ Aside0 (impl_GoodNet.j2 kq x51_2 (rd_L2 l0_1 x51_2) l0_1 (l0_1.length : Int) x51_2 x67_22 l0_0 l0_1 l0_2 l0_3 a0_4 = some r) ∧ Aside0 (kq ≤ k2) ∧ Aside0 (wc.heap[gb207]? = some (.cells #[(.slice A0_0 l0_0.length c0_0), (.slice (some ad211) l0_1.length c0_1), (.slice A0_2 l0_2.length c0_2), (.slice A0_3 l0_3.length c0_3), .int .i64 a0_4] 30 (0, 0))) ∧ Aside0 (Below w.heap.size w wc))
       case first =>
        have H := HC23.out; clear HC23; replace H := bS H; obtain ⟨t212, A24, H⟩ := H
        replace H : (if t212 = true then (if x51_2 < (l0_2.length : Int) then ((impl_areOnions.f k2 (rd_L2 l0_2 x51_2)).bind fun t214 => (impl_GoodNet.j2 k2 x51_2 (rd_L2 l0_1 x51_2) l0_1 (l0_1.length : Int) x51_2 (!t214) l0_0 l0_1 l0_2 l0_3 a0_4)) else (none)) else (impl_GoodNet.j2 k2 x51_2 (rd_L2 l0_1 x51_2) l0_1 (l0_1.length : Int) x51_2 true l0_0 l0_1 l0_2 l0_3 a0_4)) = some r := H
        by_cases c25 : t212 = true
        ·subst c25
         have H1 : (if x51_2 < (l0_2.length : Int) then ((impl_areOnions.f k2 (rd_L2 l0_2 x51_2)).bind fun t214 => (impl_GoodNet.j2 k2 x51_2 (rd_L2 l0_1 x51_2) l0_1 (l0_1.length : Int) x51_2 (!t214) l0_0 l0_1 l0_2 l0_3 a0_4)) else (none)) = some r := by rw [if_pos rfl] at H; exact H
         clear H
         have H := H1
         clear H1; replace H := ifS H; obtain ⟨c26, H⟩ := H; have c26b0 := decide_eq_true c26; clear c26
         (first | rw [c26b0] | (simp only [i64_w, i32_w]; rw [c26b0]) | skip)
         replace H := bS H; obtain ⟨t214, A27, H⟩ := H
         replace H : (impl_GoodNet.j2 k2 x51_2 (rd_L2 l0_1 x51_2) l0_1 (l0_1.length : Int) x51_2 (!t214) l0_0 l0_1 l0_2 l0_3 a0_4) = some r := H
         have H' := Aside0.mk H
         clear H
         go_wp2_with (first | ((with_reducible refine gate_callee (f := 33) rfl ?_); refine goesLa (some 57) rfl Try.func33 #[.slice A211_0 (rd_L2 l0_1 x51_2).length c211_0] rfl ?_; (with_reducible refine (impl_areOnions.calls k2 _ _ (rd_L2 l0_1 x51_2) true _ ?side1 ?side2 A24.out).mono ?_); (case side1 => exact cd (Kd.C_below HR211_0.out HB.out)); (case side2 => exact HC211_0.out); rintro e w' ⟨rfl, ⟨nd, rfl⟩⟩; refine ⟨_, rfl, ?_⟩; obtain ⟨hcz28_0, hcz28_1, hcz28_2, hcz28_3, hcz28_4, hfz28_0, hfz28_1, hfz28_2, hfz28_3, hfz28_4⟩ := box5 BK207; have p213 : 0 ≤ (x51_2 : Int) := da; have q213 : x51_2 < (l0_2.length : Int) := da; obtain ⟨ad213, A213_0, c213_0, e213, hx213_0, hl213_0, hi213_0⟩ := at_L2 HR0_2.out x51_2 p213 q213; cases e213; replace hx213_0 := (HB.out.cell (World.block_lt_of_cell? w _ hx213_0)).trans hx213_0; have HR213_0 := Aside0.mk hi213_0; have HC213_0 := Aside0.mk hl213_0; clear hi213_0 hl213_0; replace p213 := eq_true p213; replace q213 := eq_true q213) | (go_at_call 33; (with_reducible refine (impl_areOnions.calls k2 _ _ (rd_L2 l0_2 x51_2) t214 _ ?side1 ?side2 A27.out).mono ?_); (case side1 => exact cd (Kd.C_below HR213_0.out (belowg1 HB GE207))); (case side2 => exact HC213_0.out); rintro e w' ⟨rfl, ⟨nd, rfl⟩⟩))
         go_meet
         case rel => exact ⟨_, (!t214), er, H', ⟨by have := HJ1.out; have := HK2.out; first | omega | exact Nat.le_refl _⟩, ⟨blkd BK207⟩, ⟨belowg1 HB GE207⟩⟩
        ·replace c25 := Bool.eq_false_iff.mpr c25
         subst c25
         have H1 : (impl_GoodNet.j2 k2 x51_2 (rd_L2 l0_1 x51_2) l0_1 (l0_1.length : Int) x51_2 true l0_0 l0_1 l0_2 l0_3 a0_4) = some r := by rw [if_neg (show ¬ (false = true) by decide)] at H; exact H
         clear H
         have H := H1
         clear H1
         have H' := Aside0.mk H
         clear H
         go_wp2_with (first | ((with_reducible refine gate_callee (f := 33) rfl ?_); refine goesLa (some 57) rfl Try.func33 #[.slice A211_0 (rd_L2 l0_1 x51_2).length c211_0] rfl ?_; (with_reducible refine (impl_areOnions.calls k2 _ _ (rd_L2 l0_1 x51_2) false _ ?side1 ?side2 A24.out).mono ?_); (case side1 => exact cd (Kd.C_below HR211_0.out HB.out)); (case side2 => exact HC211_0.out); rintro e w' ⟨rfl, ⟨nd, rfl⟩⟩; refine ⟨_, rfl, ?_⟩))
         go_meet
         case rel => exact ⟨_, (true), er, H', ⟨by have := HJ1.out; have := HK2.out; first | omega | exact Nat.le_refl _⟩, ⟨blkd BK207⟩, ⟨belowg1 HB GE207⟩⟩
       case rest =>
        clear HC23; (try clear c20b0); (try clear c21b0); (try clear c22b0); (try clear hx211_0); (try clear p211); (try clear q211)
        obtain ⟨kq, x67_22, rfl, HA, HJ22, BK207, HB⟩ := hcut
        cases kq with
        | zero => exact absurd HA.out (by simp [impl_GoodNet.j2])
        | succ kj22 =>
         have H := HA.out; clear HA
         simp only [impl_GoodNet.j2] at H
         by_cases c29 : x67_22 = true
         ·subst c29
          have H1 : (some false) = some r := by rw [if_pos rfl] at H; exact H
          clear H
          have H := H1
          clear H1
          obtain rfl := Option.some.inj H
          go_wp2
          go_ret
          exact ⟨er2, belowg1 HB GE207⟩
         ·replace c29 := Bool.eq_false_iff.mpr c29
          subst c29
          have H1 : (impl_GoodNet.l1 kj22 x51_2 l0_1 (l0_1.length : Int) x51_2 (rd_L2 l0_1 x51_2) ((rd_L2 l0_1 x51_2).length : Int) 0 l0_0 l0_1 l0_2 l0_3 a0_4) = some r := by rw [if_neg (show ¬ (false = true) by decide)] at H; exact H
          clear H
          have H := H1
          clear H1
          have H' := Aside0.mk H
          clear H; go_wp2
          go_loopg [70] kj22 (fun kq v70 w' => ∃ (x70_4 : Int), v70 = .int .i64 x70_4 ∧ Aside0 (impl_GoodNet.l1 kq x51_2 l0_1 (l0_1.length : Int) x51_2 (rd_L2 l0_1 x51_2) ((rd_L2 l0_1 x51_2).length : Int) x70_4 l0_0 l0_1 l0_2 l0_3 a0_4 = some r) ∧ Aside0 (kq ≤ kj22) ∧ Aside0 (w'.heap[gb207]? = some (.cells #[(.slice A0_0 l0_0.length c0_0), (.slice (some ad211) l0_1.length c0_1), (.slice A0_2 l0_2.length c0_2), (.slice A0_3 l0_3.length c0_3), .int .i64 a0_4] 30 (0, 0))) ∧ Aside0 (Below w.heap.size w w'))
          case atStart => exact ⟨(0), er, H', ⟨Nat.le_refl _⟩, ⟨blkd BK207⟩, ⟨belowg1 HB GE207⟩⟩
          case round =>
           clear H'
           (try clear c29)
           obtain ⟨x70_4, rfl, HA, HK4, BK207, HB⟩ := hrel
           cases gk with
           | zero => exact absurd HA.out (by simp [impl_GoodNet.l1])
           | succ k4 =>
            have H := HA.out; clear HA
            simp only [impl_GoodNet.l1] at H
            by_cases c30 : x70_4 < ((rd_L2 l0_1 x51_2).length : Int)
            ·rw [if_pos c30] at H
             have c30b0 : decide (x70_4 < ((rd_L2 l0_1 x51_2).length : Int)) = true := decide_eq_true c30
             clear c30; replace H := ifS H; obtain ⟨c31, H⟩ := H; have c31b0 := decide_eq_true c31; clear c31; replace H := ifS H; obtain ⟨c32, H⟩ := H; have c32b0 := decide_eq_true c32; clear c32; replace H := ifS H; obtain ⟨c33, H⟩ := H; have c33b0 := decide_eq_true c33; clear c33; replace H := ifS H; obtain ⟨c34, H⟩ := H; have c34b0 := decide_eq_true c34; clear c34; replace H := bS H; obtain ⟨t217, A35, H⟩ := H
             replace H : (if t217 = true then (impl_GoodNet.l1 k4 x51_2 l0_1 (l0_1.length : Int) x51_2 (rd_L2 l0_1 x51_2) ((rd_L2 l0_1 x51_2).length : Int) (wrap64 (x70_4 + 1)) l0_0 l0_1 l0_2 l0_3 a0_4) else (some false)) = some r := H
             by_cases c36 : t217 = true
             ·subst c36
              have H1 : (impl_GoodNet.l1 k4 x51_2 l0_1 (l0_1.length : Int) x51_2 (rd_L2 l0_1 x51_2) ((rd_L2 l0_1 x51_2).length : Int) (wrap64 (x70_4 + 1)) l0_0 l0_1 l0_2 l0_3 a0_4) = some r := by rw [if_pos rfl] at H; exact H
              clear H
              have H := H1
              clear H1
              have H' := Aside0.mk H
              clear H
              have p215 : 0 ≤ (x70_4 : Int) := da
              have q215 : x70_4 < ((rd_L2 l0_1 x51_2).length : Int) := da
              obtain ⟨ad215, e215, hx215_0⟩ := Kd.at_string HR211_0.out x70_4 p215 q215
              cases e215
              replace hx215_0 := (HB.out.cell (World.block_lt_of_cell? w _ hx215_0)).trans hx215_0
              replace p215 := eq_true p215; replace q215 := eq_true q215; obtain ⟨hcz37_0, hcz37_1, hcz37_2, hcz37_3, hcz37_4, hfz37_0, hfz37_1, hfz37_2, hfz37_3, hfz37_4⟩ := box5 BK207
              have p216 : 0 ≤ (x51_2 : Int) := da
              have q216 : x51_2 < (l0_2.length : Int) := da
              obtain ⟨ad216, A216_0, c216_0, e216, hx216_0, hl216_0, hi216_0⟩ := at_L2 HR0_2.out x51_2 p216 q216
              cases e216
              replace hx216_0 := (HB.out.cell (World.block_lt_of_cell? w _ hx216_0)).trans hx216_0
              have HR216_0 := Aside0.mk hi216_0; have HC216_0 := Aside0.mk hl216_0; clear hi216_0 hl216_0; replace p216 := eq_true p216; replace q216 := eq_true q216
              go_wp2_with (first | ((with_reducible refine gate_callee (f := 34) rfl ?_); refine goesLa (some 80) rfl Try.func34 #[.slice A216_0 (rd_L2 l0_2 x51_2).length c216_0, .string (rdOf ByteArray.empty (rd_L2 l0_1 x51_2) x70_4)] rfl ?_; (with_reducible refine (slices_Contains_string_string.calls k4 _ _ (rd_L2 l0_2 x51_2) (rdOf ByteArray.empty (rd_L2 l0_1 x51_2) x70_4) true _ ?side1 ?side2 A35.out).mono ?_); (case side1 => exact cd (Kd.C_below HR216_0.out HB.out)); (case side2 => exact HC216_0.out); rintro e w' ⟨rfl, ⟨nd, rfl⟩⟩; refine ⟨_, rfl, ?_⟩))
              go_roundg k4
              case measure => have := HJ1.out; have := HK2.out; have := HJ22.out; have := HK4.out; omega
              case rel => exact ⟨(wrap64 (x70_4 + 1)), er, H', ⟨by have := HJ1.out; have := HK2.out; have := HJ22.out; have := HK4.out; omega⟩, ⟨blkd BK207⟩, ⟨belowg1 HB GE207⟩⟩
             ·replace c36 := Bool.eq_false_iff.mpr c36
              subst c36
              have H1 : (some false) = some r := by rw [if_neg (show ¬ (false = true) by decide)] at H; exact H
              clear H
              have H := H1
              clear H1
              obtain rfl := Option.some.inj H
              have p215 : 0 ≤ (x70_4 : Int) := da
              have q215 : x70_4 < ((rd_L2 l0_1 x51_2).length : Int) := da
              obtain ⟨ad215, e215, hx215_0⟩ := Kd.at_string HR211_0.out x70_4 p215 q215
              cases e215
              replace hx215_0 := (HB.out.cell (World.block_lt_of_cell? w _ hx215_0)).trans hx215_0
              replace p215 := eq_true p215; replace q215 := eq_true q215; obtain ⟨hcz38_0, hcz38_1, hcz38_2, hcz38_3, hcz38_4, hfz38_0, hfz38_1, hfz38_2, hfz38_3, hfz38_4⟩ := box5 BK207
              have p216 : 0 ≤ (x51_2 : Int) := da
              have q216 : x51_2 < (l0_2.length : Int) := da
              obtain ⟨ad216, A216_0, c216_0, e216, hx216_0, hl216_0, hi216_0⟩ := at_L2 HR0_2.out x51_2 p216 q216
              cases e216
              replace hx216_0 := (HB.out.cell (World.block_lt_of_cell? w _ hx216_0)).trans hx216_0
              have HR216_0 := Aside0.mk hi216_0; have HC216_0 := Aside0.mk hl216_0; clear hi216_0 hl216_0; replace p216 := eq_true p216; replace q216 := eq_true q216
              go_wp2_with (first | ((with_reducible refine gate_callee (f := 34) rfl ?_); refine goesLa (some 80) rfl Try.func34 #[.slice A216_0 (rd_L2 l0_2 x51_2).length c216_0, .string (rdOf ByteArray.empty (rd_L2 l0_1 x51_2) x70_4)] rfl ?_; (with_reducible refine (slices_Contains_string_string.calls k4 _ _ (rd_L2 l0_2 x51_2) (rdOf ByteArray.empty (rd_L2 l0_1 x51_2) x70_4) false _ ?side1 ?side2 A35.out).mono ?_); (case side1 => exact cd (Kd.C_below HR216_0.out HB.out)); (case side2 => exact HC216_0.out); rintro e w' ⟨rfl, ⟨nd, rfl⟩⟩; refine ⟨_, rfl, ?_⟩))
              go_ret
              exact ⟨er2, belowg1 HB GE207⟩
            ·rw [if_neg c30] at H
             have c30b0 : decide (x70_4 < ((rd_L2 l0_1 x51_2).length : Int)) = false := decide_eq_false c30
             clear c30
             have H' := Aside0.mk H
             clear H; go_wp2
             go_roundg k4
             case measure => have := HJ1.out; have := HK2.out; have := HJ22.out; have := HK4.out; omega
             case rel => exact ⟨(wrap64 (x51_2 + 1)), er, H', ⟨by have := HJ1.out; have := HK2.out; have := HJ22.out; have := HK4.out; omega⟩, ⟨blkd BK207⟩, ⟨belowg1 HB GE207⟩⟩
      ·rw [if_neg c20] at H
       have c20b0 : decide (x51_2 < (l0_1.length : Int)) = false := decide_eq_false c20
       clear c20
       have H' := Aside0.mk H
       clear H; obtain ⟨hcz39_0, hcz39_1, hcz39_2, hcz39_3, hcz39_4, hfz39_0, hfz39_1, hfz39_2, hfz39_3, hfz39_4⟩ := box5 BK207; go_wp2
       go_loopg [87] k2 (fun kq v87 w' => ∃ (x87_3 : Int), v87 = .int .i64 x87_3 ∧ Aside0 (impl_GoodNet.l2 kq l0_3 (l0_3.length : Int) x87_3 = some r) ∧ Aside0 (kq ≤ k2) ∧ Aside0 (w'.heap[gb207]? = some (.cells #[(.slice A0_0 l0_0.length c0_0), (.slice A0_1 l0_1.length c0_1), (.slice A0_2 l0_2.length c0_2), (.slice A0_3 l0_3.length c0_3), .int .i64 a0_4] 30 (0, 0))) ∧ Aside0 (Below w.heap.size w w'))
       case atStart => exact ⟨(0), er, H', ⟨Nat.le_refl _⟩, ⟨blkd BK207⟩, ⟨belowg1 HB GE207⟩⟩
       case round =>
        clear H'
        (try clear c20b0); (try clear hcz39_0); (try clear hcz39_1); (try clear hcz39_2); (try clear hcz39_3); (try clear hcz39_4); (try clear hfz39_0); (try clear hfz39_1); (try clear hfz39_2); (try clear hfz39_3); (try clear hfz39_4)
        obtain ⟨x87_3, rfl, HA, HK3, BK207, HB⟩ := hrel
        cases gk with
        | zero => exact absurd HA.out (by simp [impl_GoodNet.l2])
        | succ k3 =>
         have H := HA.out; clear HA
         simp only [impl_GoodNet.l2] at H
         by_cases c40 : x87_3 < (l0_3.length : Int)
         ·rw [if_pos c40] at H
          have c40b0 : decide (x87_3 < (l0_3.length : Int)) = true := decide_eq_true c40
          clear c40; replace H := ifS H; obtain ⟨c41, H⟩ := H; have c41b0 := decide_eq_true c41; clear c41; replace H := ifS H; obtain ⟨c42, H⟩ := H; have c42b0 := decide_eq_true c42; clear c42
          by_cases c43 : ((rd_L2 l0_3 x87_3).length : Int) > 60
          ·rw [if_pos c43] at H
           have c43b0 : decide (60 < ((rd_L2 l0_3 x87_3).length : Int)) = true := decide_eq_true c43
           have c43b1 : decide (60 < (rd_L2 l0_3 x87_3).length) = true := decide_eq_true (by omega)
           clear c43
           obtain rfl := Option.some.inj H
           have p218 : 0 ≤ (x87_3 : Int) := da
           have q218 : x87_3 < (l0_3.length : Int) := da
           obtain ⟨ad218, A218_0, c218_0, e218, hx218_0, hl218_0, hi218_0⟩ := at_L2 HR0_3.out x87_3 p218 q218
           cases e218
           replace hx218_0 := (HB.out.cell (World.block_lt_of_cell? w _ hx218_0)).trans hx218_0
           have HR218_0 := Aside0.mk hi218_0; have HC218_0 := Aside0.mk hl218_0; clear hi218_0 hl218_0; replace p218 := eq_true p218; replace q218 := eq_true q218; go_wp2
           go_ret
           exact ⟨er2, belowg1 HB GE207⟩
          ·rw [if_neg c43] at H
           have c43b0 : decide (60 < ((rd_L2 l0_3 x87_3).length : Int)) = false := decide_eq_false c43
           have c43b1 : decide (60 < (rd_L2 l0_3 x87_3).length) = false := decide_eq_false (by omega)
           clear c43; replace H := bS H; obtain ⟨t219, A44, H⟩ := H
           replace H : (if t219 = true then (some false) else (impl_GoodNet.l2 k3 l0_3 (l0_3.length : Int) (wrap64 (x87_3 + 1)))) = some r := H
           by_cases c45 : t219 = true
           ·subst c45
            have H1 : (some false) = some r := by rw [if_pos rfl] at H; exact H
            clear H
            have H := H1
            clear H1
            obtain rfl := Option.some.inj H
            have p218 : 0 ≤ (x87_3 : Int) := da
            have q218 : x87_3 < (l0_3.length : Int) := da
            obtain ⟨ad218, A218_0, c218_0, e218, hx218_0, hl218_0, hi218_0⟩ := at_L2 HR0_3.out x87_3 p218 q218
            cases e218
            replace hx218_0 := (HB.out.cell (World.block_lt_of_cell? w _ hx218_0)).trans hx218_0
            have HR218_0 := Aside0.mk hi218_0; have HC218_0 := Aside0.mk hl218_0; clear hi218_0 hl218_0; replace p218 := eq_true p218; replace q218 := eq_true q218
            go_wp2_with (first | (go_at_call 35; (with_reducible refine (slices_ContainsFunc_35_at_36.calls k3 _ _ (rd_L2 l0_3 x87_3)  true _ ?side1 ?side2 A44.out).mono ?_); (case side1 => exact cd (Kd.C_below HR218_0.out HB.out)); (case side2 => exact HC218_0.out); rintro e w' ⟨rfl, ⟨nd, rfl⟩⟩))
            go_ret
            exact ⟨er2, belowg1 HB GE207⟩
           ·replace c45 := Bool.eq_false_iff.mpr c45
            subst c45
            have H1 : (impl_GoodNet.l2 k3 l0_3 (l0_3.length : Int) (wrap64 (x87_3 + 1))) = some r := by rw [if_neg (show ¬ (false = true) by decide)] at H; exact H
            clear H
            have H := H1
            clear H1
            have H' := Aside0.mk H
            clear H
            have p218 : 0 ≤ (x87_3 : Int) := da
            have q218 : x87_3 < (l0_3.length : Int) := da
            obtain ⟨ad218, A218_0, c218_0, e218, hx218_0, hl218_0, hi218_0⟩ := at_L2 HR0_3.out x87_3 p218 q218
            cases e218
            replace hx218_0 := (HB.out.cell (World.block_lt_of_cell? w _ hx218_0)).trans hx218_0
            have HR218_0 := Aside0.mk hi218_0; have HC218_0 := Aside0.mk hl218_0; clear hi218_0 hl218_0; replace p218 := eq_true p218; replace q218 := eq_true q218
            go_wp2_with (first | (go_at_call 35; (with_reducible refine (slices_ContainsFunc_35_at_36.calls k3 _ _ (rd_L2 l0_3 x87_3)  false _ ?side1 ?side2 A44.out).mono ?_); (case side1 => exact cd (Kd.C_below HR218_0.out HB.out)); (case side2 => exact HC218_0.out); rintro e w' ⟨rfl, ⟨nd, rfl⟩⟩))
            go_roundg k3
            case measure => have := HJ1.out; have := HK2.out; have := HK3.out; omega
            case rel => exact ⟨(wrap64 (x87_3 + 1)), er, H', ⟨by have := HJ1.out; have := HK2.out; have := HK3.out; omega⟩, ⟨blkd BK207⟩, ⟨belowg1 HB GE207⟩⟩
         ·rw [if_neg c40] at H
          have c40b0 : decide (x87_3 < (l0_3.length : Int)) = false := decide_eq_false c40
          clear c40
          obtain rfl := Option.some.inj H
          go_wp2
          go_ret
          exact ⟨er2, belowg1 HB GE207⟩

/-! ### slices_Clone_string_string: function 37 -/
def slices_Clone_string_string.f (l0 : List ByteArray) : Option (List ByteArray) := (some (([] : List ByteArray) : List ByteArray)).bind fun y220 => (if y220.length + l0.length < 8796093022208 then (some (y220 ++ l0)) else (none))
theorem clonenil37 (w : World) (a : Option Addr) (m c m' c' : Nat) : (Go.binOp .eql 27 (.slice a m c) (.slice none m' c')).run Try.prog w = .ok (.bool a.isNone) w := Go.Lib.run_eql_slice_nil w 27 9 a m c m' c' Try.underlying27
attribute [local go_sem high] clonenil37
set_option maxHeartbeats 8000000 in
set_option maxRecDepth 100000 in
theorem slices_Clone_string_string.calls_some (ad0 : Addr) (c0 : Nat) (l0 : List ByteArray) (r : List ByteArray) (w : World) (hr0 : Kd.C Kd.string w (some ad0) l0.length l0) (hc0 : l0.length ≤ c0) (h : slices_Clone_string_string.f l0 = some r) :
  Calls Try.prog 37 #[.slice (some ad0) l0.length c0] w fun e w' => ∃ v0_ : Value, e = .returned (v0_) ∧ Kd.R Kd.string 9 w' w.heap.size (fun _ => True) v0_ r ∧ Below w.heap.size w w' := by
 have HR0 := Aside0.mk hr0; have HC0 := Aside0.mk hc0; clear hr0 hc0
 have HB := Aside0.mk (Below.refl w.heap.size w)
 have H : ((some (([] : List ByteArray) : List ByteArray)).bind fun y220 => (if y220.length + l0.length < 8796093022208 then (some (y220 ++ l0)) else (none))) = some r := h
 clear h
 obtain ⟨y220, hy_⟩ : ∃ y_ : List ByteArray, y_ = (([] : List ByteArray)) := ⟨_, rfl⟩
 replace H : (if y220.length + l0.length < 8796093022208 then (some (y220 ++ l0)) else (none)) = some r := yH
 have Ny220 := ak hy_; clear hy_; replace H := ifS H; obtain ⟨c2, H⟩ := H; have LMc2 := Aside0.mk c2; clear c2
 obtain ⟨y223, hy_⟩ : ∃ y_ : List ByteArray, y_ = (y220 ++ l0) := ⟨_, rfl⟩
 replace H : (some y223) = some r := yH
 have Ny223 := ak hy_; clear hy_
 obtain rfl := Option.some.inj H
 go_enter Try.func37, Try.ntmps37
 go_wp2_with (first | ((with_reducible refine gate_dst (N := 5) rfl ?_); refine Kd.R_lit Kd.string _ 9 ?hg (N := 5) ?hd (xs := ([] : List ByteArray)) (inner := []) (ok := fun _ => True) (okp := fun _ => True) ?hr ?hp (fun _ hk => hk) trivial (Below.refl _ _) (Nat.le_refl _) (by simp) ?_; (case hd => rfl); (case hg => rfl); (case hr => first | (go_simp; done) | (go_simp; rfl)); (case hp => exact (Reps.none _ _)); intro v221 w3 ho4 hb hg_ hnew_; clear hg_ hnew_; (first | rw [← Ny220.out] at ho4 | (simp only [Int.reduceToNat] at ho4; rw [← Ny220.out] at ho4)); have HO222 := ak (Kd.R_lower ho4 (below_size (belowd HB))); replace HB := ak (below_step (belowd HB) hb); clear hb ho4) | ((with_reducible refine gate_builtin (b := .append) (xs := #[.tmp 5, .tmp 6]) rfl ?_); at_builtin; refine Kd.R_append_rows Kd.string (w0 := w) w.heap.size rfl (.tmp 5) (.tmp 6) 27 9 (.string ⟨#[]⟩) 16 rfl Try.underlying27 info9 rfl (by decide) (by omega) v221 y220 l0 _ _ _ (fun _ => True) (fun _ => False) rfl rfl ?aO ?aR (fun _ _ h => h) (fun _ h => h.elim) ?aF ?aB ?aS ?aL ?_; (case aR => exact cd (Kd.C_below HR0.out HB.out)); (case aB => exact (belowd HB)); (case aF => exact (fun _ _ => trivial)); (case aO => exact (rdl HO222)); (case aS => exact (below_size (belowd HB))); (case aL => have := LMc2.out; omega); intro v224 w5 ho hb hg hat; rw [← Ny223.out] at ho; replace HB := ak (hb); have HO225 := ak (ho); clear HO222; clear ho hb hg hat))
 go_ret
 exact ⟨_, er2, by (with_reducible repeat (first | apply Kd.R_alloc | apply Kd.R_drewN | apply Kd.R_drew)); exact HO225.out, belowd HB⟩

set_option maxHeartbeats 8000000 in
set_option maxRecDepth 100000 in
theorem slices_Clone_string_string.calls (A0 : Option Addr) (c0 : Nat) (l0 : List ByteArray) (r : List ByteArray) (w : World) (hr0 : Kd.C Kd.string w A0 l0.length l0) (hc0 : l0.length ≤ c0) (h : slices_Clone_string_string.f l0 = some r) :
  Calls Try.prog 37 #[.slice A0 l0.length c0] w fun e w' => ∃ v0_ : Value, e = .returned (v0_) ∧ Kd.R Kd.string 9 w' w.heap.size (fun _ => True) v0_ r ∧ Below w.heap.size w w' := by
 cases A0 with
 | some ad0 => exact slices_Clone_string_string.calls_some ad0 c0 l0 r w hr0 hc0 h
 | none =>
  have hl : l0 = [] := by
   rcases Nat.eq_zero_or_pos l0.length with h0 | h0
   ·exact List.eq_nil_of_length_eq_zero h0
   ·obtain ⟨ad, he, _⟩ := hr0.2.2 h0
    cases he
  subst hl
  have hr : r = [] := by
   have h' := h
   simp [slices_Clone_string_string.f] at h'
   first | exact h'.symm | exact h'
  subst hr; clear h hr0 hc0
  go_enter Try.func37, Try.ntmps37
  go_wp2
  go_ret
  exact ⟨_, rfl, Kd.R_nil _ _ _ _ _, Below.refl _ _⟩

-- NOT PRINTED: function 44 (slices_insertionSortCmpFunc_string)

-- NOT PRINTED: function 47 (slices_swapRangeCmpFunc_string)

-- NOT PRINTED: function 46 (slices_rotateCmpFunc_string)

-- NOT PRINTED: function 45 (slices_symMergeCmpFunc_string)

-- NOT PRINTED: function 43 (slices_stableCmpFunc_string)

-- NOT PRINTED: function 38 (slices_SortStableFunc_string_string)

/-! ### impl_Net_inbox_1: function 39 -/
def impl_Net_inbox_1.f (a0 : ByteArray) (a1 : ByteArray) : Option (Int) := if 0 < (a0.size : Int) then (if 0 < (a1.size : Int) then (some (wrap64 ((wrap64 (bt a0 0)) - (wrap64 (bt a1 0))))) else (none)) else (none)
set_option maxHeartbeats 8000000 in
set_option maxRecDepth 100000 in
theorem impl_Net_inbox_1.calls (a0 : ByteArray) (a1 : ByteArray) (r : Int) (w : World) (h : impl_Net_inbox_1.f a0 a1 = some r) :
  Calls Try.prog 39 #[.string a0, .string a1] w fun e w' => e = .returned (.int .i64 r) ∧ Drawn0 w w' := by
 have H : (if 0 < (a0.size : Int) then (if 0 < (a1.size : Int) then (some (wrap64 ((wrap64 (bt a0 0)) - (wrap64 (bt a1 0))))) else (none)) else (none)) = some r := h
 clear h; replace H := ifS H; obtain ⟨c3, H⟩ := H; have c3b0 := decide_eq_true c3
 have c3b1 : decide (0 < a0.size) = true := decide_eq_true (by omega)
 clear c3; replace H := ifS H; obtain ⟨c5, H⟩ := H; have c5b0 := decide_eq_true c5
 have c5b1 : decide (0 < a1.size) = true := decide_eq_true (by omega)
 clear c5
 obtain rfl := Option.some.inj H
 have p4 : 0 ≤ (0 : Int) := (by omega)
 have q4 : 0 < a0.size := (by have : (0 : Int) < (a0.size : Int) := da; omega)
 have hx4 : ∀ h : 0 < a0.size, ((a0[0]'h).toNat : Int) = bt a0 0 := bt_at a0 0
 clear p4
 have qi4 : (0 < (a0.size : Int)) = True := eq_true (da)
 replace q4 := eq_true q4
 have p6 : 0 ≤ (0 : Int) := (by omega)
 have q6 : 0 < a1.size := (by have : (0 : Int) < (a1.size : Int) := da; omega)
 have hx6 : ∀ h : 0 < a1.size, ((a1[0]'h).toNat : Int) = bt a1 0 := bt_at a1 0
 clear p6
 have qi6 : (0 < (a1.size : Int)) = True := eq_true (da)
 replace q6 := eq_true q6
 go_enter Try.func39, Try.ntmps39
 go_wp2
 repeat (go_quiet (fail); try go_wp2)
 go_ret
 exact ⟨er, drw⟩

/-! ### slices_insertionSortCmpFunc_44_at_39: function 44 -/
mutual
def slices_insertionSortCmpFunc_44_at_39.l0 : Nat → List ByteArray → Int → Int → Int → Option (List ByteArray)
  | 0, _, _, _, _ => none
  | k + 1, x0, x1, x2, x8 => if x8 < x2 then (slices_insertionSortCmpFunc_44_at_39.l1 k x0 x1 x2 x8 x8) else (some x0)
def slices_insertionSortCmpFunc_44_at_39.l1 : Nat → List ByteArray → Int → Int → Int → Int → Option (List ByteArray)
  | 0, _, _, _, _, _ => none
  | k + 1, x0, x1, x2, x8, x9 => if x9 > x1 then (if 0 ≤ x9 then (if x9 < (x0.length : Int) then (if 0 ≤ (wrap64 (x9 - 1)) then (if (wrap64 (x9 - 1)) < (x0.length : Int) then ((impl_Net_inbox_1.f (rdOf ByteArray.empty x0 x9) (rdOf ByteArray.empty x0 (wrap64 (x9 - 1)))).bind fun t228 => (if t228 < 0 then (slices_insertionSortCmpFunc_44_at_39.l1 k ((x0.set (x9 : Int).toNat (rdOf ByteArray.empty x0 (wrap64 (x9 - 1)))).set ((wrap64 (x9 - 1)) : Int).toNat (rdOf ByteArray.empty x0 x9)) x1 x2 x8 (wrap64 (x9 - 1))) else (slices_insertionSortCmpFunc_44_at_39.l0 k x0 x1 x2 (wrap64 (x8 + 1))))) else (none)) else (none)) else (none)) else (none)) else (slices_insertionSortCmpFunc_44_at_39.l0 k x0 x1 x2 (wrap64 (x8 + 1)))
end
def slices_insertionSortCmpFunc_44_at_39.f (k : Nat) (l0 : List ByteArray) (a1 : Int) (a2 : Int)  : Option (List ByteArray) := slices_insertionSortCmpFunc_44_at_39.l0 k l0 a1 a2 (wrap64 (a1 + 1))
theorem slices_insertionSortCmpFunc_44_at_39.mono_l : ∀ k, (∀ y0 y1 y2 y3, LeO (slices_insertionSortCmpFunc_44_at_39.l0 k y0 y1 y2 y3) (slices_insertionSortCmpFunc_44_at_39.l0 (k + 1) y0 y1 y2 y3)) ∧ (∀ y0 y1 y2 y3 y4, LeO (slices_insertionSortCmpFunc_44_at_39.l1 k y0 y1 y2 y3 y4) (slices_insertionSortCmpFunc_44_at_39.l1 (k + 1) y0 y1 y2 y3 y4))
 | 0 => ⟨fun _ _ _ _ r h => by simp [slices_insertionSortCmpFunc_44_at_39.l0] at h, fun _ _ _ _ _ r h => by simp [slices_insertionSortCmpFunc_44_at_39.l1] at h⟩
 | k + 1 => by
  obtain ⟨ih0, ih1⟩ := slices_insertionSortCmpFunc_44_at_39.mono_l k
  refine ⟨?_, ?_⟩
  ·intro y0 y1 y2 y3
   unfold slices_insertionSortCmpFunc_44_at_39.l0
   repeat' (first | (with_reducible first | exact ih0 _ _ _ _ | exact ih1 _ _ _ _ _ | exact LeO.refl _ | exact LeO.none _ | refine LeO.ite ?_ ?_ | refine LeO.bind ?_ (fun _ => ?_)) | exact ih0 _ _ _ _ | exact ih1 _ _ _ _ _ | exact LeO.none _ | refine LeO.ite ?_ ?_ | refine LeO.bind ?_ (fun _ => ?_))
  ·intro y0 y1 y2 y3 y4
   unfold slices_insertionSortCmpFunc_44_at_39.l1
   repeat' (first | (with_reducible first | exact ih0 _ _ _ _ | exact ih1 _ _ _ _ _ | exact LeO.refl _ | exact LeO.none _ | refine LeO.ite ?_ ?_ | refine LeO.bind ?_ (fun _ => ?_)) | exact ih0 _ _ _ _ | exact ih1 _ _ _ _ _ | exact LeO.none _ | refine LeO.ite ?_ ?_ | refine LeO.bind ?_ (fun _ => ?_))
theorem slices_insertionSortCmpFunc_44_at_39.mono : ∀ a0 a1 a2 k, LeO (slices_insertionSortCmpFunc_44_at_39.f k a0 a1 a2) (slices_insertionSortCmpFunc_44_at_39.f (k + 1) a0 a1 a2) := by
 intro a0 a1 a2 k
 obtain ⟨ih0, ih1⟩ := slices_insertionSortCmpFunc_44_at_39.mono_l k
 unfold slices_insertionSortCmpFunc_44_at_39.f
 repeat' (first | (with_reducible first | exact ih0 _ _ _ _ | exact ih1 _ _ _ _ _ | exact LeO.refl _ | exact LeO.none _ | refine LeO.ite ?_ ?_ | refine LeO.bind ?_ (fun _ => ?_)) | exact ih0 _ _ _ _ | exact ih1 _ _ _ _ _ | exact LeO.none _ | refine LeO.ite ?_ ?_ | refine LeO.bind ?_ (fun _ => ?_))
def slices_insertionSortCmpFunc_44_at_39.T4 : Bool × List (List Nat × List Nat) := (true, [([], []), ([], []), ([0, 1], [0, 1]), ([2], [2]), ([3], [3]), ([3], [3]), ([3], [3]), ([5, 6, 3], [3, 5, 6]), ([7, 3], [3, 7]), ([3], [3]), ([3], [3]), ([10, 3], [3, 10]), ([9, 11, 3], [3, 9, 11]), ([12, 3], [3, 12]), ([4, 8, 13, 3, 3], [3, 4, 8, 13]), ([14, 3], [3, 14]), ([3, 15], [3, 15])])
def slices_insertionSortCmpFunc_44_at_39.B4 : List Nat := [0, 0, 3, 7, 15, 15, 15, 111, 239, 15, 15, 1039, 3599, 7695, 16383, 32767, 65535]
theorem slices_insertionSortCmpFunc_44_at_39.tab4 : rtab .any (opsOf Try.f44 4) = slices_insertionSortCmpFunc_44_at_39.T4 := by kernel_rfl
theorem slices_insertionSortCmpFunc_44_at_39.bits4 : waitsOk slices_insertionSortCmpFunc_44_at_39.T4.2 slices_insertionSortCmpFunc_44_at_39.B4 = true := by kernel_rfl
def slices_insertionSortCmpFunc_44_at_39.T6 : Bool × List (List Nat × List Nat) := (true, [([], []), ([], []), ([], []), ([], []), ([3], [3]), ([], []), ([], []), ([6], [6]), ([5, 7], [5, 7]), ([8], [8]), ([], []), ([], []), ([10, 11], [10, 11]), ([12], [12]), ([0, 1, 0, 1, 5, 6, 7, 8, 9, 13], [0, 1]), ([14, 9, 0, 1, 5, 6, 7, 8, 9, 13], [9, 14]), ([2, 4, 0, 1, 2, 3, 4, 5, 6, 7, 8, 9, 10, 11, 12, 13, 14, 15], [2, 4]), ([16, 13, 15, 0, 1, 2, 3, 4, 5, 6, 7, 8, 9, 10, 11, 12, 13, 14, 15], [13, 16])])
def slices_insertionSortCmpFunc_44_at_39.B6 : List Nat := [0, 0, 0, 0, 8, 0, 0, 64, 224, 480, 0, 0, 3072, 7168, 16355, 32739, 65535, 131071]
theorem slices_insertionSortCmpFunc_44_at_39.tab6 : rtab .any (opsOf Try.f44 6) = slices_insertionSortCmpFunc_44_at_39.T6 := by kernel_rfl
theorem slices_insertionSortCmpFunc_44_at_39.bits6 : waitsOk slices_insertionSortCmpFunc_44_at_39.T6.2 slices_insertionSortCmpFunc_44_at_39.B6 = true := by kernel_rfl
set_option maxHeartbeats 8000000 in
set_option maxRecDepth 100000 in
theorem slices_insertionSortCmpFunc_44_at_39.calls (k : Nat) (P0_ : Nat → Prop) (u9000_ : Value) (l0 : List ByteArray) (a1 : Int) (a2 : Int)  (r : List ByteArray) (w0 w : World) (hB : Below w0.heap.size w0 w) (ho0 : Kd.R Kd.string 9 w w0.heap.size P0_ u9000_ l0) (h : slices_insertionSortCmpFunc_44_at_39.f k l0 a1 a2 = some r) :
  Calls Try.prog 44 #[u9000_, .int .i64 a1, .int .i64 a2, .func (.func 39) #[] #[]] w fun e w' => e = .returned (.tuple #[]) ∧ Kd.R Kd.string 9 w' w0.heap.size (fun k_ => (P0_ k_ ∨ w.heap.size ≤ k_)) u9000_ r ∧ Below w0.heap.size w0 w' ∧ Kept w w' (fun k_ => P0_ k_) := by
 have HO0 := Aside0.mk (show Kd.R Kd.string 9 w w0.heap.size (fun k_ => (P0_ k_ ∨ w.heap.size ≤ k_)) u9000_ l0 from Kd.R_mono ho0 (fun k_ hk => (.inl hk)))
 have HK := Aside0.mk (Kept.refl w (fun k_ => P0_ k_))
 have HW0 := Aside0.mk hB.size
 have HB := Aside0.mk hB; clear hB
 have H : (slices_insertionSortCmpFunc_44_at_39.l0 k l0 a1 a2 (wrap64 (a1 + 1))) = some r := h
 clear h
 have H' := Aside0.mk H
 clear H
 go_enter Try.func44, Try.ntmps44
 go_wp2
 go_loopg [8] k (fun kq v8 w' => ∃ (x0_1 : List ByteArray) (x8_1 : Int), v8 = .int .i64 x8_1 ∧ Aside0 (slices_insertionSortCmpFunc_44_at_39.l0 kq x0_1 a1 a2 x8_1 = some r) ∧ Aside0 (kq ≤ k) ∧ Aside0 (Kd.R Kd.string 9 w' w0.heap.size (fun k_ => (P0_ k_ ∨ w.heap.size ≤ k_)) u9000_ x0_1) ∧ Aside0 (Kept w w' (fun k_ => P0_ k_)) ∧ Aside0 (Below w0.heap.size w0 w'))
 case atStart => exact ⟨(l0), (wrap64 (a1 + 1)), er, H', ⟨Nat.le_refl _⟩, ⟨rdl HO0⟩, ⟨by repeat (first | (with_reducible first | exact HK.out | apply Kept.alloc | apply Kept.drewN | apply Kept.drew) | exact HK.out)⟩, ⟨belowd HB⟩⟩
 case round =>
  clear H'
  obtain ⟨x0_1, x8_1, rfl, HA, HK1, HO_0, HK, HB⟩ := hrel
  cases gk with
  | zero => exact absurd HA.out (by simp [slices_insertionSortCmpFunc_44_at_39.l0])
  | succ k1 =>
   have H := HA.out; clear HA
   simp only [slices_insertionSortCmpFunc_44_at_39.l0] at H
   by_cases c5 : x8_1 < a2
   ·rw [if_pos c5] at H
    have c5b0 : decide (x8_1 < a2) = true := decide_eq_true c5
    clear c5
    have H' := Aside0.mk H
    clear H; go_wp2
    go_loopg [9] k1 (fun kq v9 w' => ∃ (x0_2 : List ByteArray) (x9_2 : Int), v9 = .int .i64 x9_2 ∧ Aside0 (slices_insertionSortCmpFunc_44_at_39.l1 kq x0_2 a1 a2 x8_1 x9_2 = some r) ∧ Aside0 (kq ≤ k1) ∧ Aside0 (Kd.R Kd.string 9 w' w0.heap.size (fun k_ => (P0_ k_ ∨ w.heap.size ≤ k_)) u9000_ x0_2) ∧ Aside0 (Kept w w' (fun k_ => P0_ k_)) ∧ Aside0 (Below w0.heap.size w0 w'))
    case atStart => exact ⟨(x0_1), (x8_1), er, H', ⟨Nat.le_refl _⟩, ⟨rdl HO_0⟩, ⟨by repeat (first | (with_reducible first | exact HK.out | apply Kept.alloc | apply Kept.drewN | apply Kept.drew) | exact HK.out)⟩, ⟨belowd HB⟩⟩
    case round =>
     clear H'
     (try clear c5b0)
     obtain ⟨x0_2, x9_2, rfl, HA, HK2, HO_0, HK, HB⟩ := hrel
     cases gk with
     | zero => exact absurd HA.out (by simp [slices_insertionSortCmpFunc_44_at_39.l1])
     | succ k2 =>
      have H := HA.out; clear HA
      simp only [slices_insertionSortCmpFunc_44_at_39.l1] at H
      by_cases c6 : x9_2 > a1
      ·rw [if_pos c6] at H
       have c6b0 : decide (a1 < x9_2) = true := decide_eq_true c6
       clear c6; replace H := ifS H; obtain ⟨c7, H⟩ := H; have c7b0 := decide_eq_true c7; clear c7; replace H := ifS H; obtain ⟨c8, H⟩ := H; have c8b0 := decide_eq_true c8; clear c8
       obtain ⟨ji9, hji9⟩ : ∃ j_ : Int, (wrap64 (x9_2 - 1)) = j_ := ⟨_, rfl⟩
       replace H : (if 0 ≤ (ji9) then (if (ji9) < (x0_2.length : Int) then ((impl_Net_inbox_1.f (rdOf ByteArray.empty x0_2 x9_2) (rdOf ByteArray.empty x0_2 (ji9))).bind fun t228 => (if t228 < 0 then (slices_insertionSortCmpFunc_44_at_39.l1 k2 ((x0_2.set (x9_2 : Int).toNat (rdOf ByteArray.empty x0_2 (ji9))).set ((ji9) : Int).toNat (rdOf ByteArray.empty x0_2 x9_2)) a1 a2 x8_1 ji9) else (slices_insertionSortCmpFunc_44_at_39.l0 k2 x0_2 a1 a2 (wrap64 (x8_1 + 1))))) else (none)) else (none)) = some r := by first | (rw [hji9] at H; exact H) | (simp only [hji9] at H ⊢; exact H)
       have hji9w : (IntKind.i64.wrap (x9_2 - 1)) = ji9 := (i64_w _).trans hji9
       replace H := ifS H; obtain ⟨c10, H⟩ := H; have c10b0 := decide_eq_true c10; clear c10; replace H := ifS H; obtain ⟨c11, H⟩ := H; have c11b0 := decide_eq_true c11; clear c11; replace H := bS H; obtain ⟨t228, A12, H⟩ := H
       replace H : (if t228 < 0 then (slices_insertionSortCmpFunc_44_at_39.l1 k2 ((x0_2.set (x9_2 : Int).toNat (rdOf ByteArray.empty x0_2 (ji9))).set ((ji9) : Int).toNat (rdOf ByteArray.empty x0_2 x9_2)) a1 a2 x8_1 ji9) else (slices_insertionSortCmpFunc_44_at_39.l0 k2 x0_2 a1 a2 (wrap64 (x8_1 + 1)))) = some r := H
       by_cases c13 : t228 < 0
       ·rw [if_pos c13] at H
        have c13b0 : decide (t228 < 0) = true := decide_eq_true c13
        clear c13
        obtain ⟨y231, hy_⟩ : ∃ y_ : List ByteArray, y_ = (x0_2.set (x9_2 : Int).toNat (rdOf ByteArray.empty x0_2 (ji9))) := ⟨_, rfl⟩
        replace H : (slices_insertionSortCmpFunc_44_at_39.l1 k2 (y231.set ((ji9) : Int).toNat (rdOf ByteArray.empty x0_2 x9_2)) a1 a2 x8_1 ji9) = some r := yH
        have Ny231 := ak hy_; clear hy_
        obtain ⟨y232, hy_⟩ : ∃ y_ : List ByteArray, y_ = (y231.set ((ji9) : Int).toNat (rdOf ByteArray.empty x0_2 x9_2)) := ⟨_, rfl⟩
        replace H : (slices_insertionSortCmpFunc_44_at_39.l1 k2 y232 a1 a2 x8_1 ji9) = some r := yH
        have Ny232 := ak hy_; clear hy_
        have H' := Aside0.mk H
        clear H
        try go_wp2
        replace HO_0 := ak (Kd.R_drew HO_0.out)
        replace HK := ak (Kept.drew HK.out)
        replace HB := ak (below_drew1 HB.out)
        obtain ⟨Ao17, co17, eo17⟩ := Kd.R_slice HO_0.out
        (first | subst eo17 | (injection eo17 with f1_ f2_ f3_; have f4_ := f1_.symm; have f5_ := f3_.symm; clear f1_ f2_ f3_; subst f4_; subst f5_))
        have p226 : 0 ≤ (x9_2 : Int) := da
        have q226 : x9_2 < (x0_2.length : Int) := da
        obtain ⟨ad226, e226, hx226_0⟩ := Kd.at_string (Kd.R_reads' HO_0.out).2.2 x9_2 p226 q226
        cases e226
        replace p226 := eq_true p226; replace q226 := eq_true q226
        have p227 : 0 ≤ ((ji9) : Int) := da
        have q227 : (ji9) < (x0_2.length : Int) := da
        obtain ⟨ad227, e227, hx227_0⟩ := Kd.at_string (Kd.R_reads' HO_0.out).2.2 (ji9) p227 q227
        obtain rfl : ad226 = ad227 := (by injection e227)
        replace p227 := eq_true p227; replace q227 := eq_true q227
        refine start_ (n := 17) (S := fun w' => w'.cell? (ad226.add (x9_2).toNat) = some (.string (rdOf ByteArray.empty x0_2 x9_2)) ∧ w'.cell? (ad226.add ((ji9)).toNat) = some (.string (rdOf ByteArray.empty x0_2 (ji9)))) (ds := []) (bl 17 0) (by kernel_rfl) rfl rfl ⟨hx226_0, hx227_0⟩ (fun hHeld => ?_); refine with_tabW slices_insertionSortCmpFunc_44_at_39.tab4 slices_insertionSortCmpFunc_44_at_39.bits4 (fun HT_ HW_ => ?_)
        generalize wr.drew = w16 at HO_0 HK HB hx226_0 hx227_0 hHeld ⊢
        refine pureA 0 (some 18) 17 1 HT_ ?_
        refine pureA 1 (some 19) 17 3 HT_ ?_
        refine pureA 2 (some 20) 17 7 HT_ ?_
        refine pureA 3 (some 21) 17 15 HT_ ?_
        refine pureA 4 (some 22) 17 31 HT_ ?_
        refine pureA 5 (some 23) 17 63 HT_ ?_
        refine pureA 6 (some 24) 17 127 HT_ ?_
        refine pureA 7 (some 25) 17 255 HT_ ?_
        refine pureA 9 (some 27) 17 767 HT_ ?_
        refine pureA 10 (some 28) 17 1791 HT_ ?_
        refine pureA 11 (some 29) 17 3839 HT_ ?_
        refine pureA 12 (some 30) 17 7935 HT_ ?_
        refine takeA 8 (some 26) 17 8191 HT_ HW_ hHeld ?_ (hy := by rintro w' ⟨s0, s1⟩; go_simp; with_reducible rfl)
        refine takeA 13 (some 31) 17 16383 HT_ HW_ hHeld ?_ (hy := by rintro w' ⟨s0, s1⟩; go_simp; with_reducible rfl)
        refine oneA 14 (some 32) 17 32767 HT_ (fun K hK => ?_)
        refine goesVs_ Try.func39 (by kernel_rfl) rfl #[.string (rdOf ByteArray.empty x0_2 x9_2), .string (rdOf ByteArray.empty x0_2 (ji9))] (by rfl) rfl rfl rfl (by (try simp only [List.map_toArray, List.map_cons, List.map_nil]); first | done | (simp only [hji9]; rfl) | rfl | (simp only [List.length_drop, List.length_take]; rfl)) ?_
        with_reducible refine (impl_Net_inbox_1.calls (rdOf ByteArray.empty x0_2 x9_2) (rdOf ByteArray.empty x0_2 (ji9)) t228 _ A12.out).mono ?_
        rintro e w' ⟨rfl, ⟨nd, rfl⟩⟩
        refine ⟨_, rfl, ?_⟩
        refine hK.out _ _ ⟨hHeld.1, hHeld.2⟩ (fun hHeld => ?_)
        clear hK K
        refine norm_ (a' := ?_) ?_ ?_
        rotate_left
        ·show Act.put _ (some 32) _ = _
         simp only [Act.put, List.setIfInBounds_toArray, List.set_cons_zero, List.set_cons_succ, i64_w, i32_w]
         rfl
        refine pureA 15 (some 33) 17 65535 HT_ ?_
        refine pureA 16 (some 34) 17 131071 HT_ ?_
        refine done_ (done_of HT_.out (by kernel_rfl)) ?_
        try go_wp2
        (try (rw [drewN_self w16]; generalize hq_ : World.drewN w16 _ = w16; have n0_ : Aside0 (Kd.R Kd.string 9 w16 w0.heap.size (fun k_ => (P0_ k_ ∨ w.heap.size ≤ k_)) (.slice (some ad226) x0_2.length co17) x0_2) := ⟨by rw [← hq_]; exact (rdl HO_0)⟩; have n1_ : Aside0 (Kept w w16 (fun k_ => P0_ k_)) := ⟨by rw [← hq_]; exact (by repeat (first | (with_reducible first | exact HK.out | apply Kept.alloc | apply Kept.drewN | apply Kept.drew) | exact HK.out))⟩; have n2_ : Aside0 (Below w0.heap.size w0 w16) := ⟨by rw [← hq_]; exact (belowd HB)⟩; clear HO_0 HK HB hq_; have HO_0 := n0_; have HK := n1_; have HB := n2_; clear n0_ n1_ n2_))
        replace HO_0 := ak (Kd.R_drew HO_0.out)
        replace HK := ak (Kept.drew HK.out)
        replace HB := ak (below_drew1 HB.out)
        have p229 : 0 ≤ ((ji9) : Int) := da
        have q229 : (ji9) < (x0_2.length : Int) := da
        obtain ⟨ad229, e229, hx229_0⟩ := Kd.at_string (Kd.R_reads' HO_0.out).2.2 (ji9) p229 q229
        obtain rfl : ad226 = ad229 := (by injection e229)
        replace p229 := eq_true p229; replace q229 := eq_true q229
        have p230 : 0 ≤ (x9_2 : Int) := da
        have q230 : x9_2 < (x0_2.length : Int) := da
        obtain ⟨ad230, e230, hx230_0⟩ := Kd.at_string (Kd.R_reads' HO_0.out).2.2 x9_2 p230 q230
        obtain rfl : ad226 = ad230 := (by injection e230)
        replace p230 := eq_true p230; replace q230 := eq_true q230
        have p14 : 0 ≤ (x9_2 : Int) := da
        have q14 : (x9_2 : Int) < ((x0_2.length : Int) : Int) := da
        obtain ⟨go14, co14, eo14, gb14, gl14, cl14, HG14⟩ := Kd.R_form HO_0.out (by omega)
        (first | cases eo14 | (injection eo14 with ea_ en_ ec_; (first | subst ea_ | (injection ea_ with ea_; subst ea_)); subst ec_; clear en_))
        have GB14 := Aside0.mk gb14; have GG14 := Aside0.mk HG14; clear gb14 gl14 HG14
        have HMgo14 := Aside0.mk (show (P0_ go14 ∨ w.heap.size ≤ go14) from (HO_0.out.1 _ rfl))
        (first | simp only [add_plain] at hx226_0 | skip)
        (first | simp only [add_plain] at hx227_0 | skip)
        (first | simp only [add_plain] at hx229_0 | skip)
        (first | simp only [add_plain] at hx230_0 | skip)
        obtain ⟨hx14_0, hf14_0⟩ := Kd.R_celln (⟨#[]⟩ : ByteArray) HO_0.out (x9_2 : Int) p14 q14
        replace p14 := eq_true p14; replace q14 := eq_true q14
        have HP19 := Kd.R_putn HO_0.out (x9_2 : Int) (rdOf ByteArray.empty x0_2 (ji9))
        rw [← Ny231.out] at HP19
        have HQ19 := Aside0.mk HP19; clear HP19
        have p15 : 0 ≤ ((ji9) : Int) := da
        have q15 : ((ji9) : Int) < ((x0_2.length : Int) : Int) := da
        obtain ⟨hx15_0, hf15_0⟩ := Kd.R_celln (⟨#[]⟩ : ByteArray) HQ19.out ((ji9) : Int) p15 q15
        replace p15 := eq_true p15; replace q15 := eq_true q15
        have HP20 := Kd.R_putn HQ19.out ((ji9) : Int) (rdOf ByteArray.empty x0_2 x9_2)
        rw [← Ny232.out] at HP20
        have HQ20 := Aside0.mk HP20; clear HP20
        refine start_ (n := 18) (S := fun w' => w'.cell? ⟨go14, ((ji9)).toNat, none⟩ = some (.string (rdOf ByteArray.empty x0_2 (ji9))) ∧ w'.cell? ⟨go14, (x9_2).toNat, none⟩ = some (.string (rdOf ByteArray.empty x0_2 x9_2))) (ds := [15, 17]) (bl 18 0) (by kernel_rfl) rfl rfl ⟨hx229_0, hx230_0⟩ (fun hHeld => ?_); refine with_tabW slices_insertionSortCmpFunc_44_at_39.tab6 slices_insertionSortCmpFunc_44_at_39.bits6 (fun HT_ HW_ => ?_)
        generalize w16.drew = w18 at HO_0 HK HB GG14 HQ19 HQ20 hf14_0 hf15_0 hx14_0 hx15_0 hx226_0 hx227_0 hx229_0 hx230_0 hHeld ⊢
        refine pureA 0 (some 37) 18 1 HT_ ?_
        refine pureA 1 (some 38) 18 3 HT_ ?_
        refine pureA 2 (some 39) 18 7 HT_ ?_
        refine pureA 3 (some 40) 18 15 HT_ ?_
        refine pureA 4 (some 41) 18 31 HT_ ?_
        refine pureA 5 (some 42) 18 63 HT_ ?_
        refine pureA 6 (some 43) 18 127 HT_ ?_
        refine pureA 7 (some 44) 18 255 HT_ ?_
        refine pureA 8 (some 45) 18 511 HT_ ?_
        refine pureA 10 (some 47) 18 1535 HT_ ?_
        refine pureA 11 (some 48) 18 3583 HT_ ?_
        refine pureA 12 (some 49) 18 7679 HT_ ?_
        refine takeA 9 (some 46) 18 8191 HT_ HW_ hHeld ?_ (hy := by rintro w' ⟨s0, s1⟩; go_simp; with_reducible rfl)
        refine takeA 13 (some 50) 18 16383 HT_ HW_ hHeld ?_ (hy := by rintro w' ⟨s0, s1⟩; go_simp; with_reducible rfl)
        refine pureA 14 (some 51) 18 32767 HT_ ?_
        refine last_ (i := 15) (N := none) (bl 18 65535) rfl rfl (one_of HT_.out (by kernel_rfl)) (by decide) (fun K hK => ?_)
        refine skip_ (w1 := ?_) (by rfl) rfl ?_ ?_
        rotate_left
        ·go_simp
         rfl
        refine hK.out _ _ ?_
        clear hK K
        refine pureA 16 (some 52) 18 131071 HT_ ?_
        refine last_ (i := 17) (N := none) (bl 18 262143) rfl rfl (one_of HT_.out (by kernel_rfl)) (by decide) (fun K hK => ?_)
        refine skip_ (w1 := ?_) (by rfl) rfl ?_ ?_
        rotate_left
        ·go_simp
         rfl
        refine hK.out _ _ ?_
        clear hK K
        refine done_ (done_of HT_.out (by kernel_rfl)) ?_
        try go_wp2
        (first | go_roundg k2 | ((try rw [← add_plain go14 (x9_2 : Int).toNat]); (try rw [← add_plain go14 ((ji9) : Int).toNat]); (try rw [← add_plain go14 ((ji9) : Int).toNat]); (try rw [← add_plain go14 (x9_2 : Int).toNat]); go_roundg k2))
        case measure => have := HK1.out; have := HK2.out; omega
        case rel => exact ⟨(y232), (ji9), (by first | rfl | (simp; done) | (simp only [← hji9] <;> (first | rfl | simp)) | (simp [*]; done)), H', ⟨by have := HK1.out; have := HK2.out; omega⟩, ⟨rdl HQ20⟩, ⟨by repeat (first | (with_reducible first | exact HK.out | apply Kept.alloc | apply Kept.drewN | apply Kept.drew | refine Kept.setCell ?_ HMgo14.out _ | refine Kept.setCell ?_ HMgo14.out _) | exact HK.out)⟩, ⟨by repeat (first | (with_reducible first | exact HB.out | apply below_alloc | apply pw_below_drewN | apply below_drew1 | refine below_set ?_ GB14.out | refine below_set ?_ GB14.out) | exact HB.out)⟩⟩
       ·rw [if_neg c13] at H
        have c13b0 : decide (t228 < 0) = false := decide_eq_false c13
        clear c13
        have H' := Aside0.mk H
        clear H
        try go_wp2
        replace HO_0 := ak (Kd.R_drew HO_0.out)
        replace HK := ak (Kept.drew HK.out)
        replace HB := ak (below_drew1 HB.out)
        obtain ⟨Ao22, co22, eo22⟩ := Kd.R_slice HO_0.out
        (first | subst eo22 | (injection eo22 with f1_ f2_ f3_; have f4_ := f1_.symm; have f5_ := f3_.symm; clear f1_ f2_ f3_; subst f4_; subst f5_))
        have p226 : 0 ≤ (x9_2 : Int) := da
        have q226 : x9_2 < (x0_2.length : Int) := da
        obtain ⟨ad226, e226, hx226_0⟩ := Kd.at_string (Kd.R_reads' HO_0.out).2.2 x9_2 p226 q226
        cases e226
        replace p226 := eq_true p226; replace q226 := eq_true q226
        have p227 : 0 ≤ ((ji9) : Int) := da
        have q227 : (ji9) < (x0_2.length : Int) := da
        obtain ⟨ad227, e227, hx227_0⟩ := Kd.at_string (Kd.R_reads' HO_0.out).2.2 (ji9) p227 q227
        obtain rfl : ad226 = ad227 := (by injection e227)
        replace p227 := eq_true p227; replace q227 := eq_true q227
        refine start_ (n := 17) (S := fun w' => w'.cell? (ad226.add (x9_2).toNat) = some (.string (rdOf ByteArray.empty x0_2 x9_2)) ∧ w'.cell? (ad226.add ((ji9)).toNat) = some (.string (rdOf ByteArray.empty x0_2 (ji9)))) (ds := []) (bl 17 0) (by kernel_rfl) rfl rfl ⟨hx226_0, hx227_0⟩ (fun hHeld => ?_); refine with_tabW slices_insertionSortCmpFunc_44_at_39.tab4 slices_insertionSortCmpFunc_44_at_39.bits4 (fun HT_ HW_ => ?_)
        generalize wr.drew = w21 at HO_0 HK HB hx226_0 hx227_0 hHeld ⊢
        refine pureA 0 (some 18) 17 1 HT_ ?_
        refine pureA 1 (some 19) 17 3 HT_ ?_
        refine pureA 2 (some 20) 17 7 HT_ ?_
        refine pureA 3 (some 21) 17 15 HT_ ?_
        refine pureA 4 (some 22) 17 31 HT_ ?_
        refine pureA 5 (some 23) 17 63 HT_ ?_
        refine pureA 6 (some 24) 17 127 HT_ ?_
        refine pureA 7 (some 25) 17 255 HT_ ?_
        refine pureA 9 (some 27) 17 767 HT_ ?_
        refine pureA 10 (some 28) 17 1791 HT_ ?_
        refine pureA 11 (some 29) 17 3839 HT_ ?_
        refine pureA 12 (some 30) 17 7935 HT_ ?_
        refine takeA 8 (some 26) 17 8191 HT_ HW_ hHeld ?_ (hy := by rintro w' ⟨s0, s1⟩; go_simp; with_reducible rfl)
        refine takeA 13 (some 31) 17 16383 HT_ HW_ hHeld ?_ (hy := by rintro w' ⟨s0, s1⟩; go_simp; with_reducible rfl)
        refine oneA 14 (some 32) 17 32767 HT_ (fun K hK => ?_)
        refine goesVs_ Try.func39 (by kernel_rfl) rfl #[.string (rdOf ByteArray.empty x0_2 x9_2), .string (rdOf ByteArray.empty x0_2 (ji9))] (by rfl) rfl rfl rfl (by (try simp only [List.map_toArray, List.map_cons, List.map_nil]); first | done | (simp only [hji9]; rfl) | rfl | (simp only [List.length_drop, List.length_take]; rfl)) ?_
        with_reducible refine (impl_Net_inbox_1.calls (rdOf ByteArray.empty x0_2 x9_2) (rdOf ByteArray.empty x0_2 (ji9)) t228 _ A12.out).mono ?_
        rintro e w' ⟨rfl, ⟨nd, rfl⟩⟩
        refine ⟨_, rfl, ?_⟩
        refine hK.out _ _ ⟨hHeld.1, hHeld.2⟩ (fun hHeld => ?_)
        clear hK K
        refine norm_ (a' := ?_) ?_ ?_
        rotate_left
        ·show Act.put _ (some 32) _ = _
         simp only [Act.put, List.setIfInBounds_toArray, List.set_cons_zero, List.set_cons_succ, i64_w, i32_w]
         rfl
        refine pureA 15 (some 33) 17 65535 HT_ ?_
        refine pureA 16 (some 34) 17 131071 HT_ ?_
        refine done_ (done_of HT_.out (by kernel_rfl)) ?_
        try go_wp2
        (first | go_roundg k2 | ((try rw [← add_plain go14 (x9_2 : Int).toNat]); (try rw [← add_plain go14 ((ji9) : Int).toNat]); (try rw [← add_plain go14 ((ji9) : Int).toNat]); (try rw [← add_plain go14 (x9_2 : Int).toNat]); go_roundg k2))
        case measure => have := HK1.out; have := HK2.out; omega
        case rel => exact ⟨(x0_2), (wrap64 (x8_1 + 1)), er, H', ⟨by have := HK1.out; have := HK2.out; omega⟩, ⟨rdl HO_0⟩, ⟨by repeat (first | (with_reducible first | exact HK.out | apply Kept.alloc | apply Kept.drewN | apply Kept.drew) | exact HK.out)⟩, ⟨belowd HB⟩⟩
      ·rw [if_neg c6] at H
       have c6b0 : decide (a1 < x9_2) = false := decide_eq_false c6
       clear c6
       have H' := Aside0.mk H
       clear H
       try go_wp2
       replace HO_0 := ak (Kd.R_drew HO_0.out)
       replace HK := ak (Kept.drew HK.out)
       replace HB := ak (below_drew1 HB.out)
       refine start_ (n := 17) (S := fun w' => True) (ds := []) (bl 17 0) (by kernel_rfl) rfl rfl trivial (fun hHeld => ?_); refine with_tabW slices_insertionSortCmpFunc_44_at_39.tab4 slices_insertionSortCmpFunc_44_at_39.bits4 (fun HT_ HW_ => ?_)
       generalize wr.drew = w23 at HO_0 HK HB hHeld ⊢
       refine pureA 0 (some 18) 17 1 HT_ ?_
       refine pureA 1 (some 19) 17 3 HT_ ?_
       refine pureA 2 (some 20) 17 7 HT_ ?_
       refine pureA 3 (some 21) 17 15 HT_ ?_
       refine pureB 4 (some 22) 17 31 HT_ ?_
       refine pureB 5 (some 23) 17 63 HT_ ?_
       refine pureB 6 (some 24) 17 127 HT_ ?_
       refine pureB 7 (some 25) 17 255 HT_ ?_
       refine pureB 8 (some 26) 17 511 HT_ ?_
       refine pureB 9 (some 27) 17 1023 HT_ ?_
       refine pureB 10 (some 28) 17 2047 HT_ ?_
       refine pureB 11 (some 29) 17 4095 HT_ ?_
       refine pureB 12 (some 30) 17 8191 HT_ ?_
       refine pureB 13 (some 31) 17 16383 HT_ ?_
       refine pureB 14 (some 32) 17 32767 HT_ ?_
       refine pureB 15 (some 33) 17 65535 HT_ ?_
       refine pureA 16 (some 34) 17 131071 HT_ ?_
       refine done_ (done_of HT_.out (by kernel_rfl)) ?_
       try go_wp2
       go_roundg k2
       case measure => have := HK1.out; have := HK2.out; omega
       case rel => exact ⟨(x0_2), (wrap64 (x8_1 + 1)), er, H', ⟨by have := HK1.out; have := HK2.out; omega⟩, ⟨rdl HO_0⟩, ⟨by repeat (first | (with_reducible first | exact HK.out | apply Kept.alloc | apply Kept.drewN | apply Kept.drew) | exact HK.out)⟩, ⟨belowd HB⟩⟩
   ·rw [if_neg c5] at H
    have c5b0 : decide (x8_1 < a2) = false := decide_eq_false c5
    clear c5
    obtain rfl := Option.some.inj H
    go_wp2
    first | go_end0 | ((try simp only [Exit.inBlock, Exit.then]); refine bodyPost_ret (results_none rfl _ _ _) rfl ?_)
    exact ⟨er2, by (with_reducible repeat (first | apply Kd.R_alloc | apply Kd.R_drewN | apply Kd.R_drew)); exact HO_0.out, belowd HB, by repeat (first | (with_reducible first | exact HK.out | apply Kept.alloc | apply Kept.drewN | apply Kept.drew) | exact HK.out)⟩

end Go.Proofs.Ytmhdjkbfghfajaa.QFnExactInboxOf
