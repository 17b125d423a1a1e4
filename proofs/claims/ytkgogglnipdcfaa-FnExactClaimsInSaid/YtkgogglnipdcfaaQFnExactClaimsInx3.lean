-- printed by this session's own program (wip/tools/pp.py: the kit's print.py with changes); Lean checks it
import Derived.Test.YtkgogglnipdcfaaQFnExactClaimsInx0
import Derived.Test.YtkgogglnipdcfaaQFnExactClaimsInx2
namespace Go.Proofs.Ytkgogglnipdcfaa.QFnExactClaimsIn
open Go.RowKit Go.Proofs.YtkgogglnipdcfaaW.PrintWords Go.Proofs.YtkgogglnipdcfaaW.PrintLast Go.Proofs.YtkgogglnipdcfaaW.PrintMore
attribute [local go_sem] max2_int min2_int max_two min_two max_three min_three max_four min_four strLss strGtr strLeq strGeq   -- for this text's walks alone
set_option linter.unusedVariables false
set_option linter.unusedSimpArgs false

/-! ### impl_isLetterNumber: function 205 -/
def impl_isLetterNumber.f (a0 : Int) : Option (Bool) := (impl_within.f a0 0 1000).bind fun t180 => (some t180)
set_option maxHeartbeats 8000000 in
set_option maxRecDepth 100000 in
theorem impl_isLetterNumber.calls (a0 : Int) (r : Bool) (w : World) (h : impl_isLetterNumber.f a0 = some r) :
  Calls Try.prog 205 #[.int .i64 a0] w fun e w' => e = .returned (.bool r) ∧ Drawn0 w w' := by
 have H : ((impl_within.f a0 0 1000).bind fun t180 => (some t180)) = some r := h
 clear h; replace H := bS H; obtain ⟨t180, A2, H⟩ := H
 replace H : (some t180) = some r := H
 obtain rfl := Option.some.inj H
 go_enter Try.func205, Try.ntmps205
 go_wp2_with (first | ((with_reducible refine gate_callee (f := 125) rfl ?_); refine goesLa (some 4) rfl Try.func125 #[.int .i64 a0, .int .i64 0, .int .i64 1000] rfl ?_; (with_reducible refine (impl_within.calls a0 0 1000 t180 _ A2.out).mono ?_); rintro e w' ⟨rfl, ⟨nd, rfl⟩⟩; refine ⟨_, rfl, ?_⟩))
 go_ret
 exact ⟨er, drw⟩

/-! ### impl_GoodClaim: function 145 -/
def impl_GoodClaim.f (a0_0 : Int) (a0_1 : Int) (a0_2 : Int) : Option (Bool) := (impl_within.f a0_0 0 20).bind fun t182 => (if t182 = true then ((impl_isLetterNumber.f a0_1).bind fun t183 => (if t183 = true then ((impl_within.f a0_2 0 100).bind fun t184 => (some t184)) else (some false))) else (some false))
set_option maxHeartbeats 8000000 in
set_option maxRecDepth 100000 in
theorem impl_GoodClaim.calls (a0_0 : Int) (a0_1 : Int) (a0_2 : Int) (r : Bool) (w : World) (h : impl_GoodClaim.f a0_0 a0_1 a0_2 = some r) :
  Calls Try.prog 145 #[.agg #[.int .i64 a0_0, .int .i64 a0_1, .int .i64 a0_2]] w fun e w' => e = .returned (.bool r) ∧ Below w.heap.size w w' := by
 have hu85 := Try.underlying85
 have HB := Aside0.mk (Below.refl w.heap.size w)
 have H : ((impl_within.f a0_0 0 20).bind fun t182 => (if t182 = true then ((impl_isLetterNumber.f a0_1).bind fun t183 => (if t183 = true then ((impl_within.f a0_2 0 100).bind fun t184 => (some t184)) else (some false))) else (some false))) = some r := h
 clear h; replace H := bS H; obtain ⟨t182, A2, H⟩ := H
 replace H : (if t182 = true then ((impl_isLetterNumber.f a0_1).bind fun t183 => (if t183 = true then ((impl_within.f a0_2 0 100).bind fun t184 => (some t184)) else (some false))) else (some false)) = some r := H
 by_cases c3 : t182 = true
 ·subst c3
  have H1 : ((impl_isLetterNumber.f a0_1).bind fun t183 => (if t183 = true then ((impl_within.f a0_2 0 100).bind fun t184 => (some t184)) else (some false))) = some r := by rw [if_pos rfl] at H; exact H
  clear H
  have H := H1
  clear H1; replace H := bS H; obtain ⟨t183, A4, H⟩ := H
  replace H : (if t183 = true then ((impl_within.f a0_2 0 100).bind fun t184 => (some t184)) else (some false)) = some r := H
  by_cases c5 : t183 = true
  ·subst c5
   have H1 : ((impl_within.f a0_2 0 100).bind fun t184 => (some t184)) = some r := by rw [if_pos rfl] at H; exact H
   clear H
   have H := H1
   clear H1; replace H := bS H; obtain ⟨t184, A6, H⟩ := H
   replace H : (some t184) = some r := H
   obtain rfl := Option.some.inj H
   go_enter Try.func145, Try.ntmps145
   go_wp2_with (first | ((with_reducible refine gate_dst (N := 1) rfl ?_); refine boxev 1 #[.int .i64 a0_0, .int .i64 a0_1, .int .i64 a0_2] 85 ?_; intro gb181 hg w7 hbox hb; have BK181 := ak (hbox); have GW181 := ak (hgl hg (belowd HB)); have GE181 := ak (hgl hg (belowd HB)); replace HB := ak (below_step (belowd HB) hb); clear hb hbox hg; obtain ⟨hcz8_0, hcz8_1, hcz8_2, hfz8_0, hfz8_1, hfz8_2⟩ := box3 BK181) | ((with_reducible refine gate_callee (f := 125) rfl ?_); refine goesLa (some 5) rfl Try.func125 #[.int .i64 a0_0, .int .i64 0, .int .i64 20] rfl ?_; (with_reducible refine (impl_within.calls a0_0 0 20 true _ A2.out).mono ?_); rintro e w' ⟨rfl, ⟨nd, rfl⟩⟩; refine ⟨_, rfl, ?_⟩) | (go_at_call 205; (with_reducible refine (impl_isLetterNumber.calls a0_1 true _ A4.out).mono ?_); rintro e w' ⟨rfl, ⟨nd, rfl⟩⟩) | (go_at_call 125; (with_reducible refine (impl_within.calls a0_2 0 100 t184 _ A6.out).mono ?_); rintro e w' ⟨rfl, ⟨nd, rfl⟩⟩))
   go_ret
   exact ⟨er2, belowg1 HB GE181⟩
  ·replace c5 := Bool.eq_false_iff.mpr c5
   subst c5
   have H1 : (some false) = some r := by rw [if_neg (show ¬ (false = true) by decide)] at H; exact H
   clear H
   have H := H1
   clear H1
   obtain rfl := Option.some.inj H
   go_enter Try.func145, Try.ntmps145
   go_wp2_with (first | ((with_reducible refine gate_dst (N := 1) rfl ?_); refine boxev 1 #[.int .i64 a0_0, .int .i64 a0_1, .int .i64 a0_2] 85 ?_; intro gb181 hg w9 hbox hb; have BK181 := ak (hbox); have GW181 := ak (hgl hg (belowd HB)); have GE181 := ak (hgl hg (belowd HB)); replace HB := ak (below_step (belowd HB) hb); clear hb hbox hg; obtain ⟨hcz10_0, hcz10_1, hcz10_2, hfz10_0, hfz10_1, hfz10_2⟩ := box3 BK181) | ((with_reducible refine gate_callee (f := 125) rfl ?_); refine goesLa (some 5) rfl Try.func125 #[.int .i64 a0_0, .int .i64 0, .int .i64 20] rfl ?_; (with_reducible refine (impl_within.calls a0_0 0 20 true _ A2.out).mono ?_); rintro e w' ⟨rfl, ⟨nd, rfl⟩⟩; refine ⟨_, rfl, ?_⟩) | (go_at_call 205; (with_reducible refine (impl_isLetterNumber.calls a0_1 false _ A4.out).mono ?_); rintro e w' ⟨rfl, ⟨nd, rfl⟩⟩))
   go_ret
   exact ⟨er2, belowg1 HB GE181⟩
 ·replace c3 := Bool.eq_false_iff.mpr c3
  subst c3
  have H1 : (some false) = some r := by rw [if_neg (show ¬ (false = true) by decide)] at H; exact H
  clear H
  have H := H1
  clear H1
  obtain rfl := Option.some.inj H
  go_enter Try.func145, Try.ntmps145
  go_wp2_with (first | ((with_reducible refine gate_dst (N := 1) rfl ?_); refine boxev 1 #[.int .i64 a0_0, .int .i64 a0_1, .int .i64 a0_2] 85 ?_; intro gb181 hg w11 hbox hb; have BK181 := ak (hbox); have GW181 := ak (hgl hg (belowd HB)); have GE181 := ak (hgl hg (belowd HB)); replace HB := ak (below_step (belowd HB) hb); clear hb hbox hg; obtain ⟨hcz12_0, hcz12_1, hcz12_2, hfz12_0, hfz12_1, hfz12_2⟩ := box3 BK181) | ((with_reducible refine gate_callee (f := 125) rfl ?_); refine goesLa (some 5) rfl Try.func125 #[.int .i64 a0_0, .int .i64 0, .int .i64 20] rfl ?_; (with_reducible refine (impl_within.calls a0_0 0 20 false _ A2.out).mono ?_); rintro e w' ⟨rfl, ⟨nd, rfl⟩⟩; refine ⟨_, rfl, ?_⟩))
  go_ret
  exact ⟨er2, belowg1 HB GE181⟩

/-! ### impl_isStatement: function 150 -/
def impl_isStatement.f (a0_0 : Int) (a0_1 : Int) (a0_2 : Int) (a0_3 : Int) (a0_4 : Bool) : Option (Bool) := (impl_within.f a0_0 0 6).bind fun t186 => (if t186 = true then ((impl_GoodClaim.f a0_1 a0_2 a0_3).bind fun t187 => (some t187)) else (some false))
set_option maxHeartbeats 8000000 in
set_option maxRecDepth 100000 in
theorem impl_isStatement.calls (a0_0 : Int) (a0_1 : Int) (a0_2 : Int) (a0_3 : Int) (a0_4 : Bool) (r : Bool) (w : World) (h : impl_isStatement.f a0_0 a0_1 a0_2 a0_3 a0_4 = some r) :
  Calls Try.prog 150 #[.agg #[.int .i64 a0_0, .int .i64 a0_1, .int .i64 a0_2, .int .i64 a0_3, .bool a0_4]] w fun e w' => e = .returned (.bool r) ∧ Below w.heap.size w w' := by
 have hu91 := Try.underlying91
 have hu85 := Try.underlying85
 have HB := Aside0.mk (Below.refl w.heap.size w)
 have H : ((impl_within.f a0_0 0 6).bind fun t186 => (if t186 = true then ((impl_GoodClaim.f a0_1 a0_2 a0_3).bind fun t187 => (some t187)) else (some false))) = some r := h
 clear h; replace H := bS H; obtain ⟨t186, A2, H⟩ := H
 replace H : (if t186 = true then ((impl_GoodClaim.f a0_1 a0_2 a0_3).bind fun t187 => (some t187)) else (some false)) = some r := H
 by_cases c3 : t186 = true
 ·subst c3
  have H1 : ((impl_GoodClaim.f a0_1 a0_2 a0_3).bind fun t187 => (some t187)) = some r := by rw [if_pos rfl] at H; exact H
  clear H
  have H := H1
  clear H1; replace H := bS H; obtain ⟨t187, A4, H⟩ := H
  replace H : (some t187) = some r := H
  obtain rfl := Option.some.inj H
  go_enter Try.func150, Try.ntmps150
  go_wp2_with (first | ((with_reducible refine gate_dst (N := 1) rfl ?_); refine boxev 1 #[.int .i64 a0_0, .int .i64 a0_1, .int .i64 a0_2, .int .i64 a0_3, .bool a0_4] 91 ?_; intro gb185 hg w5 hbox hb; have BK185 := ak (hbox); have GW185 := ak (hgl hg (belowd HB)); have GE185 := ak (hgl hg (belowd HB)); replace HB := ak (below_step (belowd HB) hb); clear hb hbox hg; obtain ⟨hcz6_0, hcz6_1, hcz6_2, hcz6_3, hcz6_4, hfz6_0, hfz6_1, hfz6_2, hfz6_3, hfz6_4⟩ := box5 BK185) | ((with_reducible refine gate_callee (f := 125) rfl ?_); refine goesLa (some 5) rfl Try.func125 #[.int .i64 a0_0, .int .i64 0, .int .i64 6] rfl ?_; (with_reducible refine (impl_within.calls a0_0 0 6 true _ A2.out).mono ?_); rintro e w' ⟨rfl, ⟨nd, rfl⟩⟩; refine ⟨_, rfl, ?_⟩) | (go_at_call 145; (with_reducible refine (impl_GoodClaim.calls a0_1 a0_2 a0_3 t187 _ A4.out).mono ?_); rintro e w7 ⟨rfl, hb⟩; replace BK185 := ak (blk_below (blkd BK185) hb); replace HB := ak (below_step (belowg1 HB GE185) hb); (try clear hb)))
  go_ret
  exact ⟨er2, belowg1 HB GE185⟩
 ·replace c3 := Bool.eq_false_iff.mpr c3
  subst c3
  have H1 : (some false) = some r := by rw [if_neg (show ¬ (false = true) by decide)] at H; exact H
  clear H
  have H := H1
  clear H1
  obtain rfl := Option.some.inj H
  go_enter Try.func150, Try.ntmps150
  go_wp2_with (first | ((with_reducible refine gate_dst (N := 1) rfl ?_); refine boxev 1 #[.int .i64 a0_0, .int .i64 a0_1, .int .i64 a0_2, .int .i64 a0_3, .bool a0_4] 91 ?_; intro gb185 hg w8 hbox hb; have BK185 := ak (hbox); have GW185 := ak (hgl hg (belowd HB)); have GE185 := ak (hgl hg (belowd HB)); replace HB := ak (below_step (belowd HB) hb); clear hb hbox hg; obtain ⟨hcz9_0, hcz9_1, hcz9_2, hcz9_3, hcz9_4, hfz9_0, hfz9_1, hfz9_2, hfz9_3, hfz9_4⟩ := box5 BK185) | ((with_reducible refine gate_callee (f := 125) rfl ?_); refine goesLa (some 5) rfl Try.func125 #[.int .i64 a0_0, .int .i64 0, .int .i64 6] rfl ?_; (with_reducible refine (impl_within.calls a0_0 0 6 false _ A2.out).mono ?_); rintro e w' ⟨rfl, ⟨nd, rfl⟩⟩; refine ⟨_, rfl, ?_⟩))
  go_ret
  exact ⟨er2, belowg1 HB GE185⟩

/-! ### impl_areStatements_1: function 200 -/
def impl_areStatements_1.f (a0_0 : Int) (a0_1 : Int) (a0_2 : Int) (a0_3 : Int) (a0_4 : Bool) : Option (Bool) := (impl_isStatement.f a0_0 a0_1 a0_2 a0_3 a0_4).bind fun t189 => (some (!t189))
set_option maxHeartbeats 8000000 in
set_option maxRecDepth 100000 in
theorem impl_areStatements_1.calls (a0_0 : Int) (a0_1 : Int) (a0_2 : Int) (a0_3 : Int) (a0_4 : Bool) (r : Bool) (w : World) (h : impl_areStatements_1.f a0_0 a0_1 a0_2 a0_3 a0_4 = some r) :
  Calls Try.prog 200 #[.agg #[.int .i64 a0_0, .int .i64 a0_1, .int .i64 a0_2, .int .i64 a0_3, .bool a0_4]] w fun e w' => e = .returned (.bool r) ∧ Below w.heap.size w w' := by
 have hu91 := Try.underlying91
 have HB := Aside0.mk (Below.refl w.heap.size w)
 have H : ((impl_isStatement.f a0_0 a0_1 a0_2 a0_3 a0_4).bind fun t189 => (some (!t189))) = some r := h
 clear h; replace H := bS H; obtain ⟨t189, A2, H⟩ := H
 replace H : (some (!t189)) = some r := H
 obtain rfl := Option.some.inj H
 go_enter Try.func200, Try.ntmps200
 go_wp2_with (first | ((with_reducible refine gate_dst (N := 1) rfl ?_); refine boxev 1 #[.int .i64 a0_0, .int .i64 a0_1, .int .i64 a0_2, .int .i64 a0_3, .bool a0_4] 91 ?_; intro gb188 hg w3 hbox hb; have BK188 := ak (hbox); have GW188 := ak (hgl hg (belowd HB)); have GE188 := ak (hgl hg (belowd HB)); replace HB := ak (below_step (belowd HB) hb); clear hb hbox hg; obtain ⟨hcz4_0, hcz4_1, hcz4_2, hcz4_3, hcz4_4, hfz4_0, hfz4_1, hfz4_2, hfz4_3, hfz4_4⟩ := box5 BK188) | ((with_reducible refine gate_callee (f := 150) rfl ?_); refine goesLa (some 4) rfl Try.func150 #[.agg #[.int .i64 a0_0, .int .i64 a0_1, .int .i64 a0_2, .int .i64 a0_3, .bool a0_4]] rfl ?_; (with_reducible refine (impl_isStatement.calls a0_0 a0_1 a0_2 a0_3 a0_4 t189 _ A2.out).mono ?_); rintro e w5 ⟨rfl, hb⟩; refine ⟨_, rfl, ?_⟩; replace BK188 := ak (blk_below (blkd BK188) hb); replace HB := ak (below_step (belowg1 HB GE188) hb); (try clear hb)))
 go_ret
 exact ⟨er2, belowg1 HB GE188⟩

/-! ### slices_IndexFunc_228_at_200: function 228 -/
def slices_IndexFunc_228_at_200.l0 : Nat → List (S91) → Int → Int → Option (Int)
  | 0, _, _, _ => none
  | k + 1, x0, x7, x8 => if x8 < x7 then (if 0 ≤ x8 then (if x8 < (x0.length : Int) then ((impl_areStatements_1.f ((rd_T91 x0 x8).f0) ((rd_T91 x0 x8).f1.f0) ((rd_T91 x0 x8).f1.f1) ((rd_T91 x0 x8).f1.f2) ((rd_T91 x0 x8).f2)).bind fun t191 => (if t191 = true then (some x8) else (slices_IndexFunc_228_at_200.l0 k x0 x7 (wrap64 (x8 + 1))))) else (none)) else (none)) else (some (-1))
def slices_IndexFunc_228_at_200.f (k : Nat) (l0 : List (S91))  : Option (Int) := slices_IndexFunc_228_at_200.l0 k l0 (l0.length : Int) 0
theorem slices_IndexFunc_228_at_200.mono_l : ∀ k, (∀ y0 y1 y2, LeO (slices_IndexFunc_228_at_200.l0 k y0 y1 y2) (slices_IndexFunc_228_at_200.l0 (k + 1) y0 y1 y2))
 | 0 => fun _ _ _ r h => by simp [slices_IndexFunc_228_at_200.l0] at h
 | k + 1 => by
  have ih0 := slices_IndexFunc_228_at_200.mono_l k
  ·intro y0 y1 y2
   unfold slices_IndexFunc_228_at_200.l0
   repeat' (first | (with_reducible first | exact ih0 _ _ _ | exact LeO.refl _ | exact LeO.none _ | refine LeO.ite ?_ ?_ | refine LeO.bind ?_ (fun _ => ?_)) | exact ih0 _ _ _ | exact LeO.none _ | refine LeO.ite ?_ ?_ | refine LeO.bind ?_ (fun _ => ?_))
theorem slices_IndexFunc_228_at_200.mono : ∀ a0 k, LeO (slices_IndexFunc_228_at_200.f k a0) (slices_IndexFunc_228_at_200.f (k + 1) a0) := by
 intro a0 k
 have ih0 := slices_IndexFunc_228_at_200.mono_l k
 unfold slices_IndexFunc_228_at_200.f
 repeat' (first | (with_reducible first | exact ih0 _ _ _ | exact LeO.refl _ | exact LeO.none _ | refine LeO.ite ?_ ?_ | refine LeO.bind ?_ (fun _ => ?_)) | exact ih0 _ _ _ | exact LeO.none _ | refine LeO.ite ?_ ?_ | refine LeO.bind ?_ (fun _ => ?_))
set_option maxHeartbeats 8000000 in
set_option maxRecDepth 100000 in
theorem slices_IndexFunc_228_at_200.calls (k : Nat) (A0 : Option Addr) (c0 : Nat) (l0 : List (S91))  (r : Int) (w : World) (hr0 : Kd.C k91 w A0 l0.length l0) (hc0 : l0.length ≤ c0) (h : slices_IndexFunc_228_at_200.f k l0 = some r) :
  Calls Try.prog 228 #[.slice A0 l0.length c0, .func (.func 200) #[] #[]] w fun e w' => e = .returned (.int .i64 r) ∧ Below w.heap.size w w' := by
 have hu91 := Try.underlying91
 have HR0 := Aside0.mk hr0; have HC0 := Aside0.mk hc0; clear hr0 hc0
 have HB := Aside0.mk (Below.refl w.heap.size w)
 have H : (slices_IndexFunc_228_at_200.l0 k l0 (l0.length : Int) 0) = some r := h
 clear h
 have H' := Aside0.mk H
 clear H
 go_enter Try.func228, Try.ntmps228
 go_wp2
 go_loopg [8] k (fun kq v8 w' => ∃ (x8_1 : Int), v8 = .int .i64 x8_1 ∧ Aside0 (slices_IndexFunc_228_at_200.l0 kq l0 (l0.length : Int) x8_1 = some r) ∧ Aside0 (kq ≤ k) ∧ Aside0 (Below w.heap.size w w'))
 case atStart => exact ⟨(0), er, H', ⟨Nat.le_refl _⟩, ⟨belowd HB⟩⟩
 case round =>
  clear H'
  obtain ⟨x8_1, rfl, HA, HK1, HB⟩ := hrel
  cases gk with
  | zero => exact absurd HA.out (by simp [slices_IndexFunc_228_at_200.l0])
  | succ k1 =>
   have H := HA.out; clear HA
   simp only [slices_IndexFunc_228_at_200.l0] at H
   by_cases c3 : x8_1 < (l0.length : Int)
   ·rw [if_pos c3] at H
    have c3b0 : decide (x8_1 < (l0.length : Int)) = true := decide_eq_true c3
    clear c3; replace H := ifS H; obtain ⟨c4, H⟩ := H; have c4b0 := decide_eq_true c4; clear c4; replace H := ifS H; obtain ⟨c5, H⟩ := H; have c5b0 := decide_eq_true c5; clear c5; replace H := bS H; obtain ⟨t191, A6, H⟩ := H
    replace H : (if t191 = true then (some x8_1) else (slices_IndexFunc_228_at_200.l0 k1 l0 (l0.length : Int) (wrap64 (x8_1 + 1)))) = some r := H
    by_cases c7 : t191 = true
    ·subst c7
     have H1 : (some x8_1) = some r := by rw [if_pos rfl] at H; exact H
     clear H
     have H := H1
     clear H1
     obtain rfl := Option.some.inj H
     have p190 : 0 ≤ (x8_1 : Int) := da
     have q190 : x8_1 < (l0.length : Int) := da
     obtain ⟨ad190, e190, hx190_0, hx190_1, hx190_2, hx190_3, hx190_4⟩ := at_T91 HR0.out x8_1 p190 q190
     cases e190
     replace hx190_0 := (HB.out.cell (World.block_lt_of_cell? w _ hx190_0)).trans hx190_0
     replace hx190_1 := (HB.out.cell (World.block_lt_of_cell? w _ hx190_1)).trans hx190_1
     replace hx190_2 := (HB.out.cell (World.block_lt_of_cell? w _ hx190_2)).trans hx190_2
     replace hx190_3 := (HB.out.cell (World.block_lt_of_cell? w _ hx190_3)).trans hx190_3
     replace hx190_4 := (HB.out.cell (World.block_lt_of_cell? w _ hx190_4)).trans hx190_4
     replace p190 := eq_true p190; replace q190 := eq_true q190
     go_wp2_with (first | ((with_reducible refine gate_value (f := 200) rfl rfl ?_); refine goesV_ (some 16) rfl rfl Try.func200 (by kernel_rfl) rfl #[.agg #[.int .i64 ((rd_T91 l0 x8_1).f0), .int .i64 ((rd_T91 l0 x8_1).f1.f0), .int .i64 ((rd_T91 l0 x8_1).f1.f1), .int .i64 ((rd_T91 l0 x8_1).f1.f2), .bool ((rd_T91 l0 x8_1).f2)]] rfl rfl (by (try simp only [List.map_toArray, List.map_cons, List.map_nil]); first | done | rfl | (simp only [List.length_drop, List.length_take]; rfl)) ?_; (with_reducible refine (impl_areStatements_1.calls ((rd_T91 l0 x8_1).f0) ((rd_T91 l0 x8_1).f1.f0) ((rd_T91 l0 x8_1).f1.f1) ((rd_T91 l0 x8_1).f1.f2) ((rd_T91 l0 x8_1).f2) true _ A6.out).mono ?_); rintro e w8 ⟨rfl, hb⟩; refine ⟨_, rfl, ?_⟩; replace HB := ak (below_step (belowd HB) hb); (try clear hb)))
     go_ret
     exact ⟨er2, belowd HB⟩
    ·replace c7 := Bool.eq_false_iff.mpr c7
     subst c7
     have H1 : (slices_IndexFunc_228_at_200.l0 k1 l0 (l0.length : Int) (wrap64 (x8_1 + 1))) = some r := by rw [if_neg (show ¬ (false = true) by decide)] at H; exact H
     clear H
     have H := H1
     clear H1
     have H' := Aside0.mk H
     clear H
     have p190 : 0 ≤ (x8_1 : Int) := da
     have q190 : x8_1 < (l0.length : Int) := da
     obtain ⟨ad190, e190, hx190_0, hx190_1, hx190_2, hx190_3, hx190_4⟩ := at_T91 HR0.out x8_1 p190 q190
     cases e190
     replace hx190_0 := (HB.out.cell (World.block_lt_of_cell? w _ hx190_0)).trans hx190_0
     replace hx190_1 := (HB.out.cell (World.block_lt_of_cell? w _ hx190_1)).trans hx190_1
     replace hx190_2 := (HB.out.cell (World.block_lt_of_cell? w _ hx190_2)).trans hx190_2
     replace hx190_3 := (HB.out.cell (World.block_lt_of_cell? w _ hx190_3)).trans hx190_3
     replace hx190_4 := (HB.out.cell (World.block_lt_of_cell? w _ hx190_4)).trans hx190_4
     replace p190 := eq_true p190; replace q190 := eq_true q190
     go_wp2_with (first | ((with_reducible refine gate_value (f := 200) rfl rfl ?_); refine goesV_ (some 16) rfl rfl Try.func200 (by kernel_rfl) rfl #[.agg #[.int .i64 ((rd_T91 l0 x8_1).f0), .int .i64 ((rd_T91 l0 x8_1).f1.f0), .int .i64 ((rd_T91 l0 x8_1).f1.f1), .int .i64 ((rd_T91 l0 x8_1).f1.f2), .bool ((rd_T91 l0 x8_1).f2)]] rfl rfl (by (try simp only [List.map_toArray, List.map_cons, List.map_nil]); first | done | rfl | (simp only [List.length_drop, List.length_take]; rfl)) ?_; (with_reducible refine (impl_areStatements_1.calls ((rd_T91 l0 x8_1).f0) ((rd_T91 l0 x8_1).f1.f0) ((rd_T91 l0 x8_1).f1.f1) ((rd_T91 l0 x8_1).f1.f2) ((rd_T91 l0 x8_1).f2) false _ A6.out).mono ?_); rintro e w9 ⟨rfl, hb⟩; refine ⟨_, rfl, ?_⟩; replace HB := ak (below_step (belowd HB) hb); (try clear hb)))
     go_roundg k1
     case measure => have := HK1.out; omega
     case rel => exact ⟨(wrap64 (x8_1 + 1)), er, H', ⟨by have := HK1.out; omega⟩, ⟨belowd HB⟩⟩
   ·rw [if_neg c3] at H
    have c3b0 : decide (x8_1 < (l0.length : Int)) = false := decide_eq_false c3
    clear c3
    obtain rfl := Option.some.inj H
    go_wp2
    go_ret
    exact ⟨er2, belowd HB⟩

/-! ### slices_ContainsFunc_199_at_200: function 199 -/
def slices_ContainsFunc_199_at_200.f (k : Nat) (l0 : List (S91))  : Option (Bool) := (slices_IndexFunc_228_at_200.f k l0).bind fun t192 => (some (decide (t192 ≥ 0)))
theorem slices_ContainsFunc_199_at_200.mono : ∀ a0 k, LeO (slices_ContainsFunc_199_at_200.f k a0) (slices_ContainsFunc_199_at_200.f (k + 1) a0) := by
 intro a0 k
 unfold slices_ContainsFunc_199_at_200.f
 repeat' (first | (with_reducible first | exact slices_IndexFunc_228_at_200.mono _ _ | exact LeO.refl _ | exact LeO.none _ | refine LeO.ite ?_ ?_ | refine LeO.bind ?_ (fun _ => ?_)) | exact slices_IndexFunc_228_at_200.mono _ _ | exact LeO.none _ | refine LeO.ite ?_ ?_ | refine LeO.bind ?_ (fun _ => ?_))
set_option maxHeartbeats 8000000 in
set_option maxRecDepth 100000 in
theorem slices_ContainsFunc_199_at_200.calls (k : Nat) (A0 : Option Addr) (c0 : Nat) (l0 : List (S91))  (r : Bool) (w : World) (hr0 : Kd.C k91 w A0 l0.length l0) (hc0 : l0.length ≤ c0) (h : slices_ContainsFunc_199_at_200.f k l0 = some r) :
  Calls Try.prog 199 #[.slice A0 l0.length c0, .func (.func 200) #[] #[]] w fun e w' => e = .returned (.bool r) ∧ Below w.heap.size w w' := by
 have HR0 := Aside0.mk hr0; have HC0 := Aside0.mk hc0; clear hr0 hc0
 have HB := Aside0.mk (Below.refl w.heap.size w)
 have H : ((slices_IndexFunc_228_at_200.f k l0).bind fun t192 => (some (decide (t192 ≥ 0)))) = some r := h
 clear h; replace H := bS H; obtain ⟨t192, A3, H⟩ := H
 replace H : (some (decide (t192 ≥ 0))) = some r := H
 obtain rfl := Option.some.inj H
 go_enter Try.func199, Try.ntmps199
 go_wp2_with (first | ((with_reducible refine gate_callee (f := 228) rfl ?_); refine goesLa (some 7) rfl Try.func228 #[.slice A0 l0.length c0, .func (.func 200) #[] #[]] rfl ?_; (with_reducible refine (slices_IndexFunc_228_at_200.calls k _ _ l0  t192 _ ?side1 ?side2 A3.out).mono ?_); (case side1 => exact cd HR0.out); (case side2 => exact HC0.out); rintro e w4 ⟨rfl, hb⟩; refine ⟨_, rfl, ?_⟩; replace HB := ak (below_step (belowd HB) hb); (try clear hb)))
 go_ret
 exact ⟨er2, belowd HB⟩

/-! ### impl_areStatements: function 138 -/
def impl_areStatements.f (k : Nat) (l0 : List (S91)) : Option (Bool) := if (l0.length : Int) ≤ 60 then ((slices_ContainsFunc_199_at_200.f k l0).bind fun t193 => (some (!t193))) else (some false)
theorem impl_areStatements.mono : ∀ a0 k, LeO (impl_areStatements.f k a0) (impl_areStatements.f (k + 1) a0) := by
 intro a0 k
 unfold impl_areStatements.f
 repeat' (first | (with_reducible first | exact slices_ContainsFunc_199_at_200.mono _ _ | exact LeO.refl _ | exact LeO.none _ | refine LeO.ite ?_ ?_ | refine LeO.bind ?_ (fun _ => ?_)) | exact slices_ContainsFunc_199_at_200.mono _ _ | exact LeO.none _ | refine LeO.ite ?_ ?_ | refine LeO.bind ?_ (fun _ => ?_))
set_option maxHeartbeats 8000000 in
set_option maxRecDepth 100000 in
theorem impl_areStatements.calls (k : Nat) (A0 : Option Addr) (c0 : Nat) (l0 : List (S91)) (r : Bool) (w : World) (hr0 : Kd.C k91 w A0 l0.length l0) (hc0 : l0.length ≤ c0) (h : impl_areStatements.f k l0 = some r) :
  Calls Try.prog 138 #[.slice A0 l0.length c0] w fun e w' => e = .returned (.bool r) ∧ Below w.heap.size w w' := by
 have HR0 := Aside0.mk hr0; have HC0 := Aside0.mk hc0; clear hr0 hc0
 have HB := Aside0.mk (Below.refl w.heap.size w)
 have H : (if (l0.length : Int) ≤ 60 then ((slices_ContainsFunc_199_at_200.f k l0).bind fun t193 => (some (!t193))) else (some false)) = some r := h
 clear h
 by_cases c2 : (l0.length : Int) ≤ 60
 ·rw [if_pos c2] at H
  have c2b0 : decide ((l0.length : Int) ≤ 60) = true := decide_eq_true c2
  have c2b1 : decide (l0.length ≤ 60) = true := decide_eq_true (by omega)
  clear c2; replace H := bS H; obtain ⟨t193, A3, H⟩ := H
  replace H : (some (!t193)) = some r := H
  obtain rfl := Option.some.inj H
  go_enter Try.func138, Try.ntmps138
  go_wp2_with (first | (go_at_call 199; (with_reducible refine (slices_ContainsFunc_199_at_200.calls k _ _ l0  t193 _ ?side1 ?side2 A3.out).mono ?_); (case side1 => exact cd HR0.out); (case side2 => exact HC0.out); rintro e w4 ⟨rfl, hb⟩; replace HB := ak (below_step (belowd HB) hb); (try clear hb)))
  go_ret
  exact ⟨er2, belowd HB⟩
 ·rw [if_neg c2] at H
  have c2b0 : decide ((l0.length : Int) ≤ 60) = false := decide_eq_false c2
  have c2b1 : decide (l0.length ≤ 60) = false := decide_eq_false (by omega)
  clear c2
  obtain rfl := Option.some.inj H
  go_enter Try.func138, Try.ntmps138
  go_wp2
  go_ret
  exact ⟨er2, belowd HB⟩

-- NOT PRINTED: function 241 (impl_Claim_241)

-- NOT PRINTED: function 261 (impl_Claim_261)

-- NOT PRINTED: function 242 (impl_Claim_242)

-- NOT PRINTED: function 249 (bits_Len32)

-- NOT PRINTED: function 250 (bits_Len64)

-- NOT PRINTED: function 230 (bits_Len)

-- NOT PRINTED: function 262 (slices_nextPowerOfTwo)

-- NOT PRINTED: function 263 (slices_xorshift_Next)

-- NOT PRINTED: function 243 (impl_Claim_243)

-- NOT PRINTED: function 269 (impl_Claim_269)

-- NOT PRINTED: function 265 (impl_Claim_265)

-- NOT PRINTED: function 264 (impl_Claim_264)

-- NOT PRINTED: function 244 (impl_Claim_244)

-- NOT PRINTED: function 245 (impl_Claim_245)

-- NOT PRINTED: function 246 (impl_Claim_246)

-- NOT PRINTED: function 247 (impl_Claim_247)

-- NOT PRINTED: function 248 (impl_Claim_248)

-- NOT PRINTED: function 229 (impl_Claim_229)

-- NOT PRINTED: function 201 (impl_Claim_201)

/-! ### cmp_Or_int: function 231 -/
def cmp_Or_int.l0 : Nat → Int → List Int → Int → Int → Option (Int)
  | 0, _, _, _, _ => none
  | k + 1, x3, x6, x7, x8 => if x8 < x7 then (if 0 ≤ x8 then (if x8 < (x6.length : Int) then (if (rd x6 x8) = x3 then (cmp_Or_int.l0 k x3 x6 x7 (wrap64 (x8 + 1))) else (some (rd x6 x8))) else (none)) else (none)) else (some x3)
def cmp_Or_int.f (k : Nat) (l0 : List Int) : Option (Int) := cmp_Or_int.l0 k 0 l0 (l0.length : Int) 0
theorem cmp_Or_int.mono_l : ∀ k, (∀ y0 y1 y2 y3, LeO (cmp_Or_int.l0 k y0 y1 y2 y3) (cmp_Or_int.l0 (k + 1) y0 y1 y2 y3))
 | 0 => fun _ _ _ _ r h => by simp [cmp_Or_int.l0] at h
 | k + 1 => by
  have ih0 := cmp_Or_int.mono_l k
  ·intro y0 y1 y2 y3
   unfold cmp_Or_int.l0
   repeat' (first | (with_reducible first | exact ih0 _ _ _ _ | exact LeO.refl _ | exact LeO.none _ | refine LeO.ite ?_ ?_ | refine LeO.bind ?_ (fun _ => ?_)) | exact ih0 _ _ _ _ | exact LeO.none _ | refine LeO.ite ?_ ?_ | refine LeO.bind ?_ (fun _ => ?_))
theorem cmp_Or_int.mono : ∀ a0 k, LeO (cmp_Or_int.f k a0) (cmp_Or_int.f (k + 1) a0) := by
 intro a0 k
 have ih0 := cmp_Or_int.mono_l k
 unfold cmp_Or_int.f
 repeat' (first | (with_reducible first | exact ih0 _ _ _ _ | exact LeO.refl _ | exact LeO.none _ | refine LeO.ite ?_ ?_ | refine LeO.bind ?_ (fun _ => ?_)) | exact ih0 _ _ _ _ | exact LeO.none _ | refine LeO.ite ?_ ?_ | refine LeO.bind ?_ (fun _ => ?_))
set_option maxHeartbeats 8000000 in
set_option maxRecDepth 100000 in
theorem cmp_Or_int.calls (k : Nat) (A0 : Option Addr) (c0 : Nat) (l0 : List Int) (r : Int) (w : World) (hr0 : Kd.C (Kd.int .i64) w A0 l0.length l0) (hc0 : l0.length ≤ c0) (h : cmp_Or_int.f k l0 = some r) :
  Calls Try.prog 231 #[.slice A0 l0.length c0] w fun e w' => e = .returned (.int .i64 r) ∧ Drawn0 w w' := by
 have HR0 := Aside0.mk hr0; have HC0 := Aside0.mk hc0; clear hr0 hc0
 have H : (cmp_Or_int.l0 k 0 l0 (l0.length : Int) 0) = some r := h
 clear h
 have H' := Aside0.mk H
 clear H
 go_enter Try.func231, Try.ntmps231
 go_wp2
 go_loopg [8] k (fun kq v8 w' => ∃ (x8_1 : Int), v8 = .int .i64 x8_1 ∧ Aside0 (cmp_Or_int.l0 kq 0 l0 (l0.length : Int) x8_1 = some r) ∧ Aside0 (kq ≤ k) ∧ Drawn0 w w')
 case atStart => exact ⟨(0), er, H', ⟨Nat.le_refl _⟩, drw⟩
 case round =>
  clear H'
  obtain ⟨x8_1, rfl, HA, HK1, ⟨m1, rfl⟩⟩ := hrel
  cases gk with
  | zero => exact absurd HA.out (by simp [cmp_Or_int.l0])
  | succ k1 =>
   have H := HA.out; clear HA
   simp only [cmp_Or_int.l0] at H
   by_cases c2 : x8_1 < (l0.length : Int)
   ·rw [if_pos c2] at H
    have c2b0 : decide (x8_1 < (l0.length : Int)) = true := decide_eq_true c2
    clear c2; replace H := ifS H; obtain ⟨c3, H⟩ := H; have c3b0 := decide_eq_true c3; clear c3; replace H := ifS H; obtain ⟨c4, H⟩ := H; have c4b0 := decide_eq_true c4; clear c4
    by_cases c5 : (rd l0 x8_1) = 0
    ·rw [if_pos c5] at H
     have c5b0 : ((rd l0 x8_1) == 0) = true := beq_iff_eq.mpr c5
     have c5b1 : ((rd l0 x8_1) != 0) = false := bne_eq_false_iff_eq.mpr c5
     clear c5
     have H' := Aside0.mk H
     clear H
     have p194 : 0 ≤ (x8_1 : Int) := da
     have q194 : x8_1 < (l0.length : Int) := da
     obtain ⟨ad194, e194, hx194_0⟩ := Kd.at_int HR0.out x8_1 p194 q194
     cases e194
     replace p194 := eq_true p194; replace q194 := eq_true q194; go_wp2
     go_roundg k1
     case measure => have := HK1.out; omega
     case rel => exact ⟨(wrap64 (x8_1 + 1)), er, H', ⟨by have := HK1.out; omega⟩, drw⟩
    ·rw [if_neg c5] at H
     have c5b0 : ((rd l0 x8_1) == 0) = false := beq_eq_false_iff_ne.mpr c5
     have c5b1 : ((rd l0 x8_1) != 0) = true := bne_iff_ne.mpr c5
     obtain rfl := Option.some.inj H
     have p194 : 0 ≤ (x8_1 : Int) := da
     have q194 : x8_1 < (l0.length : Int) := da
     obtain ⟨ad194, e194, hx194_0⟩ := Kd.at_int HR0.out x8_1 p194 q194
     cases e194
     replace p194 := eq_true p194; replace q194 := eq_true q194; go_wp2
     go_ret
     exact ⟨er, drw⟩
   ·rw [if_neg c2] at H
    have c2b0 : decide (x8_1 < (l0.length : Int)) = false := decide_eq_false c2
    clear c2
    obtain rfl := Option.some.inj H
    go_wp2
    go_ret
    exact ⟨er, drw⟩

/-! ### cmp_isNaN_int: function 237 -/
def cmp_isNaN_int.f (a0 : Int) : Option (Bool) := some (a0 != a0)
set_option maxHeartbeats 8000000 in
set_option maxRecDepth 100000 in
theorem cmp_isNaN_int.calls (a0 : Int) (r : Bool) (w : World) (h : cmp_isNaN_int.f a0 = some r) :
  Calls Try.prog 237 #[.int .i64 a0] w fun e w' => e = .returned (.bool r) ∧ Drawn0 w w' := by
 have H : (some (a0 != a0)) = some r := h
 clear h
 obtain rfl := Option.some.inj H
 go_enter Try.func237, Try.ntmps237
 go_wp2
 go_ret
 exact ⟨er, drw⟩

/-! ### cmp_Compare_int: function 232 -/
def cmp_Compare_int.f (a0 : Int) (a1 : Int) : Option (Int) := (cmp_isNaN_int.f a0).bind fun t195 => ((cmp_isNaN_int.f a1).bind fun t196 => (if t195 = true then (if t196 = true then (some 0) else (some (-1))) else (if t196 = true then (some 1) else (if a0 < a1 then (some (-1)) else (if a0 > a1 then (some 1) else (some 0))))))
set_option maxHeartbeats 8000000 in
set_option maxRecDepth 100000 in
theorem cmp_Compare_int.calls (a0 : Int) (a1 : Int) (r : Int) (w : World) (h : cmp_Compare_int.f a0 a1 = some r) :
  Calls Try.prog 232 #[.int .i64 a0, .int .i64 a1] w fun e w' => e = .returned (.int .i64 r) ∧ Drawn0 w w' := by
 have H : ((cmp_isNaN_int.f a0).bind fun t195 => ((cmp_isNaN_int.f a1).bind fun t196 => (if t195 = true then (if t196 = true then (some 0) else (some (-1))) else (if t196 = true then (some 1) else (if a0 < a1 then (some (-1)) else (if a0 > a1 then (some 1) else (some 0))))))) = some r := h
 clear h; replace H := bS H; obtain ⟨t195, A3, H⟩ := H
 replace H : ((cmp_isNaN_int.f a1).bind fun t196 => (if t195 = true then (if t196 = true then (some 0) else (some (-1))) else (if t196 = true then (some 1) else (if a0 < a1 then (some (-1)) else (if a0 > a1 then (some 1) else (some 0)))))) = some r := H
 replace H := bS H; obtain ⟨t196, A4, H⟩ := H
 replace H : (if t195 = true then (if t196 = true then (some 0) else (some (-1))) else (if t196 = true then (some 1) else (if a0 < a1 then (some (-1)) else (if a0 > a1 then (some 1) else (some 0))))) = some r := H
 by_cases c5 : t195 = true
 ·subst c5
  have H1 : (if t196 = true then (some 0) else (some (-1))) = some r := by rw [if_pos rfl] at H; exact H
  clear H
  have H := H1
  clear H1
  by_cases c6 : t196 = true
  ·subst c6
   have H1 : (some 0) = some r := by rw [if_pos rfl] at H; exact H
   clear H
   have H := H1
   clear H1
   obtain rfl := Option.some.inj H
   go_enter Try.func232, Try.ntmps232
   go_wp2_with (first | ((with_reducible refine gate_callee (f := 237) rfl ?_); refine goesLa (some 8) rfl Try.func237 #[.int .i64 a0] rfl ?_; (with_reducible refine (cmp_isNaN_int.calls a0 true _ A3.out).mono ?_); rintro e w' ⟨rfl, ⟨nd, rfl⟩⟩; refine ⟨_, rfl, ?_⟩) | ((with_reducible refine gate_callee (f := 237) rfl ?_); refine goesLa (some 10) rfl Try.func237 #[.int .i64 a1] rfl ?_; (with_reducible refine (cmp_isNaN_int.calls a1 true _ A4.out).mono ?_); rintro e w' ⟨rfl, ⟨nd, rfl⟩⟩; refine ⟨_, rfl, ?_⟩))
   go_ret
   exact ⟨er, drw⟩
  ·replace c6 := Bool.eq_false_iff.mpr c6
   subst c6
   have H1 : (some (-1)) = some r := by rw [if_neg (show ¬ (false = true) by decide)] at H; exact H
   clear H
   have H := H1
   clear H1
   obtain rfl := Option.some.inj H
   go_enter Try.func232, Try.ntmps232
   go_wp2_with (first | ((with_reducible refine gate_callee (f := 237) rfl ?_); refine goesLa (some 8) rfl Try.func237 #[.int .i64 a0] rfl ?_; (with_reducible refine (cmp_isNaN_int.calls a0 true _ A3.out).mono ?_); rintro e w' ⟨rfl, ⟨nd, rfl⟩⟩; refine ⟨_, rfl, ?_⟩) | ((with_reducible refine gate_callee (f := 237) rfl ?_); refine goesLa (some 10) rfl Try.func237 #[.int .i64 a1] rfl ?_; (with_reducible refine (cmp_isNaN_int.calls a1 false _ A4.out).mono ?_); rintro e w' ⟨rfl, ⟨nd, rfl⟩⟩; refine ⟨_, rfl, ?_⟩))
   go_ret
   exact ⟨er, drw⟩
 ·replace c5 := Bool.eq_false_iff.mpr c5
  subst c5
  have H1 : (if t196 = true then (some 1) else (if a0 < a1 then (some (-1)) else (if a0 > a1 then (some 1) else (some 0)))) = some r := by rw [if_neg (show ¬ (false = true) by decide)] at H; exact H
  clear H
  have H := H1
  clear H1
  by_cases c7 : t196 = true
  ·subst c7
   have H1 : (some 1) = some r := by rw [if_pos rfl] at H; exact H
   clear H
   have H := H1
   clear H1
   obtain rfl := Option.some.inj H
   go_enter Try.func232, Try.ntmps232
   go_wp2_with (first | ((with_reducible refine gate_callee (f := 237) rfl ?_); refine goesLa (some 8) rfl Try.func237 #[.int .i64 a0] rfl ?_; (with_reducible refine (cmp_isNaN_int.calls a0 false _ A3.out).mono ?_); rintro e w' ⟨rfl, ⟨nd, rfl⟩⟩; refine ⟨_, rfl, ?_⟩) | ((with_reducible refine gate_callee (f := 237) rfl ?_); refine goesLa (some 10) rfl Try.func237 #[.int .i64 a1] rfl ?_; (with_reducible refine (cmp_isNaN_int.calls a1 true _ A4.out).mono ?_); rintro e w' ⟨rfl, ⟨nd, rfl⟩⟩; refine ⟨_, rfl, ?_⟩))
   go_ret
   exact ⟨er, drw⟩
  ·replace c7 := Bool.eq_false_iff.mpr c7
   subst c7
   have H1 : (if a0 < a1 then (some (-1)) else (if a0 > a1 then (some 1) else (some 0))) = some r := by rw [if_neg (show ¬ (false = true) by decide)] at H; exact H
   clear H
   have H := H1
   clear H1
   by_cases c8 : a0 < a1
   ·rw [if_pos c8] at H
    have c8b0 : decide (a0 < a1) = true := decide_eq_true c8
    clear c8
    obtain rfl := Option.some.inj H
    go_enter Try.func232, Try.ntmps232
    go_wp2_with (first | ((with_reducible refine gate_callee (f := 237) rfl ?_); refine goesLa (some 8) rfl Try.func237 #[.int .i64 a0] rfl ?_; (with_reducible refine (cmp_isNaN_int.calls a0 false _ A3.out).mono ?_); rintro e w' ⟨rfl, ⟨nd, rfl⟩⟩; refine ⟨_, rfl, ?_⟩) | ((with_reducible refine gate_callee (f := 237) rfl ?_); refine goesLa (some 10) rfl Try.func237 #[.int .i64 a1] rfl ?_; (with_reducible refine (cmp_isNaN_int.calls a1 false _ A4.out).mono ?_); rintro e w' ⟨rfl, ⟨nd, rfl⟩⟩; refine ⟨_, rfl, ?_⟩))
    go_ret
    exact ⟨er, drw⟩
   ·rw [if_neg c8] at H
    have c8b0 : decide (a0 < a1) = false := decide_eq_false c8
    clear c8
    by_cases c9 : a0 > a1
    ·rw [if_pos c9] at H
     have c9b0 : decide (a1 < a0) = true := decide_eq_true c9
     clear c9
     obtain rfl := Option.some.inj H
     go_enter Try.func232, Try.ntmps232
     go_wp2_with (first | ((with_reducible refine gate_callee (f := 237) rfl ?_); refine goesLa (some 8) rfl Try.func237 #[.int .i64 a0] rfl ?_; (with_reducible refine (cmp_isNaN_int.calls a0 false _ A3.out).mono ?_); rintro e w' ⟨rfl, ⟨nd, rfl⟩⟩; refine ⟨_, rfl, ?_⟩) | ((with_reducible refine gate_callee (f := 237) rfl ?_); refine goesLa (some 10) rfl Try.func237 #[.int .i64 a1] rfl ?_; (with_reducible refine (cmp_isNaN_int.calls a1 false _ A4.out).mono ?_); rintro e w' ⟨rfl, ⟨nd, rfl⟩⟩; refine ⟨_, rfl, ?_⟩))
     go_ret
     exact ⟨er, drw⟩
    ·rw [if_neg c9] at H
     have c9b0 : decide (a1 < a0) = false := decide_eq_false c9
     clear c9
     obtain rfl := Option.some.inj H
     go_enter Try.func232, Try.ntmps232
     go_wp2_with (first | ((with_reducible refine gate_callee (f := 237) rfl ?_); refine goesLa (some 8) rfl Try.func237 #[.int .i64 a0] rfl ?_; (with_reducible refine (cmp_isNaN_int.calls a0 false _ A3.out).mono ?_); rintro e w' ⟨rfl, ⟨nd, rfl⟩⟩; refine ⟨_, rfl, ?_⟩) | ((with_reducible refine gate_callee (f := 237) rfl ?_); refine goesLa (some 10) rfl Try.func237 #[.int .i64 a1] rfl ?_; (with_reducible refine (cmp_isNaN_int.calls a1 false _ A4.out).mono ?_); rintro e w' ⟨rfl, ⟨nd, rfl⟩⟩; refine ⟨_, rfl, ?_⟩))
     go_ret
     exact ⟨er, drw⟩

/-! ### impl_compareClaims: function 202 -/
def impl_compareClaims.f (k : Nat) (a0_0 : Int) (a0_1 : Int) (a0_2 : Int) (a1_0 : Int) (a1_1 : Int) (a1_2 : Int) : Option (Int) := (cmp_Compare_int.f a0_0 a1_0).bind fun t199 => ((cmp_Compare_int.f a0_1 a1_1).bind fun t200 => ((cmp_Compare_int.f a0_2 a1_2).bind fun t201 => ((cmp_Or_int.f k (([t199, t200, t201] : List Int))).bind fun t205 => (some t205))))
theorem impl_compareClaims.mono : ∀ a0 a1 a2 a3 a4 a5 k, LeO (impl_compareClaims.f k a0 a1 a2 a3 a4 a5) (impl_compareClaims.f (k + 1) a0 a1 a2 a3 a4 a5) := by
 intro a0 a1 a2 a3 a4 a5 k
 unfold impl_compareClaims.f
 repeat' (first | (with_reducible first | exact cmp_Or_int.mono _ _ | exact LeO.refl _ | exact LeO.none _ | refine LeO.ite ?_ ?_ | refine LeO.bind ?_ (fun _ => ?_)) | exact cmp_Or_int.mono _ _ | exact LeO.none _ | refine LeO.ite ?_ ?_ | refine LeO.bind ?_ (fun _ => ?_))
def impl_compareClaims.T1 : Bool × List (List Nat × List Nat) := (true, [([], []), ([0], [0]), ([], []), ([2], [2]), ([1, 3], [1, 3]), ([], []), ([5], [5]), ([], []), ([7], [7]), ([6, 8, 4], [6, 8]), ([], []), ([10], [10]), ([], []), ([12], [12]), ([11, 13, 9], [11, 13]), ([4, 9, 14], [4, 9, 14]), ([15, 14], [15]), ([16, 16, 0, 1, 2, 3, 4, 5, 6, 7, 8, 9, 10, 11, 12, 13, 14, 15, 16], [16])])
def impl_compareClaims.B1 : List Nat := [0, 1, 0, 4, 15, 0, 32, 0, 128, 511, 0, 1024, 0, 4096, 16383, 32767, 65535, 131071]
theorem impl_compareClaims.tab1 : rtab .any (opsOf Try.f202 1) = impl_compareClaims.T1 := by kernel_rfl
theorem impl_compareClaims.bits1 : waitsOk impl_compareClaims.T1.2 impl_compareClaims.B1 = true := by kernel_rfl
set_option maxHeartbeats 8000000 in
set_option maxRecDepth 100000 in
theorem impl_compareClaims.calls (k : Nat) (a0_0 : Int) (a0_1 : Int) (a0_2 : Int) (a1_0 : Int) (a1_1 : Int) (a1_2 : Int) (r : Int) (w : World) (h : impl_compareClaims.f k a0_0 a0_1 a0_2 a1_0 a1_1 a1_2 = some r) :
  Calls Try.prog 202 #[.agg #[.int .i64 a0_0, .int .i64 a0_1, .int .i64 a0_2], .agg #[.int .i64 a1_0, .int .i64 a1_1, .int .i64 a1_2]] w fun e w' => e = .returned (.int .i64 r) ∧ Below w.heap.size w w' := by
 have hu85 := Try.underlying85
 have HB := Aside0.mk (Below.refl w.heap.size w)
 have H : ((cmp_Compare_int.f a0_0 a1_0).bind fun t199 => ((cmp_Compare_int.f a0_1 a1_1).bind fun t200 => ((cmp_Compare_int.f a0_2 a1_2).bind fun t201 => ((cmp_Or_int.f k (([t199, t200, t201] : List Int))).bind fun t205 => (some t205))))) = some r := h
 clear h; replace H := bS H; obtain ⟨t199, A3, H⟩ := H
 replace H : ((cmp_Compare_int.f a0_1 a1_1).bind fun t200 => ((cmp_Compare_int.f a0_2 a1_2).bind fun t201 => ((cmp_Or_int.f k (([t199, t200, t201] : List Int))).bind fun t205 => (some t205)))) = some r := H
 replace H := bS H; obtain ⟨t200, A4, H⟩ := H
 replace H : ((cmp_Compare_int.f a0_2 a1_2).bind fun t201 => ((cmp_Or_int.f k (([t199, t200, t201] : List Int))).bind fun t205 => (some t205))) = some r := H
 replace H := bS H; obtain ⟨t201, A5, H⟩ := H
 replace H : ((cmp_Or_int.f k (([t199, t200, t201] : List Int))).bind fun t205 => (some t205)) = some r := H
 obtain ⟨y202, hy_⟩ : ∃ y_ : List Int, y_ = (([t199, t200, t201] : List Int)) := ⟨_, rfl⟩
 replace H : ((cmp_Or_int.f k y202).bind fun t205 => (some t205)) = some r := yH
 have Ny202 := ak hy_; clear hy_; replace H := bS H; obtain ⟨t205, A6, H⟩ := H
 replace H : (some t205) = some r := H
 obtain rfl := Option.some.inj H
 go_enter Try.func202, Try.ntmps202
 try go_wp2_with (first | ((with_reducible refine gate_dst (N := 2) rfl ?_); refine boxev 2 #[.int .i64 a0_0, .int .i64 a0_1, .int .i64 a0_2] 85 ?_; intro gb197 hg w7 hbox hb; have BK197 := ak (hbox); have GW197 := ak (hgl hg (belowd HB)); have GE197 := ak (hgl hg (belowd HB)); replace HB := ak (below_step (belowd HB) hb); clear hb hbox hg) | ((with_reducible refine gate_dst (N := 3) rfl ?_); refine boxev 3 #[.int .i64 a1_0, .int .i64 a1_1, .int .i64 a1_2] 85 ?_; intro gb198 hg w8 hbox hb; have BK198 := ak (hbox); have GW198 := ak (hgl hg (belowg1 HB GE197)); have GE198 := ak (hgl hg (belowg1 HB GE197)); replace HB := ak (below_step (belowg1 HB GE197) hb); have NB197_198 := ak ((by rw [hg]; exact Nat.ne_of_lt (blk_lt (blkd BK197)) : gb197 ≠ gb198)); have NB198_197 := ak ((by rw [hg]; exact Nat.ne_of_gt (blk_lt (blkd BK197)) : gb198 ≠ gb197)); replace BK197 := ak (blk_below (blkd BK197) hb); clear hb hbox hg))
 replace BK197 := ak (blk_drew BK197.out)
 replace BK198 := ak (blk_drew BK198.out)
 replace HB := ak (below_drew1 HB.out)
 refine start_ (n := 18) (S := fun w' => w'.cell? ⟨gb197, 0, none⟩ = some (.int .i64 a0_0) ∧ w'.cell? ⟨gb197, 1, none⟩ = some (.int .i64 a0_1) ∧ w'.cell? ⟨gb197, 2, none⟩ = some (.int .i64 a0_2) ∧ w'.cell? ⟨gb198, 0, none⟩ = some (.int .i64 a1_0) ∧ w'.cell? ⟨gb198, 1, none⟩ = some (.int .i64 a1_1) ∧ w'.cell? ⟨gb198, 2, none⟩ = some (.int .i64 a1_2)) (ds := []) (bl 18 0) (by kernel_rfl) rfl rfl ⟨bq BK197 0, bq BK197 1, bq BK197 2, bq BK198 0, bq BK198 1, bq BK198 2⟩ (fun hHeld => ?_); refine with_tabW impl_compareClaims.tab1 impl_compareClaims.bits1 (fun HT_ HW_ => ?_)
 generalize w8.drew = w9 at BK197 BK198 HB hHeld ⊢
 refine pureA 0 (some 5) 18 1 HT_ ?_
 refine pureA 2 (some 7) 18 5 HT_ ?_
 refine pureA 5 (some 10) 18 37 HT_ ?_
 refine pureA 7 (some 12) 18 165 HT_ ?_
 refine pureA 10 (some 15) 18 1189 HT_ ?_
 refine pureA 12 (some 17) 18 5285 HT_ ?_
 refine takeA 1 (some 6) 18 5287 HT_ HW_ hHeld ?_ (hy := by rintro w' ⟨s0, s1, s2, s3, s4, s5⟩; go_simp; with_reducible rfl)
 refine takeA 3 (some 8) 18 5295 HT_ HW_ hHeld ?_ (hy := by rintro w' ⟨s0, s1, s2, s3, s4, s5⟩; go_simp; with_reducible rfl)
 refine takeA 6 (some 11) 18 5359 HT_ HW_ hHeld ?_ (hy := by rintro w' ⟨s0, s1, s2, s3, s4, s5⟩; go_simp; with_reducible rfl)
 refine takeA 8 (some 13) 18 5615 HT_ HW_ hHeld ?_ (hy := by rintro w' ⟨s0, s1, s2, s3, s4, s5⟩; go_simp; with_reducible rfl)
 refine takeA 11 (some 16) 18 7663 HT_ HW_ hHeld ?_ (hy := by rintro w' ⟨s0, s1, s2, s3, s4, s5⟩; go_simp; with_reducible rfl)
 refine takeA 13 (some 18) 18 15855 HT_ HW_ hHeld ?_ (hy := by rintro w' ⟨s0, s1, s2, s3, s4, s5⟩; go_simp; with_reducible rfl)
 refine oneA 4 (some 9) 18 15871 HT_ (fun K hK => ?_)
 refine goes_ Try.func232 (by kernel_rfl) rfl #[.int .i64 a0_0, .int .i64 a1_0] (by rfl) rfl rfl (by (try simp only [List.map_toArray, List.map_cons, List.map_nil]); first | done | rfl | (simp only [List.length_drop, List.length_take]; rfl)) ?_
 with_reducible refine (cmp_Compare_int.calls a0_0 a1_0 t199 _ A3.out).mono ?_
 rintro e w' ⟨rfl, ⟨nd, rfl⟩⟩
 refine ⟨_, rfl, ?_⟩
 refine hK.out _ _ ⟨bq BK197 0, bq BK197 1, bq BK197 2, bq BK198 0, bq BK198 1, bq BK198 2⟩ (fun hHeld => ?_)
 clear hK K
 refine norm_ (a' := ?_) ?_ ?_
 rotate_left
 ·show Act.put _ (some 9) _ = _
  simp only [Act.put, List.setIfInBounds_toArray, List.set_cons_zero, List.set_cons_succ, i64_w, i32_w]
  rfl
 refine oneA 9 (some 14) 18 16383 HT_ (fun K hK => ?_)
 refine goes_ Try.func232 (by kernel_rfl) rfl #[.int .i64 a0_1, .int .i64 a1_1] (by rfl) rfl rfl (by (try simp only [List.map_toArray, List.map_cons, List.map_nil]); first | done | rfl | (simp only [List.length_drop, List.length_take]; rfl)) ?_
 with_reducible refine (cmp_Compare_int.calls a0_1 a1_1 t200 _ A4.out).mono ?_
 rintro e w' ⟨rfl, ⟨nd, rfl⟩⟩
 refine ⟨_, rfl, ?_⟩
 refine hK.out _ _ ⟨bq BK197 0, bq BK197 1, bq BK197 2, bq BK198 0, bq BK198 1, bq BK198 2⟩ (fun hHeld => ?_)
 clear hK K
 refine norm_ (a' := ?_) ?_ ?_
 rotate_left
 ·show Act.put _ (some 14) _ = _
  simp only [Act.put, List.setIfInBounds_toArray, List.set_cons_zero, List.set_cons_succ, i64_w, i32_w]
  rfl
 refine oneA 14 (some 19) 18 32767 HT_ (fun K hK => ?_)
 refine goes_ Try.func232 (by kernel_rfl) rfl #[.int .i64 a0_2, .int .i64 a1_2] (by rfl) rfl rfl (by (try simp only [List.map_toArray, List.map_cons, List.map_nil]); first | done | rfl | (simp only [List.length_drop, List.length_take]; rfl)) ?_
 with_reducible refine (cmp_Compare_int.calls a0_2 a1_2 t201 _ A5.out).mono ?_
 rintro e w' ⟨rfl, ⟨nd, rfl⟩⟩
 refine ⟨_, rfl, ?_⟩
 refine hK.out _ _ ⟨bq BK197 0, bq BK197 1, bq BK197 2, bq BK198 0, bq BK198 1, bq BK198 2⟩ (fun hHeld => ?_)
 clear hK K
 refine norm_ (a' := ?_) ?_ ?_
 rotate_left
 ·show Act.put _ (some 19) _ = _
  simp only [Act.put, List.setIfInBounds_toArray, List.set_cons_zero, List.set_cons_succ, i64_w, i32_w]
  rfl
 refine oneA 15 (some 20) 18 65535 HT_ (fun K hK => ?_)
 refine Kd.R_lit_step (Kd.int .i64) _ 3 ?hg (N := 20) ?hd (xs := ([t199, t200, t201] : List Int)) (inner := [.int .i64 t199, .int .i64 t200, .int .i64 t201]) (ok := fun _ => True) (okp := fun _ => True) ?hr ?hp (fun _ hk => hk) trivial (Below.refl _ _) (Nat.le_refl _) (by simp) ?_; (case hd => rfl); (case hg => rfl); (case hr => first | (go_simp; done) | (go_simp; rfl)); (case hp => exact (Reps.one (show Kd.M (Kd.int .i64) _ _ _ t199 [.int .i64 t199] from rfl) (Reps.one (show Kd.M (Kd.int .i64) _ _ _ t200 [.int .i64 t200] from rfl) (Reps.one (show Kd.M (Kd.int .i64) _ _ _ t201 [.int .i64 t201] from rfl) (Reps.none _ _)))))
 intro v203 w10 ho11 hb hg_ hnew_
 clear hg_ hnew_
 (first | rw [← Ny202.out] at ho11 | (simp only [Int.reduceToNat] at ho11; rw [← Ny202.out] at ho11))
 have HO204 := ak (Kd.R_lower ho11 (below_size (belowg2 HB GE197 GE198)))
 replace BK197 := ak (blk_below (blkd BK197) hb)
 replace BK198 := ak (blk_below (blkd BK198) hb)
 replace HB := ak (below_step (belowg2 HB GE197 GE198) hb)
 clear hb ho11
 obtain ⟨Ao12, co12, eo12⟩ := Kd.R_slice HO204.out
 (first | subst eo12 | (injection eo12 with f1_ f2_ f3_; have f4_ := f1_.symm; have f5_ := f3_.symm; clear f1_ f2_ f3_; subst f4_; subst f5_))
 refine hK.out _ _ ⟨bq BK197 0, bq BK197 1, bq BK197 2, bq BK198 0, bq BK198 1, bq BK198 2⟩ (fun hHeld => ?_)
 clear hK K
 refine norm_ (a' := ?_) ?_ ?_
 rotate_left
 ·show Act.put _ (some 20) _ = _
  simp only [Act.put, List.setIfInBounds_toArray, List.set_cons_zero, List.set_cons_succ, i64_w, i32_w]
  rfl
 refine oneA 16 (some 21) 18 131071 HT_ (fun K hK => ?_)
 refine goes_ Try.func231 (by kernel_rfl) rfl #[.slice Ao12 y202.length co12] (by rfl) rfl rfl (by (try simp only [List.map_toArray, List.map_cons, List.map_nil]); first | done | rfl | (simp only [List.length_drop, List.length_take]; rfl)) ?_
 with_reducible refine (cmp_Or_int.calls k _ _ y202 t205 _ ?side1 ?side2 A6.out).mono ?_
 (case side1 => exact cd (Kd.R_reads' HO204.out).2.2)
 (case side2 => exact (Kd.R_reads' HO204.out).2.1)
 rintro e w' ⟨rfl, ⟨nd, rfl⟩⟩
 refine ⟨_, rfl, ?_⟩
 refine hK.out _ _ ⟨bq BK197 0, bq BK197 1, bq BK197 2, bq BK198 0, bq BK198 1, bq BK198 2⟩ (fun hHeld => ?_)
 clear hK K
 refine norm_ (a' := ?_) ?_ ?_
 rotate_left
 ·show Act.put _ (some 21) _ = _
  simp only [Act.put, List.setIfInBounds_toArray, List.set_cons_zero, List.set_cons_succ, i64_w, i32_w]
  rfl
 refine pureA 17 (some 4) 18 262143 HT_ ?_
 refine done_ (done_of HT_.out (by kernel_rfl)) ?_
 try go_wp2
 go_ret
 exact ⟨er2, belowg2 HB GE197 GE198⟩

/-! the comparing function, told plainly; how far it draws -/
instance : Inhabited S85 := ⟨z85⟩
instance : DecidableEq S85 := fun x y => decidable_of_iff (x.f0 = y.f0 ∧ x.f1 = y.f1 ∧ x.f2 = y.f2) (by cases x; cases y; simp)
def impl_compareClaims.cf (x y : S85) : Int := if x.f0 < y.f0 then -1 else if y.f0 < x.f0 then 1 else if x.f1 < y.f1 then -1 else if y.f1 < x.f1 then 1 else if x.f2 < y.f2 then -1 else if y.f2 < x.f2 then 1 else 0
def impl_compareClaims.enc (x : S85) : List Value := [.int .i64 x.f0, .int .i64 x.f1, .int .i64 x.f2]
theorem impl_compareClaims.flat : Flat k85 impl_compareClaims.enc := by
 refine ⟨fun w base ok x cs => ⟨?_, ?_⟩, fun x => rfl, fun x v hv => ?_⟩
 ·rintro ⟨c0, c1, rfl, rfl, c2, c3, rfl, rfl, rfl⟩
  rfl
 ·rintro rfl
  exact ⟨[_], [_, _], rfl, rfl, [_], [_], rfl, rfl, rfl⟩
 ·simp only [impl_compareClaims.enc, List.mem_cons, List.not_mem_nil, or_false] at hv
  rcases hv with rfl | rfl | rfl <;> rfl
theorem impl_compareClaims.ltcf (x y : S85) : Go.Proofs.ltOf impl_compareClaims.cf x y = decide (x.f0 < y.f0 ∨ x.f0 = y.f0 ∧ (x.f1 < y.f1 ∨ x.f1 = y.f1 ∧ x.f2 < y.f2)) := by
 unfold Go.Proofs.ltOf
 rw [decide_eq_decide]
 unfold impl_compareClaims.cf
 split <;> (try split) <;> (try split) <;> (try split) <;> (try split) <;> (try split) <;> omega
theorem impl_compareClaims.swo : Go.Sort.SWO (Go.Proofs.ltOf impl_compareClaims.cf) := by
 refine ⟨fun x => ?_, fun x y z h1 h2 => ?_, fun x y z h1 h2 => ?_⟩ <;> simp only [impl_compareClaims.ltcf, decide_eq_true_eq, decide_eq_false_iff_not] at * <;> omega
theorem impl_compareClaims.total : ∀ x y, Go.Proofs.ltOf impl_compareClaims.cf x y = false → Go.Proofs.ltOf impl_compareClaims.cf y x = false → x = y := by
 intro x y h1 h2
 simp only [impl_compareClaims.ltcf, decide_eq_false_iff_not] at h1 h2
 cases x
 cases y
 simp only [S85.mk.injEq]
 dsimp only at h1 h2
 omega
theorem impl_compareClaims.gds : ∀ (op : BinOp) (a b : Operand) (x y : S85) (w : World), Sem.run Try.prog (eqGuard op 85 a b (.agg (impl_compareClaims.enc x).toArray) (.agg (impl_compareClaims.enc y).toArray)) w = .ok () w := fun op a b x y w => run_eqGuard_agg w op 85 a b _ _ (by kernel_rfl)
theorem impl_compareClaims.eqs : ∀ (x y : S85) (w : World), Sem.run Try.prog (binOp .eql 85 (.agg (impl_compareClaims.enc x).toArray) (.agg (impl_compareClaims.enc y).toArray)) w = .ok (.bool (decide (x = y))) w := by
 intro x y w
 have hu := Try.underlying85
 have hu3 := Try.underlying3
 unfold impl_compareClaims.enc
 go_simp
 cases x
 cases y
 simp only [S85.mk.injEq]
 repeat' split
 all_goals simp_all
theorem impl_compareClaims.nes : ∀ (x y : S85) (w : World), Sem.run Try.prog (binOp .neq 85 (.agg (impl_compareClaims.enc x).toArray) (.agg (impl_compareClaims.enc y).toArray)) w = .ok (.bool (!decide (x = y))) w := by
 intro x y w
 have hu := Try.underlying85
 have hu3 := Try.underlying3
 unfold impl_compareClaims.enc
 go_simp
 cases x
 cases y
 simp only [S85.mk.injEq]
 repeat' split
 all_goals simp_all
theorem impl_compareClaims.tells (x y : S85) : impl_compareClaims.f 5 x.f0 x.f1 x.f2 y.f0 y.f1 y.f2 = some (impl_compareClaims.cf x y) := by
 have e1 : ∀ a b : Int, cmp_Compare_int.f a b = some (if a < b then -1 else if b < a then 1 else 0) := by
  intro a b
  unfold cmp_Compare_int.f cmp_isNaN_int.f
  simp only [Option.bind_some, bne_self_eq_false, Bool.false_eq_true, if_false]
  split
  ·rfl
  ·split <;> rfl
 have e2 : ∀ a b c : Int, cmp_Or_int.f 5 [a, b, c] = some (if a = 0 then if b = 0 then c else b else a) := by
  intro a b c
  by_cases h1 : a = 0 <;> by_cases h2 : b = 0 <;> by_cases h3 : c = 0 <;> simp [cmp_Or_int.f, cmp_Or_int.l0, rd, wrap64, h1, h2, h3]
 unfold impl_compareClaims.f
 simp only [e1, e2, Option.bind_some]
 unfold impl_compareClaims.cf
 congr 1
 repeat' split
 all_goals first | rfl | omega
set_option maxHeartbeats 8000000 in
set_option maxRecDepth 100000 in
theorem impl_compareClaims.laid (k : Nat) (a0_0 : Int) (a0_1 : Int) (a0_2 : Int) (a1_0 : Int) (a1_1 : Int) (a1_2 : Int) (r : Int) (w : World) (h : impl_compareClaims.f k a0_0 a0_1 a0_2 a1_0 a1_1 a1_2 = some r) :
  Calls Try.prog 202 #[.agg #[.int .i64 a0_0, .int .i64 a0_1, .int .i64 a0_2], .agg #[.int .i64 a1_0, .int .i64 a1_1, .int .i64 a1_2]] w fun e w' => e = .returned (.int .i64 r) ∧ ∃ q os, w' = Sort.grow (w.drewN q) os := by
 have HD := Aside0.mk (Nat.le_refl w.drawn)
 have hu85 := Try.underlying85
 have HB := Aside0.mk (Below.refl w.heap.size w)
 have H : ((cmp_Compare_int.f a0_0 a1_0).bind fun t199 => ((cmp_Compare_int.f a0_1 a1_1).bind fun t200 => ((cmp_Compare_int.f a0_2 a1_2).bind fun t201 => ((cmp_Or_int.f k (([t199, t200, t201] : List Int))).bind fun t205 => (some t205))))) = some r := h
 clear h; replace H := bS H; obtain ⟨t199, A3, H⟩ := H
 replace H : ((cmp_Compare_int.f a0_1 a1_1).bind fun t200 => ((cmp_Compare_int.f a0_2 a1_2).bind fun t201 => ((cmp_Or_int.f k (([t199, t200, t201] : List Int))).bind fun t205 => (some t205)))) = some r := H
 replace H := bS H; obtain ⟨t200, A4, H⟩ := H
 replace H : ((cmp_Compare_int.f a0_2 a1_2).bind fun t201 => ((cmp_Or_int.f k (([t199, t200, t201] : List Int))).bind fun t205 => (some t205))) = some r := H
 replace H := bS H; obtain ⟨t201, A5, H⟩ := H
 replace H : ((cmp_Or_int.f k (([t199, t200, t201] : List Int))).bind fun t205 => (some t205)) = some r := H
 obtain ⟨y202, hy_⟩ : ∃ y_ : List Int, y_ = (([t199, t200, t201] : List Int)) := ⟨_, rfl⟩
 replace H : ((cmp_Or_int.f k y202).bind fun t205 => (some t205)) = some r := yH
 have Ny202 := ak hy_; clear hy_; replace H := bS H; obtain ⟨t205, A6, H⟩ := H
 replace H : (some t205) = some r := H
 obtain rfl := Option.some.inj H
 go_enter Try.func202, Try.ntmps202
 try go_wp2_with (first | ((with_reducible refine gate_dst (N := 2) rfl ?_); refine box_eventD ?hg (N := 2) ?hd (cs := #[.int .i64 a0_0, .int .i64 a0_1, .int .i64 a0_2]) (t := 85) ?hr ?_; (case hd => rfl); (case hg => rfl); (case hr => first | (go_simp; done) | (go_simp; rfl)); intro gb197 hg w7 hbox hb hd_; replace HD := Aside0.mk (show w.drawn ≤ w7.drawn from Nat.le_trans (Nat.le_trans HD.out (by first | exact Nat.le_refl _ | (simp only [drn, drn1]; omega))) (Nat.le_of_eq hd_.symm)); clear hd_; have BK197 := ak (hbox); have GW197 := ak (hgl hg (belowd HB)); have GE197 := ak (hgl hg (belowd HB)); replace HB := ak (below_step (belowd HB) hb); clear hb hbox hg) | ((with_reducible refine gate_dst (N := 3) rfl ?_); refine box_eventD ?hg (N := 3) ?hd (cs := #[.int .i64 a1_0, .int .i64 a1_1, .int .i64 a1_2]) (t := 85) ?hr ?_; (case hd => rfl); (case hg => rfl); (case hr => first | (go_simp; done) | (go_simp; rfl)); intro gb198 hg w8 hbox hb hd_; replace HD := Aside0.mk (show w.drawn ≤ w8.drawn from Nat.le_trans (Nat.le_trans HD.out (by first | exact Nat.le_refl _ | (simp only [drn, drn1]; omega))) (Nat.le_of_eq hd_.symm)); clear hd_; have BK198 := ak (hbox); have GW198 := ak (hgl hg (belowg1 HB GE197)); have GE198 := ak (hgl hg (belowg1 HB GE197)); replace HB := ak (below_step (belowg1 HB GE197) hb); have NB197_198 := ak ((by rw [hg]; exact Nat.ne_of_lt (blk_lt (blkd BK197)) : gb197 ≠ gb198)); have NB198_197 := ak ((by rw [hg]; exact Nat.ne_of_gt (blk_lt (blkd BK197)) : gb198 ≠ gb197)); replace BK197 := ak (blk_below (blkd BK197) hb); clear hb hbox hg))
 replace BK197 := ak (blk_drew BK197.out)
 replace BK198 := ak (blk_drew BK198.out)
 replace HB := ak (below_drew1 HB.out)
 refine start_ (n := 18) (S := fun w' => w'.cell? ⟨gb197, 0, none⟩ = some (.int .i64 a0_0) ∧ w'.cell? ⟨gb197, 1, none⟩ = some (.int .i64 a0_1) ∧ w'.cell? ⟨gb197, 2, none⟩ = some (.int .i64 a0_2) ∧ w'.cell? ⟨gb198, 0, none⟩ = some (.int .i64 a1_0) ∧ w'.cell? ⟨gb198, 1, none⟩ = some (.int .i64 a1_1) ∧ w'.cell? ⟨gb198, 2, none⟩ = some (.int .i64 a1_2)) (ds := []) (bl 18 0) (by kernel_rfl) rfl rfl ⟨bq BK197 0, bq BK197 1, bq BK197 2, bq BK198 0, bq BK198 1, bq BK198 2⟩ (fun hHeld => ?_); refine with_tabW impl_compareClaims.tab1 impl_compareClaims.bits1 (fun HT_ HW_ => ?_)
 replace HD := Aside0.mk (show w.drawn ≤ w8.drew.drawn from Nat.le_succ_of_le HD.out)
 generalize w8.drew = w9 at BK197 BK198 HB HD hHeld ⊢
 refine pureA 0 (some 5) 18 1 HT_ ?_
 refine pureA 2 (some 7) 18 5 HT_ ?_
 refine pureA 5 (some 10) 18 37 HT_ ?_
 refine pureA 7 (some 12) 18 165 HT_ ?_
 refine pureA 10 (some 15) 18 1189 HT_ ?_
 refine pureA 12 (some 17) 18 5285 HT_ ?_
 refine takeA 1 (some 6) 18 5287 HT_ HW_ hHeld ?_ (hy := by rintro w' ⟨s0, s1, s2, s3, s4, s5⟩; go_simp; with_reducible rfl)
 refine takeA 3 (some 8) 18 5295 HT_ HW_ hHeld ?_ (hy := by rintro w' ⟨s0, s1, s2, s3, s4, s5⟩; go_simp; with_reducible rfl)
 refine takeA 6 (some 11) 18 5359 HT_ HW_ hHeld ?_ (hy := by rintro w' ⟨s0, s1, s2, s3, s4, s5⟩; go_simp; with_reducible rfl)
 refine takeA 8 (some 13) 18 5615 HT_ HW_ hHeld ?_ (hy := by rintro w' ⟨s0, s1, s2, s3, s4, s5⟩; go_simp; with_reducible rfl)
 refine takeA 11 (some 16) 18 7663 HT_ HW_ hHeld ?_ (hy := by rintro w' ⟨s0, s1, s2, s3, s4, s5⟩; go_simp; with_reducible rfl)
 refine takeA 13 (some 18) 18 15855 HT_ HW_ hHeld ?_ (hy := by rintro w' ⟨s0, s1, s2, s3, s4, s5⟩; go_simp; with_reducible rfl)
 refine oneA 4 (some 9) 18 15871 HT_ (fun K hK => ?_)
 refine goes_ Try.func232 (by kernel_rfl) rfl #[.int .i64 a0_0, .int .i64 a1_0] (by rfl) rfl rfl (by (try simp only [List.map_toArray, List.map_cons, List.map_nil]); first | done | rfl | (simp only [List.length_drop, List.length_take]; rfl)) ?_
 with_reducible refine (cmp_Compare_int.calls a0_0 a1_0 t199 _ A3.out).mono ?_
 rintro e w' ⟨rfl, ⟨nd, rfl⟩⟩
 refine ⟨_, rfl, ?_⟩
 refine hK.out _ _ ⟨bq BK197 0, bq BK197 1, bq BK197 2, bq BK198 0, bq BK198 1, bq BK198 2⟩ (fun hHeld => ?_)
 clear hK K
 refine norm_ (a' := ?_) ?_ ?_
 rotate_left
 ·show Act.put _ (some 9) _ = _
  simp only [Act.put, List.setIfInBounds_toArray, List.set_cons_zero, List.set_cons_succ, i64_w, i32_w]
  rfl
 refine oneA 9 (some 14) 18 16383 HT_ (fun K hK => ?_)
 refine goes_ Try.func232 (by kernel_rfl) rfl #[.int .i64 a0_1, .int .i64 a1_1] (by rfl) rfl rfl (by (try simp only [List.map_toArray, List.map_cons, List.map_nil]); first | done | rfl | (simp only [List.length_drop, List.length_take]; rfl)) ?_
 with_reducible refine (cmp_Compare_int.calls a0_1 a1_1 t200 _ A4.out).mono ?_
 rintro e w' ⟨rfl, ⟨nd, rfl⟩⟩
 refine ⟨_, rfl, ?_⟩
 refine hK.out _ _ ⟨bq BK197 0, bq BK197 1, bq BK197 2, bq BK198 0, bq BK198 1, bq BK198 2⟩ (fun hHeld => ?_)
 clear hK K
 refine norm_ (a' := ?_) ?_ ?_
 rotate_left
 ·show Act.put _ (some 14) _ = _
  simp only [Act.put, List.setIfInBounds_toArray, List.set_cons_zero, List.set_cons_succ, i64_w, i32_w]
  rfl
 refine oneA 14 (some 19) 18 32767 HT_ (fun K hK => ?_)
 refine goes_ Try.func232 (by kernel_rfl) rfl #[.int .i64 a0_2, .int .i64 a1_2] (by rfl) rfl rfl (by (try simp only [List.map_toArray, List.map_cons, List.map_nil]); first | done | rfl | (simp only [List.length_drop, List.length_take]; rfl)) ?_
 with_reducible refine (cmp_Compare_int.calls a0_2 a1_2 t201 _ A5.out).mono ?_
 rintro e w' ⟨rfl, ⟨nd, rfl⟩⟩
 refine ⟨_, rfl, ?_⟩
 refine hK.out _ _ ⟨bq BK197 0, bq BK197 1, bq BK197 2, bq BK198 0, bq BK198 1, bq BK198 2⟩ (fun hHeld => ?_)
 clear hK K
 refine norm_ (a' := ?_) ?_ ?_
 rotate_left
 ·show Act.put _ (some 19) _ = _
  simp only [Act.put, List.setIfInBounds_toArray, List.set_cons_zero, List.set_cons_succ, i64_w, i32_w]
  rfl
 refine oneA 15 (some 20) 18 65535 HT_ (fun K hK => ?_)
 refine R_lit_stepD (Kd.int .i64) _ 3 ?hg (N := 20) ?hd (xs := ([t199, t200, t201] : List Int)) (inner := [.int .i64 t199, .int .i64 t200, .int .i64 t201]) (ok := fun _ => True) (okp := fun _ => True) ?hr ?hp (fun _ hk => hk) trivial (Below.refl _ _) (Nat.le_refl _) (by simp) ?_; (case hd => rfl); (case hg => rfl); (case hr => first | (go_simp; done) | (go_simp; rfl)); (case hp => exact (Reps.one (show Kd.M (Kd.int .i64) _ _ _ t199 [.int .i64 t199] from rfl) (Reps.one (show Kd.M (Kd.int .i64) _ _ _ t200 [.int .i64 t200] from rfl) (Reps.one (show Kd.M (Kd.int .i64) _ _ _ t201 [.int .i64 t201] from rfl) (Reps.none _ _)))))
 intro v203 w10 ho11 hb hg_ hnew_ hd_
 replace HD := Aside0.mk (show w.drawn ≤ w10.drawn from Nat.le_trans (Nat.le_trans HD.out (by first | exact Nat.le_refl _ | (simp only [drn, drn1]; omega))) (Nat.le_of_eq hd_.symm))
 clear hd_; clear hg_ hnew_
 (first | rw [← Ny202.out] at ho11 | (simp only [Int.reduceToNat] at ho11; rw [← Ny202.out] at ho11))
 have HO204 := ak (Kd.R_lower ho11 (below_size (belowg2 HB GE197 GE198)))
 replace BK197 := ak (blk_below (blkd BK197) hb)
 replace BK198 := ak (blk_below (blkd BK198) hb)
 replace HB := ak (below_step (belowg2 HB GE197 GE198) hb)
 clear hb ho11
 obtain ⟨Ao12, co12, eo12⟩ := Kd.R_slice HO204.out
 (first | subst eo12 | (injection eo12 with f1_ f2_ f3_; have f4_ := f1_.symm; have f5_ := f3_.symm; clear f1_ f2_ f3_; subst f4_; subst f5_))
 refine hK.out _ _ ⟨bq BK197 0, bq BK197 1, bq BK197 2, bq BK198 0, bq BK198 1, bq BK198 2⟩ (fun hHeld => ?_)
 clear hK K
 refine norm_ (a' := ?_) ?_ ?_
 rotate_left
 ·show Act.put _ (some 20) _ = _
  simp only [Act.put, List.setIfInBounds_toArray, List.set_cons_zero, List.set_cons_succ, i64_w, i32_w]
  rfl
 refine oneA 16 (some 21) 18 131071 HT_ (fun K hK => ?_)
 refine goes_ Try.func231 (by kernel_rfl) rfl #[.slice Ao12 y202.length co12] (by rfl) rfl rfl (by (try simp only [List.map_toArray, List.map_cons, List.map_nil]); first | done | rfl | (simp only [List.length_drop, List.length_take]; rfl)) ?_
 with_reducible refine (cmp_Or_int.calls k _ _ y202 t205 _ ?side1 ?side2 A6.out).mono ?_
 (case side1 => exact cd (Kd.R_reads' HO204.out).2.2)
 (case side2 => exact (Kd.R_reads' HO204.out).2.1)
 rintro e w' ⟨rfl, ⟨nd, rfl⟩⟩
 refine ⟨_, rfl, ?_⟩
 refine hK.out _ _ ⟨bq BK197 0, bq BK197 1, bq BK197 2, bq BK198 0, bq BK198 1, bq BK198 2⟩ (fun hHeld => ?_)
 clear hK K
 refine norm_ (a' := ?_) ?_ ?_
 rotate_left
 ·show Act.put _ (some 21) _ = _
  simp only [Act.put, List.setIfInBounds_toArray, List.set_cons_zero, List.set_cons_succ, i64_w, i32_w]
  rfl
 refine pureA 17 (some 4) 18 262143 HT_ ?_
 refine done_ (done_of HT_.out (by kernel_rfl)) ?_
 try go_wp2
 go_ret
 exact ⟨er2, laid_of (belowg2 HB GE197 GE198) (Nat.le_trans HD.out (by first | exact Nat.le_refl _ | (simp only [drn, drn1]; omega)))⟩


/-! ### impl_Claim_203: function 203 -/
def impl_Claim_203.f (l0 : List S85) : Option (List S85) := some (Lib.compactUpTo l0.toArray l0.length)
theorem impl_Claim_203.calls (P0_ : Nat → Prop) (u9000_ : Value) (l0 : List (S85)) (r : List (S85)) (w0 w : World) (hB : Below w0.heap.size w0 w) (ho0 : Kd.R k85 85 w w0.heap.size P0_ u9000_ l0) (h : impl_Claim_203.f l0 = some r) :
  Calls Try.prog 203 #[u9000_] w fun e w' => ∃ v0_ : Value, e = .returned (v0_) ∧ Kd.R k85 85 w' w0.heap.size (fun k_ => (P0_ k_ ∨ w.heap.size ≤ k_)) v0_ r ∧ Below w0.heap.size w0 w' ∧ Kept w w' (fun k_ => P0_ k_) := by
 unfold impl_Claim_203.f at h
 obtain rfl := Option.some.inj h
 exact compact_step impl_compareClaims.flat Try.sizeOf85 Try.isAgg85 (by decide) impl_compareClaims.eqs impl_compareClaims.nes impl_compareClaims.gds _ Try.zeroValue85 rfl (by decide) hB ho0

-- NOT PRINTED: function 987650003 (slices_pdqsortCmpFunc_229_at_202)

/-! ### slices_SortFunc_201_at_202: function 201 -/
def slices_SortFunc_201_at_202.le (x y : S85) : Bool := !(Go.Proofs.ltOf impl_compareClaims.cf) y x
def slices_SortFunc_201_at_202.f (l0 : List S85) : Option (List S85) := if l0.length < 4611686018427387904 then some (l0.mergeSort slices_SortFunc_201_at_202.le) else none
theorem slices_SortFunc_201_at_202.calls (P0_ : Nat → Prop) (u9000_ : Value) (l0 : List (S85)) (r : List (S85)) (w0 w : World) (hB : Below w0.heap.size w0 w) (ho0 : Kd.R k85 85 w w0.heap.size P0_ u9000_ l0) (h : slices_SortFunc_201_at_202.f l0 = some r) :
  Calls Try.prog 201 #[u9000_, .func (.func 202) #[] #[]] w fun e w' => e = .returned (.tuple #[]) ∧ Kd.R k85 85 w' w0.heap.size (fun k_ => (P0_ k_ ∨ w.heap.size ≤ k_)) u9000_ r ∧ Below w0.heap.size w0 w' ∧ Kept w w' (fun k_ => P0_ k_) := by
 unfold slices_SortFunc_201_at_202.f at h
 replace h := ifS h
 obtain ⟨hl, h⟩ := h
 obtain rfl := Option.some.inj h
 exact sort_step impl_compareClaims.flat Try.sizeOf85 Try.isAgg85 impl_compareClaims.cf impl_compareClaims.swo impl_compareClaims.total (fun W x y => impl_compareClaims.laid 5 _ _ _ _ _ _ _ W (impl_compareClaims.tells x y)) hB ho0 hl

/-! ### impl_claimsIn: function 139 -/
def impl_claimsIn.l0 : Nat → List (S85) → List (S91) → Int → Int → Option ((List (S85)))
  | 0, _, _, _, _ => none
  | k + 1, x3, x7, x8, x9 => if x9 < x8 then (if 0 ≤ x9 then (if x9 < (x7.length : Int) then (if x3.length < 5864062014805 then (impl_claimsIn.l0 k (x3 ++ [(⟨(rd_T91 x7 x9).f1.f0, (rd_T91 x7 x9).f1.f1, (rd_T91 x7 x9).f1.f2⟩ : S85)]) x7 x8 (wrap64 (x9 + 1))) else (none)) else (none)) else (none)) else ((slices_SortFunc_201_at_202.f x3).bind fun t214 => ((impl_Claim_203.f t214).bind fun t215 => (some t215)))
def impl_claimsIn.f (k : Nat) (l0 : List (S91)) : Option ((List (S85))) := impl_claimsIn.l0 k (([] : List (S85))) l0 (l0.length : Int) 0
theorem impl_claimsIn.mono_l : ∀ k, (∀ y0 y1 y2 y3, LeO (impl_claimsIn.l0 k y0 y1 y2 y3) (impl_claimsIn.l0 (k + 1) y0 y1 y2 y3))
 | 0 => fun _ _ _ _ r h => by simp [impl_claimsIn.l0] at h
 | k + 1 => by
  have ih0 := impl_claimsIn.mono_l k
  ·intro y0 y1 y2 y3
   unfold impl_claimsIn.l0
   repeat' (first | (with_reducible first | exact ih0 _ _ _ _ | exact LeO.refl _ | exact LeO.none _ | refine LeO.ite ?_ ?_ | refine LeO.bind ?_ (fun _ => ?_)) | exact ih0 _ _ _ _ | exact LeO.none _ | refine LeO.ite ?_ ?_ | refine LeO.bind ?_ (fun _ => ?_))
theorem impl_claimsIn.mono : ∀ a0 k, LeO (impl_claimsIn.f k a0) (impl_claimsIn.f (k + 1) a0) := by
 intro a0 k
 have ih0 := impl_claimsIn.mono_l k
 unfold impl_claimsIn.f
 repeat' (first | (with_reducible first | exact ih0 _ _ _ _ | exact LeO.refl _ | exact LeO.none _ | refine LeO.ite ?_ ?_ | refine LeO.bind ?_ (fun _ => ?_)) | exact ih0 _ _ _ _ | exact LeO.none _ | refine LeO.ite ?_ ?_ | refine LeO.bind ?_ (fun _ => ?_))
set_option maxHeartbeats 8000000 in
set_option maxRecDepth 100000 in
theorem impl_claimsIn.calls (k : Nat) (A0 : Option Addr) (c0 : Nat) (l0 : List (S91)) (r : List (S85)) (w : World) (hr0 : Kd.C k91 w A0 l0.length l0) (hc0 : l0.length ≤ c0) (h : impl_claimsIn.f k l0 = some r) :
  Calls Try.prog 139 #[.slice A0 l0.length c0] w fun e w' => ∃ v0_ : Value, e = .returned (v0_) ∧ Kd.R k85 85 w' w.heap.size (fun _ => True) v0_ r ∧ Below w.heap.size w w' := by
 have hu91 := Try.underlying91
 have hu85 := Try.underlying85
 have HR0 := Aside0.mk hr0; have HC0 := Aside0.mk hc0; clear hr0 hc0
 have HB := Aside0.mk (Below.refl w.heap.size w)
 have H : (impl_claimsIn.l0 k (([] : List (S85))) l0 (l0.length : Int) 0) = some r := h
 clear h
 obtain ⟨y206, hy_⟩ : ∃ y_ : List (S85), y_ = (([] : List (S85))) := ⟨_, rfl⟩
 replace H : (impl_claimsIn.l0 k y206 l0 (l0.length : Int) 0) = some r := yH
 have Ny206 := ak hy_; clear hy_
 have H' := Aside0.mk H
 clear H
 go_enter Try.func139, Try.ntmps139
 go_wp2_with (first | ((with_reducible refine gate_dst (N := 6) rfl ?_); refine Kd.R_lit k85 _ 85 ?hg (N := 6) ?hd (xs := ([] : List (S85))) (inner := []) (ok := fun _ => True) (okp := fun _ => True) ?hr ?hp (fun _ hk => hk) trivial (Below.refl _ _) (Nat.le_refl _) (by simp) ?_; (case hd => rfl); (case hg => rfl); (case hr => first | (go_simp; done) | (go_simp; rfl)); (case hp => exact (Reps.none _ _)); intro v207 w2 ho3 hb hg_ hnew_; clear hg_ hnew_; (first | rw [← Ny206.out] at ho3 | (simp only [Int.reduceToNat] at ho3; rw [← Ny206.out] at ho3)); have HO208 := ak (Kd.R_lower ho3 (below_size (belowd HB))); replace HB := ak (below_step (belowd HB) hb); clear hb ho3))
 go_loopg [3, 9] k (fun kq v3 v9 w' => ∃ (x3_1 : List (S85)) (x9_1 : Int), v9 = .int .i64 x9_1 ∧ Aside0 (impl_claimsIn.l0 kq x3_1 l0 (l0.length : Int) x9_1 = some r) ∧ Aside0 (kq ≤ k) ∧ Aside0 (Kd.R k85 85 w' w.heap.size (fun _ => True) v3 x3_1) ∧ Aside0 (Below w.heap.size w w'))
 case atStart => exact ⟨(y206), (0), er, H', ⟨Nat.le_refl _⟩, ⟨rdl HO208⟩, ⟨belowd HB⟩⟩
 case round =>
  clear H'
  obtain ⟨x3_1, x9_1, rfl, HA, HK1, HO_3, HB⟩ := hrel
  cases gk with
  | zero => exact absurd HA.out (by simp [impl_claimsIn.l0])
  | succ k1 =>
   have H := HA.out; clear HA
   simp only [impl_claimsIn.l0] at H
   by_cases c4 : x9_1 < (l0.length : Int)
   ·rw [if_pos c4] at H
    have c4b0 : decide (x9_1 < (l0.length : Int)) = true := decide_eq_true c4
    clear c4; replace H := ifS H; obtain ⟨c5, H⟩ := H; have c5b0 := decide_eq_true c5; clear c5; replace H := ifS H; obtain ⟨c6, H⟩ := H; have c6b0 := decide_eq_true c6; clear c6; replace H := ifS H; obtain ⟨c7, H⟩ := H; have LMc7 := Aside0.mk c7; clear c7
    obtain ⟨y211, hy_⟩ : ∃ y_ : List (S85), y_ = (x3_1 ++ [(⟨(rd_T91 l0 x9_1).f1.f0, (rd_T91 l0 x9_1).f1.f1, (rd_T91 l0 x9_1).f1.f2⟩ : S85)]) := ⟨_, rfl⟩
    replace H : (impl_claimsIn.l0 k1 y211 l0 (l0.length : Int) (wrap64 (x9_1 + 1))) = some r := yH
    have Ny211 := ak hy_; clear hy_
    have H' := Aside0.mk H
    clear H
    have p209 : 0 ≤ (x9_1 : Int) := da
    have q209 : x9_1 < (l0.length : Int) := da
    obtain ⟨ad209, e209, hx209_0, hx209_1, hx209_2, hx209_3, hx209_4⟩ := at_T91 HR0.out x9_1 p209 q209
    cases e209
    replace hx209_0 := (HB.out.cell (World.block_lt_of_cell? w _ hx209_0)).trans hx209_0
    replace hx209_1 := (HB.out.cell (World.block_lt_of_cell? w _ hx209_1)).trans hx209_1
    replace hx209_2 := (HB.out.cell (World.block_lt_of_cell? w _ hx209_2)).trans hx209_2
    replace hx209_3 := (HB.out.cell (World.block_lt_of_cell? w _ hx209_3)).trans hx209_3
    replace hx209_4 := (HB.out.cell (World.block_lt_of_cell? w _ hx209_4)).trans hx209_4
    replace p209 := eq_true p209; replace q209 := eq_true q209
    go_wp2_with (first | ((with_reducible refine gate_dst (N := 5) rfl ?_); refine boxev 5 #[.int .i64 0, .int .i64 0, .int .i64 0, .int .i64 0, .bool false] 91 ?_; intro gb210 hg w8 hbox hb; replace HO_3 := ak (Kd.R_below (rdl HO_3) hb); have BK210 := ak (hbox); have GW210 := ak (hgl hg (belowd HB)); have GE210 := ak (hgl hg (belowd HB)); replace HB := ak (below_step (belowd HB) hb); clear hb hbox hg; obtain ⟨hcz9_0, hcz9_1, hcz9_2, hcz9_3, hcz9_4, hfz9_0, hfz9_1, hfz9_2, hfz9_3, hfz9_4⟩ := box5 BK210) | ((with_reducible refine gate_builtin (b := .append) (xs := #[.tmp 13, .tmp 16]) rfl ?_); at_builtin; refine Kd.R_append k85 (w0 := w) w.heap.size rfl (.tmp 13) (.tmp 16) 70 85 (.agg #[(.int .i64 0), (.int .i64 0), (.int .i64 0)]) 24 rfl Try.underlying70 info85 rfl (by decide) (by omega) u3 x3_1 (⟨(rd_T91 l0 x9_1).f1.f0, (rd_T91 l0 x9_1).f1.f1, (rd_T91 l0 x9_1).f1.f2⟩ : S85) [.int .i64 ((rd_T91 l0 x9_1).f1.f0), .int .i64 ((rd_T91 l0 x9_1).f1.f1), .int .i64 ((rd_T91 l0 x9_1).f1.f2)] (fun _ => True) (fun _ => False) rfl (by first | (go_simp; done) | (go_simp; rfl)) ?aP (fun _ hk => hk.elim) ?aF ?aO ?aB ?aS ?aL ?_; (case aP => exact k85_mkM _ _ _ (⟨(rd_T91 l0 x9_1).f1.f0, (rd_T91 l0 x9_1).f1.f1, (rd_T91 l0 x9_1).f1.f2⟩ : S85)); (case aB => exact (belowg1 HB GE210)); (case aF => exact (fun _ _ => trivial)); (case aO => exact (by (with_reducible repeat (first | apply Kd.R_alloc | apply Kd.R_drewN | apply Kd.R_drew)); exact Kd.R_mono (farsR (Kd.R_types HO_3.out BK210.out (by decide))) (fun _ hk => trivial))); (case aS => exact (below_size (belowg1 HB GE210))); (case aL => have := LMc7.out; omega); intro v212 w10 ho hb hg hat; rw [← Ny211.out] at ho; replace BK210 := ak (blk_grown (g := gb210) (o := .cells #[.int .i64 ((rd_T91 l0 x9_1).f0), .int .i64 ((rd_T91 l0 x9_1).f1.f0), .int .i64 ((rd_T91 l0 x9_1).f1.f1), .int .i64 ((rd_T91 l0 x9_1).f1.f2), .bool ((rd_T91 l0 x9_1).f2)] 91 (0, 0)) (by (with_reducible repeat (first | refine blk_drewN ?_ _ | refine blk_drew ?_ | refine blk_alloc ?_ _)); refine blk_put (cs := #[.int .i64 ((rd_T91 l0 x9_1).f0), .int .i64 ((rd_T91 l0 x9_1).f1.f0), .int .i64 ((rd_T91 l0 x9_1).f1.f1), .int .i64 ((rd_T91 l0 x9_1).f1.f2), .bool false]) ?_ 4 _ rfl; (with_reducible repeat (first | refine blk_drewN ?_ _ | refine blk_drew ?_ | refine blk_alloc ?_ _)); refine blk_put (cs := #[.int .i64 ((rd_T91 l0 x9_1).f0), .int .i64 ((rd_T91 l0 x9_1).f1.f0), .int .i64 ((rd_T91 l0 x9_1).f1.f1), .int .i64 0, .bool false]) ?_ 3 _ rfl; (with_reducible repeat (first | refine blk_drewN ?_ _ | refine blk_drew ?_ | refine blk_alloc ?_ _)); refine blk_put (cs := #[.int .i64 ((rd_T91 l0 x9_1).f0), .int .i64 ((rd_T91 l0 x9_1).f1.f0), .int .i64 0, .int .i64 0, .bool false]) ?_ 2 _ rfl; (with_reducible repeat (first | refine blk_drewN ?_ _ | refine blk_drew ?_ | refine blk_alloc ?_ _)); refine blk_put (cs := #[.int .i64 ((rd_T91 l0 x9_1).f0), .int .i64 0, .int .i64 0, .int .i64 0, .bool false]) ?_ 1 _ rfl; (with_reducible repeat (first | refine blk_drewN ?_ _ | refine blk_drew ?_ | refine blk_alloc ?_ _)); refine blk_put (cs := #[.int .i64 0, .int .i64 0, .int .i64 0, .int .i64 0, .bool false]) ?_ 0 _ rfl; (with_reducible repeat (first | refine blk_drewN ?_ _ | refine blk_drew ?_ | refine blk_alloc ?_ _)); exact BK210.out) hg (Kd.R_ne HO_3.out BK210.out (by decide))); replace HB := ak (hb); have HO213 := ak (ho); clear HO_3; clear ho hb hg hat))
    go_roundg k1
    case measure => have := HK1.out; omega
    case rel => exact ⟨(y211), (wrap64 (x9_1 + 1)), er, H', ⟨by have := HK1.out; omega⟩, ⟨rdl HO213⟩, ⟨belowg1 HB GE210⟩⟩
   ·rw [if_neg c4] at H
    have c4b0 : decide (x9_1 < (l0.length : Int)) = false := decide_eq_false c4
    clear c4; replace H := bS H; obtain ⟨t214, A11, H⟩ := H
    replace H : ((impl_Claim_203.f t214).bind fun t215 => (some t215)) = some r := H
    replace H := bS H; obtain ⟨t215, A12, H⟩ := H
    replace H : (some t215) = some r := H
    obtain rfl := Option.some.inj H
    obtain ⟨Ao13, co13, eo13⟩ := Kd.R_slice HO_3.out
    subst eo13
    go_wp2_with (first | ((with_reducible refine gate_callee (f := 201) rfl ?_); refine goesLa (some 20) rfl Try.func201 #[.slice Ao13 x3_1.length co13, .func (.func 202) #[] #[]] rfl ?_; (with_reducible refine (slices_SortFunc_201_at_202.calls (fun k_ => some k_ = (.slice Ao13 x3_1.length co13 : Value).ownBlock) (.slice Ao13 x3_1.length co13) x3_1  t214 w _ ?side1 ?side2 A11.out).mono ?_); (case side1 => repeat (first | (with_reducible first | exact HB.out | apply below_alloc | apply pw_below_drewN | apply below_drew1) | exact HB.out)); (case side2 => exact Kd.R_tight rfl HO_3.out); rintro e w14 ⟨rfl, hy0, hb, hkp⟩; refine ⟨_, rfl, ?_⟩; replace HO_3 := ak (Kd.R_reok rfl hy0 (fun k_ e_ => HO_3.out.1 k_ e_)); replace HB := ak (hb); (try clear hb); (try clear hkp); (try clear hy0)) | ((with_reducible refine gate_callee (f := 203) rfl ?_); refine goesLa (some 22) rfl Try.func203 #[.slice Ao13 x3_1.length co13] rfl ?_; (with_reducible refine (impl_Claim_203.calls (fun k_ => some k_ = (.slice Ao13 x3_1.length co13 : Value).ownBlock) (.slice Ao13 x3_1.length co13) t214 t215 w _ ?side1 ?side2 A12.out).mono ?_); (case side1 => repeat (first | (with_reducible first | exact HB.out | apply below_alloc | apply pw_below_drewN | apply below_drew1) | exact HB.out)); (case side2 => exact Kd.R_tight rfl HO_3.out); rintro e w15 ⟨v216, rfl, ho0, hb, hkp⟩; refine ⟨_, rfl, ?_⟩; have HO217 := ak (Kd.R_mono (ok' := fun k_ => True) ho0 (fun k_ hk_ => trivial)); replace HB := ak (hb); clear HO_3; (try clear hb); (try clear hkp); (try clear ho0)))
    go_ret
    exact ⟨_, er2, by (with_reducible repeat (first | apply Kd.R_alloc | apply Kd.R_drewN | apply Kd.R_drew)); exact HO217.out, belowd HB⟩

end Go.Proofs.Ytkgogglnipdcfaa.QFnExactClaimsIn
