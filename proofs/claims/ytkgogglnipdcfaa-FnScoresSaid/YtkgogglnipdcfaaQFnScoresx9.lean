-- printed by this session's own program (wip/tools/pp.py: the kit's print.py with changes); Lean checks it
import Derived.Test.YtkgogglnipdcfaaQFnScoresx0
import Derived.Test.YtkgogglnipdcfaaQFnScoresx3
import Derived.Test.YtkgogglnipdcfaaQFnScoresx5
import Derived.Test.YtkgogglnipdcfaaQFnScoresx6
import Derived.Test.YtkgogglnipdcfaaQFnScoresx8
namespace Go.Proofs.Ytkgogglnipdcfaa.QFnScores
open Go.RowKit Go.Proofs.YtkgogglnipdcfaaW.PrintWords Go.Proofs.YtkgogglnipdcfaaW.PrintLast Go.Proofs.YtkgogglnipdcfaaW.PrintMore
attribute [local go_sem] max2_int min2_int max_two min_two max_three min_three max_four min_four strLss strGtr strLeq strGeq   -- for this text's walks alone
set_option linter.unusedVariables false
set_option linter.unusedSimpArgs false

attribute [local go_sem high] eqA110
/-! ### spec_l1Cur_pick: function 147 -/
def spec_l1Cur_pick.f (s0_0 : List Int) (s0_1 : Int) (s0_2 : Int) (a1 : Int) : Option (Int × Int × Int) := if a1 ≤ 1 then (some (0, s0_1, s0_2)) else ((spec_l1Cur_next.f s0_0 s0_1 s0_2).bind fun bt307 => (if a1 > 200 then ((spec_l1Cur_next.f s0_0 bt307.2.1 bt307.2.2).bind fun bt310 => (if a1 = 0 then (none) else (some (Int.tmod (wrap64 ((wrap64 (bt307.1 * 256)) + bt310.1)) a1, bt310.2.1, bt310.2.2)))) else (if a1 = 0 then (none) else (some (Int.tmod bt307.1 a1, bt307.2.1, bt307.2.2)))))
set_option maxHeartbeats 8000000 in
set_option maxRecDepth 100000 in
theorem spec_l1Cur_pick.calls (g : Nat) (s0_0 : List Int) (s0_1 : Int) (s0_2 : Int) (a1 : Int) (r1 : Int) (r2 : Int) (r3 : Int) (w0 w : World) (hI : IsS151 w0 w g s0_0 s0_1 s0_2) (hB : Below w0.heap.size w0 w) (h : spec_l1Cur_pick.f s0_0 s0_1 s0_2 a1 = some (r1, r2, r3)) :
  Calls Try.prog 147 #[.pointer (some ⟨g, 0, none⟩), .int .i64 a1] w fun e w' => e = .returned (.int .i64 r1) ∧ IsS151 w0 w' g s0_0 r2 r3 ∧ Below w0.heap.size w0 w' ∧ KeepBut w w' g none := by
 have HI0 := Aside0.mk hI
 have HK := Aside0.mk (KeepBut.refl w g none)
 have HL := Aside0.mk hB.size
 clear hI
 have HW0 := Aside0.mk hB.size
 have HB := Aside0.mk hB; clear hB
 have H : (if a1 ≤ 1 then (some (0, s0_1, s0_2)) else ((spec_l1Cur_next.f s0_0 s0_1 s0_2).bind fun bt307 => (if a1 > 200 then ((spec_l1Cur_next.f s0_0 bt307.2.1 bt307.2.2).bind fun bt310 => (if a1 = 0 then (none) else (some (Int.tmod (wrap64 ((wrap64 (bt307.1 * 256)) + bt310.1)) a1, bt310.2.1, bt310.2.2)))) else (if a1 = 0 then (none) else (some (Int.tmod bt307.1 a1, bt307.2.1, bt307.2.2)))))) = some (r1, r2, r3) := h
 clear h
 by_cases c3 : a1 ≤ 1
 ·rw [if_pos c3] at H
  have c3b0 : decide (a1 ≤ 1) = true := decide_eq_true c3
  clear c3
  simp only [Option.some.injEq, Prod.mk.injEq] at H
  obtain ⟨rfl, rfl, rfl⟩ := H
  go_enter Try.func147, Try.ntmps147
  go_wp2
  go_ret
  exact ⟨er2, by repeat (first | (with_reducible first | exact HI0.out | apply IsS151.alloc | apply IsS151.drewN | apply IsS151.drew | apply IsS151.set_1 | apply IsS151.set_2) | exact HI0.out), by repeat (first | (with_reducible first | exact HB.out | apply below_alloc | apply pw_below_drewN | apply below_drew1 | refine below_set ?_ (IsS151.ge HI0.out)) | exact HB.out), by repeat (first | (with_reducible first | exact HK.out | apply KeepBut.set_ | apply keep_drewN | apply keep_drew | apply keep_alloc) | exact HK.out)⟩
 ·rw [if_neg c3] at H
  have c3b0 : decide (a1 ≤ 1) = false := decide_eq_false c3
  clear c3; replace H := bS H; obtain ⟨⟨t307, t308, t309⟩, A4, H⟩ := H
  replace H : (if a1 > 200 then ((spec_l1Cur_next.f s0_0 t308 t309).bind fun bt310 => (if a1 = 0 then (none) else (some (Int.tmod (wrap64 ((wrap64 (t307 * 256)) + bt310.1)) a1, bt310.2.1, bt310.2.2)))) else (if a1 = 0 then (none) else (some (Int.tmod t307 a1, t308, t309)))) = some (r1, r2, r3) := H
  by_cases c5 : a1 > 200
  ·rw [if_pos c5] at H
   have c5b0 : decide (200 < a1) = true := decide_eq_true c5
   clear c5; replace H := bS H; obtain ⟨⟨t310, t311, t312⟩, A6, H⟩ := H
   replace H : (if a1 = 0 then (none) else (some (Int.tmod (wrap64 ((wrap64 (t307 * 256)) + t310)) a1, t311, t312))) = some (r1, r2, r3) := H
   by_cases c7 : a1 = 0
   ·rw [if_pos c7] at H
    exact absurd H (by simp)
   ·rw [if_neg c7] at H
    have c7b0 : (a1 == 0) = false := beq_eq_false_iff_ne.mpr c7
    have c7b1 : (a1 != 0) = true := bne_iff_ne.mpr c7
    simp only [Option.some.injEq, Prod.mk.injEq] at H
    obtain ⟨rfl, rfl, rfl⟩ := H
    go_enter Try.func147, Try.ntmps147
    go_wp2_with (first | ((with_reducible refine gate_callee (f := 206) rfl ?_); refine goesLa (some 9) rfl Try.func206 #[.pointer (some ⟨g, 0, none⟩)] rfl ?_; (with_reducible refine (spec_l1Cur_next.calls g s0_0 s0_1 s0_2 t307 t308 t309 w0 _ ?side1 ?side2 A4.out).mono ?_); (case side1 => repeat (first | (with_reducible first | exact HI0.out | apply IsS151.alloc | apply IsS151.drewN | apply IsS151.drew | apply IsS151.set_1 | apply IsS151.set_2) | exact HI0.out)); (case side2 => repeat (first | (with_reducible first | exact HB.out | apply below_alloc | apply pw_below_drewN | apply below_drew1 | refine below_set ?_ (IsS151.ge HI0.out)) | exact HB.out)); rintro e w8 ⟨rfl, hi, hb, hk⟩; refine ⟨_, rfl, ?_⟩; replace HK := ak (KeepBut.trans (by repeat (first | (with_reducible first | exact HK.out | apply KeepBut.set_ | apply keep_drewN | apply keep_drew | apply keep_alloc) | exact HK.out)) hk (.inl rfl)); replace HB := ak (hb); replace HI0 := ak (hi); (try clear hb); (try clear hk); (try clear hi)) | ((with_reducible refine gate_callee (f := 206) rfl ?_); refine goesLa (some 15) rfl Try.func206 #[.pointer (some ⟨g, 0, none⟩)] rfl ?_; (with_reducible refine (spec_l1Cur_next.calls g s0_0 t308 t309 t310 t311 t312 w0 _ ?side1 ?side2 A6.out).mono ?_); (case side1 => repeat (first | (with_reducible first | exact HI0.out | apply IsS151.alloc | apply IsS151.drewN | apply IsS151.drew | apply IsS151.set_1 | apply IsS151.set_2) | exact HI0.out)); (case side2 => repeat (first | (with_reducible first | exact HB.out | apply below_alloc | apply pw_below_drewN | apply below_drew1 | refine below_set ?_ (IsS151.ge HI0.out)) | exact HB.out)); rintro e w9 ⟨rfl, hi, hb, hk⟩; refine ⟨_, rfl, ?_⟩; replace HK := ak (KeepBut.trans (by repeat (first | (with_reducible first | exact HK.out | apply KeepBut.set_ | apply keep_drewN | apply keep_drew | apply keep_alloc) | exact HK.out)) hk (.inl rfl)); replace HB := ak (hb); replace HI0 := ak (hi); (try clear hb); (try clear hk); (try clear hi)))
    go_ret
    exact ⟨er2, by repeat (first | (with_reducible first | exact HI0.out | apply IsS151.alloc | apply IsS151.drewN | apply IsS151.drew | apply IsS151.set_1 | apply IsS151.set_2) | exact HI0.out), by repeat (first | (with_reducible first | exact HB.out | apply below_alloc | apply pw_below_drewN | apply below_drew1 | refine below_set ?_ (IsS151.ge HI0.out)) | exact HB.out), by repeat (first | (with_reducible first | exact HK.out | apply KeepBut.set_ | apply keep_drewN | apply keep_drew | apply keep_alloc) | exact HK.out)⟩
  ·rw [if_neg c5] at H
   have c5b0 : decide (200 < a1) = false := decide_eq_false c5
   clear c5
   by_cases c10 : a1 = 0
   ·rw [if_pos c10] at H
    exact absurd H (by simp)
   ·rw [if_neg c10] at H
    have c10b0 : (a1 == 0) = false := beq_eq_false_iff_ne.mpr c10
    have c10b1 : (a1 != 0) = true := bne_iff_ne.mpr c10
    simp only [Option.some.injEq, Prod.mk.injEq] at H
    obtain ⟨rfl, rfl, rfl⟩ := H
    go_enter Try.func147, Try.ntmps147
    go_wp2_with (first | ((with_reducible refine gate_callee (f := 206) rfl ?_); refine goesLa (some 9) rfl Try.func206 #[.pointer (some ⟨g, 0, none⟩)] rfl ?_; (with_reducible refine (spec_l1Cur_next.calls g s0_0 s0_1 s0_2 t307 t308 t309 w0 _ ?side1 ?side2 A4.out).mono ?_); (case side1 => repeat (first | (with_reducible first | exact HI0.out | apply IsS151.alloc | apply IsS151.drewN | apply IsS151.drew | apply IsS151.set_1 | apply IsS151.set_2) | exact HI0.out)); (case side2 => repeat (first | (with_reducible first | exact HB.out | apply below_alloc | apply pw_below_drewN | apply below_drew1 | refine below_set ?_ (IsS151.ge HI0.out)) | exact HB.out)); rintro e w11 ⟨rfl, hi, hb, hk⟩; refine ⟨_, rfl, ?_⟩; replace HK := ak (KeepBut.trans (by repeat (first | (with_reducible first | exact HK.out | apply KeepBut.set_ | apply keep_drewN | apply keep_drew | apply keep_alloc) | exact HK.out)) hk (.inl rfl)); replace HB := ak (hb); replace HI0 := ak (hi); (try clear hb); (try clear hk); (try clear hi)))
    go_ret
    exact ⟨er2, by repeat (first | (with_reducible first | exact HI0.out | apply IsS151.alloc | apply IsS151.drewN | apply IsS151.drew | apply IsS151.set_1 | apply IsS151.set_2) | exact HI0.out), by repeat (first | (with_reducible first | exact HB.out | apply below_alloc | apply pw_below_drewN | apply below_drew1 | refine below_set ?_ (IsS151.ge HI0.out)) | exact HB.out), by repeat (first | (with_reducible first | exact HK.out | apply KeepBut.set_ | apply keep_drewN | apply keep_drew | apply keep_alloc) | exact HK.out)⟩

/-! ### spec_l1Cur_one: function 149 -/
def spec_l1Cur_one.f (s0_0 : List Int) (s0_1 : Int) (s0_2 : Int) (a1 : Int) : Option (Bool × Int × Int) := (spec_l1Cur_pick.f s0_0 s0_1 s0_2 a1).bind fun bt313 => (some ((bt313.1 == 0), bt313.2.1, bt313.2.2))
set_option maxHeartbeats 8000000 in
set_option maxRecDepth 100000 in
theorem spec_l1Cur_one.calls (g : Nat) (s0_0 : List Int) (s0_1 : Int) (s0_2 : Int) (a1 : Int) (r1 : Bool) (r2 : Int) (r3 : Int) (w0 w : World) (hI : IsS151 w0 w g s0_0 s0_1 s0_2) (hB : Below w0.heap.size w0 w) (h : spec_l1Cur_one.f s0_0 s0_1 s0_2 a1 = some (r1, r2, r3)) :
  Calls Try.prog 149 #[.pointer (some ⟨g, 0, none⟩), .int .i64 a1] w fun e w' => e = .returned (.bool r1) ∧ IsS151 w0 w' g s0_0 r2 r3 ∧ Below w0.heap.size w0 w' ∧ KeepBut w w' g none := by
 have HI0 := Aside0.mk hI
 have HK := Aside0.mk (KeepBut.refl w g none)
 have HL := Aside0.mk hB.size
 clear hI
 have HW0 := Aside0.mk hB.size
 have HB := Aside0.mk hB; clear hB
 have H : ((spec_l1Cur_pick.f s0_0 s0_1 s0_2 a1).bind fun bt313 => (some ((bt313.1 == 0), bt313.2.1, bt313.2.2))) = some (r1, r2, r3) := h
 clear h; replace H := bS H; obtain ⟨⟨t313, t314, t315⟩, A3, H⟩ := H
 replace H : (some ((t313 == 0), t314, t315)) = some (r1, r2, r3) := H
 simp only [Option.some.injEq, Prod.mk.injEq] at H
 obtain ⟨rfl, rfl, rfl⟩ := H
 go_enter Try.func149, Try.ntmps149
 go_wp2_with (first | ((with_reducible refine gate_callee (f := 147) rfl ?_); refine goesLa (some 7) rfl Try.func147 #[.pointer (some ⟨g, 0, none⟩), .int .i64 a1] rfl ?_; (with_reducible refine (spec_l1Cur_pick.calls g s0_0 s0_1 s0_2 a1 t313 t314 t315 w0 _ ?side1 ?side2 A3.out).mono ?_); (case side1 => repeat (first | (with_reducible first | exact HI0.out | apply IsS151.alloc | apply IsS151.drewN | apply IsS151.drew | apply IsS151.set_1 | apply IsS151.set_2) | exact HI0.out)); (case side2 => repeat (first | (with_reducible first | exact HB.out | apply below_alloc | apply pw_below_drewN | apply below_drew1 | refine below_set ?_ (IsS151.ge HI0.out)) | exact HB.out)); rintro e w4 ⟨rfl, hi, hb, hk⟩; refine ⟨_, rfl, ?_⟩; replace HK := ak (KeepBut.trans (by repeat (first | (with_reducible first | exact HK.out | apply KeepBut.set_ | apply keep_drewN | apply keep_drew | apply keep_alloc) | exact HK.out)) hk (.inl rfl)); replace HB := ak (hb); replace HI0 := ak (hi); (try clear hb); (try clear hk); (try clear hi)))
 go_ret
 exact ⟨er2, by repeat (first | (with_reducible first | exact HI0.out | apply IsS151.alloc | apply IsS151.drewN | apply IsS151.drew | apply IsS151.set_1 | apply IsS151.set_2) | exact HI0.out), by repeat (first | (with_reducible first | exact HB.out | apply below_alloc | apply pw_below_drewN | apply below_drew1 | refine below_set ?_ (IsS151.ge HI0.out)) | exact HB.out), by repeat (first | (with_reducible first | exact HK.out | apply KeepBut.set_ | apply keep_drewN | apply keep_drew | apply keep_alloc) | exact HK.out)⟩

/-! ### spec_l1Cur_among: function 166 -/
def spec_l1Cur_among.f (s0_0 : List Int) (s0_1 : Int) (s0_2 : Int) (l1 : List Int) : Option (Int × Int × Int) := (spec_l1Cur_pick.f s0_0 s0_1 s0_2 (l1.length : Int)).bind fun bt316 => (if 0 ≤ bt316.1 then (if bt316.1 < (l1.length : Int) then (some (rd l1 bt316.1, bt316.2.1, bt316.2.2)) else (none)) else (none))
set_option maxHeartbeats 8000000 in
set_option maxRecDepth 100000 in
theorem spec_l1Cur_among.calls (g : Nat) (s0_0 : List Int) (s0_1 : Int) (s0_2 : Int) (A1 : Option Addr) (c1 : Nat) (l1 : List Int) (r1 : Int) (r2 : Int) (r3 : Int) (w0 w : World) (hI : IsS151 w0 w g s0_0 s0_1 s0_2) (hB : Below w0.heap.size w0 w) (hr1 : Kd.C (Kd.int .i64) w A1 l1.length l1) (hc1 : l1.length ≤ c1) (hf1 : ∀ ad, A1 = some ad → 0 < l1.length → ad.block ≠ g) (h : spec_l1Cur_among.f s0_0 s0_1 s0_2 l1 = some (r1, r2, r3)) :
  Calls Try.prog 166 #[.pointer (some ⟨g, 0, none⟩), .slice A1 l1.length c1] w fun e w' => e = .returned (.int .i64 r1) ∧ IsS151 w0 w' g s0_0 r2 r3 ∧ Below w0.heap.size w0 w' ∧ KeepBut w w' g none := by
 have HR1 := Aside0.mk hr1; have HC1 := Aside0.mk hc1; clear hr1 hc1; have HI0 := Aside0.mk hI
 have HK := Aside0.mk (KeepBut.refl w g none)
 have HL := Aside0.mk hB.size
 clear hI
 have HW0 := Aside0.mk hB.size
 have HB := Aside0.mk hB; clear hB
 have H : ((spec_l1Cur_pick.f s0_0 s0_1 s0_2 (l1.length : Int)).bind fun bt316 => (if 0 ≤ bt316.1 then (if bt316.1 < (l1.length : Int) then (some (rd l1 bt316.1, bt316.2.1, bt316.2.2)) else (none)) else (none))) = some (r1, r2, r3) := h
 clear h; replace H := bS H; obtain ⟨⟨t316, t317, t318⟩, A3, H⟩ := H
 replace H : (if 0 ≤ t316 then (if t316 < (l1.length : Int) then (some (rd l1 t316, t317, t318)) else (none)) else (none)) = some (r1, r2, r3) := H
 replace H := ifS H; obtain ⟨c4, H⟩ := H; have c4b0 := decide_eq_true c4; clear c4; replace H := ifS H; obtain ⟨c5, H⟩ := H; have c5b0 := decide_eq_true c5; clear c5
 simp only [Option.some.injEq, Prod.mk.injEq] at H
 obtain ⟨rfl, rfl, rfl⟩ := H
 go_enter Try.func166, Try.ntmps166
 go_wp2_with (first | ((with_reducible refine gate_callee (f := 147) rfl ?_); refine goesLa (some 9) rfl Try.func147 #[.pointer (some ⟨g, 0, none⟩), .int .i64 (l1.length : Int)] rfl ?_; (with_reducible refine (spec_l1Cur_pick.calls g s0_0 s0_1 s0_2 (l1.length : Int) t316 t317 t318 w0 _ ?side1 ?side2 A3.out).mono ?_); (case side1 => repeat (first | (with_reducible first | exact HI0.out | apply IsS151.alloc | apply IsS151.drewN | apply IsS151.drew | apply IsS151.set_1 | apply IsS151.set_2) | exact HI0.out)); (case side2 => repeat (first | (with_reducible first | exact HB.out | apply below_alloc | apply pw_below_drewN | apply below_drew1 | refine below_set ?_ (IsS151.ge HI0.out)) | exact HB.out)); rintro e w6 ⟨rfl, hi, hb, hk⟩; refine ⟨_, rfl, ?_⟩; replace HK := ak (KeepBut.trans (by repeat (first | (with_reducible first | exact HK.out | apply KeepBut.set_ | apply keep_drewN | apply keep_drew | apply keep_alloc) | exact HK.out)) hk (.inl rfl)); replace HB := ak (hb); replace HI0 := ak (hi); (try clear hb); (try clear hk); (try clear hi); have p319 : 0 ≤ (t316 : Int) := da; have q319 : t316 < (l1.length : Int) := da; obtain ⟨ad319, e319, hx319_0⟩ := Kd.at_int HR1.out t316 p319 q319; cases e319; replace hx319_0 := keep_cell HK.out hx319_0 (by first | (rw [add_block]; exact hf1 _ rfl (by omega)) | exact hf1 _ rfl (by omega) | exact hf1 ad319 rfl (by omega)); replace p319 := eq_true p319; replace q319 := eq_true q319))
 go_ret
 exact ⟨er2, by repeat (first | (with_reducible first | exact HI0.out | apply IsS151.alloc | apply IsS151.drewN | apply IsS151.drew | apply IsS151.set_1 | apply IsS151.set_2) | exact HI0.out), by repeat (first | (with_reducible first | exact HB.out | apply below_alloc | apply pw_below_drewN | apply below_drew1 | refine below_set ?_ (IsS151.ge HI0.out)) | exact HB.out), by repeat (first | (with_reducible first | exact HK.out | apply KeepBut.set_ | apply keep_drewN | apply keep_drew | apply keep_alloc) | exact HK.out)⟩

/-! ### spec_l1Cur_claim: function 148 -/
def spec_l1Cur_claim.f (s0_0 : List Int) (s0_1 : Int) (s0_2 : Int) : Option (Int × Int × Int × Int × Int) := (spec_l1Cur_one.f s0_0 s0_1 s0_2 30).bind fun bt321 => (if bt321.1 = true then ((spec_l1Cur_among.f s0_0 bt321.2.1 bt321.2.2 (([(-1), 20, 21] : List Int))).bind fun bt327 => ((spec_l1Cur_among.f s0_0 bt327.2.1 bt327.2.2 (([0, 1000, 1001] : List Int))).bind fun bt333 => ((spec_l1Cur_among.f s0_0 bt333.2.1 bt333.2.2 (([0, 100, 101] : List Int))).bind fun bt339 => (some (bt327.1, bt333.1, bt339.1, bt339.2.1, bt339.2.2))))) else ((spec_l1Cur_pick.f s0_0 bt321.2.1 bt321.2.2 3).bind fun bt342 => ((spec_l1Cur_pick.f s0_0 bt342.2.1 bt342.2.2 3).bind fun bt345 => ((spec_l1Cur_pick.f s0_0 bt345.2.1 bt345.2.2 2).bind fun bt348 => (some (bt342.1, bt345.1, bt348.1, bt348.2.1, bt348.2.2))))))
set_option maxHeartbeats 8000000 in
set_option maxRecDepth 100000 in
theorem spec_l1Cur_claim.calls (g : Nat) (s0_0 : List Int) (s0_1 : Int) (s0_2 : Int) (r1 : Int) (r2 : Int) (r3 : Int) (r4 : Int) (r5 : Int) (w0 w : World) (hI : IsS151 w0 w g s0_0 s0_1 s0_2) (hB : Below w0.heap.size w0 w) (h : spec_l1Cur_claim.f s0_0 s0_1 s0_2 = some (r1, r2, r3, r4, r5)) :
  Calls Try.prog 148 #[.pointer (some ⟨g, 0, none⟩)] w fun e w' => e = .returned (.agg #[.int .i64 r1, .int .i64 r2, .int .i64 r3]) ∧ IsS151 w0 w' g s0_0 r4 r5 ∧ Below w0.heap.size w0 w' ∧ KeepBut w w' g none := by
 have hu85 := Try.underlying85
 have HI0 := Aside0.mk hI
 have HK := Aside0.mk (KeepBut.refl w g none)
 have HL := Aside0.mk hB.size
 clear hI
 have HW0 := Aside0.mk hB.size
 have HB := Aside0.mk hB; clear hB
 have H : ((spec_l1Cur_one.f s0_0 s0_1 s0_2 30).bind fun bt321 => (if bt321.1 = true then ((spec_l1Cur_among.f s0_0 bt321.2.1 bt321.2.2 (([(-1), 20, 21] : List Int))).bind fun bt327 => ((spec_l1Cur_among.f s0_0 bt327.2.1 bt327.2.2 (([0, 1000, 1001] : List Int))).bind fun bt333 => ((spec_l1Cur_among.f s0_0 bt333.2.1 bt333.2.2 (([0, 100, 101] : List Int))).bind fun bt339 => (some (bt327.1, bt333.1, bt339.1, bt339.2.1, bt339.2.2))))) else ((spec_l1Cur_pick.f s0_0 bt321.2.1 bt321.2.2 3).bind fun bt342 => ((spec_l1Cur_pick.f s0_0 bt342.2.1 bt342.2.2 3).bind fun bt345 => ((spec_l1Cur_pick.f s0_0 bt345.2.1 bt345.2.2 2).bind fun bt348 => (some (bt342.1, bt345.1, bt348.1, bt348.2.1, bt348.2.2))))))) = some (r1, r2, r3, r4, r5) := h
 clear h; replace H := bS H; obtain ⟨⟨t321, t322, t323⟩, A2, H⟩ := H
 replace H : (if t321 = true then ((spec_l1Cur_among.f s0_0 t322 t323 (([(-1), 20, 21] : List Int))).bind fun bt327 => ((spec_l1Cur_among.f s0_0 bt327.2.1 bt327.2.2 (([0, 1000, 1001] : List Int))).bind fun bt333 => ((spec_l1Cur_among.f s0_0 bt333.2.1 bt333.2.2 (([0, 100, 101] : List Int))).bind fun bt339 => (some (bt327.1, bt333.1, bt339.1, bt339.2.1, bt339.2.2))))) else ((spec_l1Cur_pick.f s0_0 t322 t323 3).bind fun bt342 => ((spec_l1Cur_pick.f s0_0 bt342.2.1 bt342.2.2 3).bind fun bt345 => ((spec_l1Cur_pick.f s0_0 bt345.2.1 bt345.2.2 2).bind fun bt348 => (some (bt342.1, bt345.1, bt348.1, bt348.2.1, bt348.2.2)))))) = some (r1, r2, r3, r4, r5) := H
 by_cases c3 : t321 = true
 ·subst c3
  have H1 : ((spec_l1Cur_among.f s0_0 t322 t323 (([(-1), 20, 21] : List Int))).bind fun bt327 => ((spec_l1Cur_among.f s0_0 bt327.2.1 bt327.2.2 (([0, 1000, 1001] : List Int))).bind fun bt333 => ((spec_l1Cur_among.f s0_0 bt333.2.1 bt333.2.2 (([0, 100, 101] : List Int))).bind fun bt339 => (some (bt327.1, bt333.1, bt339.1, bt339.2.1, bt339.2.2))))) = some (r1, r2, r3, r4, r5) := by rw [if_pos rfl] at H; exact H
  clear H
  have H := H1
  clear H1
  obtain ⟨y324, hy_⟩ : ∃ y_ : List Int, y_ = (([(-1), 20, 21] : List Int)) := ⟨_, rfl⟩
  replace H : ((spec_l1Cur_among.f s0_0 t322 t323 y324).bind fun bt327 => ((spec_l1Cur_among.f s0_0 bt327.2.1 bt327.2.2 (([0, 1000, 1001] : List Int))).bind fun bt333 => ((spec_l1Cur_among.f s0_0 bt333.2.1 bt333.2.2 (([0, 100, 101] : List Int))).bind fun bt339 => (some (bt327.1, bt333.1, bt339.1, bt339.2.1, bt339.2.2))))) = some (r1, r2, r3, r4, r5) := yH
  have Ny324 := ak hy_; clear hy_; replace H := bS H; obtain ⟨⟨t327, t328, t329⟩, A4, H⟩ := H
  replace H : ((spec_l1Cur_among.f s0_0 t328 t329 (([0, 1000, 1001] : List Int))).bind fun bt333 => ((spec_l1Cur_among.f s0_0 bt333.2.1 bt333.2.2 (([0, 100, 101] : List Int))).bind fun bt339 => (some (t327, bt333.1, bt339.1, bt339.2.1, bt339.2.2)))) = some (r1, r2, r3, r4, r5) := H
  obtain ⟨y330, hy_⟩ : ∃ y_ : List Int, y_ = (([0, 1000, 1001] : List Int)) := ⟨_, rfl⟩
  replace H : ((spec_l1Cur_among.f s0_0 t328 t329 y330).bind fun bt333 => ((spec_l1Cur_among.f s0_0 bt333.2.1 bt333.2.2 (([0, 100, 101] : List Int))).bind fun bt339 => (some (t327, bt333.1, bt339.1, bt339.2.1, bt339.2.2)))) = some (r1, r2, r3, r4, r5) := yH
  have Ny330 := ak hy_; clear hy_; replace H := bS H; obtain ⟨⟨t333, t334, t335⟩, A5, H⟩ := H
  replace H : ((spec_l1Cur_among.f s0_0 t334 t335 (([0, 100, 101] : List Int))).bind fun bt339 => (some (t327, t333, bt339.1, bt339.2.1, bt339.2.2))) = some (r1, r2, r3, r4, r5) := H
  obtain ⟨y336, hy_⟩ : ∃ y_ : List Int, y_ = (([0, 100, 101] : List Int)) := ⟨_, rfl⟩
  replace H : ((spec_l1Cur_among.f s0_0 t334 t335 y336).bind fun bt339 => (some (t327, t333, bt339.1, bt339.2.1, bt339.2.2))) = some (r1, r2, r3, r4, r5) := yH
  have Ny336 := ak hy_; clear hy_; replace H := bS H; obtain ⟨⟨t339, t340, t341⟩, A6, H⟩ := H
  replace H : (some (t327, t333, t339, t340, t341)) = some (r1, r2, r3, r4, r5) := H
  simp only [Option.some.injEq, Prod.mk.injEq] at H
  obtain ⟨rfl, rfl, rfl, rfl, rfl⟩ := H
  go_enter Try.func148, Try.ntmps148
  go_wp2_with (first | ((with_reducible refine gate_dst (N := 2) rfl ?_); refine boxev 2 #[.int .i64 0, .int .i64 0, .int .i64 0] 85 ?_; intro gb320 hg w7 hbox hb; replace HB := ak (below_step (by repeat (first | (with_reducible first | exact HB.out | apply below_alloc | apply pw_below_drewN | apply below_drew1 | refine below_set ?_ (IsS151.ge HI0.out)) | exact HB.out)) hb); have BK320 := ak (hbox); have GW320 := ak ((by rw [hg]; exact (keep_size (w := w) (g := g) (row := none) (by repeat (first | (with_reducible first | exact HK.out | apply KeepBut.set_ | apply keep_drewN | apply keep_drew | apply keep_alloc) | exact HK.out))) : w.heap.size ≤ gb320)); have GE320 := ak ((Nat.le_trans HW0.out (by rw [hg]; exact (keep_size (w := w) (g := g) (row := none) (by repeat (first | (with_reducible first | exact HK.out | apply KeepBut.set_ | apply keep_drewN | apply keep_drew | apply keep_alloc) | exact HK.out))) : w.heap.size ≤ gb320) : w0.heap.size ≤ gb320)); replace HK := ak (KeepBut.trans (by repeat (first | (with_reducible first | exact HK.out | apply KeepBut.set_ | apply keep_drewN | apply keep_drew | apply keep_alloc) | exact HK.out)) (KeepBut.of_below hb g none) (.inl rfl)); have NB0_320 := ak ((by rw [hg]; exact Nat.ne_of_lt (IsS151.lt (show IsS151 w0 _ g s0_0 s0_1 s0_2 from by repeat (first | (with_reducible first | exact HI0.out | apply IsS151.alloc | apply IsS151.drewN | apply IsS151.drew | apply IsS151.set_1 | apply IsS151.set_2) | exact HI0.out))) : g ≠ gb320)); have NB320_0 := ak ((by rw [hg]; exact Nat.ne_of_gt (IsS151.lt (show IsS151 w0 _ g s0_0 s0_1 s0_2 from by repeat (first | (with_reducible first | exact HI0.out | apply IsS151.alloc | apply IsS151.drewN | apply IsS151.drew | apply IsS151.set_1 | apply IsS151.set_2) | exact HI0.out))) : gb320 ≠ g)); replace HI0 := ak (IsS151.below (by repeat (first | (with_reducible first | exact HI0.out | apply IsS151.alloc | apply IsS151.drewN | apply IsS151.drew | apply IsS151.set_1 | apply IsS151.set_2) | exact HI0.out)) hb); clear hb hbox hg) | ((with_reducible refine gate_callee (f := 149) rfl ?_); refine goesLa (some 4) rfl Try.func149 #[.pointer (some ⟨g, 0, none⟩), .int .i64 30] rfl ?_; (with_reducible refine (spec_l1Cur_one.calls g s0_0 s0_1 s0_2 30 true t322 t323 w0 _ ?side1 ?side2 A2.out).mono ?_); (case side1 => repeat (first | (with_reducible first | exact HI0.out | apply IsS151.alloc | apply IsS151.drewN | apply IsS151.drew | apply IsS151.set_1 | apply IsS151.set_2 | refine IsS151.far ?_ NB0_320.out _) | exact HI0.out)); (case side2 => repeat (first | (with_reducible first | exact HB.out | apply below_alloc | apply pw_below_drewN | apply below_drew1 | refine below_set ?_ (IsS151.ge HI0.out) | refine below_set ?_ GE320.out) | exact HB.out)); rintro e w8 ⟨rfl, hi, hb, hk⟩; refine ⟨_, rfl, ?_⟩; replace BK320 := ak (KeepBut.blk hk (g' := gb320) (blkd BK320) NB320_0.out (by simp)); replace HK := ak (KeepBut.trans (by repeat (first | (with_reducible first | exact HK.out | apply KeepBut.set_ | apply keep_drewN | apply keep_drew | apply keep_alloc | refine keep_far ?_ GW320.out _) | exact HK.out)) hk (.inl rfl)); replace HB := ak (hb); replace HI0 := ak (hi); (try clear hb); (try clear hk); (try clear hi)) | ((with_reducible refine gate_dst (N := 6) rfl ?_); refine Kd.R_lit (Kd.int .i64) _ 3 ?hg (N := 6) ?hd (xs := ([(-1), 20, 21] : List Int)) (inner := [.int .i64 (-1), .int .i64 20, .int .i64 21]) (ok := fun _ => True) (okp := fun _ => True) ?hr ?hp (fun _ hk => hk) trivial (Below.refl _ _) (Nat.le_refl _) (by simp) ?_; (case hd => rfl); (case hg => rfl); (case hr => first | (go_simp; done) | (go_simp; rfl)); (case hp => exact (Reps.one (show Kd.M (Kd.int .i64) _ _ _ (-1) [.int .i64 (-1)] from rfl) (Reps.one (show Kd.M (Kd.int .i64) _ _ _ 20 [.int .i64 20] from rfl) (Reps.one (show Kd.M (Kd.int .i64) _ _ _ 21 [.int .i64 21] from rfl) (Reps.none _ _))))); intro v325 w9 ho10 hb hg_ hnew_; clear hg_ hnew_; (first | rw [← Ny324.out] at ho10 | (simp only [Int.reduceToNat] at ho10; rw [← Ny324.out] at ho10)); have HO326 := ak (Kd.R_lower ho10 (keep_size (w := w) (g := g) (row := none) (by repeat (first | (with_reducible first | exact HK.out | apply KeepBut.set_ | apply keep_drewN | apply keep_drew | apply keep_alloc | refine keep_far ?_ GW320.out _) | exact HK.out)))); replace BK320 := ak (blk_below (blkd BK320) hb); replace HK := ak (KeepBut.trans (by repeat (first | (with_reducible first | exact HK.out | apply KeepBut.set_ | apply keep_drewN | apply keep_drew | apply keep_alloc | refine keep_far ?_ GW320.out _) | exact HK.out)) (KeepBut.of_below hb g none) (.inl rfl)); replace HB := ak (below_step (by repeat (first | (with_reducible first | exact HB.out | apply below_alloc | apply pw_below_drewN | apply below_drew1 | refine below_set ?_ (IsS151.ge HI0.out) | refine below_set ?_ GE320.out) | exact HB.out)) hb); replace HI0 := ak (IsS151.below (by repeat (first | (with_reducible first | exact HI0.out | apply IsS151.alloc | apply IsS151.drewN | apply IsS151.drew | apply IsS151.set_1 | apply IsS151.set_2 | refine IsS151.far ?_ NB0_320.out _) | exact HI0.out)) hb); clear hb ho10; obtain ⟨Ao11, co11, eo11⟩ := Kd.R_slice HO326.out; subst eo11) | ((with_reducible refine gate_callee (f := 166) rfl ?_); refine goesLa (some 7) rfl Try.func166 #[.pointer (some ⟨g, 0, none⟩), .slice Ao11 y324.length co11] rfl ?_; (with_reducible refine (spec_l1Cur_among.calls g s0_0 t322 t323 _ _ y324 t327 t328 t329 w0 _ ?side1 ?side2 ?side3 ?side4 ?side5 A4.out).mono ?_); (case side1 => repeat (first | (with_reducible first | exact HI0.out | apply IsS151.alloc | apply IsS151.drewN | apply IsS151.drew | apply IsS151.set_1 | apply IsS151.set_2 | refine IsS151.far ?_ NB0_320.out _) | exact HI0.out)); (case side2 => repeat (first | (with_reducible first | exact HB.out | apply below_alloc | apply pw_below_drewN | apply below_drew1 | refine below_set ?_ (IsS151.ge HI0.out) | refine below_set ?_ GE320.out) | exact HB.out)); (case side3 => exact cd (Kd.R_reads' HO326.out).2.2); (case side4 => exact (Kd.R_reads' HO326.out).2.1); (case side5 => exact far_slice (IsS151.own_ne HI0.out HO326.out (by decide))); rintro e w12 ⟨rfl, hi, hb, hk⟩; refine ⟨_, rfl, ?_⟩; replace BK320 := ak (KeepBut.blk hk (g' := gb320) (blkd BK320) NB320_0.out (by simp)); replace HO326 := ak (Kd.R_mono (Kd.R_keep (IsS151.apart (show IsS151 w0 _ g s0_0 t322 t323 from by repeat (first | (with_reducible first | exact HI0.out | apply IsS151.alloc | apply IsS151.drewN | apply IsS151.drew | apply IsS151.set_1 | apply IsS151.set_2 | refine IsS151.far ?_ NB0_320.out _) | exact HI0.out)) (rdl HO326) (by decide)) hk (fun _ h => h.2)) (fun _ h => h.1)); replace HK := ak (KeepBut.trans (by repeat (first | (with_reducible first | exact HK.out | apply KeepBut.set_ | apply keep_drewN | apply keep_drew | apply keep_alloc | refine keep_far ?_ GW320.out _) | exact HK.out)) hk (.inl rfl)); replace HB := ak (hb); replace HI0 := ak (hi); (try clear hb); (try clear hk); (try clear hi)) | ((with_reducible refine gate_dst (N := 9) rfl ?_); refine Kd.R_lit (Kd.int .i64) _ 3 ?hg (N := 9) ?hd (xs := ([0, 1000, 1001] : List Int)) (inner := [.int .i64 0, .int .i64 1000, .int .i64 1001]) (ok := fun _ => True) (okp := fun _ => True) ?hr ?hp (fun _ hk => hk) trivial (Below.refl _ _) (Nat.le_refl _) (by simp) ?_; (case hd => rfl); (case hg => rfl); (case hr => first | (go_simp; done) | (go_simp; rfl)); (case hp => exact (Reps.one (show Kd.M (Kd.int .i64) _ _ _ 0 [.int .i64 0] from rfl) (Reps.one (show Kd.M (Kd.int .i64) _ _ _ 1000 [.int .i64 1000] from rfl) (Reps.one (show Kd.M (Kd.int .i64) _ _ _ 1001 [.int .i64 1001] from rfl) (Reps.none _ _))))); intro v331 w13 ho14 hb hg_ hnew_; clear hg_ hnew_; (first | rw [← Ny330.out] at ho14 | (simp only [Int.reduceToNat] at ho14; rw [← Ny330.out] at ho14)); have HO332 := ak (Kd.R_lower (Kd.R_new' ho14 (Kd.R_lt (rdl HO326))) (keep_size (w := w) (g := g) (row := none) (by repeat (first | (with_reducible first | exact HK.out | apply KeepBut.set_ | apply keep_drewN | apply keep_drew | apply keep_alloc | refine keep_far ?_ GW320.out _) | exact HK.out)))); replace HO326 := ak (Kd.R_elder' (rdl HO326) (Kd.R_base ho14) hb); replace BK320 := ak (blk_below (blkd BK320) hb); replace HK := ak (KeepBut.trans (by repeat (first | (with_reducible first | exact HK.out | apply KeepBut.set_ | apply keep_drewN | apply keep_drew | apply keep_alloc | refine keep_far ?_ GW320.out _) | exact HK.out)) (KeepBut.of_below hb g none) (.inl rfl)); replace HB := ak (below_step (by repeat (first | (with_reducible first | exact HB.out | apply below_alloc | apply pw_below_drewN | apply below_drew1 | refine below_set ?_ (IsS151.ge HI0.out) | refine below_set ?_ GE320.out) | exact HB.out)) hb); replace HI0 := ak (IsS151.below (by repeat (first | (with_reducible first | exact HI0.out | apply IsS151.alloc | apply IsS151.drewN | apply IsS151.drew | apply IsS151.set_1 | apply IsS151.set_2 | refine IsS151.far ?_ NB0_320.out _) | exact HI0.out)) hb); clear hb ho14; obtain ⟨Ao15, co15, eo15⟩ := Kd.R_slice HO332.out; subst eo15) | ((with_reducible refine gate_callee (f := 166) rfl ?_); refine goesLa (some 10) rfl Try.func166 #[.pointer (some ⟨g, 0, none⟩), .slice Ao15 y330.length co15] rfl ?_; (with_reducible refine (spec_l1Cur_among.calls g s0_0 t328 t329 _ _ y330 t333 t334 t335 w0 _ ?side1 ?side2 ?side3 ?side4 ?side5 A5.out).mono ?_); (case side1 => repeat (first | (with_reducible first | exact HI0.out | apply IsS151.alloc | apply IsS151.drewN | apply IsS151.drew | apply IsS151.set_1 | apply IsS151.set_2 | refine IsS151.far ?_ NB0_320.out _) | exact HI0.out)); (case side2 => repeat (first | (with_reducible first | exact HB.out | apply below_alloc | apply pw_below_drewN | apply below_drew1 | refine below_set ?_ (IsS151.ge HI0.out) | refine below_set ?_ GE320.out) | exact HB.out)); (case side3 => exact cd (Kd.R_reads' HO332.out).2.2); (case side4 => exact (Kd.R_reads' HO332.out).2.1); (case side5 => exact far_slice (IsS151.own_ne HI0.out HO332.out (by decide))); rintro e w16 ⟨rfl, hi, hb, hk⟩; refine ⟨_, rfl, ?_⟩; replace BK320 := ak (KeepBut.blk hk (g' := gb320) (blkd BK320) NB320_0.out (by simp)); replace HO326 := ak (Kd.R_mono (Kd.R_keep (IsS151.apart (show IsS151 w0 _ g s0_0 t328 t329 from by repeat (first | (with_reducible first | exact HI0.out | apply IsS151.alloc | apply IsS151.drewN | apply IsS151.drew | apply IsS151.set_1 | apply IsS151.set_2 | refine IsS151.far ?_ NB0_320.out _) | exact HI0.out)) (rdl HO326) (by decide)) hk (fun _ h => h.2)) (fun _ h => h.1)); replace HO332 := ak (Kd.R_mono (Kd.R_keep (IsS151.apart (show IsS151 w0 _ g s0_0 t328 t329 from by repeat (first | (with_reducible first | exact HI0.out | apply IsS151.alloc | apply IsS151.drewN | apply IsS151.drew | apply IsS151.set_1 | apply IsS151.set_2 | refine IsS151.far ?_ NB0_320.out _) | exact HI0.out)) (rdl HO332) (by decide)) hk (fun _ h => h.2)) (fun _ h => h.1)); replace HK := ak (KeepBut.trans (by repeat (first | (with_reducible first | exact HK.out | apply KeepBut.set_ | apply keep_drewN | apply keep_drew | apply keep_alloc | refine keep_far ?_ GW320.out _) | exact HK.out)) hk (.inl rfl)); replace HB := ak (hb); replace HI0 := ak (hi); (try clear hb); (try clear hk); (try clear hi)) | ((with_reducible refine gate_dst (N := 12) rfl ?_); refine Kd.R_lit (Kd.int .i64) _ 3 ?hg (N := 12) ?hd (xs := ([0, 100, 101] : List Int)) (inner := [.int .i64 0, .int .i64 100, .int .i64 101]) (ok := fun _ => True) (okp := fun _ => True) ?hr ?hp (fun _ hk => hk) trivial (Below.refl _ _) (Nat.le_refl _) (by simp) ?_; (case hd => rfl); (case hg => rfl); (case hr => first | (go_simp; done) | (go_simp; rfl)); (case hp => exact (Reps.one (show Kd.M (Kd.int .i64) _ _ _ 0 [.int .i64 0] from rfl) (Reps.one (show Kd.M (Kd.int .i64) _ _ _ 100 [.int .i64 100] from rfl) (Reps.one (show Kd.M (Kd.int .i64) _ _ _ 101 [.int .i64 101] from rfl) (Reps.none _ _))))); intro v337 w17 ho18 hb hg_ hnew_; clear hg_ hnew_; (first | rw [← Ny336.out] at ho18 | (simp only [Int.reduceToNat] at ho18; rw [← Ny336.out] at ho18)); have HO338 := ak (Kd.R_lower (Kd.R_new' (Kd.R_new' ho18 (Kd.R_lt (rdl HO326))) (Kd.R_lt (rdl HO332))) (keep_size (w := w) (g := g) (row := none) (by repeat (first | (with_reducible first | exact HK.out | apply KeepBut.set_ | apply keep_drewN | apply keep_drew | apply keep_alloc | refine keep_far ?_ GW320.out _) | exact HK.out)))); replace HO326 := ak (Kd.R_elder' (rdl HO326) (Kd.R_base ho18) hb); replace HO332 := ak (Kd.R_elder' (rdl HO332) (Kd.R_base ho18) hb); replace BK320 := ak (blk_below (blkd BK320) hb); replace HK := ak (KeepBut.trans (by repeat (first | (with_reducible first | exact HK.out | apply KeepBut.set_ | apply keep_drewN | apply keep_drew | apply keep_alloc | refine keep_far ?_ GW320.out _) | exact HK.out)) (KeepBut.of_below hb g none) (.inl rfl)); replace HB := ak (below_step (by repeat (first | (with_reducible first | exact HB.out | apply below_alloc | apply pw_below_drewN | apply below_drew1 | refine below_set ?_ (IsS151.ge HI0.out) | refine below_set ?_ GE320.out) | exact HB.out)) hb); replace HI0 := ak (IsS151.below (by repeat (first | (with_reducible first | exact HI0.out | apply IsS151.alloc | apply IsS151.drewN | apply IsS151.drew | apply IsS151.set_1 | apply IsS151.set_2 | refine IsS151.far ?_ NB0_320.out _) | exact HI0.out)) hb); clear hb ho18; obtain ⟨Ao19, co19, eo19⟩ := Kd.R_slice HO338.out; subst eo19) | ((with_reducible refine gate_callee (f := 166) rfl ?_); refine goesLa (some 13) rfl Try.func166 #[.pointer (some ⟨g, 0, none⟩), .slice Ao19 y336.length co19] rfl ?_; (with_reducible refine (spec_l1Cur_among.calls g s0_0 t334 t335 _ _ y336 t339 t340 t341 w0 _ ?side1 ?side2 ?side3 ?side4 ?side5 A6.out).mono ?_); (case side1 => repeat (first | (with_reducible first | exact HI0.out | apply IsS151.alloc | apply IsS151.drewN | apply IsS151.drew | apply IsS151.set_1 | apply IsS151.set_2 | refine IsS151.far ?_ NB0_320.out _) | exact HI0.out)); (case side2 => repeat (first | (with_reducible first | exact HB.out | apply below_alloc | apply pw_below_drewN | apply below_drew1 | refine below_set ?_ (IsS151.ge HI0.out) | refine below_set ?_ GE320.out) | exact HB.out)); (case side3 => exact cd (Kd.R_reads' HO338.out).2.2); (case side4 => exact (Kd.R_reads' HO338.out).2.1); (case side5 => exact far_slice (IsS151.own_ne HI0.out HO338.out (by decide))); rintro e w20 ⟨rfl, hi, hb, hk⟩; refine ⟨_, rfl, ?_⟩; replace BK320 := ak (KeepBut.blk hk (g' := gb320) (blkd BK320) NB320_0.out (by simp)); replace HO326 := ak (Kd.R_mono (Kd.R_keep (IsS151.apart (show IsS151 w0 _ g s0_0 t334 t335 from by repeat (first | (with_reducible first | exact HI0.out | apply IsS151.alloc | apply IsS151.drewN | apply IsS151.drew | apply IsS151.set_1 | apply IsS151.set_2 | refine IsS151.far ?_ NB0_320.out _) | exact HI0.out)) (rdl HO326) (by decide)) hk (fun _ h => h.2)) (fun _ h => h.1)); replace HO332 := ak (Kd.R_mono (Kd.R_keep (IsS151.apart (show IsS151 w0 _ g s0_0 t334 t335 from by repeat (first | (with_reducible first | exact HI0.out | apply IsS151.alloc | apply IsS151.drewN | apply IsS151.drew | apply IsS151.set_1 | apply IsS151.set_2 | refine IsS151.far ?_ NB0_320.out _) | exact HI0.out)) (rdl HO332) (by decide)) hk (fun _ h => h.2)) (fun _ h => h.1)); replace HO338 := ak (Kd.R_mono (Kd.R_keep (IsS151.apart (show IsS151 w0 _ g s0_0 t334 t335 from by repeat (first | (with_reducible first | exact HI0.out | apply IsS151.alloc | apply IsS151.drewN | apply IsS151.drew | apply IsS151.set_1 | apply IsS151.set_2 | refine IsS151.far ?_ NB0_320.out _) | exact HI0.out)) (rdl HO338) (by decide)) hk (fun _ h => h.2)) (fun _ h => h.1)); replace HK := ak (KeepBut.trans (by repeat (first | (with_reducible first | exact HK.out | apply KeepBut.set_ | apply keep_drewN | apply keep_drew | apply keep_alloc | refine keep_far ?_ GW320.out _) | exact HK.out)) hk (.inl rfl)); replace HB := ak (hb); replace HI0 := ak (hi); (try clear hb); (try clear hk); (try clear hi); have hnb21 := NB320_0.out; have hnc21 := NB0_320.out; obtain ⟨hcz22_0, hcz22_1, hcz22_2, hfz22_0, hfz22_1, hfz22_2⟩ := box3 BK320))
  refine bodyPost_ret (results_cell_row rfl _ _ gb320 85 #[.int .i64 t327, .int .i64 t333, .int .i64 t339] (0, 0) _ rfl (by (with_reducible repeat (first | refine blk_drewN ?_ _ | refine blk_drew ?_ | refine blk_alloc ?_ _)); refine blk_put (cs := #[.int .i64 t327, .int .i64 t333, .int .i64 0]) ?_ 2 _ rfl; (with_reducible repeat (first | refine blk_drewN ?_ _ | refine blk_drew ?_ | refine blk_alloc ?_ _)); refine blk_put (cs := #[.int .i64 t327, .int .i64 0, .int .i64 0]) ?_ 1 _ rfl; (with_reducible repeat (first | refine blk_drewN ?_ _ | refine blk_drew ?_ | refine blk_alloc ?_ _)); refine blk_put (cs := #[.int .i64 0, .int .i64 0, .int .i64 0]) ?_ 0 _ rfl; (with_reducible repeat (first | refine blk_drewN ?_ _ | refine blk_drew ?_ | refine blk_alloc ?_ _)); exact BK320.out) Try.underlying85 rfl (by kernel_rfl)) rfl ?_
  exact ⟨er2, by repeat (first | (with_reducible first | exact HI0.out | apply IsS151.alloc | apply IsS151.drewN | apply IsS151.drew | apply IsS151.set_1 | apply IsS151.set_2 | refine IsS151.far ?_ NB0_320.out _) | exact HI0.out), by repeat (first | (with_reducible first | exact HB.out | apply below_alloc | apply pw_below_drewN | apply below_drew1 | refine below_set ?_ (IsS151.ge HI0.out) | refine below_set ?_ GE320.out) | exact HB.out), by repeat (first | (with_reducible first | exact HK.out | apply KeepBut.set_ | apply keep_drewN | apply keep_drew | apply keep_alloc | refine keep_far ?_ GW320.out _) | exact HK.out)⟩
 ·replace c3 := Bool.eq_false_iff.mpr c3
  subst c3
  have H1 : ((spec_l1Cur_pick.f s0_0 t322 t323 3).bind fun bt342 => ((spec_l1Cur_pick.f s0_0 bt342.2.1 bt342.2.2 3).bind fun bt345 => ((spec_l1Cur_pick.f s0_0 bt345.2.1 bt345.2.2 2).bind fun bt348 => (some (bt342.1, bt345.1, bt348.1, bt348.2.1, bt348.2.2))))) = some (r1, r2, r3, r4, r5) := by rw [if_neg (show ¬ (false = true) by decide)] at H; exact H
  clear H
  have H := H1
  clear H1; replace H := bS H; obtain ⟨⟨t342, t343, t344⟩, A23, H⟩ := H
  replace H : ((spec_l1Cur_pick.f s0_0 t343 t344 3).bind fun bt345 => ((spec_l1Cur_pick.f s0_0 bt345.2.1 bt345.2.2 2).bind fun bt348 => (some (t342, bt345.1, bt348.1, bt348.2.1, bt348.2.2)))) = some (r1, r2, r3, r4, r5) := H
  replace H := bS H; obtain ⟨⟨t345, t346, t347⟩, A24, H⟩ := H
  replace H : ((spec_l1Cur_pick.f s0_0 t346 t347 2).bind fun bt348 => (some (t342, t345, bt348.1, bt348.2.1, bt348.2.2))) = some (r1, r2, r3, r4, r5) := H
  replace H := bS H; obtain ⟨⟨t348, t349, t350⟩, A25, H⟩ := H
  replace H : (some (t342, t345, t348, t349, t350)) = some (r1, r2, r3, r4, r5) := H
  simp only [Option.some.injEq, Prod.mk.injEq] at H
  obtain ⟨rfl, rfl, rfl, rfl, rfl⟩ := H
  go_enter Try.func148, Try.ntmps148
  go_wp2_with (first | ((with_reducible refine gate_dst (N := 2) rfl ?_); refine boxev 2 #[.int .i64 0, .int .i64 0, .int .i64 0] 85 ?_; intro gb320 hg w26 hbox hb; replace HB := ak (below_step (by repeat (first | (with_reducible first | exact HB.out | apply below_alloc | apply pw_below_drewN | apply below_drew1 | refine below_set ?_ (IsS151.ge HI0.out)) | exact HB.out)) hb); have BK320 := ak (hbox); have GW320 := ak ((by rw [hg]; exact (keep_size (w := w) (g := g) (row := none) (by repeat (first | (with_reducible first | exact HK.out | apply KeepBut.set_ | apply keep_drewN | apply keep_drew | apply keep_alloc) | exact HK.out))) : w.heap.size ≤ gb320)); have GE320 := ak ((Nat.le_trans HW0.out (by rw [hg]; exact (keep_size (w := w) (g := g) (row := none) (by repeat (first | (with_reducible first | exact HK.out | apply KeepBut.set_ | apply keep_drewN | apply keep_drew | apply keep_alloc) | exact HK.out))) : w.heap.size ≤ gb320) : w0.heap.size ≤ gb320)); replace HK := ak (KeepBut.trans (by repeat (first | (with_reducible first | exact HK.out | apply KeepBut.set_ | apply keep_drewN | apply keep_drew | apply keep_alloc) | exact HK.out)) (KeepBut.of_below hb g none) (.inl rfl)); have NB0_320 := ak ((by rw [hg]; exact Nat.ne_of_lt (IsS151.lt (show IsS151 w0 _ g s0_0 s0_1 s0_2 from by repeat (first | (with_reducible first | exact HI0.out | apply IsS151.alloc | apply IsS151.drewN | apply IsS151.drew | apply IsS151.set_1 | apply IsS151.set_2) | exact HI0.out))) : g ≠ gb320)); have NB320_0 := ak ((by rw [hg]; exact Nat.ne_of_gt (IsS151.lt (show IsS151 w0 _ g s0_0 s0_1 s0_2 from by repeat (first | (with_reducible first | exact HI0.out | apply IsS151.alloc | apply IsS151.drewN | apply IsS151.drew | apply IsS151.set_1 | apply IsS151.set_2) | exact HI0.out))) : gb320 ≠ g)); replace HI0 := ak (IsS151.below (by repeat (first | (with_reducible first | exact HI0.out | apply IsS151.alloc | apply IsS151.drewN | apply IsS151.drew | apply IsS151.set_1 | apply IsS151.set_2) | exact HI0.out)) hb); clear hb hbox hg) | ((with_reducible refine gate_callee (f := 149) rfl ?_); refine goesLa (some 4) rfl Try.func149 #[.pointer (some ⟨g, 0, none⟩), .int .i64 30] rfl ?_; (with_reducible refine (spec_l1Cur_one.calls g s0_0 s0_1 s0_2 30 false t322 t323 w0 _ ?side1 ?side2 A2.out).mono ?_); (case side1 => repeat (first | (with_reducible first | exact HI0.out | apply IsS151.alloc | apply IsS151.drewN | apply IsS151.drew | apply IsS151.set_1 | apply IsS151.set_2 | refine IsS151.far ?_ NB0_320.out _) | exact HI0.out)); (case side2 => repeat (first | (with_reducible first | exact HB.out | apply below_alloc | apply pw_below_drewN | apply below_drew1 | refine below_set ?_ (IsS151.ge HI0.out) | refine below_set ?_ GE320.out) | exact HB.out)); rintro e w27 ⟨rfl, hi, hb, hk⟩; refine ⟨_, rfl, ?_⟩; replace BK320 := ak (KeepBut.blk hk (g' := gb320) (blkd BK320) NB320_0.out (by simp)); replace HK := ak (KeepBut.trans (by repeat (first | (with_reducible first | exact HK.out | apply KeepBut.set_ | apply keep_drewN | apply keep_drew | apply keep_alloc | refine keep_far ?_ GW320.out _) | exact HK.out)) hk (.inl rfl)); replace HB := ak (hb); replace HI0 := ak (hi); (try clear hb); (try clear hk); (try clear hi)) | ((with_reducible refine gate_callee (f := 147) rfl ?_); refine goesLa (some 16) rfl Try.func147 #[.pointer (some ⟨g, 0, none⟩), .int .i64 3] rfl ?_; (with_reducible refine (spec_l1Cur_pick.calls g s0_0 t322 t323 3 t342 t343 t344 w0 _ ?side1 ?side2 A23.out).mono ?_); (case side1 => repeat (first | (with_reducible first | exact HI0.out | apply IsS151.alloc | apply IsS151.drewN | apply IsS151.drew | apply IsS151.set_1 | apply IsS151.set_2 | refine IsS151.far ?_ NB0_320.out _) | exact HI0.out)); (case side2 => repeat (first | (with_reducible first | exact HB.out | apply below_alloc | apply pw_below_drewN | apply below_drew1 | refine below_set ?_ (IsS151.ge HI0.out) | refine below_set ?_ GE320.out) | exact HB.out)); rintro e w28 ⟨rfl, hi, hb, hk⟩; refine ⟨_, rfl, ?_⟩; replace BK320 := ak (KeepBut.blk hk (g' := gb320) (blkd BK320) NB320_0.out (by simp)); replace HK := ak (KeepBut.trans (by repeat (first | (with_reducible first | exact HK.out | apply KeepBut.set_ | apply keep_drewN | apply keep_drew | apply keep_alloc | refine keep_far ?_ GW320.out _) | exact HK.out)) hk (.inl rfl)); replace HB := ak (hb); replace HI0 := ak (hi); (try clear hb); (try clear hk); (try clear hi)) | ((with_reducible refine gate_callee (f := 147) rfl ?_); refine goesLa (some 18) rfl Try.func147 #[.pointer (some ⟨g, 0, none⟩), .int .i64 3] rfl ?_; (with_reducible refine (spec_l1Cur_pick.calls g s0_0 t343 t344 3 t345 t346 t347 w0 _ ?side1 ?side2 A24.out).mono ?_); (case side1 => repeat (first | (with_reducible first | exact HI0.out | apply IsS151.alloc | apply IsS151.drewN | apply IsS151.drew | apply IsS151.set_1 | apply IsS151.set_2 | refine IsS151.far ?_ NB0_320.out _) | exact HI0.out)); (case side2 => repeat (first | (with_reducible first | exact HB.out | apply below_alloc | apply pw_below_drewN | apply below_drew1 | refine below_set ?_ (IsS151.ge HI0.out) | refine below_set ?_ GE320.out) | exact HB.out)); rintro e w29 ⟨rfl, hi, hb, hk⟩; refine ⟨_, rfl, ?_⟩; replace BK320 := ak (KeepBut.blk hk (g' := gb320) (blkd BK320) NB320_0.out (by simp)); replace HK := ak (KeepBut.trans (by repeat (first | (with_reducible first | exact HK.out | apply KeepBut.set_ | apply keep_drewN | apply keep_drew | apply keep_alloc | refine keep_far ?_ GW320.out _) | exact HK.out)) hk (.inl rfl)); replace HB := ak (hb); replace HI0 := ak (hi); (try clear hb); (try clear hk); (try clear hi)) | ((with_reducible refine gate_callee (f := 147) rfl ?_); refine goesLa (some 20) rfl Try.func147 #[.pointer (some ⟨g, 0, none⟩), .int .i64 2] rfl ?_; (with_reducible refine (spec_l1Cur_pick.calls g s0_0 t346 t347 2 t348 t349 t350 w0 _ ?side1 ?side2 A25.out).mono ?_); (case side1 => repeat (first | (with_reducible first | exact HI0.out | apply IsS151.alloc | apply IsS151.drewN | apply IsS151.drew | apply IsS151.set_1 | apply IsS151.set_2 | refine IsS151.far ?_ NB0_320.out _) | exact HI0.out)); (case side2 => repeat (first | (with_reducible first | exact HB.out | apply below_alloc | apply pw_below_drewN | apply below_drew1 | refine below_set ?_ (IsS151.ge HI0.out) | refine below_set ?_ GE320.out) | exact HB.out)); rintro e w30 ⟨rfl, hi, hb, hk⟩; refine ⟨_, rfl, ?_⟩; replace BK320 := ak (KeepBut.blk hk (g' := gb320) (blkd BK320) NB320_0.out (by simp)); replace HK := ak (KeepBut.trans (by repeat (first | (with_reducible first | exact HK.out | apply KeepBut.set_ | apply keep_drewN | apply keep_drew | apply keep_alloc | refine keep_far ?_ GW320.out _) | exact HK.out)) hk (.inl rfl)); replace HB := ak (hb); replace HI0 := ak (hi); (try clear hb); (try clear hk); (try clear hi); have hnb31 := NB320_0.out; have hnc31 := NB0_320.out; obtain ⟨hcz32_0, hcz32_1, hcz32_2, hfz32_0, hfz32_1, hfz32_2⟩ := box3 BK320))
  refine bodyPost_ret (results_cell_row rfl _ _ gb320 85 #[.int .i64 t342, .int .i64 t345, .int .i64 t348] (0, 0) _ rfl (by (with_reducible repeat (first | refine blk_drewN ?_ _ | refine blk_drew ?_ | refine blk_alloc ?_ _)); refine blk_put (cs := #[.int .i64 t342, .int .i64 t345, .int .i64 0]) ?_ 2 _ rfl; (with_reducible repeat (first | refine blk_drewN ?_ _ | refine blk_drew ?_ | refine blk_alloc ?_ _)); refine blk_put (cs := #[.int .i64 t342, .int .i64 0, .int .i64 0]) ?_ 1 _ rfl; (with_reducible repeat (first | refine blk_drewN ?_ _ | refine blk_drew ?_ | refine blk_alloc ?_ _)); refine blk_put (cs := #[.int .i64 0, .int .i64 0, .int .i64 0]) ?_ 0 _ rfl; (with_reducible repeat (first | refine blk_drewN ?_ _ | refine blk_drew ?_ | refine blk_alloc ?_ _)); exact BK320.out) Try.underlying85 rfl (by kernel_rfl)) rfl ?_
  exact ⟨er2, by repeat (first | (with_reducible first | exact HI0.out | apply IsS151.alloc | apply IsS151.drewN | apply IsS151.drew | apply IsS151.set_1 | apply IsS151.set_2 | refine IsS151.far ?_ NB0_320.out _) | exact HI0.out), by repeat (first | (with_reducible first | exact HB.out | apply below_alloc | apply pw_below_drewN | apply below_drew1 | refine below_set ?_ (IsS151.ge HI0.out) | refine below_set ?_ GE320.out) | exact HB.out), by repeat (first | (with_reducible first | exact HK.out | apply KeepBut.set_ | apply keep_drewN | apply keep_drew | apply keep_alloc | refine keep_far ?_ GW320.out _) | exact HK.out)⟩

/-! ### spec_l1Cur_statements: function 142 -/
mutual
def spec_l1Cur_statements.j0 : Nat → List (S91) → Int → List Int → Int → Int → Option ((List (S91)) × Int × Int)
  | 0, _, _, _, _, _ => none
  | k + 1, x3, x4, x1000, x1001, x1002 => spec_l1Cur_statements.l0 k x3 x4 x1000 x1001 x1002
def spec_l1Cur_statements.l0 : Nat → List (S91) → Int → List Int → Int → Int → Option ((List (S91)) × Int × Int)
  | 0, _, _, _, _, _ => none
  | k + 1, x3, x4, x1000, x1001, x1002 => if x4 > 0 then ((spec_l1Cur_pick.f x1000 x1001 x1002 7).bind fun bt360 => ((spec_l1Cur_pick.f x1000 bt360.2.1 bt360.2.2 2).bind fun bt363 => ((spec_l1Cur_pick.f x1000 bt363.2.1 bt363.2.2 2).bind fun bt366 => ((spec_l1Cur_one.f x1000 bt366.2.1 bt366.2.2 3).bind fun bt369 => (if x3.length < 3518437208883 then (spec_l1Cur_statements.l0 k (x3 ++ [(⟨bt360.1, (⟨bt363.1, bt366.1, 0⟩ : S85), !bt369.1⟩ : S91)]) (wrap64 (x4 - 1)) x1000 bt369.2.1 bt369.2.2) else (none)))))) else (if (x3.length : Int) > 0 then ((spec_l1Cur_one.f x1000 x1001 x1002 20).bind fun bt375 => (spec_l1Cur_statements.j2 k x3 bt375.1 x1000 bt375.2.1 bt375.2.2)) else (spec_l1Cur_statements.j2 k x3 false x1000 x1001 x1002))
def spec_l1Cur_statements.j2 : Nat → List (S91) → Bool → List Int → Int → Int → Option ((List (S91)) × Int × Int)
  | 0, _, _, _, _, _ => none
  | k + 1, x3, x36, x1000, x1001, x1002 => if x36 = true then ((spec_l1Cur_among.f x1000 x1001 x1002 (([(-1), 6, 7] : List Int))).bind fun bt381 => ((spec_l1Cur_claim.f x1000 bt381.2.1 bt381.2.2).bind fun bt384 => (if 0 < (x3.length : Int) then (some ((x3.set (0 : Int).toNat (⟨bt381.1, (⟨bt384.1, bt384.2.1, bt384.2.2.1⟩ : S85), false⟩ : S91)), bt384.2.2.2.1, bt384.2.2.2.2)) else (none)))) else (some (x3, x1001, x1002))
end
def spec_l1Cur_statements.f (k : Nat) (s0_0 : List Int) (s0_1 : Int) (s0_2 : Int) : Option ((List (S91)) × Int × Int) := (spec_l1Cur_pick.f s0_0 s0_1 s0_2 14).bind fun bt351 => ((spec_l1Cur_one.f s0_0 bt351.2.1 bt351.2.2 20).bind fun bt354 => (if bt354.1 = true then ((spec_l1Cur_pick.f s0_0 bt354.2.1 bt354.2.2 2).bind fun bt357 => (spec_l1Cur_statements.j0 k ([] : List (S91)) (wrap64 (60 + bt357.1)) s0_0 bt357.2.1 bt357.2.2)) else (spec_l1Cur_statements.j0 k ([] : List (S91)) bt351.1 s0_0 bt354.2.1 bt354.2.2)))
theorem spec_l1Cur_statements.mono_l : ∀ k, (∀ y0 y1 y2 y3 y4, LeO (spec_l1Cur_statements.j0 k y0 y1 y2 y3 y4) (spec_l1Cur_statements.j0 (k + 1) y0 y1 y2 y3 y4)) ∧ (∀ y0 y1 y2 y3 y4, LeO (spec_l1Cur_statements.l0 k y0 y1 y2 y3 y4) (spec_l1Cur_statements.l0 (k + 1) y0 y1 y2 y3 y4)) ∧ (∀ y0 y1 y2 y3 y4, LeO (spec_l1Cur_statements.j2 k y0 y1 y2 y3 y4) (spec_l1Cur_statements.j2 (k + 1) y0 y1 y2 y3 y4))
 | 0 => ⟨fun _ _ _ _ _ r h => by simp [spec_l1Cur_statements.j0] at h, fun _ _ _ _ _ r h => by simp [spec_l1Cur_statements.l0] at h, fun _ _ _ _ _ r h => by simp [spec_l1Cur_statements.j2] at h⟩
 | k + 1 => by
  obtain ⟨ih0, ih1, ih2⟩ := spec_l1Cur_statements.mono_l k
  refine ⟨?_, ?_, ?_⟩
  ·intro y0 y1 y2 y3 y4
   unfold spec_l1Cur_statements.j0
   repeat' (first | (with_reducible first | exact ih0 _ _ _ _ _ | exact ih1 _ _ _ _ _ | exact ih2 _ _ _ _ _ | exact LeO.refl _ | exact LeO.none _ | refine LeO.ite ?_ ?_ | refine LeO.bind ?_ (fun _ => ?_)) | exact ih0 _ _ _ _ _ | exact ih1 _ _ _ _ _ | exact ih2 _ _ _ _ _ | exact LeO.none _ | refine LeO.ite ?_ ?_ | refine LeO.bind ?_ (fun _ => ?_))
  ·intro y0 y1 y2 y3 y4
   unfold spec_l1Cur_statements.l0
   repeat' (first | (with_reducible first | exact ih0 _ _ _ _ _ | exact ih1 _ _ _ _ _ | exact ih2 _ _ _ _ _ | exact LeO.refl _ | exact LeO.none _ | refine LeO.ite ?_ ?_ | refine LeO.bind ?_ (fun _ => ?_)) | exact ih0 _ _ _ _ _ | exact ih1 _ _ _ _ _ | exact ih2 _ _ _ _ _ | exact LeO.none _ | refine LeO.ite ?_ ?_ | refine LeO.bind ?_ (fun _ => ?_))
  ·intro y0 y1 y2 y3 y4
   unfold spec_l1Cur_statements.j2
   repeat' (first | (with_reducible first | exact ih0 _ _ _ _ _ | exact ih1 _ _ _ _ _ | exact ih2 _ _ _ _ _ | exact LeO.refl _ | exact LeO.none _ | refine LeO.ite ?_ ?_ | refine LeO.bind ?_ (fun _ => ?_)) | exact ih0 _ _ _ _ _ | exact ih1 _ _ _ _ _ | exact ih2 _ _ _ _ _ | exact LeO.none _ | refine LeO.ite ?_ ?_ | refine LeO.bind ?_ (fun _ => ?_))
theorem spec_l1Cur_statements.mono : ∀ a0 a1 a2 k, LeO (spec_l1Cur_statements.f k a0 a1 a2) (spec_l1Cur_statements.f (k + 1) a0 a1 a2) := by
 intro a0 a1 a2 k
 obtain ⟨ih0, ih1, ih2⟩ := spec_l1Cur_statements.mono_l k
 unfold spec_l1Cur_statements.f
 repeat' (first | (with_reducible first | exact ih0 _ _ _ _ _ | exact ih1 _ _ _ _ _ | exact ih2 _ _ _ _ _ | exact LeO.refl _ | exact LeO.none _ | refine LeO.ite ?_ ?_ | refine LeO.bind ?_ (fun _ => ?_)) | exact ih0 _ _ _ _ _ | exact ih1 _ _ _ _ _ | exact ih2 _ _ _ _ _ | exact LeO.none _ | refine LeO.ite ?_ ?_ | refine LeO.bind ?_ (fun _ => ?_))
set_option maxHeartbeats 8000000 in
set_option maxRecDepth 100000 in
theorem spec_l1Cur_statements.calls (k : Nat) (g : Nat) (s0_0 : List Int) (s0_1 : Int) (s0_2 : Int) (r1 : List (S91)) (r2 : Int) (r3 : Int) (w0 w : World) (hI : IsS151 w0 w g s0_0 s0_1 s0_2) (hB : Below w0.heap.size w0 w) (h : spec_l1Cur_statements.f k s0_0 s0_1 s0_2 = some (r1, r2, r3)) :
  Calls Try.prog 142 #[.pointer (some ⟨g, 0, none⟩)] w fun e w' => ∃ v0_ : Value, e = .returned (v0_) ∧ Kd.R k91 91 w' w.heap.size (fun _ => True) v0_ r1 ∧ IsS151 w0 w' g s0_0 r2 r3 ∧ Below w0.heap.size w0 w' ∧ KeepBut w w' g none := by
 have hu85 := Try.underlying85
 have hu91 := Try.underlying91
 have HI0 := Aside0.mk hI
 have HK := Aside0.mk (KeepBut.refl w g none)
 have HL := Aside0.mk hB.size
 clear hI
 have HW0 := Aside0.mk hB.size
 have HB := Aside0.mk hB; clear hB
 have H : ((spec_l1Cur_pick.f s0_0 s0_1 s0_2 14).bind fun bt351 => ((spec_l1Cur_one.f s0_0 bt351.2.1 bt351.2.2 20).bind fun bt354 => (if bt354.1 = true then ((spec_l1Cur_pick.f s0_0 bt354.2.1 bt354.2.2 2).bind fun bt357 => (spec_l1Cur_statements.j0 k ([] : List (S91)) (wrap64 (60 + bt357.1)) s0_0 bt357.2.1 bt357.2.2)) else (spec_l1Cur_statements.j0 k ([] : List (S91)) bt351.1 s0_0 bt354.2.1 bt354.2.2)))) = some (r1, r2, r3) := h
 clear h; replace H := bS H; obtain ⟨⟨t351, t352, t353⟩, A2, H⟩ := H
 replace H : ((spec_l1Cur_one.f s0_0 t352 t353 20).bind fun bt354 => (if bt354.1 = true then ((spec_l1Cur_pick.f s0_0 bt354.2.1 bt354.2.2 2).bind fun bt357 => (spec_l1Cur_statements.j0 k ([] : List (S91)) (wrap64 (60 + bt357.1)) s0_0 bt357.2.1 bt357.2.2)) else (spec_l1Cur_statements.j0 k ([] : List (S91)) t351 s0_0 bt354.2.1 bt354.2.2))) = some (r1, r2, r3) := H
 replace H := bS H; obtain ⟨⟨t354, t355, t356⟩, A3, H⟩ := H
 replace H : (if t354 = true then ((spec_l1Cur_pick.f s0_0 t355 t356 2).bind fun bt357 => (spec_l1Cur_statements.j0 k ([] : List (S91)) (wrap64 (60 + bt357.1)) s0_0 bt357.2.1 bt357.2.2)) else (spec_l1Cur_statements.j0 k ([] : List (S91)) t351 s0_0 t355 t356)) = some (r1, r2, r3) := H
 have HC4 := Aside0.mk H; clear H
 go_enter Try.func142, Try.ntmps142
 go_upto_if 8 with (first | ((with_reducible refine gate_callee (f := 147) rfl ?_); refine goesLa (some 6) rfl Try.func147 #[.pointer (some ⟨g, 0, none⟩), .int .i64 14] rfl ?_; (with_reducible refine (spec_l1Cur_pick.calls g s0_0 s0_1 s0_2 14 t351 t352 t353 w0 _ ?side1 ?side2 A2.out).mono ?_); (case side1 => repeat (first | (with_reducible first | exact HI0.out | apply IsS151.alloc | apply IsS151.drewN | apply IsS151.drew | apply IsS151.set_1 | apply IsS151.set_2) | exact HI0.out)); (case side2 => repeat (first | (with_reducible first | exact HB.out | apply below_alloc | apply pw_below_drewN | apply below_drew1 | refine below_set ?_ (IsS151.ge HI0.out)) | exact HB.out)); rintro e w5 ⟨rfl, hi, hb, hk⟩; refine ⟨_, rfl, ?_⟩; replace HK := ak (KeepBut.trans (by repeat (first | (with_reducible first | exact HK.out | apply KeepBut.set_ | apply keep_drewN | apply keep_drew | apply keep_alloc) | exact HK.out)) hk (.inl rfl)); replace HB := ak (hb); replace HI0 := ak (hi); (try clear hb); (try clear hk); (try clear hi)) | ((with_reducible refine gate_callee (f := 149) rfl ?_); refine goesLa (some 8) rfl Try.func149 #[.pointer (some ⟨g, 0, none⟩), .int .i64 20] rfl ?_; (with_reducible refine (spec_l1Cur_one.calls g s0_0 t352 t353 20 t354 t355 t356 w0 _ ?side1 ?side2 A3.out).mono ?_); (case side1 => repeat (first | (with_reducible first | exact HI0.out | apply IsS151.alloc | apply IsS151.drewN | apply IsS151.drew | apply IsS151.set_1 | apply IsS151.set_2) | exact HI0.out)); (case side2 => repeat (first | (with_reducible first | exact HB.out | apply below_alloc | apply pw_below_drewN | apply below_drew1 | refine below_set ?_ (IsS151.ge HI0.out)) | exact HB.out)); rintro e w6 ⟨rfl, hi, hb, hk⟩; refine ⟨_, rfl, ?_⟩; replace HK := ak (KeepBut.trans (by repeat (first | (with_reducible first | exact HK.out | apply KeepBut.set_ | apply keep_drewN | apply keep_drew | apply keep_alloc) | exact HK.out)) hk (.inl rfl)); replace HB := ak (hb); replace HI0 := ak (hi); (try clear hb); (try clear hk); (try clear hi)))
 (try simp only [Act.put, List.setIfInBounds_toArray, List.set_cons_zero, List.set_cons_succ])
 go_cut [4] (fun v4 wc => ∃ (kq : Nat) (x4_3 : Int) (x1001_3 : Int) (x1002_3 : Int), v4 = .int .i64 x4_3 ∧ Aside0 (spec_l1Cur_statements.j0 kq ([] : List (S91)) x4_3 s0_0 x1001_3 x1002_3 = some (r1, r2, r3)) ∧ Aside0 (kq ≤ k) ∧ Aside0 (Kd.R k91 91 wc w.heap.size (fun _ => True) (.slice none 0 0) ([] : List (S91))) ∧ Aside0 (IsS151 w0 wc g s0_0 x1001_3 x1002_3) ∧ Aside0 (KeepBut w wc g none) ∧ Aside0 (Below w0.heap.size w0 wc))
 case first =>
  have H := HC4.out; clear HC4
  by_cases c7 : t354 = true
  ·subst c7
   have H1 : ((spec_l1Cur_pick.f s0_0 t355 t356 2).bind fun bt357 => (spec_l1Cur_statements.j0 k ([] : List (S91)) (wrap64 (60 + bt357.1)) s0_0 bt357.2.1 bt357.2.2)) = some (r1, r2, r3) := by rw [if_pos rfl] at H; exact H
   clear H
   have H := H1
   clear H1; replace H := bS H; obtain ⟨⟨t357, t358, t359⟩, A8, H⟩ := H
   replace H : (spec_l1Cur_statements.j0 k ([] : List (S91)) (wrap64 (60 + t357)) s0_0 t358 t359) = some (r1, r2, r3) := H
   have H' := Aside0.mk H
   clear H
   go_wp2_with (first | ((with_reducible refine gate_callee (f := 147) rfl ?_); refine goesLa (some 10) rfl Try.func147 #[.pointer (some ⟨g, 0, none⟩), .int .i64 2] rfl ?_; (with_reducible refine (spec_l1Cur_pick.calls g s0_0 t355 t356 2 t357 t358 t359 w0 _ ?side1 ?side2 A8.out).mono ?_); (case side1 => repeat (first | (with_reducible first | exact HI0.out | apply IsS151.alloc | apply IsS151.drewN | apply IsS151.drew | apply IsS151.set_1 | apply IsS151.set_2) | exact HI0.out)); (case side2 => repeat (first | (with_reducible first | exact HB.out | apply below_alloc | apply pw_below_drewN | apply below_drew1 | refine below_set ?_ (IsS151.ge HI0.out)) | exact HB.out)); rintro e w9 ⟨rfl, hi, hb, hk⟩; refine ⟨_, rfl, ?_⟩; replace HK := ak (KeepBut.trans (by repeat (first | (with_reducible first | exact HK.out | apply KeepBut.set_ | apply keep_drewN | apply keep_drew | apply keep_alloc) | exact HK.out)) hk (.inl rfl)); replace HB := ak (hb); replace HI0 := ak (hi); (try clear hb); (try clear hk); (try clear hi)))
   go_meet
   case rel => exact ⟨_, (wrap64 (60 + t357)), (t358), (t359), er, H', ⟨by first | omega | exact Nat.le_refl _⟩, ⟨by first | exact Kd.R_nil _ _ _ _ _ | exact Kd.N_nil _ _ _ _ _ | exact Kd.V_nil _ _ _ _ _ | exact Kd.Q_nil _ _ _ _ _ | exact Kd.S_nil _ _ _ _ _⟩, ⟨by repeat (first | (with_reducible first | exact HI0.out | apply IsS151.alloc | apply IsS151.drewN | apply IsS151.drew | apply IsS151.set_1 | apply IsS151.set_2) | exact HI0.out)⟩, ⟨by repeat (first | (with_reducible first | exact HK.out | apply KeepBut.set_ | apply keep_drewN | apply keep_drew | apply keep_alloc) | exact HK.out)⟩, ⟨by repeat (first | (with_reducible first | exact HB.out | apply below_alloc | apply pw_below_drewN | apply below_drew1 | refine below_set ?_ (IsS151.ge HI0.out)) | exact HB.out)⟩⟩
  ·replace c7 := Bool.eq_false_iff.mpr c7
   subst c7
   have H1 : (spec_l1Cur_statements.j0 k ([] : List (S91)) t351 s0_0 t355 t356) = some (r1, r2, r3) := by rw [if_neg (show ¬ (false = true) by decide)] at H; exact H
   clear H
   have H := H1
   clear H1
   have H' := Aside0.mk H
   clear H; go_wp2
   go_meet
   case rel => exact ⟨_, (t351), (t355), (t356), er, H', ⟨by first | omega | exact Nat.le_refl _⟩, ⟨by first | exact Kd.R_nil _ _ _ _ _ | exact Kd.N_nil _ _ _ _ _ | exact Kd.V_nil _ _ _ _ _ | exact Kd.Q_nil _ _ _ _ _ | exact Kd.S_nil _ _ _ _ _⟩, ⟨by repeat (first | (with_reducible first | exact HI0.out | apply IsS151.alloc | apply IsS151.drewN | apply IsS151.drew | apply IsS151.set_1 | apply IsS151.set_2) | exact HI0.out)⟩, ⟨by repeat (first | (with_reducible first | exact HK.out | apply KeepBut.set_ | apply keep_drewN | apply keep_drew | apply keep_alloc) | exact HK.out)⟩, ⟨by repeat (first | (with_reducible first | exact HB.out | apply below_alloc | apply pw_below_drewN | apply below_drew1 | refine below_set ?_ (IsS151.ge HI0.out)) | exact HB.out)⟩⟩
 case rest =>
  clear HC4
  obtain ⟨kq, x4_3, x1001_3, x1002_3, rfl, HA, HJ3, HO_3, HI0, HK, HB⟩ := hcut
  cases kq with
  | zero => exact absurd HA.out (by simp [spec_l1Cur_statements.j0])
  | succ kj3 =>
   have H := HA.out; clear HA
   simp only [spec_l1Cur_statements.j0] at H
   have H' := Aside0.mk H
   clear H; go_wp2
   go_loopg [3, 4] kj3 (fun kq v3 v4 w' => ∃ (x3_2 : List (S91)) (x4_2 : Int) (x1001_2 : Int) (x1002_2 : Int), v4 = .int .i64 x4_2 ∧ Aside0 (spec_l1Cur_statements.l0 kq x3_2 x4_2 s0_0 x1001_2 x1002_2 = some (r1, r2, r3)) ∧ Aside0 (kq ≤ kj3) ∧ Aside0 (Kd.R k91 91 w' w.heap.size (fun _ => True) v3 x3_2) ∧ Aside0 (IsS151 w0 w' g s0_0 x1001_2 x1002_2) ∧ Aside0 (KeepBut w w' g none) ∧ Aside0 (Below w0.heap.size w0 w'))
   case atStart => exact ⟨(([] : List (S91))), (x4_3), (x1001_3), (x1002_3), er, H', ⟨Nat.le_refl _⟩, ⟨rdl HO_3⟩, ⟨by repeat (first | (with_reducible first | exact HI0.out | apply IsS151.alloc | apply IsS151.drewN | apply IsS151.drew | apply IsS151.set_1 | apply IsS151.set_2) | exact HI0.out)⟩, ⟨by repeat (first | (with_reducible first | exact HK.out | apply KeepBut.set_ | apply keep_drewN | apply keep_drew | apply keep_alloc) | exact HK.out)⟩, ⟨by repeat (first | (with_reducible first | exact HB.out | apply below_alloc | apply pw_below_drewN | apply below_drew1 | refine below_set ?_ (IsS151.ge HI0.out)) | exact HB.out)⟩⟩
   case round =>
    clear H'
    obtain ⟨x3_2, x4_2, x1001_2, x1002_2, rfl, HA, HK2, HO_3, HI0, HK, HB⟩ := hrel
    cases gk with
    | zero => exact absurd HA.out (by simp [spec_l1Cur_statements.l0])
    | succ k2 =>
     have H := HA.out; clear HA
     simp only [spec_l1Cur_statements.l0] at H
     by_cases c10 : x4_2 > 0
     ·rw [if_pos c10] at H
      have c10b0 : decide (0 < x4_2) = true := decide_eq_true c10
      clear c10; replace H := bS H; obtain ⟨⟨t360, t361, t362⟩, A11, H⟩ := H
      replace H : ((spec_l1Cur_pick.f s0_0 t361 t362 2).bind fun bt363 => ((spec_l1Cur_pick.f s0_0 bt363.2.1 bt363.2.2 2).bind fun bt366 => ((spec_l1Cur_one.f s0_0 bt366.2.1 bt366.2.2 3).bind fun bt369 => (if x3_2.length < 3518437208883 then (spec_l1Cur_statements.l0 k2 (x3_2 ++ [(⟨t360, (⟨bt363.1, bt366.1, 0⟩ : S85), !bt369.1⟩ : S91)]) (wrap64 (x4_2 - 1)) s0_0 bt369.2.1 bt369.2.2) else (none))))) = some (r1, r2, r3) := H
      replace H := bS H; obtain ⟨⟨t363, t364, t365⟩, A12, H⟩ := H
      replace H : ((spec_l1Cur_pick.f s0_0 t364 t365 2).bind fun bt366 => ((spec_l1Cur_one.f s0_0 bt366.2.1 bt366.2.2 3).bind fun bt369 => (if x3_2.length < 3518437208883 then (spec_l1Cur_statements.l0 k2 (x3_2 ++ [(⟨t360, (⟨t363, bt366.1, 0⟩ : S85), !bt369.1⟩ : S91)]) (wrap64 (x4_2 - 1)) s0_0 bt369.2.1 bt369.2.2) else (none)))) = some (r1, r2, r3) := H
      replace H := bS H; obtain ⟨⟨t366, t367, t368⟩, A13, H⟩ := H
      replace H : ((spec_l1Cur_one.f s0_0 t367 t368 3).bind fun bt369 => (if x3_2.length < 3518437208883 then (spec_l1Cur_statements.l0 k2 (x3_2 ++ [(⟨t360, (⟨t363, t366, 0⟩ : S85), !bt369.1⟩ : S91)]) (wrap64 (x4_2 - 1)) s0_0 bt369.2.1 bt369.2.2) else (none))) = some (r1, r2, r3) := H
      replace H := bS H; obtain ⟨⟨t369, t370, t371⟩, A14, H⟩ := H
      replace H : (if x3_2.length < 3518437208883 then (spec_l1Cur_statements.l0 k2 (x3_2 ++ [(⟨t360, (⟨t363, t366, 0⟩ : S85), !t369⟩ : S91)]) (wrap64 (x4_2 - 1)) s0_0 t370 t371) else (none)) = some (r1, r2, r3) := H
      replace H := ifS H; obtain ⟨c15, H⟩ := H; have LMc15 := Aside0.mk c15; clear c15
      obtain ⟨y372, hy_⟩ : ∃ y_ : List (S91), y_ = (x3_2 ++ [(⟨t360, (⟨t363, t366, 0⟩ : S85), !t369⟩ : S91)]) := ⟨_, rfl⟩
      replace H : (spec_l1Cur_statements.l0 k2 y372 (wrap64 (x4_2 - 1)) s0_0 t370 t371) = some (r1, r2, r3) := yH
      have Ny372 := ak hy_; clear hy_
      have H' := Aside0.mk H
      clear H
      go_wp2_with (first | ((with_reducible refine gate_callee (f := 147) rfl ?_); refine goesLa (some 18) rfl Try.func147 #[.pointer (some ⟨g, 0, none⟩), .int .i64 7] rfl ?_; (with_reducible refine (spec_l1Cur_pick.calls g s0_0 x1001_2 x1002_2 7 t360 t361 t362 w0 _ ?side1 ?side2 A11.out).mono ?_); (case side1 => repeat (first | (with_reducible first | exact HI0.out | apply IsS151.alloc | apply IsS151.drewN | apply IsS151.drew | apply IsS151.set_1 | apply IsS151.set_2) | exact HI0.out)); (case side2 => repeat (first | (with_reducible first | exact HB.out | apply below_alloc | apply pw_below_drewN | apply below_drew1 | refine below_set ?_ (IsS151.ge HI0.out)) | exact HB.out)); rintro e w16 ⟨rfl, hi, hb, hk⟩; refine ⟨_, rfl, ?_⟩; replace HO_3 := ak (Kd.R_mono (Kd.R_keep (IsS151.apart (show IsS151 w0 _ g s0_0 x1001_2 x1002_2 from by repeat (first | (with_reducible first | exact HI0.out | apply IsS151.alloc | apply IsS151.drewN | apply IsS151.drew | apply IsS151.set_1 | apply IsS151.set_2) | exact HI0.out)) (rdl HO_3) (by decide)) hk (fun _ h => h.2)) (fun _ h => h.1)); replace HK := ak (KeepBut.trans (by repeat (first | (with_reducible first | exact HK.out | apply KeepBut.set_ | apply keep_drewN | apply keep_drew | apply keep_alloc) | exact HK.out)) hk (.inl rfl)); replace HB := ak (hb); replace HI0 := ak (hi); (try clear hb); (try clear hk); (try clear hi)) | ((with_reducible refine gate_callee (f := 147) rfl ?_); refine goesLa (some 20) rfl Try.func147 #[.pointer (some ⟨g, 0, none⟩), .int .i64 2] rfl ?_; (with_reducible refine (spec_l1Cur_pick.calls g s0_0 t361 t362 2 t363 t364 t365 w0 _ ?side1 ?side2 A12.out).mono ?_); (case side1 => repeat (first | (with_reducible first | exact HI0.out | apply IsS151.alloc | apply IsS151.drewN | apply IsS151.drew | apply IsS151.set_1 | apply IsS151.set_2) | exact HI0.out)); (case side2 => repeat (first | (with_reducible first | exact HB.out | apply below_alloc | apply pw_below_drewN | apply below_drew1 | refine below_set ?_ (IsS151.ge HI0.out)) | exact HB.out)); rintro e w17 ⟨rfl, hi, hb, hk⟩; refine ⟨_, rfl, ?_⟩; replace HO_3 := ak (Kd.R_mono (Kd.R_keep (IsS151.apart (show IsS151 w0 _ g s0_0 t361 t362 from by repeat (first | (with_reducible first | exact HI0.out | apply IsS151.alloc | apply IsS151.drewN | apply IsS151.drew | apply IsS151.set_1 | apply IsS151.set_2) | exact HI0.out)) (rdl HO_3) (by decide)) hk (fun _ h => h.2)) (fun _ h => h.1)); replace HK := ak (KeepBut.trans (by repeat (first | (with_reducible first | exact HK.out | apply KeepBut.set_ | apply keep_drewN | apply keep_drew | apply keep_alloc) | exact HK.out)) hk (.inl rfl)); replace HB := ak (hb); replace HI0 := ak (hi); (try clear hb); (try clear hk); (try clear hi)) | ((with_reducible refine gate_callee (f := 147) rfl ?_); refine goesLa (some 22) rfl Try.func147 #[.pointer (some ⟨g, 0, none⟩), .int .i64 2] rfl ?_; (with_reducible refine (spec_l1Cur_pick.calls g s0_0 t364 t365 2 t366 t367 t368 w0 _ ?side1 ?side2 A13.out).mono ?_); (case side1 => repeat (first | (with_reducible first | exact HI0.out | apply IsS151.alloc | apply IsS151.drewN | apply IsS151.drew | apply IsS151.set_1 | apply IsS151.set_2) | exact HI0.out)); (case side2 => repeat (first | (with_reducible first | exact HB.out | apply below_alloc | apply pw_below_drewN | apply below_drew1 | refine below_set ?_ (IsS151.ge HI0.out)) | exact HB.out)); rintro e w18 ⟨rfl, hi, hb, hk⟩; refine ⟨_, rfl, ?_⟩; replace HO_3 := ak (Kd.R_mono (Kd.R_keep (IsS151.apart (show IsS151 w0 _ g s0_0 t364 t365 from by repeat (first | (with_reducible first | exact HI0.out | apply IsS151.alloc | apply IsS151.drewN | apply IsS151.drew | apply IsS151.set_1 | apply IsS151.set_2) | exact HI0.out)) (rdl HO_3) (by decide)) hk (fun _ h => h.2)) (fun _ h => h.1)); replace HK := ak (KeepBut.trans (by repeat (first | (with_reducible first | exact HK.out | apply KeepBut.set_ | apply keep_drewN | apply keep_drew | apply keep_alloc) | exact HK.out)) hk (.inl rfl)); replace HB := ak (hb); replace HI0 := ak (hi); (try clear hb); (try clear hk); (try clear hi)) | ((with_reducible refine gate_callee (f := 149) rfl ?_); refine goesLa (some 25) rfl Try.func149 #[.pointer (some ⟨g, 0, none⟩), .int .i64 3] rfl ?_; (with_reducible refine (spec_l1Cur_one.calls g s0_0 t367 t368 3 t369 t370 t371 w0 _ ?side1 ?side2 A14.out).mono ?_); (case side1 => repeat (first | (with_reducible first | exact HI0.out | apply IsS151.alloc | apply IsS151.drewN | apply IsS151.drew | apply IsS151.set_1 | apply IsS151.set_2) | exact HI0.out)); (case side2 => repeat (first | (with_reducible first | exact HB.out | apply below_alloc | apply pw_below_drewN | apply below_drew1 | refine below_set ?_ (IsS151.ge HI0.out)) | exact HB.out)); rintro e w19 ⟨rfl, hi, hb, hk⟩; refine ⟨_, rfl, ?_⟩; replace HO_3 := ak (Kd.R_mono (Kd.R_keep (IsS151.apart (show IsS151 w0 _ g s0_0 t367 t368 from by repeat (first | (with_reducible first | exact HI0.out | apply IsS151.alloc | apply IsS151.drewN | apply IsS151.drew | apply IsS151.set_1 | apply IsS151.set_2) | exact HI0.out)) (rdl HO_3) (by decide)) hk (fun _ h => h.2)) (fun _ h => h.1)); replace HK := ak (KeepBut.trans (by repeat (first | (with_reducible first | exact HK.out | apply KeepBut.set_ | apply keep_drewN | apply keep_drew | apply keep_alloc) | exact HK.out)) hk (.inl rfl)); replace HB := ak (hb); replace HI0 := ak (hi); (try clear hb); (try clear hk); (try clear hi)) | ((with_reducible refine gate_builtin (b := .append) (xs := #[.tmp 16, .tmp 28]) rfl ?_); at_builtin; refine Kd.R_append k91 w.heap.size rfl (.tmp 16) (.tmp 28) 73 91 (.agg #[(.int .i64 0), (.int .i64 0), (.int .i64 0), (.int .i64 0), (.bool false)]) 40 rfl Try.underlying73 info91 rfl (by decide) (by omega) u3 x3_2 (⟨t360, (⟨t363, t366, 0⟩ : S85), !t369⟩ : S91) [.int .i64 t360, .int .i64 t363, .int .i64 t366, .int .i64 0, .bool (!t369)] (fun _ => True) (fun _ => False) rfl rfl ?aP (fun _ hk => hk.elim) ?aF ?aO (Below.refl _ _) ?aS ?aL ?_; (case aP => exact k91_mkM _ _ _ (⟨t360, (⟨t363, t366, 0⟩ : S85), !t369⟩ : S91)); (case aF => exact (fun _ _ => trivial)); (case aO => exact (rdl HO_3)); (case aS => exact (keep_size (w := w) (g := g) (row := none) (by repeat (first | (with_reducible first | exact HK.out | apply KeepBut.set_ | apply keep_drewN | apply keep_drew | apply keep_alloc) | exact HK.out)))); (case aL => have := LMc15.out; omega); intro v373 w20 ho hb hg hat; rw [← Ny372.out] at ho; replace HB := ak (below_weaken (by repeat (first | (with_reducible first | exact HB.out | apply below_alloc | apply pw_below_drewN | apply below_drew1 | refine below_set ?_ (IsS151.ge HI0.out)) | exact HB.out)) HL.out hb); replace HI0 := ak (IsS151.grown (by repeat (first | (with_reducible first | exact HI0.out | apply IsS151.alloc | apply IsS151.drewN | apply IsS151.drew | apply IsS151.set_1 | apply IsS151.set_2) | exact HI0.out)) hg (IsS151.own_ne HI0.out HO_3.out (by decide))); replace HK := ak (KeepBut.trans (by repeat (first | (with_reducible first | exact HK.out | apply KeepBut.set_ | apply keep_drewN | apply keep_drew | apply keep_alloc) | exact HK.out)) (KeepBut.of_grown hg g) (Kd.R_base2 HO_3.out)); have HO374 := ak (ho); clear HO_3; clear ho hb hg hat))
      go_roundg k2
      case measure => have := HJ3.out; have := HK2.out; omega
      case rel => exact ⟨(y372), (wrap64 (x4_2 - 1)), (t370), (t371), er, H', ⟨by have := HJ3.out; have := HK2.out; omega⟩, ⟨rdl HO374⟩, ⟨by repeat (first | (with_reducible first | exact HI0.out | apply IsS151.alloc | apply IsS151.drewN | apply IsS151.drew | apply IsS151.set_1 | apply IsS151.set_2) | exact HI0.out)⟩, ⟨by repeat (first | (with_reducible first | exact HK.out | apply KeepBut.set_ | apply keep_drewN | apply keep_drew | apply keep_alloc) | exact HK.out)⟩, ⟨by repeat (first | (with_reducible first | exact HB.out | apply below_alloc | apply pw_below_drewN | apply below_drew1 | refine below_set ?_ (IsS151.ge HI0.out)) | exact HB.out)⟩⟩
     ·rw [if_neg c10] at H
      have c10b0 : decide (0 < x4_2) = false := decide_eq_false c10
      clear c10; have HC21 := Aside0.mk H; clear H
      go_upto_region 8 with (fail)
      go_cut [36] (fun v36 wc => ∃ (kq : Nat) (x36_20 : Bool) (x1001_20 : Int) (x1002_20 : Int), v36 = .bool x36_20 ∧ Aside0 (spec_l1Cur_statements.j2 kq x3_2 x36_20 s0_0 x1001_20 x1002_20 = some (r1, r2, r3)) ∧ Aside0 (kq ≤ k2) ∧ Aside0 (Kd.R k91 91 wc w.heap.size (fun _ => True) u3 x3_2) ∧ Aside0 (IsS151 w0 wc g s0_0 x1001_20 x1002_20) ∧ Aside0 (KeepBut w wc g none) ∧ Aside0 (Below w0.heap.size w0 wc))
      case first =>
       have H := HC21.out; clear HC21
       by_cases c22 : (x3_2.length : Int) > 0
       ·rw [if_pos c22] at H
        have c22b0 : decide (0 < (x3_2.length : Int)) = true := decide_eq_true c22
        have c22b1 : decide (0 < x3_2.length) = true := decide_eq_true (by omega)
        clear c22
        (first | rw [c22b0] | (simp only [i64_w, i32_w]; rw [c22b0]) | skip)
        replace H := bS H; obtain ⟨⟨t375, t376, t377⟩, A23, H⟩ := H
        replace H : (spec_l1Cur_statements.j2 k2 x3_2 t375 s0_0 t376 t377) = some (r1, r2, r3) := H
        have H' := Aside0.mk H
        clear H
        obtain ⟨Ao24, co24, eo24⟩ := Kd.R_slice HO_3.out
        subst eo24
        go_wp2_with (first | (go_at_call 149; (with_reducible refine (spec_l1Cur_one.calls g s0_0 x1001_2 x1002_2 20 t375 t376 t377 w0 _ ?side1 ?side2 A23.out).mono ?_); (case side1 => repeat (first | (with_reducible first | exact HI0.out | apply IsS151.alloc | apply IsS151.drewN | apply IsS151.drew | apply IsS151.set_1 | apply IsS151.set_2) | exact HI0.out)); (case side2 => repeat (first | (with_reducible first | exact HB.out | apply below_alloc | apply pw_below_drewN | apply below_drew1 | refine below_set ?_ (IsS151.ge HI0.out)) | exact HB.out)); rintro e w25 ⟨rfl, hi, hb, hk⟩; replace HO_3 := ak (Kd.R_mono (Kd.R_keep (IsS151.apart (show IsS151 w0 _ g s0_0 x1001_2 x1002_2 from by repeat (first | (with_reducible first | exact HI0.out | apply IsS151.alloc | apply IsS151.drewN | apply IsS151.drew | apply IsS151.set_1 | apply IsS151.set_2) | exact HI0.out)) (rdl HO_3) (by decide)) hk (fun _ h => h.2)) (fun _ h => h.1)); replace HK := ak (KeepBut.trans (by repeat (first | (with_reducible first | exact HK.out | apply KeepBut.set_ | apply keep_drewN | apply keep_drew | apply keep_alloc) | exact HK.out)) hk (.inl rfl)); replace HB := ak (hb); replace HI0 := ak (hi); (try clear hb); (try clear hk); (try clear hi)))
        go_meet
        case rel => exact ⟨_, (t375), (t376), (t377), er, H', ⟨by have := HJ3.out; have := HK2.out; first | omega | exact Nat.le_refl _⟩, ⟨rdl HO_3⟩, ⟨by repeat (first | (with_reducible first | exact HI0.out | apply IsS151.alloc | apply IsS151.drewN | apply IsS151.drew | apply IsS151.set_1 | apply IsS151.set_2) | exact HI0.out)⟩, ⟨by repeat (first | (with_reducible first | exact HK.out | apply KeepBut.set_ | apply keep_drewN | apply keep_drew | apply keep_alloc) | exact HK.out)⟩, ⟨by repeat (first | (with_reducible first | exact HB.out | apply below_alloc | apply pw_below_drewN | apply below_drew1 | refine below_set ?_ (IsS151.ge HI0.out)) | exact HB.out)⟩⟩
       ·rw [if_neg c22] at H
        have c22b0 : decide (0 < (x3_2.length : Int)) = false := decide_eq_false c22
        have c22b1 : decide (0 < x3_2.length) = false := decide_eq_false (by omega)
        clear c22
        (first | rw [c22b0] | (simp only [i64_w, i32_w]; rw [c22b0]) | skip)
        have H' := Aside0.mk H
        clear H
        obtain ⟨Ao26, co26, eo26⟩ := Kd.R_slice HO_3.out
        subst eo26; go_wp2
        go_meet
        case rel => exact ⟨_, (false), (x1001_2), (x1002_2), er, H', ⟨by have := HJ3.out; have := HK2.out; first | omega | exact Nat.le_refl _⟩, ⟨rdl HO_3⟩, ⟨by repeat (first | (with_reducible first | exact HI0.out | apply IsS151.alloc | apply IsS151.drewN | apply IsS151.drew | apply IsS151.set_1 | apply IsS151.set_2) | exact HI0.out)⟩, ⟨by repeat (first | (with_reducible first | exact HK.out | apply KeepBut.set_ | apply keep_drewN | apply keep_drew | apply keep_alloc) | exact HK.out)⟩, ⟨by repeat (first | (with_reducible first | exact HB.out | apply below_alloc | apply pw_below_drewN | apply below_drew1 | refine below_set ?_ (IsS151.ge HI0.out)) | exact HB.out)⟩⟩
      case rest =>
       clear HC21; (try clear c10b0)
       obtain ⟨kq, x36_20, x1001_20, x1002_20, rfl, HA, HJ20, HO_3, HI0, HK, HB⟩ := hcut
       cases kq with
       | zero => exact absurd HA.out (by simp [spec_l1Cur_statements.j2])
       | succ kj20 =>
        have H := HA.out; clear HA
        simp only [spec_l1Cur_statements.j2] at H
        by_cases c27 : x36_20 = true
        ·subst c27
         have H1 : ((spec_l1Cur_among.f s0_0 x1001_20 x1002_20 (([(-1), 6, 7] : List Int))).bind fun bt381 => ((spec_l1Cur_claim.f s0_0 bt381.2.1 bt381.2.2).bind fun bt384 => (if 0 < (x3_2.length : Int) then (some ((x3_2.set (0 : Int).toNat (⟨bt381.1, (⟨bt384.1, bt384.2.1, bt384.2.2.1⟩ : S85), false⟩ : S91)), bt384.2.2.2.1, bt384.2.2.2.2)) else (none)))) = some (r1, r2, r3) := by rw [if_pos rfl] at H; exact H
         clear H
         have H := H1
         clear H1
         obtain ⟨y378, hy_⟩ : ∃ y_ : List Int, y_ = (([(-1), 6, 7] : List Int)) := ⟨_, rfl⟩
         replace H : ((spec_l1Cur_among.f s0_0 x1001_20 x1002_20 y378).bind fun bt381 => ((spec_l1Cur_claim.f s0_0 bt381.2.1 bt381.2.2).bind fun bt384 => (if 0 < (x3_2.length : Int) then (some ((x3_2.set (0 : Int).toNat (⟨bt381.1, (⟨bt384.1, bt384.2.1, bt384.2.2.1⟩ : S85), false⟩ : S91)), bt384.2.2.2.1, bt384.2.2.2.2)) else (none)))) = some (r1, r2, r3) := yH
         have Ny378 := ak hy_; clear hy_; replace H := bS H; obtain ⟨⟨t381, t382, t383⟩, A28, H⟩ := H
         replace H : ((spec_l1Cur_claim.f s0_0 t382 t383).bind fun bt384 => (if 0 < (x3_2.length : Int) then (some ((x3_2.set (0 : Int).toNat (⟨t381, (⟨bt384.1, bt384.2.1, bt384.2.2.1⟩ : S85), false⟩ : S91)), bt384.2.2.2.1, bt384.2.2.2.2)) else (none))) = some (r1, r2, r3) := H
         replace H := bS H; obtain ⟨⟨t384, t385, t386, t387, t388⟩, A29, H⟩ := H
         replace H : (if 0 < (x3_2.length : Int) then (some ((x3_2.set (0 : Int).toNat (⟨t381, (⟨t384, t385, t386⟩ : S85), false⟩ : S91)), t387, t388)) else (none)) = some (r1, r2, r3) := H
         replace H := ifS H; obtain ⟨c30, H⟩ := H; have c30b0 := decide_eq_true c30
         have c30b1 : decide (0 < x3_2.length) = true := decide_eq_true (by omega)
         clear c30
         obtain ⟨y389, hy_⟩ : ∃ y_ : List (S91), y_ = (x3_2.set (0 : Int).toNat (⟨t381, (⟨t384, t385, t386⟩ : S85), false⟩ : S91)) := ⟨_, rfl⟩
         replace H : (some (y389, t387, t388)) = some (r1, r2, r3) := yH
         have Ny389 := ak hy_; clear hy_
         simp only [Option.some.injEq, Prod.mk.injEq] at H
         obtain ⟨rfl, rfl, rfl⟩ := H
         go_wp2_with (first | ((with_reducible refine gate_dst (N := 39) rfl ?_); refine Kd.R_lit (Kd.int .i64) _ 3 ?hg (N := 39) ?hd (xs := ([(-1), 6, 7] : List Int)) (inner := [.int .i64 (-1), .int .i64 6, .int .i64 7]) (ok := fun _ => True) (okp := fun _ => True) ?hr ?hp (fun _ hk => hk) trivial (Below.refl _ _) (Nat.le_refl _) (by simp) ?_; (case hd => rfl); (case hg => rfl); (case hr => first | (go_simp; done) | (go_simp; rfl)); (case hp => exact (Reps.one (show Kd.M (Kd.int .i64) _ _ _ (-1) [.int .i64 (-1)] from rfl) (Reps.one (show Kd.M (Kd.int .i64) _ _ _ 6 [.int .i64 6] from rfl) (Reps.one (show Kd.M (Kd.int .i64) _ _ _ 7 [.int .i64 7] from rfl) (Reps.none _ _))))); intro v379 w32 ho33 hb hg_ hnew_; clear hg_ hnew_; (first | rw [← Ny378.out] at ho33 | (simp only [Int.reduceToNat] at ho33; rw [← Ny378.out] at ho33)); replace HO_3 := ak (Kd.R_below (rdl HO_3) hb); have HO380 := ak (Kd.R_lower ho33 (keep_size (w := w) (g := g) (row := none) (by repeat (first | (with_reducible first | exact HK.out | apply KeepBut.set_ | apply keep_drewN | apply keep_drew | apply keep_alloc) | exact HK.out)))); replace HK := ak (KeepBut.trans (by repeat (first | (with_reducible first | exact HK.out | apply KeepBut.set_ | apply keep_drewN | apply keep_drew | apply keep_alloc) | exact HK.out)) (KeepBut.of_below hb g none) (.inl rfl)); replace HB := ak (below_step (by repeat (first | (with_reducible first | exact HB.out | apply below_alloc | apply pw_below_drewN | apply below_drew1 | refine below_set ?_ (IsS151.ge HI0.out)) | exact HB.out)) hb); replace HI0 := ak (IsS151.below (by repeat (first | (with_reducible first | exact HI0.out | apply IsS151.alloc | apply IsS151.drewN | apply IsS151.drew | apply IsS151.set_1 | apply IsS151.set_2) | exact HI0.out)) hb); clear hb ho33; obtain ⟨Ao34, co34, eo34⟩ := Kd.R_slice HO380.out; subst eo34) | ((with_reducible refine gate_callee (f := 166) rfl ?_); refine goesLa (some 40) rfl Try.func166 #[.pointer (some ⟨g, 0, none⟩), .slice Ao34 y378.length co34] rfl ?_; (with_reducible refine (spec_l1Cur_among.calls g s0_0 x1001_20 x1002_20 _ _ y378 t381 t382 t383 w0 _ ?side1 ?side2 ?side3 ?side4 ?side5 A28.out).mono ?_); (case side1 => repeat (first | (with_reducible first | exact HI0.out | apply IsS151.alloc | apply IsS151.drewN | apply IsS151.drew | apply IsS151.set_1 | apply IsS151.set_2) | exact HI0.out)); (case side2 => repeat (first | (with_reducible first | exact HB.out | apply below_alloc | apply pw_below_drewN | apply below_drew1 | refine below_set ?_ (IsS151.ge HI0.out)) | exact HB.out)); (case side3 => exact cd (Kd.R_reads' HO380.out).2.2); (case side4 => exact (Kd.R_reads' HO380.out).2.1); (case side5 => exact far_slice (IsS151.own_ne HI0.out HO380.out (by decide))); rintro e w35 ⟨rfl, hi, hb, hk⟩; refine ⟨_, rfl, ?_⟩; replace HO_3 := ak (Kd.R_mono (Kd.R_keep (IsS151.apart (show IsS151 w0 _ g s0_0 x1001_20 x1002_20 from by repeat (first | (with_reducible first | exact HI0.out | apply IsS151.alloc | apply IsS151.drewN | apply IsS151.drew | apply IsS151.set_1 | apply IsS151.set_2) | exact HI0.out)) (rdl HO_3) (by decide)) hk (fun _ h => h.2)) (fun _ h => h.1)); replace HO380 := ak (Kd.R_mono (Kd.R_keep (IsS151.apart (show IsS151 w0 _ g s0_0 x1001_20 x1002_20 from by repeat (first | (with_reducible first | exact HI0.out | apply IsS151.alloc | apply IsS151.drewN | apply IsS151.drew | apply IsS151.set_1 | apply IsS151.set_2) | exact HI0.out)) (rdl HO380) (by decide)) hk (fun _ h => h.2)) (fun _ h => h.1)); replace HK := ak (KeepBut.trans (by repeat (first | (with_reducible first | exact HK.out | apply KeepBut.set_ | apply keep_drewN | apply keep_drew | apply keep_alloc) | exact HK.out)) hk (.inl rfl)); replace HB := ak (hb); replace HI0 := ak (hi); (try clear hb); (try clear hk); (try clear hi)) | ((with_reducible refine gate_callee (f := 148) rfl ?_); refine goesLa (some 42) rfl Try.func148 #[.pointer (some ⟨g, 0, none⟩)] rfl ?_; (with_reducible refine (spec_l1Cur_claim.calls g s0_0 t382 t383 t384 t385 t386 t387 t388 w0 _ ?side1 ?side2 A29.out).mono ?_); (case side1 => repeat (first | (with_reducible first | exact HI0.out | apply IsS151.alloc | apply IsS151.drewN | apply IsS151.drew | apply IsS151.set_1 | apply IsS151.set_2) | exact HI0.out)); (case side2 => repeat (first | (with_reducible first | exact HB.out | apply below_alloc | apply pw_below_drewN | apply below_drew1 | refine below_set ?_ (IsS151.ge HI0.out)) | exact HB.out)); rintro e w36 ⟨rfl, hi, hb, hk⟩; refine ⟨_, rfl, ?_⟩; replace HO_3 := ak (Kd.R_mono (Kd.R_keep (IsS151.apart (show IsS151 w0 _ g s0_0 t382 t383 from by repeat (first | (with_reducible first | exact HI0.out | apply IsS151.alloc | apply IsS151.drewN | apply IsS151.drew | apply IsS151.set_1 | apply IsS151.set_2) | exact HI0.out)) (rdl HO_3) (by decide)) hk (fun _ h => h.2)) (fun _ h => h.1)); replace HO380 := ak (Kd.R_mono (Kd.R_keep (IsS151.apart (show IsS151 w0 _ g s0_0 t382 t383 from by repeat (first | (with_reducible first | exact HI0.out | apply IsS151.alloc | apply IsS151.drewN | apply IsS151.drew | apply IsS151.set_1 | apply IsS151.set_2) | exact HI0.out)) (rdl HO380) (by decide)) hk (fun _ h => h.2)) (fun _ h => h.1)); replace HK := ak (KeepBut.trans (by repeat (first | (with_reducible first | exact HK.out | apply KeepBut.set_ | apply keep_drewN | apply keep_drew | apply keep_alloc) | exact HK.out)) hk (.inl rfl)); replace HB := ak (hb); replace HI0 := ak (hi); (try clear hb); (try clear hk); (try clear hi); have p31 : 0 ≤ (0 : Int) := (by omega); have q31 : (0 : Int) < ((x3_2.length : Int) : Int) := da; have qi31 : (0 < x3_2.length) = True := eq_true (by omega); obtain ⟨go31, co31, eo31, gb31, gl31, cl31, HG31⟩ := Kd.R_form HO_3.out (by omega); (first | cases eo31 | (injection eo31 with ea_ en_ ec_; (first | subst ea_ | (injection ea_ with ea_; subst ea_)); subst ec_; clear en_)); have GB31 := Aside0.mk gb31; have GG31 := Aside0.mk HG31; clear gb31 gl31 HG31; obtain ⟨ce31, hcl31, hM31, hcc31, hfr31⟩ := Kd.R_elem HO_3.out z91 (0 : Int) p31 q31; obtain rfl := k91_openM hM31; have hx31_0 : w36.cell? ⟨go31, (0 : Int).toNat * 5, none⟩ = some (.int .i64 ((rd_T91 x3_2 0).f0)) := hcc31 0 _ rfl; have hx31_1 : w36.cell? ⟨go31, (0 : Int).toNat * 5 + 1, none⟩ = some (.int .i64 ((rd_T91 x3_2 0).f1.f0)) := hcc31 1 _ rfl; have hx31_2 : w36.cell? ⟨go31, (0 : Int).toNat * 5 + 2, none⟩ = some (.int .i64 ((rd_T91 x3_2 0).f1.f1)) := hcc31 2 _ rfl; have hx31_3 : w36.cell? ⟨go31, (0 : Int).toNat * 5 + 3, none⟩ = some (.int .i64 ((rd_T91 x3_2 0).f1.f2)) := hcc31 3 _ rfl; have hx31_4 : w36.cell? ⟨go31, (0 : Int).toNat * 5 + 4, none⟩ = some (.bool ((rd_T91 x3_2 0).f2)) := hcc31 4 _ rfl; have hf31_0 : w36.frozen? ⟨go31, (0 : Int).toNat * 5, none⟩ = false := hfr31 0; have hf31_1 : w36.frozen? ⟨go31, (0 : Int).toNat * 5 + 1, none⟩ = false := hfr31 1; have hf31_2 : w36.frozen? ⟨go31, (0 : Int).toNat * 5 + 2, none⟩ = false := hfr31 2; have hf31_3 : w36.frozen? ⟨go31, (0 : Int).toNat * 5 + 3, none⟩ = false := hfr31 3; have hf31_4 : w36.frozen? ⟨go31, (0 : Int).toNat * 5 + 4, none⟩ = false := hfr31 4; clear hcl31 hcc31 hfr31 hM31; (try rw [show ((0 : Int)).toNat = 0 from rfl] at hx31_0); (try simp only [Nat.reduceMul, Nat.zero_mul, Nat.zero_add, Nat.reduceAdd] at hx31_0); (try rw [show ((0 : Int)).toNat = 0 from rfl] at hf31_0); (try simp only [Nat.reduceMul, Nat.zero_mul, Nat.zero_add, Nat.reduceAdd] at hf31_0); (try rw [show ((0 : Int)).toNat = 0 from rfl] at hx31_1); (try simp only [Nat.reduceMul, Nat.zero_mul, Nat.zero_add, Nat.reduceAdd] at hx31_1); (try rw [show ((0 : Int)).toNat = 0 from rfl] at hf31_1); (try simp only [Nat.reduceMul, Nat.zero_mul, Nat.zero_add, Nat.reduceAdd] at hf31_1); (try rw [show ((0 : Int)).toNat = 0 from rfl] at hx31_2); (try simp only [Nat.reduceMul, Nat.zero_mul, Nat.zero_add, Nat.reduceAdd] at hx31_2); (try rw [show ((0 : Int)).toNat = 0 from rfl] at hf31_2); (try simp only [Nat.reduceMul, Nat.zero_mul, Nat.zero_add, Nat.reduceAdd] at hf31_2); (try rw [show ((0 : Int)).toNat = 0 from rfl] at hx31_3); (try simp only [Nat.reduceMul, Nat.zero_mul, Nat.zero_add, Nat.reduceAdd] at hx31_3); (try rw [show ((0 : Int)).toNat = 0 from rfl] at hf31_3); (try simp only [Nat.reduceMul, Nat.zero_mul, Nat.zero_add, Nat.reduceAdd] at hf31_3); (try rw [show ((0 : Int)).toNat = 0 from rfl] at hx31_4); (try simp only [Nat.reduceMul, Nat.zero_mul, Nat.zero_add, Nat.reduceAdd] at hx31_4); (try rw [show ((0 : Int)).toNat = 0 from rfl] at hf31_4); (try simp only [Nat.reduceMul, Nat.zero_mul, Nat.zero_add, Nat.reduceAdd] at hf31_4); replace p31 := eq_true p31; replace q31 := eq_true q31; have HX37 := Aside0.mk (show Kd.R k91 91 w36 w.heap.size (fun _ => True) (.slice (some ⟨go31, 0, none⟩) x3_2.length co31) x3_2 from (rdl HO_3)); obtain ⟨ce37, hcl37, hM37, hcc37, hfr37⟩ := Kd.R_elem HX37.out z91 (0 : Int) (by omega) (by have h_ : (0 : Int) < ((x3_2.length : Int) : Int) := da; first | exact h_ | (have e_ := (Kd.R_reads' HO_3.out).1; omega) | simpa using h_); obtain rfl := k91_openM hM37; have HP37 := Kd.R_seg HX37.out (0 : Int) (by omega) (by have h_ : (0 : Int) < ((x3_2.length : Int) : Int) := da; first | exact h_ | (have e_ := (Kd.R_reads' HO_3.out).1; omega) | simpa using h_) (seg := [.int .i64 t381, .int .i64 t384, .int .i64 t385, .int .i64 t386, .bool false]) (j := 0) hcl37 hcc37 (show 5 ≤ 5 from by decide) (x' := (⟨t381, (⟨t384, t385, t386⟩ : S85), false⟩ : S91)) (k91_mkM _ _ _ (⟨t381, (⟨t384, t385, t386⟩ : S85), false⟩ : S91) ) (fun _ hk => hk); have hx37_0 := hcc37 0 _ rfl; (try simp only [show (k91).sz = 5 from rfl, Nat.mul_one, Nat.add_zero] at hx37_0); (try rw [show ((0 : Int)).toNat = 0 from rfl] at hx37_0); (try simp only [Nat.reduceMul, Nat.zero_mul, Nat.zero_add, Nat.reduceAdd] at hx37_0); have hf37_0 := hfr37 0; (try simp only [show (k91).sz = 5 from rfl, Nat.mul_one, Nat.add_zero] at hf37_0); (try rw [show ((0 : Int)).toNat = 0 from rfl] at hf37_0); (try simp only [Nat.reduceMul, Nat.zero_mul, Nat.zero_add, Nat.reduceAdd] at hf37_0); have hx37_1 := hcc37 1 _ rfl; (try simp only [show (k91).sz = 5 from rfl, Nat.mul_one, Nat.add_zero] at hx37_1); (try rw [show ((0 : Int)).toNat = 0 from rfl] at hx37_1); (try simp only [Nat.reduceMul, Nat.zero_mul, Nat.zero_add, Nat.reduceAdd] at hx37_1); have hf37_1 := hfr37 1; (try simp only [show (k91).sz = 5 from rfl, Nat.mul_one, Nat.add_zero] at hf37_1); (try rw [show ((0 : Int)).toNat = 0 from rfl] at hf37_1); (try simp only [Nat.reduceMul, Nat.zero_mul, Nat.zero_add, Nat.reduceAdd] at hf37_1); have hx37_2 := hcc37 2 _ rfl; (try simp only [show (k91).sz = 5 from rfl, Nat.mul_one, Nat.add_zero] at hx37_2); (try rw [show ((0 : Int)).toNat = 0 from rfl] at hx37_2); (try simp only [Nat.reduceMul, Nat.zero_mul, Nat.zero_add, Nat.reduceAdd] at hx37_2); have hf37_2 := hfr37 2; (try simp only [show (k91).sz = 5 from rfl, Nat.mul_one, Nat.add_zero] at hf37_2); (try rw [show ((0 : Int)).toNat = 0 from rfl] at hf37_2); (try simp only [Nat.reduceMul, Nat.zero_mul, Nat.zero_add, Nat.reduceAdd] at hf37_2); have hx37_3 := hcc37 3 _ rfl; (try simp only [show (k91).sz = 5 from rfl, Nat.mul_one, Nat.add_zero] at hx37_3); (try rw [show ((0 : Int)).toNat = 0 from rfl] at hx37_3); (try simp only [Nat.reduceMul, Nat.zero_mul, Nat.zero_add, Nat.reduceAdd] at hx37_3); have hf37_3 := hfr37 3; (try simp only [show (k91).sz = 5 from rfl, Nat.mul_one, Nat.add_zero] at hf37_3); (try rw [show ((0 : Int)).toNat = 0 from rfl] at hf37_3); (try simp only [Nat.reduceMul, Nat.zero_mul, Nat.zero_add, Nat.reduceAdd] at hf37_3); have hx37_4 := hcc37 4 _ rfl; (try simp only [show (k91).sz = 5 from rfl, Nat.mul_one, Nat.add_zero] at hx37_4); (try rw [show ((0 : Int)).toNat = 0 from rfl] at hx37_4); (try simp only [Nat.reduceMul, Nat.zero_mul, Nat.zero_add, Nat.reduceAdd] at hx37_4); have hf37_4 := hfr37 4; (try simp only [show (k91).sz = 5 from rfl, Nat.mul_one, Nat.add_zero] at hf37_4); (try rw [show ((0 : Int)).toNat = 0 from rfl] at hf37_4); (try simp only [Nat.reduceMul, Nat.zero_mul, Nat.zero_add, Nat.reduceAdd] at hf37_4); clear hcl37 hcc37 hfr37 hM37) | ((with_reducible refine gate_store (t := 91) (p := 44) rfl ?_); refine store_event (t := 91) (p := 44) (v := ?vo_w38) (w1 := (((((w36.setCell ⟨go31, 0, none⟩ (.int .i64 t381)).setCell ⟨go31, 1, none⟩ (.int .i64 t384)).setCell ⟨go31, 2, none⟩ (.int .i64 t385)).setCell ⟨go31, 3, none⟩ (.int .i64 t386)).setCell ⟨go31, 4, none⟩ (.bool false))) ?hg ?ho ?hn ?hr ?_; (case ho => rfl); (case hg => rfl); (case hn => rfl); (case hr => first | (go_simp; done) | (go_simp; rfl)); intro w38 hw; have hg : w36.grownBy w38 (some go31) := (by rw [hw]; exact HP37.2); have hp_ : Kd.R k91 91 w38 w.heap.size (fun _ => True) (.slice (some ⟨go31, 0, none⟩) x3_2.length co31) y389 := (by rw [hw, Ny389.out]; exact HP37.1); clear HP37; replace HI0 := ak (IsS151.grown (by repeat (first | (with_reducible first | exact HI0.out | apply IsS151.alloc | apply IsS151.drewN | apply IsS151.drew | apply IsS151.set_1 | apply IsS151.set_2) | exact HI0.out)) hg (IsS151.own_ne HI0.out HO_3.out (by decide))); replace HO380 := ak (Kd.R_over' (v := (.slice (some ⟨go31, 0, none⟩) x3_2.length co31)) (rdl HO380) (Kd.R_typed HO_3.out) (by decide) hg); replace HB := ak ((by rw [hw]; exact below_set (below_set (below_set (below_set (below_set (HB.out) (Nat.le_trans HL.out GB31.out)) (Nat.le_trans HL.out GB31.out)) (Nat.le_trans HL.out GB31.out)) (Nat.le_trans HL.out GB31.out)) (Nat.le_trans HL.out GB31.out) : Below w0.heap.size w0 w38)); replace HK := ak (KeepBut.trans (by repeat (first | (with_reducible first | exact HK.out | apply KeepBut.set_ | apply keep_drewN | apply keep_drew | apply keep_alloc) | exact HK.out)) (KeepBut.of_grown hg g) (Kd.R_base2 HO_3.out)); replace HO_3 := ak (hp_); clear hg hw hp_))
         go_ret
         exact ⟨_, er2, by (with_reducible repeat (first | apply Kd.R_alloc | apply Kd.R_drewN | apply Kd.R_drew)); exact HO_3.out, by repeat (first | (with_reducible first | exact HI0.out | apply IsS151.alloc | apply IsS151.drewN | apply IsS151.drew | apply IsS151.set_1 | apply IsS151.set_2) | exact HI0.out), by repeat (first | (with_reducible first | exact HB.out | apply below_alloc | apply pw_below_drewN | apply below_drew1 | refine below_set ?_ (IsS151.ge HI0.out)) | exact HB.out), by repeat (first | (with_reducible first | exact HK.out | apply KeepBut.set_ | apply keep_drewN | apply keep_drew | apply keep_alloc) | exact HK.out)⟩
        ·replace c27 := Bool.eq_false_iff.mpr c27
         subst c27
         have H1 : (some (x3_2, x1001_20, x1002_20)) = some (r1, r2, r3) := by rw [if_neg (show ¬ (false = true) by decide)] at H; exact H
         clear H
         have H := H1
         clear H1
         simp only [Option.some.injEq, Prod.mk.injEq] at H
         obtain ⟨rfl, rfl, rfl⟩ := H; go_wp2
         go_ret
         exact ⟨_, er2, by (with_reducible repeat (first | apply Kd.R_alloc | apply Kd.R_drewN | apply Kd.R_drew)); exact HO_3.out, by repeat (first | (with_reducible first | exact HI0.out | apply IsS151.alloc | apply IsS151.drewN | apply IsS151.drew | apply IsS151.set_1 | apply IsS151.set_2) | exact HI0.out), by repeat (first | (with_reducible first | exact HB.out | apply below_alloc | apply pw_below_drewN | apply below_drew1 | refine below_set ?_ (IsS151.ge HI0.out)) | exact HB.out), by repeat (first | (with_reducible first | exact HK.out | apply KeepBut.set_ | apply keep_drewN | apply keep_drew | apply keep_alloc) | exact HK.out)⟩

/-! ### spec_l1Cur_claims: function 162 -/
mutual
def spec_l1Cur_claims.j0 : Nat → List (S85) → Int → List Int → Int → Int → Option ((List (S85)) × Int × Int)
  | 0, _, _, _, _, _ => none
  | k + 1, x3, x4, x1000, x1001, x1002 => spec_l1Cur_claims.l0 k x3 x4 x1000 x1001 x1002
def spec_l1Cur_claims.l0 : Nat → List (S85) → Int → List Int → Int → Int → Option ((List (S85)) × Int × Int)
  | 0, _, _, _, _, _ => none
  | k + 1, x3, x4, x1000, x1001, x1002 => if x4 > 0 then ((spec_l1Cur_pick.f x1000 x1001 x1002 3).bind fun bt399 => ((spec_l1Cur_pick.f x1000 bt399.2.1 bt399.2.2 3).bind fun bt402 => ((spec_l1Cur_pick.f x1000 bt402.2.1 bt402.2.2 2).bind fun bt405 => (if x3.length < 5864062014805 then (spec_l1Cur_claims.l0 k (x3 ++ [(⟨bt399.1, bt402.1, bt405.1⟩ : S85)]) (wrap64 (x4 - 1)) x1000 bt405.2.1 bt405.2.2) else (none))))) else (if (x3.length : Int) > 0 then ((spec_l1Cur_one.f x1000 x1001 x1002 30).bind fun bt411 => (if bt411.1 = true then ((spec_l1Cur_claim.f x1000 bt411.2.1 bt411.2.2).bind fun bt414 => (if 0 < (x3.length : Int) then (some ((x3.set (0 : Int).toNat (⟨bt414.1, bt414.2.1, bt414.2.2.1⟩ : S85)), bt414.2.2.2.1, bt414.2.2.2.2)) else (none))) else (some (x3, bt411.2.1, bt411.2.2)))) else (some (x3, x1001, x1002)))
end
def spec_l1Cur_claims.f (k : Nat) (s0_0 : List Int) (s0_1 : Int) (s0_2 : Int) : Option ((List (S85)) × Int × Int) := (spec_l1Cur_pick.f s0_0 s0_1 s0_2 9).bind fun bt390 => ((spec_l1Cur_one.f s0_0 bt390.2.1 bt390.2.2 20).bind fun bt393 => (if bt393.1 = true then ((spec_l1Cur_pick.f s0_0 bt393.2.1 bt393.2.2 2).bind fun bt396 => (spec_l1Cur_claims.j0 k ([] : List (S85)) (wrap64 (60 + bt396.1)) s0_0 bt396.2.1 bt396.2.2)) else (spec_l1Cur_claims.j0 k ([] : List (S85)) bt390.1 s0_0 bt393.2.1 bt393.2.2)))
theorem spec_l1Cur_claims.mono_l : ∀ k, (∀ y0 y1 y2 y3 y4, LeO (spec_l1Cur_claims.j0 k y0 y1 y2 y3 y4) (spec_l1Cur_claims.j0 (k + 1) y0 y1 y2 y3 y4)) ∧ (∀ y0 y1 y2 y3 y4, LeO (spec_l1Cur_claims.l0 k y0 y1 y2 y3 y4) (spec_l1Cur_claims.l0 (k + 1) y0 y1 y2 y3 y4))
 | 0 => ⟨fun _ _ _ _ _ r h => by simp [spec_l1Cur_claims.j0] at h, fun _ _ _ _ _ r h => by simp [spec_l1Cur_claims.l0] at h⟩
 | k + 1 => by
  obtain ⟨ih0, ih1⟩ := spec_l1Cur_claims.mono_l k
  refine ⟨?_, ?_⟩
  ·intro y0 y1 y2 y3 y4
   unfold spec_l1Cur_claims.j0
   repeat' (first | (with_reducible first | exact ih0 _ _ _ _ _ | exact ih1 _ _ _ _ _ | exact LeO.refl _ | exact LeO.none _ | refine LeO.ite ?_ ?_ | refine LeO.bind ?_ (fun _ => ?_)) | exact ih0 _ _ _ _ _ | exact ih1 _ _ _ _ _ | exact LeO.none _ | refine LeO.ite ?_ ?_ | refine LeO.bind ?_ (fun _ => ?_))
  ·intro y0 y1 y2 y3 y4
   unfold spec_l1Cur_claims.l0
   repeat' (first | (with_reducible first | exact ih0 _ _ _ _ _ | exact ih1 _ _ _ _ _ | exact LeO.refl _ | exact LeO.none _ | refine LeO.ite ?_ ?_ | refine LeO.bind ?_ (fun _ => ?_)) | exact ih0 _ _ _ _ _ | exact ih1 _ _ _ _ _ | exact LeO.none _ | refine LeO.ite ?_ ?_ | refine LeO.bind ?_ (fun _ => ?_))
theorem spec_l1Cur_claims.mono : ∀ a0 a1 a2 k, LeO (spec_l1Cur_claims.f k a0 a1 a2) (spec_l1Cur_claims.f (k + 1) a0 a1 a2) := by
 intro a0 a1 a2 k
 obtain ⟨ih0, ih1⟩ := spec_l1Cur_claims.mono_l k
 unfold spec_l1Cur_claims.f
 repeat' (first | (with_reducible first | exact ih0 _ _ _ _ _ | exact ih1 _ _ _ _ _ | exact LeO.refl _ | exact LeO.none _ | refine LeO.ite ?_ ?_ | refine LeO.bind ?_ (fun _ => ?_)) | exact ih0 _ _ _ _ _ | exact ih1 _ _ _ _ _ | exact LeO.none _ | refine LeO.ite ?_ ?_ | refine LeO.bind ?_ (fun _ => ?_))
set_option maxHeartbeats 8000000 in
set_option maxRecDepth 100000 in
theorem spec_l1Cur_claims.calls (k : Nat) (g : Nat) (s0_0 : List Int) (s0_1 : Int) (s0_2 : Int) (r1 : List (S85)) (r2 : Int) (r3 : Int) (w0 w : World) (hI : IsS151 w0 w g s0_0 s0_1 s0_2) (hB : Below w0.heap.size w0 w) (h : spec_l1Cur_claims.f k s0_0 s0_1 s0_2 = some (r1, r2, r3)) :
  Calls Try.prog 162 #[.pointer (some ⟨g, 0, none⟩)] w fun e w' => ∃ v0_ : Value, e = .returned (v0_) ∧ Kd.R k85 85 w' w.heap.size (fun _ => True) v0_ r1 ∧ IsS151 w0 w' g s0_0 r2 r3 ∧ Below w0.heap.size w0 w' ∧ KeepBut w w' g none := by
 have hu85 := Try.underlying85
 have HI0 := Aside0.mk hI
 have HK := Aside0.mk (KeepBut.refl w g none)
 have HL := Aside0.mk hB.size
 clear hI
 have HW0 := Aside0.mk hB.size
 have HB := Aside0.mk hB; clear hB
 have H : ((spec_l1Cur_pick.f s0_0 s0_1 s0_2 9).bind fun bt390 => ((spec_l1Cur_one.f s0_0 bt390.2.1 bt390.2.2 20).bind fun bt393 => (if bt393.1 = true then ((spec_l1Cur_pick.f s0_0 bt393.2.1 bt393.2.2 2).bind fun bt396 => (spec_l1Cur_claims.j0 k ([] : List (S85)) (wrap64 (60 + bt396.1)) s0_0 bt396.2.1 bt396.2.2)) else (spec_l1Cur_claims.j0 k ([] : List (S85)) bt390.1 s0_0 bt393.2.1 bt393.2.2)))) = some (r1, r2, r3) := h
 clear h; replace H := bS H; obtain ⟨⟨t390, t391, t392⟩, A2, H⟩ := H
 replace H : ((spec_l1Cur_one.f s0_0 t391 t392 20).bind fun bt393 => (if bt393.1 = true then ((spec_l1Cur_pick.f s0_0 bt393.2.1 bt393.2.2 2).bind fun bt396 => (spec_l1Cur_claims.j0 k ([] : List (S85)) (wrap64 (60 + bt396.1)) s0_0 bt396.2.1 bt396.2.2)) else (spec_l1Cur_claims.j0 k ([] : List (S85)) t390 s0_0 bt393.2.1 bt393.2.2))) = some (r1, r2, r3) := H
 replace H := bS H; obtain ⟨⟨t393, t394, t395⟩, A3, H⟩ := H
 replace H : (if t393 = true then ((spec_l1Cur_pick.f s0_0 t394 t395 2).bind fun bt396 => (spec_l1Cur_claims.j0 k ([] : List (S85)) (wrap64 (60 + bt396.1)) s0_0 bt396.2.1 bt396.2.2)) else (spec_l1Cur_claims.j0 k ([] : List (S85)) t390 s0_0 t394 t395)) = some (r1, r2, r3) := H
 have HC4 := Aside0.mk H; clear H
 go_enter Try.func162, Try.ntmps162
 go_upto_if 8 with (first | ((with_reducible refine gate_callee (f := 147) rfl ?_); refine goesLa (some 6) rfl Try.func147 #[.pointer (some ⟨g, 0, none⟩), .int .i64 9] rfl ?_; (with_reducible refine (spec_l1Cur_pick.calls g s0_0 s0_1 s0_2 9 t390 t391 t392 w0 _ ?side1 ?side2 A2.out).mono ?_); (case side1 => repeat (first | (with_reducible first | exact HI0.out | apply IsS151.alloc | apply IsS151.drewN | apply IsS151.drew | apply IsS151.set_1 | apply IsS151.set_2) | exact HI0.out)); (case side2 => repeat (first | (with_reducible first | exact HB.out | apply below_alloc | apply pw_below_drewN | apply below_drew1 | refine below_set ?_ (IsS151.ge HI0.out)) | exact HB.out)); rintro e w5 ⟨rfl, hi, hb, hk⟩; refine ⟨_, rfl, ?_⟩; replace HK := ak (KeepBut.trans (by repeat (first | (with_reducible first | exact HK.out | apply KeepBut.set_ | apply keep_drewN | apply keep_drew | apply keep_alloc) | exact HK.out)) hk (.inl rfl)); replace HB := ak (hb); replace HI0 := ak (hi); (try clear hb); (try clear hk); (try clear hi)) | ((with_reducible refine gate_callee (f := 149) rfl ?_); refine goesLa (some 8) rfl Try.func149 #[.pointer (some ⟨g, 0, none⟩), .int .i64 20] rfl ?_; (with_reducible refine (spec_l1Cur_one.calls g s0_0 t391 t392 20 t393 t394 t395 w0 _ ?side1 ?side2 A3.out).mono ?_); (case side1 => repeat (first | (with_reducible first | exact HI0.out | apply IsS151.alloc | apply IsS151.drewN | apply IsS151.drew | apply IsS151.set_1 | apply IsS151.set_2) | exact HI0.out)); (case side2 => repeat (first | (with_reducible first | exact HB.out | apply below_alloc | apply pw_below_drewN | apply below_drew1 | refine below_set ?_ (IsS151.ge HI0.out)) | exact HB.out)); rintro e w6 ⟨rfl, hi, hb, hk⟩; refine ⟨_, rfl, ?_⟩; replace HK := ak (KeepBut.trans (by repeat (first | (with_reducible first | exact HK.out | apply KeepBut.set_ | apply keep_drewN | apply keep_drew | apply keep_alloc) | exact HK.out)) hk (.inl rfl)); replace HB := ak (hb); replace HI0 := ak (hi); (try clear hb); (try clear hk); (try clear hi)))
 (try simp only [Act.put, List.setIfInBounds_toArray, List.set_cons_zero, List.set_cons_succ])
 go_cut [4] (fun v4 wc => ∃ (kq : Nat) (x4_3 : Int) (x1001_3 : Int) (x1002_3 : Int), v4 = .int .i64 x4_3 ∧ Aside0 (spec_l1Cur_claims.j0 kq ([] : List (S85)) x4_3 s0_0 x1001_3 x1002_3 = some (r1, r2, r3)) ∧ Aside0 (kq ≤ k) ∧ Aside0 (Kd.R k85 85 wc w.heap.size (fun _ => True) (.slice none 0 0) ([] : List (S85))) ∧ Aside0 (IsS151 w0 wc g s0_0 x1001_3 x1002_3) ∧ Aside0 (KeepBut w wc g none) ∧ Aside0 (Below w0.heap.size w0 wc))
 case first =>
  have H := HC4.out; clear HC4
  by_cases c7 : t393 = true
  ·subst c7
   have H1 : ((spec_l1Cur_pick.f s0_0 t394 t395 2).bind fun bt396 => (spec_l1Cur_claims.j0 k ([] : List (S85)) (wrap64 (60 + bt396.1)) s0_0 bt396.2.1 bt396.2.2)) = some (r1, r2, r3) := by rw [if_pos rfl] at H; exact H
   clear H
   have H := H1
   clear H1; replace H := bS H; obtain ⟨⟨t396, t397, t398⟩, A8, H⟩ := H
   replace H : (spec_l1Cur_claims.j0 k ([] : List (S85)) (wrap64 (60 + t396)) s0_0 t397 t398) = some (r1, r2, r3) := H
   have H' := Aside0.mk H
   clear H
   go_wp2_with (first | ((with_reducible refine gate_callee (f := 147) rfl ?_); refine goesLa (some 10) rfl Try.func147 #[.pointer (some ⟨g, 0, none⟩), .int .i64 2] rfl ?_; (with_reducible refine (spec_l1Cur_pick.calls g s0_0 t394 t395 2 t396 t397 t398 w0 _ ?side1 ?side2 A8.out).mono ?_); (case side1 => repeat (first | (with_reducible first | exact HI0.out | apply IsS151.alloc | apply IsS151.drewN | apply IsS151.drew | apply IsS151.set_1 | apply IsS151.set_2) | exact HI0.out)); (case side2 => repeat (first | (with_reducible first | exact HB.out | apply below_alloc | apply pw_below_drewN | apply below_drew1 | refine below_set ?_ (IsS151.ge HI0.out)) | exact HB.out)); rintro e w9 ⟨rfl, hi, hb, hk⟩; refine ⟨_, rfl, ?_⟩; replace HK := ak (KeepBut.trans (by repeat (first | (with_reducible first | exact HK.out | apply KeepBut.set_ | apply keep_drewN | apply keep_drew | apply keep_alloc) | exact HK.out)) hk (.inl rfl)); replace HB := ak (hb); replace HI0 := ak (hi); (try clear hb); (try clear hk); (try clear hi)))
   go_meet
   case rel => exact ⟨_, (wrap64 (60 + t396)), (t397), (t398), er, H', ⟨by first | omega | exact Nat.le_refl _⟩, ⟨by first | exact Kd.R_nil _ _ _ _ _ | exact Kd.N_nil _ _ _ _ _ | exact Kd.V_nil _ _ _ _ _ | exact Kd.Q_nil _ _ _ _ _ | exact Kd.S_nil _ _ _ _ _⟩, ⟨by repeat (first | (with_reducible first | exact HI0.out | apply IsS151.alloc | apply IsS151.drewN | apply IsS151.drew | apply IsS151.set_1 | apply IsS151.set_2) | exact HI0.out)⟩, ⟨by repeat (first | (with_reducible first | exact HK.out | apply KeepBut.set_ | apply keep_drewN | apply keep_drew | apply keep_alloc) | exact HK.out)⟩, ⟨by repeat (first | (with_reducible first | exact HB.out | apply below_alloc | apply pw_below_drewN | apply below_drew1 | refine below_set ?_ (IsS151.ge HI0.out)) | exact HB.out)⟩⟩
  ·replace c7 := Bool.eq_false_iff.mpr c7
   subst c7
   have H1 : (spec_l1Cur_claims.j0 k ([] : List (S85)) t390 s0_0 t394 t395) = some (r1, r2, r3) := by rw [if_neg (show ¬ (false = true) by decide)] at H; exact H
   clear H
   have H := H1
   clear H1
   have H' := Aside0.mk H
   clear H; go_wp2
   go_meet
   case rel => exact ⟨_, (t390), (t394), (t395), er, H', ⟨by first | omega | exact Nat.le_refl _⟩, ⟨by first | exact Kd.R_nil _ _ _ _ _ | exact Kd.N_nil _ _ _ _ _ | exact Kd.V_nil _ _ _ _ _ | exact Kd.Q_nil _ _ _ _ _ | exact Kd.S_nil _ _ _ _ _⟩, ⟨by repeat (first | (with_reducible first | exact HI0.out | apply IsS151.alloc | apply IsS151.drewN | apply IsS151.drew | apply IsS151.set_1 | apply IsS151.set_2) | exact HI0.out)⟩, ⟨by repeat (first | (with_reducible first | exact HK.out | apply KeepBut.set_ | apply keep_drewN | apply keep_drew | apply keep_alloc) | exact HK.out)⟩, ⟨by repeat (first | (with_reducible first | exact HB.out | apply below_alloc | apply pw_below_drewN | apply below_drew1 | refine below_set ?_ (IsS151.ge HI0.out)) | exact HB.out)⟩⟩
 case rest =>
  clear HC4
  obtain ⟨kq, x4_3, x1001_3, x1002_3, rfl, HA, HJ3, HO_3, HI0, HK, HB⟩ := hcut
  cases kq with
  | zero => exact absurd HA.out (by simp [spec_l1Cur_claims.j0])
  | succ kj3 =>
   have H := HA.out; clear HA
   simp only [spec_l1Cur_claims.j0] at H
   have H' := Aside0.mk H
   clear H; go_wp2
   go_loopg [3, 4] kj3 (fun kq v3 v4 w' => ∃ (x3_2 : List (S85)) (x4_2 : Int) (x1001_2 : Int) (x1002_2 : Int), v4 = .int .i64 x4_2 ∧ Aside0 (spec_l1Cur_claims.l0 kq x3_2 x4_2 s0_0 x1001_2 x1002_2 = some (r1, r2, r3)) ∧ Aside0 (kq ≤ kj3) ∧ Aside0 (Kd.R k85 85 w' w.heap.size (fun _ => True) v3 x3_2) ∧ Aside0 (IsS151 w0 w' g s0_0 x1001_2 x1002_2) ∧ Aside0 (KeepBut w w' g none) ∧ Aside0 (Below w0.heap.size w0 w'))
   case atStart => exact ⟨(([] : List (S85))), (x4_3), (x1001_3), (x1002_3), er, H', ⟨Nat.le_refl _⟩, ⟨rdl HO_3⟩, ⟨by repeat (first | (with_reducible first | exact HI0.out | apply IsS151.alloc | apply IsS151.drewN | apply IsS151.drew | apply IsS151.set_1 | apply IsS151.set_2) | exact HI0.out)⟩, ⟨by repeat (first | (with_reducible first | exact HK.out | apply KeepBut.set_ | apply keep_drewN | apply keep_drew | apply keep_alloc) | exact HK.out)⟩, ⟨by repeat (first | (with_reducible first | exact HB.out | apply below_alloc | apply pw_below_drewN | apply below_drew1 | refine below_set ?_ (IsS151.ge HI0.out)) | exact HB.out)⟩⟩
   case round =>
    clear H'
    obtain ⟨x3_2, x4_2, x1001_2, x1002_2, rfl, HA, HK2, HO_3, HI0, HK, HB⟩ := hrel
    cases gk with
    | zero => exact absurd HA.out (by simp [spec_l1Cur_claims.l0])
    | succ k2 =>
     have H := HA.out; clear HA
     simp only [spec_l1Cur_claims.l0] at H
     by_cases c10 : x4_2 > 0
     ·rw [if_pos c10] at H
      have c10b0 : decide (0 < x4_2) = true := decide_eq_true c10
      clear c10; replace H := bS H; obtain ⟨⟨t399, t400, t401⟩, A11, H⟩ := H
      replace H : ((spec_l1Cur_pick.f s0_0 t400 t401 3).bind fun bt402 => ((spec_l1Cur_pick.f s0_0 bt402.2.1 bt402.2.2 2).bind fun bt405 => (if x3_2.length < 5864062014805 then (spec_l1Cur_claims.l0 k2 (x3_2 ++ [(⟨t399, bt402.1, bt405.1⟩ : S85)]) (wrap64 (x4_2 - 1)) s0_0 bt405.2.1 bt405.2.2) else (none)))) = some (r1, r2, r3) := H
      replace H := bS H; obtain ⟨⟨t402, t403, t404⟩, A12, H⟩ := H
      replace H : ((spec_l1Cur_pick.f s0_0 t403 t404 2).bind fun bt405 => (if x3_2.length < 5864062014805 then (spec_l1Cur_claims.l0 k2 (x3_2 ++ [(⟨t399, t402, bt405.1⟩ : S85)]) (wrap64 (x4_2 - 1)) s0_0 bt405.2.1 bt405.2.2) else (none))) = some (r1, r2, r3) := H
      replace H := bS H; obtain ⟨⟨t405, t406, t407⟩, A13, H⟩ := H
      replace H : (if x3_2.length < 5864062014805 then (spec_l1Cur_claims.l0 k2 (x3_2 ++ [(⟨t399, t402, t405⟩ : S85)]) (wrap64 (x4_2 - 1)) s0_0 t406 t407) else (none)) = some (r1, r2, r3) := H
      replace H := ifS H; obtain ⟨c14, H⟩ := H; have LMc14 := Aside0.mk c14; clear c14
      obtain ⟨y408, hy_⟩ : ∃ y_ : List (S85), y_ = (x3_2 ++ [(⟨t399, t402, t405⟩ : S85)]) := ⟨_, rfl⟩
      replace H : (spec_l1Cur_claims.l0 k2 y408 (wrap64 (x4_2 - 1)) s0_0 t406 t407) = some (r1, r2, r3) := yH
      have Ny408 := ak hy_; clear hy_
      have H' := Aside0.mk H
      clear H
      go_wp2_with (first | ((with_reducible refine gate_callee (f := 147) rfl ?_); refine goesLa (some 18) rfl Try.func147 #[.pointer (some ⟨g, 0, none⟩), .int .i64 3] rfl ?_; (with_reducible refine (spec_l1Cur_pick.calls g s0_0 x1001_2 x1002_2 3 t399 t400 t401 w0 _ ?side1 ?side2 A11.out).mono ?_); (case side1 => repeat (first | (with_reducible first | exact HI0.out | apply IsS151.alloc | apply IsS151.drewN | apply IsS151.drew | apply IsS151.set_1 | apply IsS151.set_2) | exact HI0.out)); (case side2 => repeat (first | (with_reducible first | exact HB.out | apply below_alloc | apply pw_below_drewN | apply below_drew1 | refine below_set ?_ (IsS151.ge HI0.out)) | exact HB.out)); rintro e w15 ⟨rfl, hi, hb, hk⟩; refine ⟨_, rfl, ?_⟩; replace HO_3 := ak (Kd.R_mono (Kd.R_keep (IsS151.apart (show IsS151 w0 _ g s0_0 x1001_2 x1002_2 from by repeat (first | (with_reducible first | exact HI0.out | apply IsS151.alloc | apply IsS151.drewN | apply IsS151.drew | apply IsS151.set_1 | apply IsS151.set_2) | exact HI0.out)) (rdl HO_3) (by decide)) hk (fun _ h => h.2)) (fun _ h => h.1)); replace HK := ak (KeepBut.trans (by repeat (first | (with_reducible first | exact HK.out | apply KeepBut.set_ | apply keep_drewN | apply keep_drew | apply keep_alloc) | exact HK.out)) hk (.inl rfl)); replace HB := ak (hb); replace HI0 := ak (hi); (try clear hb); (try clear hk); (try clear hi)) | ((with_reducible refine gate_callee (f := 147) rfl ?_); refine goesLa (some 20) rfl Try.func147 #[.pointer (some ⟨g, 0, none⟩), .int .i64 3] rfl ?_; (with_reducible refine (spec_l1Cur_pick.calls g s0_0 t400 t401 3 t402 t403 t404 w0 _ ?side1 ?side2 A12.out).mono ?_); (case side1 => repeat (first | (with_reducible first | exact HI0.out | apply IsS151.alloc | apply IsS151.drewN | apply IsS151.drew | apply IsS151.set_1 | apply IsS151.set_2) | exact HI0.out)); (case side2 => repeat (first | (with_reducible first | exact HB.out | apply below_alloc | apply pw_below_drewN | apply below_drew1 | refine below_set ?_ (IsS151.ge HI0.out)) | exact HB.out)); rintro e w16 ⟨rfl, hi, hb, hk⟩; refine ⟨_, rfl, ?_⟩; replace HO_3 := ak (Kd.R_mono (Kd.R_keep (IsS151.apart (show IsS151 w0 _ g s0_0 t400 t401 from by repeat (first | (with_reducible first | exact HI0.out | apply IsS151.alloc | apply IsS151.drewN | apply IsS151.drew | apply IsS151.set_1 | apply IsS151.set_2) | exact HI0.out)) (rdl HO_3) (by decide)) hk (fun _ h => h.2)) (fun _ h => h.1)); replace HK := ak (KeepBut.trans (by repeat (first | (with_reducible first | exact HK.out | apply KeepBut.set_ | apply keep_drewN | apply keep_drew | apply keep_alloc) | exact HK.out)) hk (.inl rfl)); replace HB := ak (hb); replace HI0 := ak (hi); (try clear hb); (try clear hk); (try clear hi)) | ((with_reducible refine gate_callee (f := 147) rfl ?_); refine goesLa (some 22) rfl Try.func147 #[.pointer (some ⟨g, 0, none⟩), .int .i64 2] rfl ?_; (with_reducible refine (spec_l1Cur_pick.calls g s0_0 t403 t404 2 t405 t406 t407 w0 _ ?side1 ?side2 A13.out).mono ?_); (case side1 => repeat (first | (with_reducible first | exact HI0.out | apply IsS151.alloc | apply IsS151.drewN | apply IsS151.drew | apply IsS151.set_1 | apply IsS151.set_2) | exact HI0.out)); (case side2 => repeat (first | (with_reducible first | exact HB.out | apply below_alloc | apply pw_below_drewN | apply below_drew1 | refine below_set ?_ (IsS151.ge HI0.out)) | exact HB.out)); rintro e w17 ⟨rfl, hi, hb, hk⟩; refine ⟨_, rfl, ?_⟩; replace HO_3 := ak (Kd.R_mono (Kd.R_keep (IsS151.apart (show IsS151 w0 _ g s0_0 t403 t404 from by repeat (first | (with_reducible first | exact HI0.out | apply IsS151.alloc | apply IsS151.drewN | apply IsS151.drew | apply IsS151.set_1 | apply IsS151.set_2) | exact HI0.out)) (rdl HO_3) (by decide)) hk (fun _ h => h.2)) (fun _ h => h.1)); replace HK := ak (KeepBut.trans (by repeat (first | (with_reducible first | exact HK.out | apply KeepBut.set_ | apply keep_drewN | apply keep_drew | apply keep_alloc) | exact HK.out)) hk (.inl rfl)); replace HB := ak (hb); replace HI0 := ak (hi); (try clear hb); (try clear hk); (try clear hi)) | ((with_reducible refine gate_builtin (b := .append) (xs := #[.tmp 16, .tmp 24]) rfl ?_); at_builtin; refine Kd.R_append k85 w.heap.size rfl (.tmp 16) (.tmp 24) 70 85 (.agg #[(.int .i64 0), (.int .i64 0), (.int .i64 0)]) 24 rfl Try.underlying70 info85 rfl (by decide) (by omega) u3 x3_2 (⟨t399, t402, t405⟩ : S85) [.int .i64 t399, .int .i64 t402, .int .i64 t405] (fun _ => True) (fun _ => False) rfl rfl ?aP (fun _ hk => hk.elim) ?aF ?aO (Below.refl _ _) ?aS ?aL ?_; (case aP => exact k85_mkM _ _ _ (⟨t399, t402, t405⟩ : S85)); (case aF => exact (fun _ _ => trivial)); (case aO => exact (rdl HO_3)); (case aS => exact (keep_size (w := w) (g := g) (row := none) (by repeat (first | (with_reducible first | exact HK.out | apply KeepBut.set_ | apply keep_drewN | apply keep_drew | apply keep_alloc) | exact HK.out)))); (case aL => have := LMc14.out; omega); intro v409 w18 ho hb hg hat; rw [← Ny408.out] at ho; replace HB := ak (below_weaken (by repeat (first | (with_reducible first | exact HB.out | apply below_alloc | apply pw_below_drewN | apply below_drew1 | refine below_set ?_ (IsS151.ge HI0.out)) | exact HB.out)) HL.out hb); replace HI0 := ak (IsS151.grown (by repeat (first | (with_reducible first | exact HI0.out | apply IsS151.alloc | apply IsS151.drewN | apply IsS151.drew | apply IsS151.set_1 | apply IsS151.set_2) | exact HI0.out)) hg (IsS151.own_ne HI0.out HO_3.out (by decide))); replace HK := ak (KeepBut.trans (by repeat (first | (with_reducible first | exact HK.out | apply KeepBut.set_ | apply keep_drewN | apply keep_drew | apply keep_alloc) | exact HK.out)) (KeepBut.of_grown hg g) (Kd.R_base2 HO_3.out)); have HO410 := ak (ho); clear HO_3; clear ho hb hg hat))
      go_roundg k2
      case measure => have := HJ3.out; have := HK2.out; omega
      case rel => exact ⟨(y408), (wrap64 (x4_2 - 1)), (t406), (t407), er, H', ⟨by have := HJ3.out; have := HK2.out; omega⟩, ⟨rdl HO410⟩, ⟨by repeat (first | (with_reducible first | exact HI0.out | apply IsS151.alloc | apply IsS151.drewN | apply IsS151.drew | apply IsS151.set_1 | apply IsS151.set_2) | exact HI0.out)⟩, ⟨by repeat (first | (with_reducible first | exact HK.out | apply KeepBut.set_ | apply keep_drewN | apply keep_drew | apply keep_alloc) | exact HK.out)⟩, ⟨by repeat (first | (with_reducible first | exact HB.out | apply below_alloc | apply pw_below_drewN | apply below_drew1 | refine below_set ?_ (IsS151.ge HI0.out)) | exact HB.out)⟩⟩
     ·rw [if_neg c10] at H
      have c10b0 : decide (0 < x4_2) = false := decide_eq_false c10
      clear c10
      by_cases c19 : (x3_2.length : Int) > 0
      ·rw [if_pos c19] at H
       have c19b0 : decide (0 < (x3_2.length : Int)) = true := decide_eq_true c19
       have c19b1 : decide (0 < x3_2.length) = true := decide_eq_true (by omega)
       clear c19; replace H := bS H; obtain ⟨⟨t411, t412, t413⟩, A20, H⟩ := H
       replace H : (if t411 = true then ((spec_l1Cur_claim.f s0_0 t412 t413).bind fun bt414 => (if 0 < (x3_2.length : Int) then (some ((x3_2.set (0 : Int).toNat (⟨bt414.1, bt414.2.1, bt414.2.2.1⟩ : S85)), bt414.2.2.2.1, bt414.2.2.2.2)) else (none))) else (some (x3_2, t412, t413))) = some (r1, r2, r3) := H
       by_cases c21 : t411 = true
       ·subst c21
        have H1 : ((spec_l1Cur_claim.f s0_0 t412 t413).bind fun bt414 => (if 0 < (x3_2.length : Int) then (some ((x3_2.set (0 : Int).toNat (⟨bt414.1, bt414.2.1, bt414.2.2.1⟩ : S85)), bt414.2.2.2.1, bt414.2.2.2.2)) else (none))) = some (r1, r2, r3) := by rw [if_pos rfl] at H; exact H
        clear H
        have H := H1
        clear H1; replace H := bS H; obtain ⟨⟨t414, t415, t416, t417, t418⟩, A22, H⟩ := H
        replace H : (if 0 < (x3_2.length : Int) then (some ((x3_2.set (0 : Int).toNat (⟨t414, t415, t416⟩ : S85)), t417, t418)) else (none)) = some (r1, r2, r3) := H
        replace H := ifS H; obtain ⟨c23, H⟩ := H; have c23b0 := decide_eq_true c23
        have c23b1 : decide (0 < x3_2.length) = true := decide_eq_true (by omega)
        clear c23
        obtain ⟨y419, hy_⟩ : ∃ y_ : List (S85), y_ = (x3_2.set (0 : Int).toNat (⟨t414, t415, t416⟩ : S85)) := ⟨_, rfl⟩
        replace H : (some (y419, t417, t418)) = some (r1, r2, r3) := yH
        have Ny419 := ak hy_; clear hy_
        simp only [Option.some.injEq, Prod.mk.injEq] at H
        obtain ⟨rfl, rfl, rfl⟩ := H
        obtain ⟨Ao25, co25, eo25⟩ := Kd.R_slice HO_3.out
        subst eo25
        go_wp2_with (first | (go_at_call 149; (with_reducible refine (spec_l1Cur_one.calls g s0_0 x1001_2 x1002_2 30 true t412 t413 w0 _ ?side1 ?side2 A20.out).mono ?_); (case side1 => repeat (first | (with_reducible first | exact HI0.out | apply IsS151.alloc | apply IsS151.drewN | apply IsS151.drew | apply IsS151.set_1 | apply IsS151.set_2) | exact HI0.out)); (case side2 => repeat (first | (with_reducible first | exact HB.out | apply below_alloc | apply pw_below_drewN | apply below_drew1 | refine below_set ?_ (IsS151.ge HI0.out)) | exact HB.out)); rintro e w26 ⟨rfl, hi, hb, hk⟩; replace HO_3 := ak (Kd.R_mono (Kd.R_keep (IsS151.apart (show IsS151 w0 _ g s0_0 x1001_2 x1002_2 from by repeat (first | (with_reducible first | exact HI0.out | apply IsS151.alloc | apply IsS151.drewN | apply IsS151.drew | apply IsS151.set_1 | apply IsS151.set_2) | exact HI0.out)) (rdl HO_3) (by decide)) hk (fun _ h => h.2)) (fun _ h => h.1)); replace HK := ak (KeepBut.trans (by repeat (first | (with_reducible first | exact HK.out | apply KeepBut.set_ | apply keep_drewN | apply keep_drew | apply keep_alloc) | exact HK.out)) hk (.inl rfl)); replace HB := ak (hb); replace HI0 := ak (hi); (try clear hb); (try clear hk); (try clear hi)) | ((with_reducible refine gate_callee (f := 148) rfl ?_); refine goesLa (some 35) rfl Try.func148 #[.pointer (some ⟨g, 0, none⟩)] rfl ?_; (with_reducible refine (spec_l1Cur_claim.calls g s0_0 t412 t413 t414 t415 t416 t417 t418 w0 _ ?side1 ?side2 A22.out).mono ?_); (case side1 => repeat (first | (with_reducible first | exact HI0.out | apply IsS151.alloc | apply IsS151.drewN | apply IsS151.drew | apply IsS151.set_1 | apply IsS151.set_2) | exact HI0.out)); (case side2 => repeat (first | (with_reducible first | exact HB.out | apply below_alloc | apply pw_below_drewN | apply below_drew1 | refine below_set ?_ (IsS151.ge HI0.out)) | exact HB.out)); rintro e w27 ⟨rfl, hi, hb, hk⟩; refine ⟨_, rfl, ?_⟩; replace HO_3 := ak (Kd.R_mono (Kd.R_keep (IsS151.apart (show IsS151 w0 _ g s0_0 t412 t413 from by repeat (first | (with_reducible first | exact HI0.out | apply IsS151.alloc | apply IsS151.drewN | apply IsS151.drew | apply IsS151.set_1 | apply IsS151.set_2) | exact HI0.out)) (rdl HO_3) (by decide)) hk (fun _ h => h.2)) (fun _ h => h.1)); replace HK := ak (KeepBut.trans (by repeat (first | (with_reducible first | exact HK.out | apply KeepBut.set_ | apply keep_drewN | apply keep_drew | apply keep_alloc) | exact HK.out)) hk (.inl rfl)); replace HB := ak (hb); replace HI0 := ak (hi); (try clear hb); (try clear hk); (try clear hi); have p24 : 0 ≤ (0 : Int) := (by omega); have q24 : (0 : Int) < ((x3_2.length : Int) : Int) := da; have qi24 : (0 < x3_2.length) = True := eq_true (by omega); obtain ⟨go24, co24, eo24, gb24, gl24, cl24, HG24⟩ := Kd.R_form HO_3.out (by omega); (first | cases eo24 | (injection eo24 with ea_ en_ ec_; (first | subst ea_ | (injection ea_ with ea_; subst ea_)); subst ec_; clear en_)); have GB24 := Aside0.mk gb24; have GG24 := Aside0.mk HG24; clear gb24 gl24 HG24; obtain ⟨ce24, hcl24, hM24, hcc24, hfr24⟩ := Kd.R_elem HO_3.out z85 (0 : Int) p24 q24; obtain rfl := k85_openM hM24; have hx24_0 : w27.cell? ⟨go24, (0 : Int).toNat * 3, none⟩ = some (.int .i64 ((rd_T85 x3_2 0).f0)) := hcc24 0 _ rfl; have hx24_1 : w27.cell? ⟨go24, (0 : Int).toNat * 3 + 1, none⟩ = some (.int .i64 ((rd_T85 x3_2 0).f1)) := hcc24 1 _ rfl; have hx24_2 : w27.cell? ⟨go24, (0 : Int).toNat * 3 + 2, none⟩ = some (.int .i64 ((rd_T85 x3_2 0).f2)) := hcc24 2 _ rfl; have hf24_0 : w27.frozen? ⟨go24, (0 : Int).toNat * 3, none⟩ = false := hfr24 0; have hf24_1 : w27.frozen? ⟨go24, (0 : Int).toNat * 3 + 1, none⟩ = false := hfr24 1; have hf24_2 : w27.frozen? ⟨go24, (0 : Int).toNat * 3 + 2, none⟩ = false := hfr24 2; clear hcl24 hcc24 hfr24 hM24; (try rw [show ((0 : Int)).toNat = 0 from rfl] at hx24_0); (try simp only [Nat.reduceMul, Nat.zero_mul, Nat.zero_add, Nat.reduceAdd] at hx24_0); (try rw [show ((0 : Int)).toNat = 0 from rfl] at hf24_0); (try simp only [Nat.reduceMul, Nat.zero_mul, Nat.zero_add, Nat.reduceAdd] at hf24_0); (try rw [show ((0 : Int)).toNat = 0 from rfl] at hx24_1); (try simp only [Nat.reduceMul, Nat.zero_mul, Nat.zero_add, Nat.reduceAdd] at hx24_1); (try rw [show ((0 : Int)).toNat = 0 from rfl] at hf24_1); (try simp only [Nat.reduceMul, Nat.zero_mul, Nat.zero_add, Nat.reduceAdd] at hf24_1); (try rw [show ((0 : Int)).toNat = 0 from rfl] at hx24_2); (try simp only [Nat.reduceMul, Nat.zero_mul, Nat.zero_add, Nat.reduceAdd] at hx24_2); (try rw [show ((0 : Int)).toNat = 0 from rfl] at hf24_2); (try simp only [Nat.reduceMul, Nat.zero_mul, Nat.zero_add, Nat.reduceAdd] at hf24_2); replace p24 := eq_true p24; replace q24 := eq_true q24; have HX28 := Aside0.mk (show Kd.R k85 85 w27 w.heap.size (fun _ => True) (.slice (some ⟨go24, 0, none⟩) x3_2.length co25) x3_2 from (rdl HO_3)); obtain ⟨ce28, hcl28, hM28, hcc28, hfr28⟩ := Kd.R_elem HX28.out z85 (0 : Int) (by omega) (by have h_ : (0 : Int) < ((x3_2.length : Int) : Int) := da; first | exact h_ | (have e_ := (Kd.R_reads' HO_3.out).1; omega) | simpa using h_); obtain rfl := k85_openM hM28; have HP28 := Kd.R_seg HX28.out (0 : Int) (by omega) (by have h_ : (0 : Int) < ((x3_2.length : Int) : Int) := da; first | exact h_ | (have e_ := (Kd.R_reads' HO_3.out).1; omega) | simpa using h_) (seg := [.int .i64 t414, .int .i64 t415, .int .i64 t416]) (j := 0) hcl28 hcc28 (show 3 ≤ 3 from by decide) (x' := (⟨t414, t415, t416⟩ : S85)) (k85_mkM _ _ _ (⟨t414, t415, t416⟩ : S85) ) (fun _ hk => hk); have hx28_0 := hcc28 0 _ rfl; (try simp only [show (k85).sz = 3 from rfl, Nat.mul_one, Nat.add_zero] at hx28_0); (try rw [show ((0 : Int)).toNat = 0 from rfl] at hx28_0); (try simp only [Nat.reduceMul, Nat.zero_mul, Nat.zero_add, Nat.reduceAdd] at hx28_0); have hf28_0 := hfr28 0; (try simp only [show (k85).sz = 3 from rfl, Nat.mul_one, Nat.add_zero] at hf28_0); (try rw [show ((0 : Int)).toNat = 0 from rfl] at hf28_0); (try simp only [Nat.reduceMul, Nat.zero_mul, Nat.zero_add, Nat.reduceAdd] at hf28_0); have hx28_1 := hcc28 1 _ rfl; (try simp only [show (k85).sz = 3 from rfl, Nat.mul_one, Nat.add_zero] at hx28_1); (try rw [show ((0 : Int)).toNat = 0 from rfl] at hx28_1); (try simp only [Nat.reduceMul, Nat.zero_mul, Nat.zero_add, Nat.reduceAdd] at hx28_1); have hf28_1 := hfr28 1; (try simp only [show (k85).sz = 3 from rfl, Nat.mul_one, Nat.add_zero] at hf28_1); (try rw [show ((0 : Int)).toNat = 0 from rfl] at hf28_1); (try simp only [Nat.reduceMul, Nat.zero_mul, Nat.zero_add, Nat.reduceAdd] at hf28_1); have hx28_2 := hcc28 2 _ rfl; (try simp only [show (k85).sz = 3 from rfl, Nat.mul_one, Nat.add_zero] at hx28_2); (try rw [show ((0 : Int)).toNat = 0 from rfl] at hx28_2); (try simp only [Nat.reduceMul, Nat.zero_mul, Nat.zero_add, Nat.reduceAdd] at hx28_2); have hf28_2 := hfr28 2; (try simp only [show (k85).sz = 3 from rfl, Nat.mul_one, Nat.add_zero] at hf28_2); (try rw [show ((0 : Int)).toNat = 0 from rfl] at hf28_2); (try simp only [Nat.reduceMul, Nat.zero_mul, Nat.zero_add, Nat.reduceAdd] at hf28_2); clear hcl28 hcc28 hfr28 hM28) | ((with_reducible refine gate_store (t := 85) (p := 36) rfl ?_); refine store_event (t := 85) (p := 36) (v := ?vo_w29) (w1 := (((w27.setCell ⟨go24, 0, none⟩ (.int .i64 t414)).setCell ⟨go24, 1, none⟩ (.int .i64 t415)).setCell ⟨go24, 2, none⟩ (.int .i64 t416))) ?hg ?ho ?hn ?hr ?_; (case ho => rfl); (case hg => rfl); (case hn => rfl); (case hr => first | (go_simp; done) | (go_simp; rfl)); intro w29 hw; have hg : w27.grownBy w29 (some go24) := (by rw [hw]; exact HP28.2); have hp_ : Kd.R k85 85 w29 w.heap.size (fun _ => True) (.slice (some ⟨go24, 0, none⟩) x3_2.length co25) y419 := (by rw [hw, Ny419.out]; exact HP28.1); clear HP28; replace HI0 := ak (IsS151.grown (by repeat (first | (with_reducible first | exact HI0.out | apply IsS151.alloc | apply IsS151.drewN | apply IsS151.drew | apply IsS151.set_1 | apply IsS151.set_2) | exact HI0.out)) hg (IsS151.own_ne HI0.out HO_3.out (by decide))); replace HB := ak ((by rw [hw]; exact below_set (below_set (below_set (HB.out) (Nat.le_trans HL.out GB24.out)) (Nat.le_trans HL.out GB24.out)) (Nat.le_trans HL.out GB24.out) : Below w0.heap.size w0 w29)); replace HK := ak (KeepBut.trans (by repeat (first | (with_reducible first | exact HK.out | apply KeepBut.set_ | apply keep_drewN | apply keep_drew | apply keep_alloc) | exact HK.out)) (KeepBut.of_grown hg g) (Kd.R_base2 HO_3.out)); replace HO_3 := ak (hp_); clear hg hw hp_))
        go_ret
        exact ⟨_, er2, by (with_reducible repeat (first | apply Kd.R_alloc | apply Kd.R_drewN | apply Kd.R_drew)); exact HO_3.out, by repeat (first | (with_reducible first | exact HI0.out | apply IsS151.alloc | apply IsS151.drewN | apply IsS151.drew | apply IsS151.set_1 | apply IsS151.set_2) | exact HI0.out), by repeat (first | (with_reducible first | exact HB.out | apply below_alloc | apply pw_below_drewN | apply below_drew1 | refine below_set ?_ (IsS151.ge HI0.out)) | exact HB.out), by repeat (first | (with_reducible first | exact HK.out | apply KeepBut.set_ | apply keep_drewN | apply keep_drew | apply keep_alloc) | exact HK.out)⟩
       ·replace c21 := Bool.eq_false_iff.mpr c21
        subst c21
        have H1 : (some (x3_2, t412, t413)) = some (r1, r2, r3) := by rw [if_neg (show ¬ (false = true) by decide)] at H; exact H
        clear H
        have H := H1
        clear H1
        simp only [Option.some.injEq, Prod.mk.injEq] at H
        obtain ⟨rfl, rfl, rfl⟩ := H
        obtain ⟨Ao30, co30, eo30⟩ := Kd.R_slice HO_3.out
        subst eo30
        go_wp2_with (first | (go_at_call 149; (with_reducible refine (spec_l1Cur_one.calls g s0_0 x1001_2 x1002_2 30 false t412 t413 w0 _ ?side1 ?side2 A20.out).mono ?_); (case side1 => repeat (first | (with_reducible first | exact HI0.out | apply IsS151.alloc | apply IsS151.drewN | apply IsS151.drew | apply IsS151.set_1 | apply IsS151.set_2) | exact HI0.out)); (case side2 => repeat (first | (with_reducible first | exact HB.out | apply below_alloc | apply pw_below_drewN | apply below_drew1 | refine below_set ?_ (IsS151.ge HI0.out)) | exact HB.out)); rintro e w31 ⟨rfl, hi, hb, hk⟩; replace HO_3 := ak (Kd.R_mono (Kd.R_keep (IsS151.apart (show IsS151 w0 _ g s0_0 x1001_2 x1002_2 from by repeat (first | (with_reducible first | exact HI0.out | apply IsS151.alloc | apply IsS151.drewN | apply IsS151.drew | apply IsS151.set_1 | apply IsS151.set_2) | exact HI0.out)) (rdl HO_3) (by decide)) hk (fun _ h => h.2)) (fun _ h => h.1)); replace HK := ak (KeepBut.trans (by repeat (first | (with_reducible first | exact HK.out | apply KeepBut.set_ | apply keep_drewN | apply keep_drew | apply keep_alloc) | exact HK.out)) hk (.inl rfl)); replace HB := ak (hb); replace HI0 := ak (hi); (try clear hb); (try clear hk); (try clear hi)))
        go_ret
        exact ⟨_, er2, by (with_reducible repeat (first | apply Kd.R_alloc | apply Kd.R_drewN | apply Kd.R_drew)); exact HO_3.out, by repeat (first | (with_reducible first | exact HI0.out | apply IsS151.alloc | apply IsS151.drewN | apply IsS151.drew | apply IsS151.set_1 | apply IsS151.set_2) | exact HI0.out), by repeat (first | (with_reducible first | exact HB.out | apply below_alloc | apply pw_below_drewN | apply below_drew1 | refine below_set ?_ (IsS151.ge HI0.out)) | exact HB.out), by repeat (first | (with_reducible first | exact HK.out | apply KeepBut.set_ | apply keep_drewN | apply keep_drew | apply keep_alloc) | exact HK.out)⟩
      ·rw [if_neg c19] at H
       have c19b0 : decide (0 < (x3_2.length : Int)) = false := decide_eq_false c19
       have c19b1 : decide (0 < x3_2.length) = false := decide_eq_false (by omega)
       clear c19
       simp only [Option.some.injEq, Prod.mk.injEq] at H
       obtain ⟨rfl, rfl, rfl⟩ := H
       obtain ⟨Ao32, co32, eo32⟩ := Kd.R_slice HO_3.out
       subst eo32; go_wp2
       go_ret
       exact ⟨_, er2, by (with_reducible repeat (first | apply Kd.R_alloc | apply Kd.R_drewN | apply Kd.R_drew)); exact HO_3.out, by repeat (first | (with_reducible first | exact HI0.out | apply IsS151.alloc | apply IsS151.drewN | apply IsS151.drew | apply IsS151.set_1 | apply IsS151.set_2) | exact HI0.out), by repeat (first | (with_reducible first | exact HB.out | apply below_alloc | apply pw_below_drewN | apply below_drew1 | refine below_set ?_ (IsS151.ge HI0.out)) | exact HB.out), by repeat (first | (with_reducible first | exact HK.out | apply KeepBut.set_ | apply keep_drewN | apply keep_drew | apply keep_alloc) | exact HK.out)⟩

/-! ### spec_DrawTallyOf: function 75 -/
def spec_DrawTallyOf.f (k : Nat) (l0 : List Int) : Option (Int × Int × (List (S85)) × (List (S91))) := (spec_l1Cur_pick.f l0 0 0 14).bind fun bt421 => ((spec_l1Cur_pick.f l0 bt421.2.1 bt421.2.2 5).bind fun bt424 => ((spec_l1Cur_claims.f k l0 bt424.2.1 bt424.2.2).bind fun bt427 => ((spec_l1Cur_statements.f k l0 bt427.2.1 bt427.2.2).bind fun bt432 => (some (bt421.1, wrap64 (bt424.1 - 1), bt427.1, bt432.1)))))
theorem spec_DrawTallyOf.mono : ∀ a0 k, LeO (spec_DrawTallyOf.f k a0) (spec_DrawTallyOf.f (k + 1) a0) := by
 intro a0 k
 unfold spec_DrawTallyOf.f
 repeat' (first | (with_reducible first | exact spec_l1Cur_claims.mono _ _ _ _ | exact spec_l1Cur_statements.mono _ _ _ _ | exact LeO.refl _ | exact LeO.none _ | refine LeO.ite ?_ ?_ | refine LeO.bind ?_ (fun _ => ?_)) | exact spec_l1Cur_claims.mono _ _ _ _ | exact spec_l1Cur_statements.mono _ _ _ _ | exact LeO.none _ | refine LeO.ite ?_ ?_ | refine LeO.bind ?_ (fun _ => ?_))
set_option maxHeartbeats 8000000 in
set_option maxRecDepth 100000 in
theorem spec_DrawTallyOf.calls (k : Nat) (A0 : Option Addr) (c0 : Nat) (l0 : List Int) (r1 : Int) (r2 : Int) (r3 : List (S85)) (r4 : List (S91)) (w : World) (hr0 : Kd.C (Kd.int .u8) w A0 l0.length l0) (hc0 : l0.length ≤ c0) (h : spec_DrawTallyOf.f k l0 = some (r1, r2, r3, r4)) :
  Calls Try.prog 75 #[.slice A0 l0.length c0] w fun e w' => ∃ v2_ v3_ : Value, e = .returned (.tuple #[.int .i64 r1, .int .i64 r2, v2_, v3_]) ∧ Kd.R k85 85 w' w.heap.size (fun _ => True) v2_ r3 ∧ Kd.R k91 91 w' w.heap.size (fun _ => True) v3_ r4 ∧ Below w.heap.size w w' := by
 have hu151 := Try.underlying151
 have HR0 := Aside0.mk hr0; have HC0 := Aside0.mk hc0; clear hr0 hc0
 have HB := Aside0.mk (Below.refl w.heap.size w)
 have H : ((spec_l1Cur_pick.f l0 0 0 14).bind fun bt421 => ((spec_l1Cur_pick.f l0 bt421.2.1 bt421.2.2 5).bind fun bt424 => ((spec_l1Cur_claims.f k l0 bt424.2.1 bt424.2.2).bind fun bt427 => ((spec_l1Cur_statements.f k l0 bt427.2.1 bt427.2.2).bind fun bt432 => (some (bt421.1, wrap64 (bt424.1 - 1), bt427.1, bt432.1)))))) = some (r1, r2, r3, r4) := h
 clear h; replace H := bS H; obtain ⟨⟨t421, t422, t423⟩, A2, H⟩ := H
 replace H : ((spec_l1Cur_pick.f l0 t422 t423 5).bind fun bt424 => ((spec_l1Cur_claims.f k l0 bt424.2.1 bt424.2.2).bind fun bt427 => ((spec_l1Cur_statements.f k l0 bt427.2.1 bt427.2.2).bind fun bt432 => (some (t421, wrap64 (bt424.1 - 1), bt427.1, bt432.1))))) = some (r1, r2, r3, r4) := H
 replace H := bS H; obtain ⟨⟨t424, t425, t426⟩, A3, H⟩ := H
 replace H : ((spec_l1Cur_claims.f k l0 t425 t426).bind fun bt427 => ((spec_l1Cur_statements.f k l0 bt427.2.1 bt427.2.2).bind fun bt432 => (some (t421, wrap64 (t424 - 1), bt427.1, bt432.1)))) = some (r1, r2, r3, r4) := H
 replace H := bS H; obtain ⟨⟨t427, t430, t431⟩, A4, H⟩ := H
 replace H : ((spec_l1Cur_statements.f k l0 t430 t431).bind fun bt432 => (some (t421, wrap64 (t424 - 1), t427, bt432.1))) = some (r1, r2, r3, r4) := H
 replace H := bS H; obtain ⟨⟨t432, t435, t436⟩, A5, H⟩ := H
 replace H : (some (t421, wrap64 (t424 - 1), t427, t432)) = some (r1, r2, r3, r4) := H
 simp only [Option.some.injEq, Prod.mk.injEq] at H
 obtain ⟨rfl, rfl, rfl, rfl⟩ := H
 go_enter Try.func75, Try.ntmps75
 go_wp2_with (first | ((with_reducible refine gate_dst (N := 9) rfl ?_); refine boxev 9 #[.slice A0 l0.length c0, .int .i64 0, .int .u64 0] 151 ?_; intro gb420 hg w6 hbox hb; have HI420 := ak ((show IsS151 w w6 gb420 l0 0 0 from IsS151.of_blk hbox (by rw [hg]; exact (below_size (belowd HB))) HR0.out)); replace HB := ak (below_step (belowd HB) hb); clear hb hbox hg) | ((with_reducible refine gate_callee (f := 147) rfl ?_); refine goesLa (some 11) rfl Try.func147 #[.pointer (some ⟨gb420, 0, none⟩), .int .i64 14] rfl ?_; (with_reducible refine (spec_l1Cur_pick.calls gb420 l0 0 0 14 t421 t422 t423 w _ ?side1 ?side2 A2.out).mono ?_); (case side1 => repeat (first | (with_reducible first | exact HI420.out | apply IsS151.alloc | apply IsS151.drewN | apply IsS151.drew | apply IsS151.set_1 | apply IsS151.set_2) | exact HI420.out)); (case side2 => repeat (first | (with_reducible first | exact HB.out | apply below_alloc | apply pw_below_drewN | apply below_drew1 | refine below_set ?_ (IsS151.ge HI420.out)) | exact HB.out)); rintro e w7 ⟨rfl, hi, hb, hk⟩; refine ⟨_, rfl, ?_⟩; replace HB := ak (hb); replace HI420 := ak (hi); (try clear hb); (try clear hk); (try clear hi)) | ((with_reducible refine gate_callee (f := 147) rfl ?_); refine goesLa (some 13) rfl Try.func147 #[.pointer (some ⟨gb420, 0, none⟩), .int .i64 5] rfl ?_; (with_reducible refine (spec_l1Cur_pick.calls gb420 l0 t422 t423 5 t424 t425 t426 w _ ?side1 ?side2 A3.out).mono ?_); (case side1 => repeat (first | (with_reducible first | exact HI420.out | apply IsS151.alloc | apply IsS151.drewN | apply IsS151.drew | apply IsS151.set_1 | apply IsS151.set_2) | exact HI420.out)); (case side2 => repeat (first | (with_reducible first | exact HB.out | apply below_alloc | apply pw_below_drewN | apply below_drew1 | refine below_set ?_ (IsS151.ge HI420.out)) | exact HB.out)); rintro e w8 ⟨rfl, hi, hb, hk⟩; refine ⟨_, rfl, ?_⟩; replace HB := ak (hb); replace HI420 := ak (hi); (try clear hb); (try clear hk); (try clear hi)) | ((with_reducible refine gate_callee (f := 162) rfl ?_); refine goesLa (some 16) rfl Try.func162 #[.pointer (some ⟨gb420, 0, none⟩)] rfl ?_; (with_reducible refine (spec_l1Cur_claims.calls k gb420 l0 t425 t426 t427 t430 t431 w _ ?side1 ?side2 A4.out).mono ?_); (case side1 => repeat (first | (with_reducible first | exact HI420.out | apply IsS151.alloc | apply IsS151.drewN | apply IsS151.drew | apply IsS151.set_1 | apply IsS151.set_2) | exact HI420.out)); (case side2 => repeat (first | (with_reducible first | exact HB.out | apply below_alloc | apply pw_below_drewN | apply below_drew1 | refine below_set ?_ (IsS151.ge HI420.out)) | exact HB.out)); rintro e w9 ⟨v428, rfl, ho0, hi, hb, hk⟩; refine ⟨_, rfl, ?_⟩; have HO429 := ak (Kd.R_lower ho0 (below_size (by repeat (first | (with_reducible first | exact HB.out | apply below_alloc | apply pw_below_drewN | apply below_drew1 | refine below_set ?_ (IsS151.ge HI420.out)) | exact HB.out)))); replace HB := ak (hb); replace HI420 := ak (hi); (try clear hb); (try clear hk); (try clear hi); (try clear ho0)) | ((with_reducible refine gate_callee (f := 142) rfl ?_); refine goesLa (some 18) rfl Try.func142 #[.pointer (some ⟨gb420, 0, none⟩)] rfl ?_; (with_reducible refine (spec_l1Cur_statements.calls k gb420 l0 t430 t431 t432 t435 t436 w _ ?side1 ?side2 A5.out).mono ?_); (case side1 => repeat (first | (with_reducible first | exact HI420.out | apply IsS151.alloc | apply IsS151.drewN | apply IsS151.drew | apply IsS151.set_1 | apply IsS151.set_2) | exact HI420.out)); (case side2 => repeat (first | (with_reducible first | exact HB.out | apply below_alloc | apply pw_below_drewN | apply below_drew1 | refine below_set ?_ (IsS151.ge HI420.out)) | exact HB.out)); rintro e w10 ⟨v433, rfl, ho0, hi, hb, hk⟩; refine ⟨_, rfl, ?_⟩; replace HO429 := ak (Kd.R_mono (Kd.R_keep (IsS151.apart (show IsS151 w _ gb420 l0 t430 t431 from by repeat (first | (with_reducible first | exact HI420.out | apply IsS151.alloc | apply IsS151.drewN | apply IsS151.drew | apply IsS151.set_1 | apply IsS151.set_2) | exact HI420.out)) (rdl HO429) (by decide)) hk (fun _ h => h.2)) (fun _ h => h.1)); have HO434 := ak (Kd.R_lower ho0 (below_size (by repeat (first | (with_reducible first | exact HB.out | apply below_alloc | apply pw_below_drewN | apply below_drew1 | refine below_set ?_ (IsS151.ge HI420.out)) | exact HB.out)))); replace HB := ak (hb); replace HI420 := ak (hi); (try clear hb); (try clear hk); (try clear hi); (try clear ho0)))
 refine bodyPost_ret (results_list (rs := [.tmp 2, .tmp 3, .tmp 4, .tmp 5]) rfl (by simp) (.tmp (.tmp (.tmp (.tmp .nil))))) rfl ?_
 exact ⟨_, _, er2, by (with_reducible repeat (first | apply Kd.R_alloc | apply Kd.R_drewN | apply Kd.R_drew)); exact HO429.out, by (with_reducible repeat (first | apply Kd.R_alloc | apply Kd.R_drewN | apply Kd.R_drew)); exact HO434.out, by repeat (first | (with_reducible first | exact HB.out | apply below_alloc | apply pw_below_drewN | apply below_drew1 | refine below_set ?_ (IsS151.ge HI420.out)) | exact HB.out)⟩

/-! ### laws_sameTallies: function 76 -/
def laws_sameTallies.l0 : Nat → List (S110) → List (S110) → Int → Int → Option (Bool)
  | 0, _, _, _, _ => none
  | k + 1, x0, x1, x12, x13 => if x13 < x12 then (if 0 ≤ x13 then (if x13 < (x0.length : Int) then (if x13 < (x1.length : Int) then (if (!(((rd_T110 x0 x13).f0) == ((rd_T110 x1 x13).f0)) || (!(((rd_T110 x0 x13).f1) == ((rd_T110 x1 x13).f1)) || (!(((rd_T110 x0 x13).f2) == ((rd_T110 x1 x13).f2))))) = true then (some false) else (laws_sameTallies.l0 k x0 x1 x12 (wrap64 (x13 + 1)))) else (none)) else (none)) else (none)) else (some true)
def laws_sameTallies.f (k : Nat) (l0 : List (S110)) (l1 : List (S110)) : Option (Bool) := if (l0.length : Int) = (l1.length : Int) then (laws_sameTallies.l0 k l0 l1 (l0.length : Int) 0) else (some false)
theorem laws_sameTallies.mono_l : ∀ k, (∀ y0 y1 y2 y3, LeO (laws_sameTallies.l0 k y0 y1 y2 y3) (laws_sameTallies.l0 (k + 1) y0 y1 y2 y3))
 | 0 => fun _ _ _ _ r h => by simp [laws_sameTallies.l0] at h
 | k + 1 => by
  have ih0 := laws_sameTallies.mono_l k
  ·intro y0 y1 y2 y3
   unfold laws_sameTallies.l0
   repeat' (first | (with_reducible first | exact ih0 _ _ _ _ | exact LeO.refl _ | exact LeO.none _ | refine LeO.ite ?_ ?_ | refine LeO.bind ?_ (fun _ => ?_)) | exact ih0 _ _ _ _ | exact LeO.none _ | refine LeO.ite ?_ ?_ | refine LeO.bind ?_ (fun _ => ?_))
theorem laws_sameTallies.mono : ∀ a0 a1 k, LeO (laws_sameTallies.f k a0 a1) (laws_sameTallies.f (k + 1) a0 a1) := by
 intro a0 a1 k
 have ih0 := laws_sameTallies.mono_l k
 unfold laws_sameTallies.f
 repeat' (first | (with_reducible first | exact ih0 _ _ _ _ | exact LeO.refl _ | exact LeO.none _ | refine LeO.ite ?_ ?_ | refine LeO.bind ?_ (fun _ => ?_)) | exact ih0 _ _ _ _ | exact LeO.none _ | refine LeO.ite ?_ ?_ | refine LeO.bind ?_ (fun _ => ?_))
set_option maxHeartbeats 8000000 in
set_option maxRecDepth 100000 in
theorem laws_sameTallies.calls (k : Nat) (A0 : Option Addr) (c0 : Nat) (l0 : List (S110)) (A1 : Option Addr) (c1 : Nat) (l1 : List (S110)) (r : Bool) (w : World) (hr0 : Kd.C k110 w A0 l0.length l0) (hc0 : l0.length ≤ c0) (hr1 : Kd.C k110 w A1 l1.length l1) (hc1 : l1.length ≤ c1) (h : laws_sameTallies.f k l0 l1 = some r) :
  Calls Try.prog 76 #[.slice A0 l0.length c0, .slice A1 l1.length c1] w fun e w' => e = .returned (.bool r) ∧ Drawn0 w w' := by
 have hu110 := Try.underlying110
 have HR0 := Aside0.mk hr0; have HC0 := Aside0.mk hc0; clear hr0 hc0; have HR1 := Aside0.mk hr1; have HC1 := Aside0.mk hc1; clear hr1 hc1
 have H : (if (l0.length : Int) = (l1.length : Int) then (laws_sameTallies.l0 k l0 l1 (l0.length : Int) 0) else (some false)) = some r := h
 clear h
 by_cases c3 : (l0.length : Int) = (l1.length : Int)
 ·rw [if_pos c3] at H
  have c3b0 : ((l0.length : Int) == (l1.length : Int)) = true := beq_iff_eq.mpr c3
  have c3b1 : ((l0.length : Int) != (l1.length : Int)) = false := bne_eq_false_iff_eq.mpr c3
  have c3b2 : (l0.length == l1.length) = true := by first | simpa using c3 | (simp at c3 ⊢; omega)
  clear c3
  have H' := Aside0.mk H
  clear H
  go_enter Try.func76, Try.ntmps76
  go_wp2
  repeat (go_quiet (fail); try go_wp2)
  go_loopg [13] k (fun kq v13 w' => ∃ (x13_1 : Int), v13 = .int .i64 x13_1 ∧ Aside0 (laws_sameTallies.l0 kq l0 l1 (l0.length : Int) x13_1 = some r) ∧ Aside0 (kq ≤ k) ∧ Drawn0 w w')
  case atStart => exact ⟨(0), er, H', ⟨Nat.le_refl _⟩, drw⟩
  case round =>
   clear H'
   (try clear c1); (try clear c3b0); (try clear c3b1); (try clear c3b2)
   obtain ⟨x13_1, rfl, HA, HK1, ⟨m1, rfl⟩⟩ := hrel
   cases gk with
   | zero => exact absurd HA.out (by simp [laws_sameTallies.l0])
   | succ k1 =>
    have H := HA.out; clear HA
    simp only [laws_sameTallies.l0] at H
    by_cases c4 : x13_1 < (l0.length : Int)
    ·rw [if_pos c4] at H
     have c4b0 : decide (x13_1 < (l0.length : Int)) = true := decide_eq_true c4
     clear c4; replace H := ifS H; obtain ⟨c5, H⟩ := H; have c5b0 := decide_eq_true c5; clear c5; replace H := ifS H; obtain ⟨c6, H⟩ := H; have c6b0 := decide_eq_true c6; clear c6; replace H := ifS H; obtain ⟨c7, H⟩ := H; have c7b0 := decide_eq_true c7; clear c7
     by_cases c8 : (!(((rd_T110 l0 x13_1).f0) == ((rd_T110 l1 x13_1).f0)) || (!(((rd_T110 l0 x13_1).f1) == ((rd_T110 l1 x13_1).f1)) || (!(((rd_T110 l0 x13_1).f2) == ((rd_T110 l1 x13_1).f2))))) = true
     ·rw [if_pos c8] at H
      have c8b0 : (!(((rd_T110 l0 x13_1).f0) == ((rd_T110 l1 x13_1).f0)) || (!(((rd_T110 l0 x13_1).f1) == ((rd_T110 l1 x13_1).f1)) || (!(((rd_T110 l0 x13_1).f2) == ((rd_T110 l1 x13_1).f2))))) = true := c8
      clear c8
      obtain rfl := Option.some.inj H
      have p437 : 0 ≤ (x13_1 : Int) := da
      have q437 : x13_1 < (l0.length : Int) := da
      obtain ⟨ad437, e437, hx437_0, hx437_1, hx437_2⟩ := at_T110 HR0.out x13_1 p437 q437
      cases e437
      replace p437 := eq_true p437; replace q437 := eq_true q437
      have p438 : 0 ≤ (x13_1 : Int) := da
      have q438 : x13_1 < (l1.length : Int) := da
      obtain ⟨ad438, e438, hx438_0, hx438_1, hx438_2⟩ := at_T110 HR1.out x13_1 p438 q438
      cases e438
      replace p438 := eq_true p438; replace q438 := eq_true q438; go_wp2
      repeat (go_quiet (fail); try go_wp2)
      go_ret
      exact ⟨er, drw⟩
     ·rw [if_neg c8] at H
      have c8b0 : (!(((rd_T110 l0 x13_1).f0) == ((rd_T110 l1 x13_1).f0)) || (!(((rd_T110 l0 x13_1).f1) == ((rd_T110 l1 x13_1).f1)) || (!(((rd_T110 l0 x13_1).f2) == ((rd_T110 l1 x13_1).f2))))) = false := by simpa using c8
      clear c8
      have H' := Aside0.mk H
      clear H
      have p437 : 0 ≤ (x13_1 : Int) := da
      have q437 : x13_1 < (l0.length : Int) := da
      obtain ⟨ad437, e437, hx437_0, hx437_1, hx437_2⟩ := at_T110 HR0.out x13_1 p437 q437
      cases e437
      replace p437 := eq_true p437; replace q437 := eq_true q437
      have p438 : 0 ≤ (x13_1 : Int) := da
      have q438 : x13_1 < (l1.length : Int) := da
      obtain ⟨ad438, e438, hx438_0, hx438_1, hx438_2⟩ := at_T110 HR1.out x13_1 p438 q438
      cases e438
      replace p438 := eq_true p438; replace q438 := eq_true q438; go_wp2
      repeat (go_quiet (fail); try go_wp2)
      go_roundg k1
      case measure => have := HK1.out; omega
      case rel => exact ⟨(wrap64 (x13_1 + 1)), er, H', ⟨by have := HK1.out; omega⟩, drw⟩
    ·rw [if_neg c4] at H
     have c4b0 : decide (x13_1 < (l0.length : Int)) = false := decide_eq_false c4
     clear c4
     obtain rfl := Option.some.inj H
     go_wp2
     repeat (go_quiet (fail); try go_wp2)
     go_ret
     exact ⟨er, drw⟩
 ·rw [if_neg c3] at H
  have c3b0 : ((l0.length : Int) == (l1.length : Int)) = false := beq_eq_false_iff_ne.mpr c3
  have c3b1 : ((l0.length : Int) != (l1.length : Int)) = true := bne_iff_ne.mpr c3
  have c3b2 : (l0.length == l1.length) = false := by first | simpa using c3 | (simp at c3 ⊢; omega)
  obtain rfl := Option.some.inj H
  go_enter Try.func76, Try.ntmps76
  go_wp2
  repeat (go_quiet (fail); try go_wp2)
  go_ret
  exact ⟨er, drw⟩

/-! ### impl_isTally: function 163 -/
def impl_isTally.f (a0_0 : Int) (a0_1 : Int) (a0_2 : Int) : Option (Bool) := (impl_within.f a0_0 0 11).bind fun t440 => (if t440 = true then ((impl_within.f a0_1 0 100).bind fun t441 => (if t441 = true then ((impl_within.f a0_2 0 100).bind fun t442 => (some t442)) else (some false))) else (some false))
set_option maxHeartbeats 8000000 in
set_option maxRecDepth 100000 in
theorem impl_isTally.calls (a0_0 : Int) (a0_1 : Int) (a0_2 : Int) (r : Bool) (w : World) (h : impl_isTally.f a0_0 a0_1 a0_2 = some r) :
  Calls Try.prog 163 #[.agg #[.int .i64 a0_0, .int .i64 a0_1, .int .i64 a0_2]] w fun e w' => e = .returned (.bool r) ∧ Below w.heap.size w w' := by
 have hu110 := Try.underlying110
 have HB := Aside0.mk (Below.refl w.heap.size w)
 have H : ((impl_within.f a0_0 0 11).bind fun t440 => (if t440 = true then ((impl_within.f a0_1 0 100).bind fun t441 => (if t441 = true then ((impl_within.f a0_2 0 100).bind fun t442 => (some t442)) else (some false))) else (some false))) = some r := h
 clear h; replace H := bS H; obtain ⟨t440, A2, H⟩ := H
 replace H : (if t440 = true then ((impl_within.f a0_1 0 100).bind fun t441 => (if t441 = true then ((impl_within.f a0_2 0 100).bind fun t442 => (some t442)) else (some false))) else (some false)) = some r := H
 by_cases c3 : t440 = true
 ·subst c3
  have H1 : ((impl_within.f a0_1 0 100).bind fun t441 => (if t441 = true then ((impl_within.f a0_2 0 100).bind fun t442 => (some t442)) else (some false))) = some r := by rw [if_pos rfl] at H; exact H
  clear H
  have H := H1
  clear H1; replace H := bS H; obtain ⟨t441, A4, H⟩ := H
  replace H : (if t441 = true then ((impl_within.f a0_2 0 100).bind fun t442 => (some t442)) else (some false)) = some r := H
  by_cases c5 : t441 = true
  ·subst c5
   have H1 : ((impl_within.f a0_2 0 100).bind fun t442 => (some t442)) = some r := by rw [if_pos rfl] at H; exact H
   clear H
   have H := H1
   clear H1; replace H := bS H; obtain ⟨t442, A6, H⟩ := H
   replace H : (some t442) = some r := H
   obtain rfl := Option.some.inj H
   go_enter Try.func163, Try.ntmps163
   go_wp2_with (first | ((with_reducible refine gate_dst (N := 1) rfl ?_); refine boxev 1 #[.int .i64 a0_0, .int .i64 a0_1, .int .i64 a0_2] 110 ?_; intro gb439 hg w7 hbox hb; have BK439 := ak (hbox); have GW439 := ak (hgl hg (belowd HB)); have GE439 := ak (hgl hg (belowd HB)); replace HB := ak (below_step (belowd HB) hb); clear hb hbox hg; obtain ⟨hcz8_0, hcz8_1, hcz8_2, hfz8_0, hfz8_1, hfz8_2⟩ := box3 BK439) | ((with_reducible refine gate_callee (f := 125) rfl ?_); refine goesLa (some 5) rfl Try.func125 #[.int .i64 a0_0, .int .i64 0, .int .i64 11] rfl ?_; (with_reducible refine (impl_within.calls a0_0 0 11 true _ A2.out).mono ?_); rintro e w' ⟨rfl, ⟨nd, rfl⟩⟩; refine ⟨_, rfl, ?_⟩) | (go_at_call 125; (with_reducible refine (impl_within.calls a0_1 0 100 true _ A4.out).mono ?_); rintro e w' ⟨rfl, ⟨nd, rfl⟩⟩) | (go_at_call 125; (with_reducible refine (impl_within.calls a0_2 0 100 t442 _ A6.out).mono ?_); rintro e w' ⟨rfl, ⟨nd, rfl⟩⟩))
   go_ret
   exact ⟨er2, belowg1 HB GE439⟩
  ·replace c5 := Bool.eq_false_iff.mpr c5
   subst c5
   have H1 : (some false) = some r := by rw [if_neg (show ¬ (false = true) by decide)] at H; exact H
   clear H
   have H := H1
   clear H1
   obtain rfl := Option.some.inj H
   go_enter Try.func163, Try.ntmps163
   go_wp2_with (first | ((with_reducible refine gate_dst (N := 1) rfl ?_); refine boxev 1 #[.int .i64 a0_0, .int .i64 a0_1, .int .i64 a0_2] 110 ?_; intro gb439 hg w9 hbox hb; have BK439 := ak (hbox); have GW439 := ak (hgl hg (belowd HB)); have GE439 := ak (hgl hg (belowd HB)); replace HB := ak (below_step (belowd HB) hb); clear hb hbox hg; obtain ⟨hcz10_0, hcz10_1, hcz10_2, hfz10_0, hfz10_1, hfz10_2⟩ := box3 BK439) | ((with_reducible refine gate_callee (f := 125) rfl ?_); refine goesLa (some 5) rfl Try.func125 #[.int .i64 a0_0, .int .i64 0, .int .i64 11] rfl ?_; (with_reducible refine (impl_within.calls a0_0 0 11 true _ A2.out).mono ?_); rintro e w' ⟨rfl, ⟨nd, rfl⟩⟩; refine ⟨_, rfl, ?_⟩) | (go_at_call 125; (with_reducible refine (impl_within.calls a0_1 0 100 false _ A4.out).mono ?_); rintro e w' ⟨rfl, ⟨nd, rfl⟩⟩))
   go_ret
   exact ⟨er2, belowg1 HB GE439⟩
 ·replace c3 := Bool.eq_false_iff.mpr c3
  subst c3
  have H1 : (some false) = some r := by rw [if_neg (show ¬ (false = true) by decide)] at H; exact H
  clear H
  have H := H1
  clear H1
  obtain rfl := Option.some.inj H
  go_enter Try.func163, Try.ntmps163
  go_wp2_with (first | ((with_reducible refine gate_dst (N := 1) rfl ?_); refine boxev 1 #[.int .i64 a0_0, .int .i64 a0_1, .int .i64 a0_2] 110 ?_; intro gb439 hg w11 hbox hb; have BK439 := ak (hbox); have GW439 := ak (hgl hg (belowd HB)); have GE439 := ak (hgl hg (belowd HB)); replace HB := ak (below_step (belowd HB) hb); clear hb hbox hg; obtain ⟨hcz12_0, hcz12_1, hcz12_2, hfz12_0, hfz12_1, hfz12_2⟩ := box3 BK439) | ((with_reducible refine gate_callee (f := 125) rfl ?_); refine goesLa (some 5) rfl Try.func125 #[.int .i64 a0_0, .int .i64 0, .int .i64 11] rfl ?_; (with_reducible refine (impl_within.calls a0_0 0 11 false _ A2.out).mono ?_); rintro e w' ⟨rfl, ⟨nd, rfl⟩⟩; refine ⟨_, rfl, ?_⟩))
  go_ret
  exact ⟨er2, belowg1 HB GE439⟩

/-! ### impl_GoodTallies: function 77 -/
def impl_GoodTallies.l0 : Nat → List (S110) → List (S110) → Int → Int → Option (Bool)
  | 0, _, _, _, _ => none
  | k + 1, x0, x5, x6, x7 => if x7 < x6 then (if 0 ≤ x7 then (if x7 < (x5.length : Int) then ((impl_isTally.f ((rd_T110 x5 x7).f0) ((rd_T110 x5 x7).f1) ((rd_T110 x5 x7).f2)).bind fun t445 => (if t445 = true then (if ((rd_T110 x5 x7).f0) = x7 then (impl_GoodTallies.l0 k x0 x5 x6 (wrap64 (x7 + 1))) else (some false)) else (some false))) else (none)) else (none)) else ((impl_within.f (x0.length : Int) 1 12).bind fun t446 => (some t446))
def impl_GoodTallies.f (k : Nat) (l0 : List (S110)) : Option (Bool) := impl_GoodTallies.l0 k l0 l0 (l0.length : Int) 0
theorem impl_GoodTallies.mono_l : ∀ k, (∀ y0 y1 y2 y3, LeO (impl_GoodTallies.l0 k y0 y1 y2 y3) (impl_GoodTallies.l0 (k + 1) y0 y1 y2 y3))
 | 0 => fun _ _ _ _ r h => by simp [impl_GoodTallies.l0] at h
 | k + 1 => by
  have ih0 := impl_GoodTallies.mono_l k
  ·intro y0 y1 y2 y3
   unfold impl_GoodTallies.l0
   repeat' (first | (with_reducible first | exact ih0 _ _ _ _ | exact LeO.refl _ | exact LeO.none _ | refine LeO.ite ?_ ?_ | refine LeO.bind ?_ (fun _ => ?_)) | exact ih0 _ _ _ _ | exact LeO.none _ | refine LeO.ite ?_ ?_ | refine LeO.bind ?_ (fun _ => ?_))
theorem impl_GoodTallies.mono : ∀ a0 k, LeO (impl_GoodTallies.f k a0) (impl_GoodTallies.f (k + 1) a0) := by
 intro a0 k
 have ih0 := impl_GoodTallies.mono_l k
 unfold impl_GoodTallies.f
 repeat' (first | (with_reducible first | exact ih0 _ _ _ _ | exact LeO.refl _ | exact LeO.none _ | refine LeO.ite ?_ ?_ | refine LeO.bind ?_ (fun _ => ?_)) | exact ih0 _ _ _ _ | exact LeO.none _ | refine LeO.ite ?_ ?_ | refine LeO.bind ?_ (fun _ => ?_))
set_option maxHeartbeats 8000000 in
set_option maxRecDepth 100000 in
theorem impl_GoodTallies.calls (k : Nat) (A0 : Option Addr) (c0 : Nat) (l0 : List (S110)) (r : Bool) (w : World) (hr0 : Kd.C k110 w A0 l0.length l0) (hc0 : l0.length ≤ c0) (h : impl_GoodTallies.f k l0 = some r) :
  Calls Try.prog 77 #[.slice A0 l0.length c0] w fun e w' => e = .returned (.bool r) ∧ Below w.heap.size w w' := by
 have hu110 := Try.underlying110
 have HR0 := Aside0.mk hr0; have HC0 := Aside0.mk hc0; clear hr0 hc0
 have HB := Aside0.mk (Below.refl w.heap.size w)
 have H : (impl_GoodTallies.l0 k l0 l0 (l0.length : Int) 0) = some r := h
 clear h
 have H' := Aside0.mk H
 clear H
 go_enter Try.func77, Try.ntmps77
 go_wp2
 go_loopg [7] k (fun kq v7 w' => ∃ (x7_1 : Int), v7 = .int .i64 x7_1 ∧ Aside0 (impl_GoodTallies.l0 kq l0 l0 (l0.length : Int) x7_1 = some r) ∧ Aside0 (kq ≤ k) ∧ Aside0 (Below w.heap.size w w'))
 case atStart => exact ⟨(0), er, H', ⟨Nat.le_refl _⟩, ⟨belowd HB⟩⟩
 case round =>
  clear H'
  obtain ⟨x7_1, rfl, HA, HK1, HB⟩ := hrel
  cases gk with
  | zero => exact absurd HA.out (by simp [impl_GoodTallies.l0])
  | succ k1 =>
   have H := HA.out; clear HA
   simp only [impl_GoodTallies.l0] at H
   by_cases c2 : x7_1 < (l0.length : Int)
   ·rw [if_pos c2] at H
    have c2b0 : decide (x7_1 < (l0.length : Int)) = true := decide_eq_true c2
    clear c2; replace H := ifS H; obtain ⟨c3, H⟩ := H; have c3b0 := decide_eq_true c3; clear c3; replace H := ifS H; obtain ⟨c4, H⟩ := H; have c4b0 := decide_eq_true c4; clear c4; replace H := bS H; obtain ⟨t445, A5, H⟩ := H
    replace H : (if t445 = true then (if ((rd_T110 l0 x7_1).f0) = x7_1 then (impl_GoodTallies.l0 k1 l0 l0 (l0.length : Int) (wrap64 (x7_1 + 1))) else (some false)) else (some false)) = some r := H
    by_cases c6 : t445 = true
    ·subst c6
     have H1 : (if ((rd_T110 l0 x7_1).f0) = x7_1 then (impl_GoodTallies.l0 k1 l0 l0 (l0.length : Int) (wrap64 (x7_1 + 1))) else (some false)) = some r := by rw [if_pos rfl] at H; exact H
     clear H
     have H := H1
     clear H1
     by_cases c7 : ((rd_T110 l0 x7_1).f0) = x7_1
     ·rw [if_pos c7] at H
      have c7b0 : (((rd_T110 l0 x7_1).f0) == x7_1) = true := beq_iff_eq.mpr c7
      have c7b1 : (((rd_T110 l0 x7_1).f0) != x7_1) = false := bne_eq_false_iff_eq.mpr c7
      clear c7
      have H' := Aside0.mk H
      clear H
      have p443 : 0 ≤ (x7_1 : Int) := da
      have q443 : x7_1 < (l0.length : Int) := da
      obtain ⟨ad443, e443, hx443_0, hx443_1, hx443_2⟩ := at_T110 HR0.out x7_1 p443 q443
      cases e443
      replace hx443_0 := (HB.out.cell (World.block_lt_of_cell? w _ hx443_0)).trans hx443_0
      replace hx443_1 := (HB.out.cell (World.block_lt_of_cell? w _ hx443_1)).trans hx443_1
      replace hx443_2 := (HB.out.cell (World.block_lt_of_cell? w _ hx443_2)).trans hx443_2
      replace p443 := eq_true p443; replace q443 := eq_true q443
      go_wp2_with (first | ((with_reducible refine gate_dst (N := 4) rfl ?_); refine boxev 4 #[.int .i64 0, .int .i64 0, .int .i64 0] 110 ?_; intro gb444 hg w8 hbox hb; have BK444 := ak (hbox); have GW444 := ak (hgl hg (belowd HB)); have GE444 := ak (hgl hg (belowd HB)); replace HB := ak (below_step (belowd HB) hb); clear hb hbox hg; obtain ⟨hcz9_0, hcz9_1, hcz9_2, hfz9_0, hfz9_1, hfz9_2⟩ := box3 BK444) | ((with_reducible refine gate_callee (f := 163) rfl ?_); refine goesLa (some 13) rfl Try.func163 #[.agg #[.int .i64 ((rd_T110 l0 x7_1).f0), .int .i64 ((rd_T110 l0 x7_1).f1), .int .i64 ((rd_T110 l0 x7_1).f2)]] rfl ?_; (with_reducible refine (impl_isTally.calls ((rd_T110 l0 x7_1).f0) ((rd_T110 l0 x7_1).f1) ((rd_T110 l0 x7_1).f2) true _ A5.out).mono ?_); rintro e w10 ⟨rfl, hb⟩; refine ⟨_, rfl, ?_⟩; replace BK444 := ak (blk_below (g := gb444) (o := .cells #[.int .i64 ((rd_T110 l0 x7_1).f0), .int .i64 ((rd_T110 l0 x7_1).f1), .int .i64 ((rd_T110 l0 x7_1).f2)] 110 (0, 0)) (by (with_reducible repeat (first | refine blk_drewN ?_ _ | refine blk_drew ?_ | refine blk_alloc ?_ _)); refine blk_put (cs := #[.int .i64 ((rd_T110 l0 x7_1).f0), .int .i64 ((rd_T110 l0 x7_1).f1), .int .i64 0]) ?_ 2 _ rfl; (with_reducible repeat (first | refine blk_drewN ?_ _ | refine blk_drew ?_ | refine blk_alloc ?_ _)); refine blk_put (cs := #[.int .i64 ((rd_T110 l0 x7_1).f0), .int .i64 0, .int .i64 0]) ?_ 1 _ rfl; (with_reducible repeat (first | refine blk_drewN ?_ _ | refine blk_drew ?_ | refine blk_alloc ?_ _)); refine blk_put (cs := #[.int .i64 0, .int .i64 0, .int .i64 0]) ?_ 0 _ rfl; (with_reducible repeat (first | refine blk_drewN ?_ _ | refine blk_drew ?_ | refine blk_alloc ?_ _)); exact BK444.out) hb); replace HB := ak (below_step (belowg1 HB GE444) hb); (try clear hb); obtain ⟨hcz11_0, hcz11_1, hcz11_2, hfz11_0, hfz11_1, hfz11_2⟩ := box3 BK444))
      go_roundg k1
      case measure => have := HK1.out; omega
      case rel => exact ⟨(wrap64 (x7_1 + 1)), er, H', ⟨by have := HK1.out; omega⟩, ⟨belowg1 HB GE444⟩⟩
     ·rw [if_neg c7] at H
      have c7b0 : (((rd_T110 l0 x7_1).f0) == x7_1) = false := beq_eq_false_iff_ne.mpr c7
      have c7b1 : (((rd_T110 l0 x7_1).f0) != x7_1) = true := bne_iff_ne.mpr c7
      obtain rfl := Option.some.inj H
      have p443 : 0 ≤ (x7_1 : Int) := da
      have q443 : x7_1 < (l0.length : Int) := da
      obtain ⟨ad443, e443, hx443_0, hx443_1, hx443_2⟩ := at_T110 HR0.out x7_1 p443 q443
      cases e443
      replace hx443_0 := (HB.out.cell (World.block_lt_of_cell? w _ hx443_0)).trans hx443_0
      replace hx443_1 := (HB.out.cell (World.block_lt_of_cell? w _ hx443_1)).trans hx443_1
      replace hx443_2 := (HB.out.cell (World.block_lt_of_cell? w _ hx443_2)).trans hx443_2
      replace p443 := eq_true p443; replace q443 := eq_true q443
      go_wp2_with (first | ((with_reducible refine gate_dst (N := 4) rfl ?_); refine boxev 4 #[.int .i64 0, .int .i64 0, .int .i64 0] 110 ?_; intro gb444 hg w12 hbox hb; have BK444 := ak (hbox); have GW444 := ak (hgl hg (belowd HB)); have GE444 := ak (hgl hg (belowd HB)); replace HB := ak (below_step (belowd HB) hb); clear hb hbox hg; obtain ⟨hcz13_0, hcz13_1, hcz13_2, hfz13_0, hfz13_1, hfz13_2⟩ := box3 BK444) | ((with_reducible refine gate_callee (f := 163) rfl ?_); refine goesLa (some 13) rfl Try.func163 #[.agg #[.int .i64 ((rd_T110 l0 x7_1).f0), .int .i64 ((rd_T110 l0 x7_1).f1), .int .i64 ((rd_T110 l0 x7_1).f2)]] rfl ?_; (with_reducible refine (impl_isTally.calls ((rd_T110 l0 x7_1).f0) ((rd_T110 l0 x7_1).f1) ((rd_T110 l0 x7_1).f2) true _ A5.out).mono ?_); rintro e w14 ⟨rfl, hb⟩; refine ⟨_, rfl, ?_⟩; replace BK444 := ak (blk_below (g := gb444) (o := .cells #[.int .i64 ((rd_T110 l0 x7_1).f0), .int .i64 ((rd_T110 l0 x7_1).f1), .int .i64 ((rd_T110 l0 x7_1).f2)] 110 (0, 0)) (by (with_reducible repeat (first | refine blk_drewN ?_ _ | refine blk_drew ?_ | refine blk_alloc ?_ _)); refine blk_put (cs := #[.int .i64 ((rd_T110 l0 x7_1).f0), .int .i64 ((rd_T110 l0 x7_1).f1), .int .i64 0]) ?_ 2 _ rfl; (with_reducible repeat (first | refine blk_drewN ?_ _ | refine blk_drew ?_ | refine blk_alloc ?_ _)); refine blk_put (cs := #[.int .i64 ((rd_T110 l0 x7_1).f0), .int .i64 0, .int .i64 0]) ?_ 1 _ rfl; (with_reducible repeat (first | refine blk_drewN ?_ _ | refine blk_drew ?_ | refine blk_alloc ?_ _)); refine blk_put (cs := #[.int .i64 0, .int .i64 0, .int .i64 0]) ?_ 0 _ rfl; (with_reducible repeat (first | refine blk_drewN ?_ _ | refine blk_drew ?_ | refine blk_alloc ?_ _)); exact BK444.out) hb); replace HB := ak (below_step (belowg1 HB GE444) hb); (try clear hb); obtain ⟨hcz15_0, hcz15_1, hcz15_2, hfz15_0, hfz15_1, hfz15_2⟩ := box3 BK444))
      go_ret
      exact ⟨er2, belowg1 HB GE444⟩
    ·replace c6 := Bool.eq_false_iff.mpr c6
     subst c6
     have H1 : (some false) = some r := by rw [if_neg (show ¬ (false = true) by decide)] at H; exact H
     clear H
     have H := H1
     clear H1
     obtain rfl := Option.some.inj H
     have p443 : 0 ≤ (x7_1 : Int) := da
     have q443 : x7_1 < (l0.length : Int) := da
     obtain ⟨ad443, e443, hx443_0, hx443_1, hx443_2⟩ := at_T110 HR0.out x7_1 p443 q443
     cases e443
     replace hx443_0 := (HB.out.cell (World.block_lt_of_cell? w _ hx443_0)).trans hx443_0
     replace hx443_1 := (HB.out.cell (World.block_lt_of_cell? w _ hx443_1)).trans hx443_1
     replace hx443_2 := (HB.out.cell (World.block_lt_of_cell? w _ hx443_2)).trans hx443_2
     replace p443 := eq_true p443; replace q443 := eq_true q443
     go_wp2_with (first | ((with_reducible refine gate_dst (N := 4) rfl ?_); refine boxev 4 #[.int .i64 0, .int .i64 0, .int .i64 0] 110 ?_; intro gb444 hg w16 hbox hb; have BK444 := ak (hbox); have GW444 := ak (hgl hg (belowd HB)); have GE444 := ak (hgl hg (belowd HB)); replace HB := ak (below_step (belowd HB) hb); clear hb hbox hg; obtain ⟨hcz17_0, hcz17_1, hcz17_2, hfz17_0, hfz17_1, hfz17_2⟩ := box3 BK444) | ((with_reducible refine gate_callee (f := 163) rfl ?_); refine goesLa (some 13) rfl Try.func163 #[.agg #[.int .i64 ((rd_T110 l0 x7_1).f0), .int .i64 ((rd_T110 l0 x7_1).f1), .int .i64 ((rd_T110 l0 x7_1).f2)]] rfl ?_; (with_reducible refine (impl_isTally.calls ((rd_T110 l0 x7_1).f0) ((rd_T110 l0 x7_1).f1) ((rd_T110 l0 x7_1).f2) false _ A5.out).mono ?_); rintro e w18 ⟨rfl, hb⟩; refine ⟨_, rfl, ?_⟩; replace BK444 := ak (blk_below (g := gb444) (o := .cells #[.int .i64 ((rd_T110 l0 x7_1).f0), .int .i64 ((rd_T110 l0 x7_1).f1), .int .i64 ((rd_T110 l0 x7_1).f2)] 110 (0, 0)) (by (with_reducible repeat (first | refine blk_drewN ?_ _ | refine blk_drew ?_ | refine blk_alloc ?_ _)); refine blk_put (cs := #[.int .i64 ((rd_T110 l0 x7_1).f0), .int .i64 ((rd_T110 l0 x7_1).f1), .int .i64 0]) ?_ 2 _ rfl; (with_reducible repeat (first | refine blk_drewN ?_ _ | refine blk_drew ?_ | refine blk_alloc ?_ _)); refine blk_put (cs := #[.int .i64 ((rd_T110 l0 x7_1).f0), .int .i64 0, .int .i64 0]) ?_ 1 _ rfl; (with_reducible repeat (first | refine blk_drewN ?_ _ | refine blk_drew ?_ | refine blk_alloc ?_ _)); refine blk_put (cs := #[.int .i64 0, .int .i64 0, .int .i64 0]) ?_ 0 _ rfl; (with_reducible repeat (first | refine blk_drewN ?_ _ | refine blk_drew ?_ | refine blk_alloc ?_ _)); exact BK444.out) hb); replace HB := ak (below_step (belowg1 HB GE444) hb); (try clear hb)))
     go_ret
     exact ⟨er2, belowg1 HB GE444⟩
   ·rw [if_neg c2] at H
    have c2b0 : decide (x7_1 < (l0.length : Int)) = false := decide_eq_false c2
    clear c2; replace H := bS H; obtain ⟨t446, A19, H⟩ := H
    replace H : (some t446) = some r := H
    obtain rfl := Option.some.inj H
    go_wp2_with (first | ((with_reducible refine gate_callee (f := 125) rfl ?_); refine goesLa (some 24) rfl Try.func125 #[.int .i64 (l0.length : Int), .int .i64 1, .int .i64 12] rfl ?_; (with_reducible refine (impl_within.calls (l0.length : Int) 1 12 t446 _ A19.out).mono ?_); rintro e w' ⟨rfl, ⟨nd, rfl⟩⟩; refine ⟨_, rfl, ?_⟩))
    go_ret
    exact ⟨er2, belowd HB⟩

/-! ### impl_IsProved: function 78 -/
def impl_IsProved.f (k : Nat) (a0 : Int) (l1 : List (S91)) (a2_0 : Int) (a2_1 : Int) (a2_2 : Int) : Option (Bool × Bool) := (impl_areFaults.f a0).bind fun t448 => (if t448 = true then ((impl_areStatements.f k l1).bind fun t449 => (if t449 = true then ((impl_GoodClaim.f a2_0 a2_1 a2_2).bind fun t450 => (if t450 = true then ((impl_refusedBy.f k l1 a2_0 a2_1 a2_2).bind fun t451 => (some (decide ((t451.length : Int) > a0), true))) else (some (false, false)))) else (some (false, false)))) else (some (false, false)))
theorem impl_IsProved.mono : ∀ a0 a1 a2 a3 a4 k, LeO (impl_IsProved.f k a0 a1 a2 a3 a4) (impl_IsProved.f (k + 1) a0 a1 a2 a3 a4) := by
 intro a0 a1 a2 a3 a4 k
 unfold impl_IsProved.f
 repeat' (first | (with_reducible first | exact impl_areStatements.mono _ _ | exact impl_refusedBy.mono _ _ _ _ _ | exact LeO.refl _ | exact LeO.none _ | refine LeO.ite ?_ ?_ | refine LeO.bind ?_ (fun _ => ?_)) | exact impl_areStatements.mono _ _ | exact impl_refusedBy.mono _ _ _ _ _ | exact LeO.none _ | refine LeO.ite ?_ ?_ | refine LeO.bind ?_ (fun _ => ?_))
set_option maxHeartbeats 8000000 in
set_option maxRecDepth 100000 in
theorem impl_IsProved.calls (k : Nat) (a0 : Int) (A1 : Option Addr) (c1 : Nat) (l1 : List (S91)) (a2_0 : Int) (a2_1 : Int) (a2_2 : Int) (r1 : Bool) (r2 : Bool) (w : World) (hr1 : Kd.C k91 w A1 l1.length l1) (hc1 : l1.length ≤ c1) (h : impl_IsProved.f k a0 l1 a2_0 a2_1 a2_2 = some (r1, r2)) :
  Calls Try.prog 78 #[.int .i64 a0, .slice A1 l1.length c1, .agg #[.int .i64 a2_0, .int .i64 a2_1, .int .i64 a2_2]] w fun e w' => e = .returned (.tuple #[.bool r1, .bool r2]) ∧ Below w.heap.size w w' := by
 have hu85 := Try.underlying85
 have HR1 := Aside0.mk hr1; have HC1 := Aside0.mk hc1; clear hr1 hc1
 have HB := Aside0.mk (Below.refl w.heap.size w)
 have H : ((impl_areFaults.f a0).bind fun t448 => (if t448 = true then ((impl_areStatements.f k l1).bind fun t449 => (if t449 = true then ((impl_GoodClaim.f a2_0 a2_1 a2_2).bind fun t450 => (if t450 = true then ((impl_refusedBy.f k l1 a2_0 a2_1 a2_2).bind fun t451 => (some (decide ((t451.length : Int) > a0), true))) else (some (false, false)))) else (some (false, false)))) else (some (false, false)))) = some (r1, r2) := h
 clear h; replace H := bS H; obtain ⟨t448, A4, H⟩ := H
 replace H : (if t448 = true then ((impl_areStatements.f k l1).bind fun t449 => (if t449 = true then ((impl_GoodClaim.f a2_0 a2_1 a2_2).bind fun t450 => (if t450 = true then ((impl_refusedBy.f k l1 a2_0 a2_1 a2_2).bind fun t451 => (some (decide ((t451.length : Int) > a0), true))) else (some (false, false)))) else (some (false, false)))) else (some (false, false))) = some (r1, r2) := H
 by_cases c5 : t448 = true
 ·subst c5
  have H1 : ((impl_areStatements.f k l1).bind fun t449 => (if t449 = true then ((impl_GoodClaim.f a2_0 a2_1 a2_2).bind fun t450 => (if t450 = true then ((impl_refusedBy.f k l1 a2_0 a2_1 a2_2).bind fun t451 => (some (decide ((t451.length : Int) > a0), true))) else (some (false, false)))) else (some (false, false)))) = some (r1, r2) := by rw [if_pos rfl] at H; exact H
  clear H
  have H := H1
  clear H1; replace H := bS H; obtain ⟨t449, A6, H⟩ := H
  replace H : (if t449 = true then ((impl_GoodClaim.f a2_0 a2_1 a2_2).bind fun t450 => (if t450 = true then ((impl_refusedBy.f k l1 a2_0 a2_1 a2_2).bind fun t451 => (some (decide ((t451.length : Int) > a0), true))) else (some (false, false)))) else (some (false, false))) = some (r1, r2) := H
  by_cases c7 : t449 = true
  ·subst c7
   have H1 : ((impl_GoodClaim.f a2_0 a2_1 a2_2).bind fun t450 => (if t450 = true then ((impl_refusedBy.f k l1 a2_0 a2_1 a2_2).bind fun t451 => (some (decide ((t451.length : Int) > a0), true))) else (some (false, false)))) = some (r1, r2) := by rw [if_pos rfl] at H; exact H
   clear H
   have H := H1
   clear H1; replace H := bS H; obtain ⟨t450, A8, H⟩ := H
   replace H : (if t450 = true then ((impl_refusedBy.f k l1 a2_0 a2_1 a2_2).bind fun t451 => (some (decide ((t451.length : Int) > a0), true))) else (some (false, false))) = some (r1, r2) := H
   by_cases c9 : t450 = true
   ·subst c9
    have H1 : ((impl_refusedBy.f k l1 a2_0 a2_1 a2_2).bind fun t451 => (some (decide ((t451.length : Int) > a0), true))) = some (r1, r2) := by rw [if_pos rfl] at H; exact H
    clear H
    have H := H1
    clear H1; replace H := bS H; obtain ⟨t451, A10, H⟩ := H
    replace H : (some (decide ((t451.length : Int) > a0), true)) = some (r1, r2) := H
    simp only [Option.some.injEq, Prod.mk.injEq] at H
    obtain ⟨rfl, rfl⟩ := H
    go_enter Try.func78, Try.ntmps78
    go_wp2_with (first | ((with_reducible refine gate_dst (N := 5) rfl ?_); refine boxev 5 #[.int .i64 a2_0, .int .i64 a2_1, .int .i64 a2_2] 85 ?_; intro gb447 hg w11 hbox hb; have BK447 := ak (hbox); have GW447 := ak (hgl hg (belowd HB)); have GE447 := ak (hgl hg (belowd HB)); replace HB := ak (below_step (belowd HB) hb); clear hb hbox hg) | ((with_reducible refine gate_callee (f := 124) rfl ?_); refine goesLa (some 9) rfl Try.func124 #[.int .i64 a0] rfl ?_; (with_reducible refine (impl_areFaults.calls a0 true _ A4.out).mono ?_); rintro e w' ⟨rfl, ⟨nd, rfl⟩⟩; refine ⟨_, rfl, ?_⟩) | (go_at_call 138; (with_reducible refine (impl_areStatements.calls k _ _ l1 true _ ?side1 ?side2 A6.out).mono ?_); (case side1 => exact cd (Kd.C_below HR1.out (belowg1 HB GE447))); (case side2 => exact HC1.out); rintro e w12 ⟨rfl, hb⟩; replace BK447 := ak (blk_below (blkd BK447) hb); replace HB := ak (below_step (belowg1 HB GE447) hb); (try clear hb); obtain ⟨hcz13_0, hcz13_1, hcz13_2, hfz13_0, hfz13_1, hfz13_2⟩ := box3 BK447) | (go_at_call 145; (with_reducible refine (impl_GoodClaim.calls a2_0 a2_1 a2_2 true _ A8.out).mono ?_); rintro e w14 ⟨rfl, hb⟩; replace BK447 := ak (blk_below (blkd BK447) hb); replace HB := ak (below_step (belowg1 HB GE447) hb); (try clear hb); obtain ⟨hcz15_0, hcz15_1, hcz15_2, hfz15_0, hfz15_1, hfz15_2⟩ := box3 BK447) | ((with_reducible refine gate_callee (f := 146) rfl ?_); refine goesLa (some 23) rfl Try.func146 #[.slice A1 l1.length c1, .agg #[.int .i64 a2_0, .int .i64 a2_1, .int .i64 a2_2]] rfl ?_; (with_reducible refine (impl_refusedBy.calls k _ _ l1 a2_0 a2_1 a2_2 t451 _ ?side1 ?side2 A10.out).mono ?_); (case side1 => exact cd (Kd.C_below HR1.out HB.out)); (case side2 => exact HC1.out); rintro e w16 ⟨v452, rfl, ho0, hb⟩; refine ⟨_, rfl, ?_⟩; have HO453 := ak (Kd.R_lower ho0 (below_size (belowg1 HB GE447))); replace BK447 := ak (blk_below (blkd BK447) hb); replace HB := ak (below_step (belowg1 HB GE447) hb); (try clear hb); (try clear ho0); obtain ⟨Ao17, co17, eo17⟩ := Kd.R_slice HO453.out; subst eo17))
    go_ret2
    exact ⟨er2, belowg1 HB GE447⟩
   ·replace c9 := Bool.eq_false_iff.mpr c9
    subst c9
    have H1 : (some (false, false)) = some (r1, r2) := by rw [if_neg (show ¬ (false = true) by decide)] at H; exact H
    clear H
    have H := H1
    clear H1
    simp only [Option.some.injEq, Prod.mk.injEq] at H
    obtain ⟨rfl, rfl⟩ := H
    go_enter Try.func78, Try.ntmps78
    go_wp2_with (first | ((with_reducible refine gate_dst (N := 5) rfl ?_); refine boxev 5 #[.int .i64 a2_0, .int .i64 a2_1, .int .i64 a2_2] 85 ?_; intro gb447 hg w18 hbox hb; have BK447 := ak (hbox); have GW447 := ak (hgl hg (belowd HB)); have GE447 := ak (hgl hg (belowd HB)); replace HB := ak (below_step (belowd HB) hb); clear hb hbox hg) | ((with_reducible refine gate_callee (f := 124) rfl ?_); refine goesLa (some 9) rfl Try.func124 #[.int .i64 a0] rfl ?_; (with_reducible refine (impl_areFaults.calls a0 true _ A4.out).mono ?_); rintro e w' ⟨rfl, ⟨nd, rfl⟩⟩; refine ⟨_, rfl, ?_⟩) | (go_at_call 138; (with_reducible refine (impl_areStatements.calls k _ _ l1 true _ ?side1 ?side2 A6.out).mono ?_); (case side1 => exact cd (Kd.C_below HR1.out (belowg1 HB GE447))); (case side2 => exact HC1.out); rintro e w19 ⟨rfl, hb⟩; replace BK447 := ak (blk_below (blkd BK447) hb); replace HB := ak (below_step (belowg1 HB GE447) hb); (try clear hb); obtain ⟨hcz20_0, hcz20_1, hcz20_2, hfz20_0, hfz20_1, hfz20_2⟩ := box3 BK447) | (go_at_call 145; (with_reducible refine (impl_GoodClaim.calls a2_0 a2_1 a2_2 false _ A8.out).mono ?_); rintro e w21 ⟨rfl, hb⟩; replace BK447 := ak (blk_below (blkd BK447) hb); replace HB := ak (below_step (belowg1 HB GE447) hb); (try clear hb)))
    go_ret2
    exact ⟨er2, belowg1 HB GE447⟩
  ·replace c7 := Bool.eq_false_iff.mpr c7
   subst c7
   have H1 : (some (false, false)) = some (r1, r2) := by rw [if_neg (show ¬ (false = true) by decide)] at H; exact H
   clear H
   have H := H1
   clear H1
   simp only [Option.some.injEq, Prod.mk.injEq] at H
   obtain ⟨rfl, rfl⟩ := H
   go_enter Try.func78, Try.ntmps78
   go_wp2_with (first | ((with_reducible refine gate_dst (N := 5) rfl ?_); refine boxev 5 #[.int .i64 a2_0, .int .i64 a2_1, .int .i64 a2_2] 85 ?_; intro gb447 hg w22 hbox hb; have BK447 := ak (hbox); have GW447 := ak (hgl hg (belowd HB)); have GE447 := ak (hgl hg (belowd HB)); replace HB := ak (below_step (belowd HB) hb); clear hb hbox hg) | ((with_reducible refine gate_callee (f := 124) rfl ?_); refine goesLa (some 9) rfl Try.func124 #[.int .i64 a0] rfl ?_; (with_reducible refine (impl_areFaults.calls a0 true _ A4.out).mono ?_); rintro e w' ⟨rfl, ⟨nd, rfl⟩⟩; refine ⟨_, rfl, ?_⟩) | (go_at_call 138; (with_reducible refine (impl_areStatements.calls k _ _ l1 false _ ?side1 ?side2 A6.out).mono ?_); (case side1 => exact cd (Kd.C_below HR1.out (belowg1 HB GE447))); (case side2 => exact HC1.out); rintro e w23 ⟨rfl, hb⟩; replace BK447 := ak (blk_below (blkd BK447) hb); replace HB := ak (below_step (belowg1 HB GE447) hb); (try clear hb)))
   go_ret2
   exact ⟨er2, belowg1 HB GE447⟩
 ·replace c5 := Bool.eq_false_iff.mpr c5
  subst c5
  have H1 : (some (false, false)) = some (r1, r2) := by rw [if_neg (show ¬ (false = true) by decide)] at H; exact H
  clear H
  have H := H1
  clear H1
  simp only [Option.some.injEq, Prod.mk.injEq] at H
  obtain ⟨rfl, rfl⟩ := H
  go_enter Try.func78, Try.ntmps78
  go_wp2_with (first | ((with_reducible refine gate_dst (N := 5) rfl ?_); refine boxev 5 #[.int .i64 a2_0, .int .i64 a2_1, .int .i64 a2_2] 85 ?_; intro gb447 hg w24 hbox hb; have BK447 := ak (hbox); have GW447 := ak (hgl hg (belowd HB)); have GE447 := ak (hgl hg (belowd HB)); replace HB := ak (below_step (belowd HB) hb); clear hb hbox hg) | ((with_reducible refine gate_callee (f := 124) rfl ?_); refine goesLa (some 9) rfl Try.func124 #[.int .i64 a0] rfl ?_; (with_reducible refine (impl_areFaults.calls a0 false _ A4.out).mono ?_); rintro e w' ⟨rfl, ⟨nd, rfl⟩⟩; refine ⟨_, rfl, ?_⟩))
  go_ret2
  exact ⟨er2, belowg1 HB GE447⟩

end Go.Proofs.Ytkgogglnipdcfaa.QFnScores
