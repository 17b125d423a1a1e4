-- printed by this session's own program (wip/tools/pp.py: the kit's print.py with changes); Lean checks it
import Derived.Test.YtkgogglnipdcfaaQFnStatedx0
import Derived.Test.YtkgogglnipdcfaaQFnStatedx3
namespace Go.Proofs.Ytkgogglnipdcfaa.QFnStated
open Go.RowKit Go.Proofs.YtkgogglnipdcfaaW.PrintWords Go.Proofs.YtkgogglnipdcfaaW.PrintLast Go.Proofs.YtkgogglnipdcfaaW.PrintMore
attribute [local go_sem] max2_int min2_int max_two min_two max_three min_three max_four min_four strLss strGtr strLeq strGeq   -- for this text's walks alone
set_option linter.unusedVariables false
set_option linter.unusedSimpArgs false

/-! ### slices_IndexFunc_228_at_200: function 228 -/
def slices_IndexFunc_228_at_200.l0 : Nat → List (S91) → Int → Int → Option (Int)
  | 0, _, _, _ => none
  | k + 1, x0, x7, x8 => if x8 < x7 then (if 0 ≤ x8 then (if x8 < (x0.length : Int) then ((impl_areStatements_1.f ((rd_T91 x0 x8).f0) ((rd_T91 x0 x8).f1.f0) ((rd_T91 x0 x8).f1.f1) ((rd_T91 x0 x8).f1.f2) ((rd_T91 x0 x8).f2)).bind fun t172 => (if t172 = true then (some x8) else (slices_IndexFunc_228_at_200.l0 k x0 x7 (wrap64 (x8 + 1))))) else (none)) else (none)) else (some (-1))
def slices_IndexFunc_228_at_200.f (k : Nat) (l0 : List (S91))  : Option (Int) := slices_IndexFunc_228_at_200.l0 k l0 (l0.length : Int) 0
theorem slices_IndexFunc_228_at_200.mono_l : ∀ k, (∀ y0 y1 y2, LeO (slices_IndexFunc_228_at_200.l0 k y0 y1 y2) (slices_IndexFunc_228_at_200.l0 (k + 1) y0 y1 y2))
 | 0 => fun _ _ _ r h => by simp [slices_IndexFunc_228_at_200.l0] at h
 | k + 1 => by
  have ih0 := slices_IndexFunc_228_at_200.mono_l k
  ·intro y0 y1 y2
   unfold slices_IndexFunc_228_at_200.l0
   repeat' (first | (with_reducible first | exact ih0 _ _ _ | exact LeO.refl _ | exact LeO.none _ | refine LeO.ite ?_ ?_ | refine LeO.bind ?_ (fun _ => ?_)) | exact ih0 _ _ _ | exact LeO.none _ | refine LeO.ite ?_ ?_ | refine LeO.bind ?_ (fun _ => ?_))
theorem slices_IndexFunc_228_at_200.mono : ∀ a0 k, LeO (slices_IndexFunc_228_at_200.f k a0) (slices_IndexFunc_228_at_200.f (k + 1) a0) := by
 intro a0 k
 have ih0 := slices_IndexFunc_228_at_200.mono_l k
 unfold slices_IndexFunc_228_at_200.f
 repeat' (first | (with_reducible first | exact ih0 _ _ _ | exact LeO.refl _ | exact LeO.none _ | refine LeO.ite ?_ ?_ | refine LeO.bind ?_ (fun _ => ?_)) | exact ih0 _ _ _ | exact LeO.none _ | refine LeO.ite ?_ ?_ | refine LeO.bind ?_ (fun _ => ?_))
set_option maxHeartbeats 8000000 in
set_option maxRecDepth 100000 in
theorem slices_IndexFunc_228_at_200.calls (k : Nat) (A0 : Option Addr) (c0 : Nat) (l0 : List (S91))  (r : Int) (w : World) (hr0 : Kd.C k91 w A0 l0.length l0) (hc0 : l0.length ≤ c0) (h : slices_IndexFunc_228_at_200.f k l0 = some r) :
  Calls Try.prog 228 #[.slice A0 l0.length c0, .func (.func 200) #[] #[]] w fun e w' => e = .returned (.int .i64 r) ∧ Below w.heap.size w w' := by
 have hu91 := Try.underlying91
 have HR0 := Aside0.mk hr0; have HC0 := Aside0.mk hc0; clear hr0 hc0
 have HB := Aside0.mk (Below.refl w.heap.size w)
 have H : (slices_IndexFunc_228_at_200.l0 k l0 (l0.length : Int) 0) = some r := h
 clear h
 have H' := Aside0.mk H
 clear H
 go_enter Try.func228, Try.ntmps228
 go_wp2
 go_loopg [8] k (fun kq v8 w' => ∃ (x8_1 : Int), v8 = .int .i64 x8_1 ∧ Aside0 (slices_IndexFunc_228_at_200.l0 kq l0 (l0.length : Int) x8_1 = some r) ∧ Aside0 (kq ≤ k) ∧ Aside0 (Below w.heap.size w w'))
 case atStart => exact ⟨(0), er, H', ⟨Nat.le_refl _⟩, ⟨belowd HB⟩⟩
 case round =>
  clear H'
  obtain ⟨x8_1, rfl, HA, HK1, HB⟩ := hrel
  cases gk with
  | zero => exact absurd HA.out (by simp [slices_IndexFunc_228_at_200.l0])
  | succ k1 =>
   have H := HA.out; clear HA
   simp only [slices_IndexFunc_228_at_200.l0] at H
   by_cases c3 : x8_1 < (l0.length : Int)
   ·rw [if_pos c3] at H
    have c3b0 : decide (x8_1 < (l0.length : Int)) = true := decide_eq_true c3
    clear c3; replace H := ifS H; obtain ⟨c4, H⟩ := H; have c4b0 := decide_eq_true c4; clear c4; replace H := ifS H; obtain ⟨c5, H⟩ := H; have c5b0 := decide_eq_true c5; clear c5; replace H := bS H; obtain ⟨t172, A6, H⟩ := H
    replace H : (if t172 = true then (some x8_1) else (slices_IndexFunc_228_at_200.l0 k1 l0 (l0.length : Int) (wrap64 (x8_1 + 1)))) = some r := H
    by_cases c7 : t172 = true
    ·subst c7
     have H1 : (some x8_1) = some r := by rw [if_pos rfl] at H; exact H
     clear H
     have H := H1
     clear H1
     obtain rfl := Option.some.inj H
     have p171 : 0 ≤ (x8_1 : Int) := da
     have q171 : x8_1 < (l0.length : Int) := da
     obtain ⟨ad171, e171, hx171_0, hx171_1, hx171_2, hx171_3, hx171_4⟩ := at_T91 HR0.out x8_1 p171 q171
     cases e171
     replace hx171_0 := (HB.out.cell (World.block_lt_of_cell? w _ hx171_0)).trans hx171_0
     replace hx171_1 := (HB.out.cell (World.block_lt_of_cell? w _ hx171_1)).trans hx171_1
     replace hx171_2 := (HB.out.cell (World.block_lt_of_cell? w _ hx171_2)).trans hx171_2
     replace hx171_3 := (HB.out.cell (World.block_lt_of_cell? w _ hx171_3)).trans hx171_3
     replace hx171_4 := (HB.out.cell (World.block_lt_of_cell? w _ hx171_4)).trans hx171_4
     replace p171 := eq_true p171; replace q171 := eq_true q171
     go_wp2_with (first | ((with_reducible refine gate_value (f := 200) rfl rfl ?_); refine goesV_ (some 16) rfl rfl Try.func200 (by kernel_rfl) rfl #[.agg #[.int .i64 ((rd_T91 l0 x8_1).f0), .int .i64 ((rd_T91 l0 x8_1).f1.f0), .int .i64 ((rd_T91 l0 x8_1).f1.f1), .int .i64 ((rd_T91 l0 x8_1).f1.f2), .bool ((rd_T91 l0 x8_1).f2)]] rfl rfl (by (try simp only [List.map_toArray, List.map_cons, List.map_nil]); first | done | rfl | (simp only [List.length_drop, List.length_take]; rfl)) ?_; (with_reducible refine (impl_areStatements_1.calls ((rd_T91 l0 x8_1).f0) ((rd_T91 l0 x8_1).f1.f0) ((rd_T91 l0 x8_1).f1.f1) ((rd_T91 l0 x8_1).f1.f2) ((rd_T91 l0 x8_1).f2) true _ A6.out).mono ?_); rintro e w8 ⟨rfl, hb⟩; refine ⟨_, rfl, ?_⟩; replace HB := ak (below_step (belowd HB) hb); (try clear hb)))
     go_ret
     exact ⟨er2, belowd HB⟩
    ·replace c7 := Bool.eq_false_iff.mpr c7
     subst c7
     have H1 : (slices_IndexFunc_228_at_200.l0 k1 l0 (l0.length : Int) (wrap64 (x8_1 + 1))) = some r := by rw [if_neg (show ¬ (false = true) by decide)] at H; exact H
     clear H
     have H := H1
     clear H1
     have H' := Aside0.mk H
     clear H
     have p171 : 0 ≤ (x8_1 : Int) := da
     have q171 : x8_1 < (l0.length : Int) := da
     obtain ⟨ad171, e171, hx171_0, hx171_1, hx171_2, hx171_3, hx171_4⟩ := at_T91 HR0.out x8_1 p171 q171
     cases e171
     replace hx171_0 := (HB.out.cell (World.block_lt_of_cell? w _ hx171_0)).trans hx171_0
     replace hx171_1 := (HB.out.cell (World.block_lt_of_cell? w _ hx171_1)).trans hx171_1
     replace hx171_2 := (HB.out.cell (World.block_lt_of_cell? w _ hx171_2)).trans hx171_2
     replace hx171_3 := (HB.out.cell (World.block_lt_of_cell? w _ hx171_3)).trans hx171_3
     replace hx171_4 := (HB.out.cell (World.block_lt_of_cell? w _ hx171_4)).trans hx171_4
     replace p171 := eq_true p171; replace q171 := eq_true q171
     go_wp2_with (first | ((with_reducible refine gate_value (f := 200) rfl rfl ?_); refine goesV_ (some 16) rfl rfl Try.func200 (by kernel_rfl) rfl #[.agg #[.int .i64 ((rd_T91 l0 x8_1).f0), .int .i64 ((rd_T91 l0 x8_1).f1.f0), .int .i64 ((rd_T91 l0 x8_1).f1.f1), .int .i64 ((rd_T91 l0 x8_1).f1.f2), .bool ((rd_T91 l0 x8_1).f2)]] rfl rfl (by (try simp only [List.map_toArray, List.map_cons, List.map_nil]); first | done | rfl | (simp only [List.length_drop, List.length_take]; rfl)) ?_; (with_reducible refine (impl_areStatements_1.calls ((rd_T91 l0 x8_1).f0) ((rd_T91 l0 x8_1).f1.f0) ((rd_T91 l0 x8_1).f1.f1) ((rd_T91 l0 x8_1).f1.f2) ((rd_T91 l0 x8_1).f2) false _ A6.out).mono ?_); rintro e w9 ⟨rfl, hb⟩; refine ⟨_, rfl, ?_⟩; replace HB := ak (below_step (belowd HB) hb); (try clear hb)))
     go_roundg k1
     case measure => have := HK1.out; omega
     case rel => exact ⟨(wrap64 (x8_1 + 1)), er, H', ⟨by have := HK1.out; omega⟩, ⟨belowd HB⟩⟩
   ·rw [if_neg c3] at H
    have c3b0 : decide (x8_1 < (l0.length : Int)) = false := decide_eq_false c3
    clear c3
    obtain rfl := Option.some.inj H
    go_wp2
    go_ret
    exact ⟨er2, belowd HB⟩

/-! ### slices_ContainsFunc_199_at_200: function 199 -/
def slices_ContainsFunc_199_at_200.f (k : Nat) (l0 : List (S91))  : Option (Bool) := (slices_IndexFunc_228_at_200.f k l0).bind fun t173 => (some (decide (t173 ≥ 0)))
theorem slices_ContainsFunc_199_at_200.mono : ∀ a0 k, LeO (slices_ContainsFunc_199_at_200.f k a0) (slices_ContainsFunc_199_at_200.f (k + 1) a0) := by
 intro a0 k
 unfold slices_ContainsFunc_199_at_200.f
 repeat' (first | (with_reducible first | exact slices_IndexFunc_228_at_200.mono _ _ | exact LeO.refl _ | exact LeO.none _ | refine LeO.ite ?_ ?_ | refine LeO.bind ?_ (fun _ => ?_)) | exact slices_IndexFunc_228_at_200.mono _ _ | exact LeO.none _ | refine LeO.ite ?_ ?_ | refine LeO.bind ?_ (fun _ => ?_))
set_option maxHeartbeats 8000000 in
set_option maxRecDepth 100000 in
theorem slices_ContainsFunc_199_at_200.calls (k : Nat) (A0 : Option Addr) (c0 : Nat) (l0 : List (S91))  (r : Bool) (w : World) (hr0 : Kd.C k91 w A0 l0.length l0) (hc0 : l0.length ≤ c0) (h : slices_ContainsFunc_199_at_200.f k l0 = some r) :
  Calls Try.prog 199 #[.slice A0 l0.length c0, .func (.func 200) #[] #[]] w fun e w' => e = .returned (.bool r) ∧ Below w.heap.size w w' := by
 have HR0 := Aside0.mk hr0; have HC0 := Aside0.mk hc0; clear hr0 hc0
 have HB := Aside0.mk (Below.refl w.heap.size w)
 have H : ((slices_IndexFunc_228_at_200.f k l0).bind fun t173 => (some (decide (t173 ≥ 0)))) = some r := h
 clear h; replace H := bS H; obtain ⟨t173, A3, H⟩ := H
 replace H : (some (decide (t173 ≥ 0))) = some r := H
 obtain rfl := Option.some.inj H
 go_enter Try.func199, Try.ntmps199
 go_wp2_with (first | ((with_reducible refine gate_callee (f := 228) rfl ?_); refine goesLa (some 7) rfl Try.func228 #[.slice A0 l0.length c0, .func (.func 200) #[] #[]] rfl ?_; (with_reducible refine (slices_IndexFunc_228_at_200.calls k _ _ l0  t173 _ ?side1 ?side2 A3.out).mono ?_); (case side1 => exact cd HR0.out); (case side2 => exact HC0.out); rintro e w4 ⟨rfl, hb⟩; refine ⟨_, rfl, ?_⟩; replace HB := ak (below_step (belowd HB) hb); (try clear hb)))
 go_ret
 exact ⟨er2, belowd HB⟩

/-! ### impl_areStatements: function 138 -/
def impl_areStatements.f (k : Nat) (l0 : List (S91)) : Option (Bool) := if (l0.length : Int) ≤ 60 then ((slices_ContainsFunc_199_at_200.f k l0).bind fun t174 => (some (!t174))) else (some false)
theorem impl_areStatements.mono : ∀ a0 k, LeO (impl_areStatements.f k a0) (impl_areStatements.f (k + 1) a0) := by
 intro a0 k
 unfold impl_areStatements.f
 repeat' (first | (with_reducible first | exact slices_ContainsFunc_199_at_200.mono _ _ | exact LeO.refl _ | exact LeO.none _ | refine LeO.ite ?_ ?_ | refine LeO.bind ?_ (fun _ => ?_)) | exact slices_ContainsFunc_199_at_200.mono _ _ | exact LeO.none _ | refine LeO.ite ?_ ?_ | refine LeO.bind ?_ (fun _ => ?_))
set_option maxHeartbeats 8000000 in
set_option maxRecDepth 100000 in
theorem impl_areStatements.calls (k : Nat) (A0 : Option Addr) (c0 : Nat) (l0 : List (S91)) (r : Bool) (w : World) (hr0 : Kd.C k91 w A0 l0.length l0) (hc0 : l0.length ≤ c0) (h : impl_areStatements.f k l0 = some r) :
  Calls Try.prog 138 #[.slice A0 l0.length c0] w fun e w' => e = .returned (.bool r) ∧ Below w.heap.size w w' := by
 have HR0 := Aside0.mk hr0; have HC0 := Aside0.mk hc0; clear hr0 hc0
 have HB := Aside0.mk (Below.refl w.heap.size w)
 have H : (if (l0.length : Int) ≤ 60 then ((slices_ContainsFunc_199_at_200.f k l0).bind fun t174 => (some (!t174))) else (some false)) = some r := h
 clear h
 by_cases c2 : (l0.length : Int) ≤ 60
 ·rw [if_pos c2] at H
  have c2b0 : decide ((l0.length : Int) ≤ 60) = true := decide_eq_true c2
  have c2b1 : decide (l0.length ≤ 60) = true := decide_eq_true (by omega)
  clear c2; replace H := bS H; obtain ⟨t174, A3, H⟩ := H
  replace H : (some (!t174)) = some r := H
  obtain rfl := Option.some.inj H
  go_enter Try.func138, Try.ntmps138
  go_wp2_with (first | (go_at_call 199; (with_reducible refine (slices_ContainsFunc_199_at_200.calls k _ _ l0  t174 _ ?side1 ?side2 A3.out).mono ?_); (case side1 => exact cd HR0.out); (case side2 => exact HC0.out); rintro e w4 ⟨rfl, hb⟩; replace HB := ak (below_step (belowd HB) hb); (try clear hb)))
  go_ret
  exact ⟨er2, belowd HB⟩
 ·rw [if_neg c2] at H
  have c2b0 : decide ((l0.length : Int) ≤ 60) = false := decide_eq_false c2
  have c2b1 : decide (l0.length ≤ 60) = false := decide_eq_false (by omega)
  clear c2
  obtain rfl := Option.some.inj H
  go_enter Try.func138, Try.ntmps138
  go_wp2
  go_ret
  exact ⟨er2, belowd HB⟩

-- NOT PRINTED: function 241 (impl_Claim_241)

-- NOT PRINTED: function 261 (impl_Claim_261)

-- NOT PRINTED: function 242 (impl_Claim_242)

-- NOT PRINTED: function 249 (bits_Len32)

-- NOT PRINTED: function 250 (bits_Len64)

-- NOT PRINTED: function 230 (bits_Len)

-- NOT PRINTED: function 262 (slices_nextPowerOfTwo)

-- NOT PRINTED: function 263 (slices_xorshift_Next)

-- NOT PRINTED: function 243 (impl_Claim_243)

-- NOT PRINTED: function 269 (impl_Claim_269)

-- NOT PRINTED: function 265 (impl_Claim_265)

-- NOT PRINTED: function 264 (impl_Claim_264)

-- NOT PRINTED: function 244 (impl_Claim_244)

-- NOT PRINTED: function 245 (impl_Claim_245)

-- NOT PRINTED: function 246 (impl_Claim_246)

-- NOT PRINTED: function 247 (impl_Claim_247)

-- NOT PRINTED: function 248 (impl_Claim_248)

-- NOT PRINTED: function 229 (impl_Claim_229)

-- NOT PRINTED: function 201 (impl_Claim_201)

/-! ### cmp_Or_int: function 231 -/
def cmp_Or_int.l0 : Nat → Int → List Int → Int → Int → Option (Int)
  | 0, _, _, _, _ => none
  | k + 1, x3, x6, x7, x8 => if x8 < x7 then (if 0 ≤ x8 then (if x8 < (x6.length : Int) then (if (rd x6 x8) = x3 then (cmp_Or_int.l0 k x3 x6 x7 (wrap64 (x8 + 1))) else (some (rd x6 x8))) else (none)) else (none)) else (some x3)
def cmp_Or_int.f (k : Nat) (l0 : List Int) : Option (Int) := cmp_Or_int.l0 k 0 l0 (l0.length : Int) 0
theorem cmp_Or_int.mono_l : ∀ k, (∀ y0 y1 y2 y3, LeO (cmp_Or_int.l0 k y0 y1 y2 y3) (cmp_Or_int.l0 (k + 1) y0 y1 y2 y3))
 | 0 => fun _ _ _ _ r h => by simp [cmp_Or_int.l0] at h
 | k + 1 => by
  have ih0 := cmp_Or_int.mono_l k
  ·intro y0 y1 y2 y3
   unfold cmp_Or_int.l0
   repeat' (first | (with_reducible first | exact ih0 _ _ _ _ | exact LeO.refl _ | exact LeO.none _ | refine LeO.ite ?_ ?_ | refine LeO.bind ?_ (fun _ => ?_)) | exact ih0 _ _ _ _ | exact LeO.none _ | refine LeO.ite ?_ ?_ | refine LeO.bind ?_ (fun _ => ?_))
theorem cmp_Or_int.mono : ∀ a0 k, LeO (cmp_Or_int.f k a0) (cmp_Or_int.f (k + 1) a0) := by
 intro a0 k
 have ih0 := cmp_Or_int.mono_l k
 unfold cmp_Or_int.f
 repeat' (first | (with_reducible first | exact ih0 _ _ _ _ | exact LeO.refl _ | exact LeO.none _ | refine LeO.ite ?_ ?_ | refine LeO.bind ?_ (fun _ => ?_)) | exact ih0 _ _ _ _ | exact LeO.none _ | refine LeO.ite ?_ ?_ | refine LeO.bind ?_ (fun _ => ?_))
set_option maxHeartbeats 8000000 in
set_option maxRecDepth 100000 in
theorem cmp_Or_int.calls (k : Nat) (A0 : Option Addr) (c0 : Nat) (l0 : List Int) (r : Int) (w : World) (hr0 : Kd.C (Kd.int .i64) w A0 l0.length l0) (hc0 : l0.length ≤ c0) (h : cmp_Or_int.f k l0 = some r) :
  Calls Try.prog 231 #[.slice A0 l0.length c0] w fun e w' => e = .returned (.int .i64 r) ∧ Drawn0 w w' := by
 have HR0 := Aside0.mk hr0; have HC0 := Aside0.mk hc0; clear hr0 hc0
 have H : (cmp_Or_int.l0 k 0 l0 (l0.length : Int) 0) = some r := h
 clear h
 have H' := Aside0.mk H
 clear H
 go_enter Try.func231, Try.ntmps231
 go_wp2
 go_loopg [8] k (fun kq v8 w' => ∃ (x8_1 : Int), v8 = .int .i64 x8_1 ∧ Aside0 (cmp_Or_int.l0 kq 0 l0 (l0.length : Int) x8_1 = some r) ∧ Aside0 (kq ≤ k) ∧ Drawn0 w w')
 case atStart => exact ⟨(0), er, H', ⟨Nat.le_refl _⟩, drw⟩
 case round =>
  clear H'
  obtain ⟨x8_1, rfl, HA, HK1, ⟨m1, rfl⟩⟩ := hrel
  cases gk with
  | zero => exact absurd HA.out (by simp [cmp_Or_int.l0])
  | succ k1 =>
   have H := HA.out; clear HA
   simp only [cmp_Or_int.l0] at H
   by_cases c2 : x8_1 < (l0.length : Int)
   ·rw [if_pos c2] at H
    have c2b0 : decide (x8_1 < (l0.length : Int)) = true := decide_eq_true c2
    clear c2; replace H := ifS H; obtain ⟨c3, H⟩ := H; have c3b0 := decide_eq_true c3; clear c3; replace H := ifS H; obtain ⟨c4, H⟩ := H; have c4b0 := decide_eq_true c4; clear c4
    by_cases c5 : (rd l0 x8_1) = 0
    ·rw [if_pos c5] at H
     have c5b0 : ((rd l0 x8_1) == 0) = true := beq_iff_eq.mpr c5
     have c5b1 : ((rd l0 x8_1) != 0) = false := bne_eq_false_iff_eq.mpr c5
     clear c5
     have H' := Aside0.mk H
     clear H
     have p175 : 0 ≤ (x8_1 : Int) := da
     have q175 : x8_1 < (l0.length : Int) := da
     obtain ⟨ad175, e175, hx175_0⟩ := Kd.at_int HR0.out x8_1 p175 q175
     cases e175
     replace p175 := eq_true p175; replace q175 := eq_true q175; go_wp2
     go_roundg k1
     case measure => have := HK1.out; omega
     case rel => exact ⟨(wrap64 (x8_1 + 1)), er, H', ⟨by have := HK1.out; omega⟩, drw⟩
    ·rw [if_neg c5] at H
     have c5b0 : ((rd l0 x8_1) == 0) = false := beq_eq_false_iff_ne.mpr c5
     have c5b1 : ((rd l0 x8_1) != 0) = true := bne_iff_ne.mpr c5
     obtain rfl := Option.some.inj H
     have p175 : 0 ≤ (x8_1 : Int) := da
     have q175 : x8_1 < (l0.length : Int) := da
     obtain ⟨ad175, e175, hx175_0⟩ := Kd.at_int HR0.out x8_1 p175 q175
     cases e175
     replace p175 := eq_true p175; replace q175 := eq_true q175; go_wp2
     go_ret
     exact ⟨er, drw⟩
   ·rw [if_neg c2] at H
    have c2b0 : decide (x8_1 < (l0.length : Int)) = false := decide_eq_false c2
    clear c2
    obtain rfl := Option.some.inj H
    go_wp2
    go_ret
    exact ⟨er, drw⟩

/-! ### cmp_isNaN_int: function 237 -/
def cmp_isNaN_int.f (a0 : Int) : Option (Bool) := some (a0 != a0)
set_option maxHeartbeats 8000000 in
set_option maxRecDepth 100000 in
theorem cmp_isNaN_int.calls (a0 : Int) (r : Bool) (w : World) (h : cmp_isNaN_int.f a0 = some r) :
  Calls Try.prog 237 #[.int .i64 a0] w fun e w' => e = .returned (.bool r) ∧ Drawn0 w w' := by
 have H : (some (a0 != a0)) = some r := h
 clear h
 obtain rfl := Option.some.inj H
 go_enter Try.func237, Try.ntmps237
 go_wp2
 go_ret
 exact ⟨er, drw⟩

/-! ### cmp_Compare_int: function 232 -/
def cmp_Compare_int.f (a0 : Int) (a1 : Int) : Option (Int) := (cmp_isNaN_int.f a0).bind fun t176 => ((cmp_isNaN_int.f a1).bind fun t177 => (if t176 = true then (if t177 = true then (some 0) else (some (-1))) else (if t177 = true then (some 1) else (if a0 < a1 then (some (-1)) else (if a0 > a1 then (some 1) else (some 0))))))
set_option maxHeartbeats 8000000 in
set_option maxRecDepth 100000 in
theorem cmp_Compare_int.calls (a0 : Int) (a1 : Int) (r : Int) (w : World) (h : cmp_Compare_int.f a0 a1 = some r) :
  Calls Try.prog 232 #[.int .i64 a0, .int .i64 a1] w fun e w' => e = .returned (.int .i64 r) ∧ Drawn0 w w' := by
 have H : ((cmp_isNaN_int.f a0).bind fun t176 => ((cmp_isNaN_int.f a1).bind fun t177 => (if t176 = true then (if t177 = true then (some 0) else (some (-1))) else (if t177 = true then (some 1) else (if a0 < a1 then (some (-1)) else (if a0 > a1 then (some 1) else (some 0))))))) = some r := h
 clear h; replace H := bS H; obtain ⟨t176, A3, H⟩ := H
 replace H : ((cmp_isNaN_int.f a1).bind fun t177 => (if t176 = true then (if t177 = true then (some 0) else (some (-1))) else (if t177 = true then (some 1) else (if a0 < a1 then (some (-1)) else (if a0 > a1 then (some 1) else (some 0)))))) = some r := H
 replace H := bS H; obtain ⟨t177, A4, H⟩ := H
 replace H : (if t176 = true then (if t177 = true then (some 0) else (some (-1))) else (if t177 = true then (some 1) else (if a0 < a1 then (some (-1)) else (if a0 > a1 then (some 1) else (some 0))))) = some r := H
 by_cases c5 : t176 = true
 ·subst c5
  have H1 : (if t177 = true then (some 0) else (some (-1))) = some r := by rw [if_pos rfl] at H; exact H
  clear H
  have H := H1
  clear H1
  by_cases c6 : t177 = true
  ·subst c6
   have H1 : (some 0) = some r := by rw [if_pos rfl] at H; exact H
   clear H
   have H := H1
   clear H1
   obtain rfl := Option.some.inj H
   go_enter Try.func232, Try.ntmps232
   go_wp2_with (first | ((with_reducible refine gate_callee (f := 237) rfl ?_); refine goesLa (some 8) rfl Try.func237 #[.int .i64 a0] rfl ?_; (with_reducible refine (cmp_isNaN_int.calls a0 true _ A3.out).mono ?_); rintro e w' ⟨rfl, ⟨nd, rfl⟩⟩; refine ⟨_, rfl, ?_⟩) | ((with_reducible refine gate_callee (f := 237) rfl ?_); refine goesLa (some 10) rfl Try.func237 #[.int .i64 a1] rfl ?_; (with_reducible refine (cmp_isNaN_int.calls a1 true _ A4.out).mono ?_); rintro e w' ⟨rfl, ⟨nd, rfl⟩⟩; refine ⟨_, rfl, ?_⟩))
   go_ret
   exact ⟨er, drw⟩
  ·replace c6 := Bool.eq_false_iff.mpr c6
   subst c6
   have H1 : (some (-1)) = some r := by rw [if_neg (show ¬ (false = true) by decide)] at H; exact H
   clear H
   have H := H1
   clear H1
   obtain rfl := Option.some.inj H
   go_enter Try.func232, Try.ntmps232
   go_wp2_with (first | ((with_reducible refine gate_callee (f := 237) rfl ?_); refine goesLa (some 8) rfl Try.func237 #[.int .i64 a0] rfl ?_; (with_reducible refine (cmp_isNaN_int.calls a0 true _ A3.out).mono ?_); rintro e w' ⟨rfl, ⟨nd, rfl⟩⟩; refine ⟨_, rfl, ?_⟩) | ((with_reducible refine gate_callee (f := 237) rfl ?_); refine goesLa (some 10) rfl Try.func237 #[.int .i64 a1] rfl ?_; (with_reducible refine (cmp_isNaN_int.calls a1 false _ A4.out).mono ?_); rintro e w' ⟨rfl, ⟨nd, rfl⟩⟩; refine ⟨_, rfl, ?_⟩))
   go_ret
   exact ⟨er, drw⟩
 ·replace c5 := Bool.eq_false_iff.mpr c5
  subst c5
  have H1 : (if t177 = true then (some 1) else (if a0 < a1 then (some (-1)) else (if a0 > a1 then (some 1) else (some 0)))) = some r := by rw [if_neg (show ¬ (false = true) by decide)] at H; exact H
  clear H
  have H := H1
  clear H1
  by_cases c7 : t177 = true
  ·subst c7
   have H1 : (some 1) = some r := by rw [if_pos rfl] at H; exact H
   clear H
   have H := H1
   clear H1
   obtain rfl := Option.some.inj H
   go_enter Try.func232, Try.ntmps232
   go_wp2_with (first | ((with_reducible refine gate_callee (f := 237) rfl ?_); refine goesLa (some 8) rfl Try.func237 #[.int .i64 a0] rfl ?_; (with_reducible refine (cmp_isNaN_int.calls a0 false _ A3.out).mono ?_); rintro e w' ⟨rfl, ⟨nd, rfl⟩⟩; refine ⟨_, rfl, ?_⟩) | ((with_reducible refine gate_callee (f := 237) rfl ?_); refine goesLa (some 10) rfl Try.func237 #[.int .i64 a1] rfl ?_; (with_reducible refine (cmp_isNaN_int.calls a1 true _ A4.out).mono ?_); rintro e w' ⟨rfl, ⟨nd, rfl⟩⟩; refine ⟨_, rfl, ?_⟩))
   go_ret
   exact ⟨er, drw⟩
  ·replace c7 := Bool.eq_false_iff.mpr c7
   subst c7
   have H1 : (if a0 < a1 then (some (-1)) else (if a0 > a1 then (some 1) else (some 0))) = some r := by rw [if_neg (show ¬ (false = true) by decide)] at H; exact H
   clear H
   have H := H1
   clear H1
   by_cases c8 : a0 < a1
   ·rw [if_pos c8] at H
    have c8b0 : decide (a0 < a1) = true := decide_eq_true c8
    clear c8
    obtain rfl := Option.some.inj H
    go_enter Try.func232, Try.ntmps232
    go_wp2_with (first | ((with_reducible refine gate_callee (f := 237) rfl ?_); refine goesLa (some 8) rfl Try.func237 #[.int .i64 a0] rfl ?_; (with_reducible refine (cmp_isNaN_int.calls a0 false _ A3.out).mono ?_); rintro e w' ⟨rfl, ⟨nd, rfl⟩⟩; refine ⟨_, rfl, ?_⟩) | ((with_reducible refine gate_callee (f := 237) rfl ?_); refine goesLa (some 10) rfl Try.func237 #[.int .i64 a1] rfl ?_; (with_reducible refine (cmp_isNaN_int.calls a1 false _ A4.out).mono ?_); rintro e w' ⟨rfl, ⟨nd, rfl⟩⟩; refine ⟨_, rfl, ?_⟩))
    go_ret
    exact ⟨er, drw⟩
   ·rw [if_neg c8] at H
    have c8b0 : decide (a0 < a1) = false := decide_eq_false c8
    clear c8
    by_cases c9 : a0 > a1
    ·rw [if_pos c9] at H
     have c9b0 : decide (a1 < a0) = true := decide_eq_true c9
     clear c9
     obtain rfl := Option.some.inj H
     go_enter Try.func232, Try.ntmps232
     go_wp2_with (first | ((with_reducible refine gate_callee (f := 237) rfl ?_); refine goesLa (some 8) rfl Try.func237 #[.int .i64 a0] rfl ?_; (with_reducible refine (cmp_isNaN_int.calls a0 false _ A3.out).mono ?_); rintro e w' ⟨rfl, ⟨nd, rfl⟩⟩; refine ⟨_, rfl, ?_⟩) | ((with_reducible refine gate_callee (f := 237) rfl ?_); refine goesLa (some 10) rfl Try.func237 #[.int .i64 a1] rfl ?_; (with_reducible refine (cmp_isNaN_int.calls a1 false _ A4.out).mono ?_); rintro e w' ⟨rfl, ⟨nd, rfl⟩⟩; refine ⟨_, rfl, ?_⟩))
     go_ret
     exact ⟨er, drw⟩
    ·rw [if_neg c9] at H
     have c9b0 : decide (a1 < a0) = false := decide_eq_false c9
     clear c9
     obtain rfl := Option.some.inj H
     go_enter Try.func232, Try.ntmps232
     go_wp2_with (first | ((with_reducible refine gate_callee (f := 237) rfl ?_); refine goesLa (some 8) rfl Try.func237 #[.int .i64 a0] rfl ?_; (with_reducible refine (cmp_isNaN_int.calls a0 false _ A3.out).mono ?_); rintro e w' ⟨rfl, ⟨nd, rfl⟩⟩; refine ⟨_, rfl, ?_⟩) | ((with_reducible refine gate_callee (f := 237) rfl ?_); refine goesLa (some 10) rfl Try.func237 #[.int .i64 a1] rfl ?_; (with_reducible refine (cmp_isNaN_int.calls a1 false _ A4.out).mono ?_); rintro e w' ⟨rfl, ⟨nd, rfl⟩⟩; refine ⟨_, rfl, ?_⟩))
     go_ret
     exact ⟨er, drw⟩

/-! ### impl_compareClaims: function 202 -/
def impl_compareClaims.f (k : Nat) (a0_0 : Int) (a0_1 : Int) (a0_2 : Int) (a1_0 : Int) (a1_1 : Int) (a1_2 : Int) : Option (Int) := (cmp_Compare_int.f a0_0 a1_0).bind fun t180 => ((cmp_Compare_int.f a0_1 a1_1).bind fun t181 => ((cmp_Compare_int.f a0_2 a1_2).bind fun t182 => ((cmp_Or_int.f k (([t180, t181, t182] : List Int))).bind fun t186 => (some t186))))
theorem impl_compareClaims.mono : ∀ a0 a1 a2 a3 a4 a5 k, LeO (impl_compareClaims.f k a0 a1 a2 a3 a4 a5) (impl_compareClaims.f (k + 1) a0 a1 a2 a3 a4 a5) := by
 intro a0 a1 a2 a3 a4 a5 k
 unfold impl_compareClaims.f
 repeat' (first | (with_reducible first | exact cmp_Or_int.mono _ _ | exact LeO.refl _ | exact LeO.none _ | refine LeO.ite ?_ ?_ | refine LeO.bind ?_ (fun _ => ?_)) | exact cmp_Or_int.mono _ _ | exact LeO.none _ | refine LeO.ite ?_ ?_ | refine LeO.bind ?_ (fun _ => ?_))
def impl_compareClaims.T1 : Bool × List (List Nat × List Nat) := (true, [([], []), ([0], [0]), ([], []), ([2], [2]), ([1, 3], [1, 3]), ([], []), ([5], [5]), ([], []), ([7], [7]), ([6, 8, 4], [6, 8]), ([], []), ([10], [10]), ([], []), ([12], [12]), ([11, 13, 9], [11, 13]), ([4, 9, 14], [4, 9, 14]), ([15, 14], [15]), ([16, 16, 0, 1, 2, 3, 4, 5, 6, 7, 8, 9, 10, 11, 12, 13, 14, 15, 16], [16])])
def impl_compareClaims.B1 : List Nat := [0, 1, 0, 4, 15, 0, 32, 0, 128, 511, 0, 1024, 0, 4096, 16383, 32767, 65535, 131071]
theorem impl_compareClaims.tab1 : rtab .any (opsOf Try.f202 1) = impl_compareClaims.T1 := by kernel_rfl
theorem impl_compareClaims.bits1 : waitsOk impl_compareClaims.T1.2 impl_compareClaims.B1 = true := by kernel_rfl
set_option maxHeartbeats 8000000 in
set_option maxRecDepth 100000 in
theorem impl_compareClaims.calls (k : Nat) (a0_0 : Int) (a0_1 : Int) (a0_2 : Int) (a1_0 : Int) (a1_1 : Int) (a1_2 : Int) (r : Int) (w : World) (h : impl_compareClaims.f k a0_0 a0_1 a0_2 a1_0 a1_1 a1_2 = some r) :
  Calls Try.prog 202 #[.agg #[.int .i64 a0_0, .int .i64 a0_1, .int .i64 a0_2], .agg #[.int .i64 a1_0, .int .i64 a1_1, .int .i64 a1_2]] w fun e w' => e = .returned (.int .i64 r) ∧ Below w.heap.size w w' := by
 have hu85 := Try.underlying85
 have HB := Aside0.mk (Below.refl w.heap.size w)
 have H : ((cmp_Compare_int.f a0_0 a1_0).bind fun t180 => ((cmp_Compare_int.f a0_1 a1_1).bind fun t181 => ((cmp_Compare_int.f a0_2 a1_2).bind fun t182 => ((cmp_Or_int.f k (([t180, t181, t182] : List Int))).bind fun t186 => (some t186))))) = some r := h
 clear h; replace H := bS H; obtain ⟨t180, A3, H⟩ := H
 replace H : ((cmp_Compare_int.f a0_1 a1_1).bind fun t181 => ((cmp_Compare_int.f a0_2 a1_2).bind fun t182 => ((cmp_Or_int.f k (([t180, t181, t182] : List Int))).bind fun t186 => (some t186)))) = some r := H
 replace H := bS H; obtain ⟨t181, A4, H⟩ := H
 replace H : ((cmp_Compare_int.f a0_2 a1_2).bind fun t182 => ((cmp_Or_int.f k (([t180, t181, t182] : List Int))).bind fun t186 => (some t186))) = some r := H
 replace H := bS H; obtain ⟨t182, A5, H⟩ := H
 replace H : ((cmp_Or_int.f k (([t180, t181, t182] : List Int))).bind fun t186 => (some t186)) = some r := H
 obtain ⟨y183, hy_⟩ : ∃ y_ : List Int, y_ = (([t180, t181, t182] : List Int)) := ⟨_, rfl⟩
 replace H : ((cmp_Or_int.f k y183).bind fun t186 => (some t186)) = some r := yH
 have Ny183 := ak hy_; clear hy_; replace H := bS H; obtain ⟨t186, A6, H⟩ := H
 replace H : (some t186) = some r := H
 obtain rfl := Option.some.inj H
 go_enter Try.func202, Try.ntmps202
 try go_wp2_with (first | ((with_reducible refine gate_dst (N := 2) rfl ?_); refine boxev 2 #[.int .i64 a0_0, .int .i64 a0_1, .int .i64 a0_2] 85 ?_; intro gb178 hg w7 hbox hb; have BK178 := ak (hbox); have GW178 := ak (hgl hg (belowd HB)); have GE178 := ak (hgl hg (belowd HB)); replace HB := ak (below_step (belowd HB) hb); clear hb hbox hg) | ((with_reducible refine gate_dst (N := 3) rfl ?_); refine boxev 3 #[.int .i64 a1_0, .int .i64 a1_1, .int .i64 a1_2] 85 ?_; intro gb179 hg w8 hbox hb; have BK179 := ak (hbox); have GW179 := ak (hgl hg (belowg1 HB GE178)); have GE179 := ak (hgl hg (belowg1 HB GE178)); replace HB := ak (below_step (belowg1 HB GE178) hb); have NB178_179 := ak ((by rw [hg]; exact Nat.ne_of_lt (blk_lt (blkd BK178)) : gb178 ≠ gb179)); have NB179_178 := ak ((by rw [hg]; exact Nat.ne_of_gt (blk_lt (blkd BK178)) : gb179 ≠ gb178)); replace BK178 := ak (blk_below (blkd BK178) hb); clear hb hbox hg))
 replace BK178 := ak (blk_drew BK178.out)
 replace BK179 := ak (blk_drew BK179.out)
 replace HB := ak (below_drew1 HB.out)
 refine start_ (n := 18) (S := fun w' => w'.cell? ⟨gb178, 0, none⟩ = some (.int .i64 a0_0) ∧ w'.cell? ⟨gb178, 1, none⟩ = some (.int .i64 a0_1) ∧ w'.cell? ⟨gb178, 2, none⟩ = some (.int .i64 a0_2) ∧ w'.cell? ⟨gb179, 0, none⟩ = some (.int .i64 a1_0) ∧ w'.cell? ⟨gb179, 1, none⟩ = some (.int .i64 a1_1) ∧ w'.cell? ⟨gb179, 2, none⟩ = some (.int .i64 a1_2)) (ds := []) (bl 18 0) (by kernel_rfl) rfl rfl ⟨bq BK178 0, bq BK178 1, bq BK178 2, bq BK179 0, bq BK179 1, bq BK179 2⟩ (fun hHeld => ?_); refine with_tabW impl_compareClaims.tab1 impl_compareClaims.bits1 (fun HT_ HW_ => ?_)
 generalize w8.drew = w9 at BK178 BK179 HB hHeld ⊢
 refine pureA 0 (some 5) 18 1 HT_ ?_
 refine pureA 2 (some 7) 18 5 HT_ ?_
 refine pureA 5 (some 10) 18 37 HT_ ?_
 refine pureA 7 (some 12) 18 165 HT_ ?_
 refine pureA 10 (some 15) 18 1189 HT_ ?_
 refine pureA 12 (some 17) 18 5285 HT_ ?_
 refine takeA 1 (some 6) 18 5287 HT_ HW_ hHeld ?_ (hy := by rintro w' ⟨s0, s1, s2, s3, s4, s5⟩; go_simp; with_reducible rfl)
 refine takeA 3 (some 8) 18 5295 HT_ HW_ hHeld ?_ (hy := by rintro w' ⟨s0, s1, s2, s3, s4, s5⟩; go_simp; with_reducible rfl)
 refine takeA 6 (some 11) 18 5359 HT_ HW_ hHeld ?_ (hy := by rintro w' ⟨s0, s1, s2, s3, s4, s5⟩; go_simp; with_reducible rfl)
 refine takeA 8 (some 13) 18 5615 HT_ HW_ hHeld ?_ (hy := by rintro w' ⟨s0, s1, s2, s3, s4, s5⟩; go_simp; with_reducible rfl)
 refine takeA 11 (some 16) 18 7663 HT_ HW_ hHeld ?_ (hy := by rintro w' ⟨s0, s1, s2, s3, s4, s5⟩; go_simp; with_reducible rfl)
 refine takeA 13 (some 18) 18 15855 HT_ HW_ hHeld ?_ (hy := by rintro w' ⟨s0, s1, s2, s3, s4, s5⟩; go_simp; with_reducible rfl)
 refine oneA 4 (some 9) 18 15871 HT_ (fun K hK => ?_)
 refine goes_ Try.func232 (by kernel_rfl) rfl #[.int .i64 a0_0, .int .i64 a1_0] (by rfl) rfl rfl (by (try simp only [List.map_toArray, List.map_cons, List.map_nil]); first | done | rfl | (simp only [List.length_drop, List.length_take]; rfl)) ?_
 with_reducible refine (cmp_Compare_int.calls a0_0 a1_0 t180 _ A3.out).mono ?_
 rintro e w' ⟨rfl, ⟨nd, rfl⟩⟩
 refine ⟨_, rfl, ?_⟩
 refine hK.out _ _ ⟨bq BK178 0, bq BK178 1, bq BK178 2, bq BK179 0, bq BK179 1, bq BK179 2⟩ (fun hHeld => ?_)
 clear hK K
 refine norm_ (a' := ?_) ?_ ?_
 rotate_left
 ·show Act.put _ (some 9) _ = _
  simp only [Act.put, List.setIfInBounds_toArray, List.set_cons_zero, List.set_cons_succ, i64_w, i32_w]
  rfl
 refine oneA 9 (some 14) 18 16383 HT_ (fun K hK => ?_)
 refine goes_ Try.func232 (by kernel_rfl) rfl #[.int .i64 a0_1, .int .i64 a1_1] (by rfl) rfl rfl (by (try simp only [List.map_toArray, List.map_cons, List.map_nil]); first | done | rfl | (simp only [List.length_drop, List.length_take]; rfl)) ?_
 with_reducible refine (cmp_Compare_int.calls a0_1 a1_1 t181 _ A4.out).mono ?_
 rintro e w' ⟨rfl, ⟨nd, rfl⟩⟩
 refine ⟨_, rfl, ?_⟩
 refine hK.out _ _ ⟨bq BK178 0, bq BK178 1, bq BK178 2, bq BK179 0, bq BK179 1, bq BK179 2⟩ (fun hHeld => ?_)
 clear hK K
 refine norm_ (a' := ?_) ?_ ?_
 rotate_left
 ·show Act.put _ (some 14) _ = _
  simp only [Act.put, List.setIfInBounds_toArray, List.set_cons_zero, List.set_cons_succ, i64_w, i32_w]
  rfl
 refine oneA 14 (some 19) 18 32767 HT_ (fun K hK => ?_)
 refine goes_ Try.func232 (by kernel_rfl) rfl #[.int .i64 a0_2, .int .i64 a1_2] (by rfl) rfl rfl (by (try simp only [List.map_toArray, List.map_cons, List.map_nil]); first | done | rfl | (simp only [List.length_drop, List.length_take]; rfl)) ?_
 with_reducible refine (cmp_Compare_int.calls a0_2 a1_2 t182 _ A5.out).mono ?_
 rintro e w' ⟨rfl, ⟨nd, rfl⟩⟩
 refine ⟨_, rfl, ?_⟩
 refine hK.out _ _ ⟨bq BK178 0, bq BK178 1, bq BK178 2, bq BK179 0, bq BK179 1, bq BK179 2⟩ (fun hHeld => ?_)
 clear hK K
 refine norm_ (a' := ?_) ?_ ?_
 rotate_left
 ·show Act.put _ (some 19) _ = _
  simp only [Act.put, List.setIfInBounds_toArray, List.set_cons_zero, List.set_cons_succ, i64_w, i32_w]
  rfl
 refine oneA 15 (some 20) 18 65535 HT_ (fun K hK => ?_)
 refine Kd.R_lit_step (Kd.int .i64) _ 3 ?hg (N := 20) ?hd (xs := ([t180, t181, t182] : List Int)) (inner := [.int .i64 t180, .int .i64 t181, .int .i64 t182]) (ok := fun _ => True) (okp := fun _ => True) ?hr ?hp (fun _ hk => hk) trivial (Below.refl _ _) (Nat.le_refl _) (by simp) ?_; (case hd => rfl); (case hg => rfl); (case hr => first | (go_simp; done) | (go_simp; rfl)); (case hp => exact (Reps.one (show Kd.M (Kd.int .i64) _ _ _ t180 [.int .i64 t180] from rfl) (Reps.one (show Kd.M (Kd.int .i64) _ _ _ t181 [.int .i64 t181] from rfl) (Reps.one (show Kd.M (Kd.int .i64) _ _ _ t182 [.int .i64 t182] from rfl) (Reps.none _ _)))))
 intro v184 w10 ho11 hb hg_ hnew_
 clear hg_ hnew_
 (first | rw [← Ny183.out] at ho11 | (simp only [Int.reduceToNat] at ho11; rw [← Ny183.out] at ho11))
 have HO185 := ak (Kd.R_lower ho11 (below_size (belowg2 HB GE178 GE179)))
 replace BK178 := ak (blk_below (blkd BK178) hb)
 replace BK179 := ak (blk_below (blkd BK179) hb)
 replace HB := ak (below_step (belowg2 HB GE178 GE179) hb)
 clear hb ho11
 obtain ⟨Ao12, co12, eo12⟩ := Kd.R_slice HO185.out
 (first | subst eo12 | (injection eo12 with f1_ f2_ f3_; have f4_ := f1_.symm; have f5_ := f3_.symm; clear f1_ f2_ f3_; subst f4_; subst f5_))
 refine hK.out _ _ ⟨bq BK178 0, bq BK178 1, bq BK178 2, bq BK179 0, bq BK179 1, bq BK179 2⟩ (fun hHeld => ?_)
 clear hK K
 refine norm_ (a' := ?_) ?_ ?_
 rotate_left
 ·show Act.put _ (some 20) _ = _
  simp only [Act.put, List.setIfInBounds_toArray, List.set_cons_zero, List.set_cons_succ, i64_w, i32_w]
  rfl
 refine oneA 16 (some 21) 18 131071 HT_ (fun K hK => ?_)
 refine goes_ Try.func231 (by kernel_rfl) rfl #[.slice Ao12 y183.length co12] (by rfl) rfl rfl (by (try simp only [List.map_toArray, List.map_cons, List.map_nil]); first | done | rfl | (simp only [List.length_drop, List.length_take]; rfl)) ?_
 with_reducible refine (cmp_Or_int.calls k _ _ y183 t186 _ ?side1 ?side2 A6.out).mono ?_
 (case side1 => exact cd (Kd.R_reads' HO185.out).2.2)
 (case side2 => exact (Kd.R_reads' HO185.out).2.1)
 rintro e w' ⟨rfl, ⟨nd, rfl⟩⟩
 refine ⟨_, rfl, ?_⟩
 refine hK.out _ _ ⟨bq BK178 0, bq BK178 1, bq BK178 2, bq BK179 0, bq BK179 1, bq BK179 2⟩ (fun hHeld => ?_)
 clear hK K
 refine norm_ (a' := ?_) ?_ ?_
 rotate_left
 ·show Act.put _ (some 21) _ = _
  simp only [Act.put, List.setIfInBounds_toArray, List.set_cons_zero, List.set_cons_succ, i64_w, i32_w]
  rfl
 refine pureA 17 (some 4) 18 262143 HT_ ?_
 refine done_ (done_of HT_.out (by kernel_rfl)) ?_
 try go_wp2
 go_ret
 exact ⟨er2, belowg2 HB GE178 GE179⟩

/-! the comparing function, told plainly; how far it draws -/
instance : Inhabited S85 := ⟨z85⟩
instance : DecidableEq S85 := fun x y => decidable_of_iff (x.f0 = y.f0 ∧ x.f1 = y.f1 ∧ x.f2 = y.f2) (by cases x; cases y; simp)
def impl_compareClaims.cf (x y : S85) : Int := if x.f0 < y.f0 then -1 else if y.f0 < x.f0 then 1 else if x.f1 < y.f1 then -1 else if y.f1 < x.f1 then 1 else if x.f2 < y.f2 then -1 else if y.f2 < x.f2 then 1 else 0
def impl_compareClaims.enc (x : S85) : List Value := [.int .i64 x.f0, .int .i64 x.f1, .int .i64 x.f2]
theorem impl_compareClaims.flat : Flat k85 impl_compareClaims.enc := by
 refine ⟨fun w base ok x cs => ⟨?_, ?_⟩, fun x => rfl, fun x v hv => ?_⟩
 ·rintro ⟨c0, c1, rfl, rfl, c2, c3, rfl, rfl, rfl⟩
  rfl
 ·rintro rfl
  exact ⟨[_], [_, _], rfl, rfl, [_], [_], rfl, rfl, rfl⟩
 ·simp only [impl_compareClaims.enc, List.mem_cons, List.not_mem_nil, or_false] at hv
  rcases hv with rfl | rfl | rfl <;> rfl
theorem impl_compareClaims.ltcf (x y : S85) : Go.Proofs.ltOf impl_compareClaims.cf x y = decide (x.f0 < y.f0 ∨ x.f0 = y.f0 ∧ (x.f1 < y.f1 ∨ x.f1 = y.f1 ∧ x.f2 < y.f2)) := by
 unfold Go.Proofs.ltOf
 rw [decide_eq_decide]
 unfold impl_compareClaims.cf
 split <;> (try split) <;> (try split) <;> (try split) <;> (try split) <;> (try split) <;> omega
theorem impl_compareClaims.swo : Go.Sort.SWO (Go.Proofs.ltOf impl_compareClaims.cf) := by
 refine ⟨fun x => ?_, fun x y z h1 h2 => ?_, fun x y z h1 h2 => ?_⟩ <;> simp only [impl_compareClaims.ltcf, decide_eq_true_eq, decide_eq_false_iff_not] at * <;> omega
theorem impl_compareClaims.total : ∀ x y, Go.Proofs.ltOf impl_compareClaims.cf x y = false → Go.Proofs.ltOf impl_compareClaims.cf y x = false → x = y := by
 intro x y h1 h2
 simp only [impl_compareClaims.ltcf, decide_eq_false_iff_not] at h1 h2
 cases x
 cases y
 simp only [S85.mk.injEq]
 dsimp only at h1 h2
 omega
theorem impl_compareClaims.gds : ∀ (op : BinOp) (a b : Operand) (x y : S85) (w : World), Sem.run Try.prog (eqGuard op 85 a b (.agg (impl_compareClaims.enc x).toArray) (.agg (impl_compareClaims.enc y).toArray)) w = .ok () w := fun op a b x y w => run_eqGuard_agg w op 85 a b _ _ (by kernel_rfl)
theorem impl_compareClaims.eqs : ∀ (x y : S85) (w : World), Sem.run Try.prog (binOp .eql 85 (.agg (impl_compareClaims.enc x).toArray) (.agg (impl_compareClaims.enc y).toArray)) w = .ok (.bool (decide (x = y))) w := by
 intro x y w
 have hu := Try.underlying85
 have hu3 := Try.underlying3
 unfold impl_compareClaims.enc
 go_simp
 cases x
 cases y
 simp only [S85.mk.injEq]
 repeat' split
 all_goals simp_all
theorem impl_compareClaims.nes : ∀ (x y : S85) (w : World), Sem.run Try.prog (binOp .neq 85 (.agg (impl_compareClaims.enc x).toArray) (.agg (impl_compareClaims.enc y).toArray)) w = .ok (.bool (!decide (x = y))) w := by
 intro x y w
 have hu := Try.underlying85
 have hu3 := Try.underlying3
 unfold impl_compareClaims.enc
 go_simp
 cases x
 cases y
 simp only [S85.mk.injEq]
 repeat' split
 all_goals simp_all
theorem impl_compareClaims.tells (x y : S85) : impl_compareClaims.f 5 x.f0 x.f1 x.f2 y.f0 y.f1 y.f2 = some (impl_compareClaims.cf x y) := by
 have e1 : ∀ a b : Int, cmp_Compare_int.f a b = some (if a < b then -1 else if b < a then 1 else 0) := by
  intro a b
  unfold cmp_Compare_int.f cmp_isNaN_int.f
  simp only [Option.bind_some, bne_self_eq_false, Bool.false_eq_true, if_false]
  split
  ·rfl
  ·split <;> rfl
 have e2 : ∀ a b c : Int, cmp_Or_int.f 5 [a, b, c] = some (if a = 0 then if b = 0 then c else b else a) := by
  intro a b c
  by_cases h1 : a = 0 <;> by_cases h2 : b = 0 <;> by_cases h3 : c = 0 <;> simp [cmp_Or_int.f, cmp_Or_int.l0, rd, wrap64, h1, h2, h3]
 unfold impl_compareClaims.f
 simp only [e1, e2, Option.bind_some]
 unfold impl_compareClaims.cf
 congr 1
 repeat' split
 all_goals first | rfl | omega
set_option maxHeartbeats 8000000 in
set_option maxRecDepth 100000 in
theorem impl_compareClaims.laid (k : Nat) (a0_0 : Int) (a0_1 : Int) (a0_2 : Int) (a1_0 : Int) (a1_1 : Int) (a1_2 : Int) (r : Int) (w : World) (h : impl_compareClaims.f k a0_0 a0_1 a0_2 a1_0 a1_1 a1_2 = some r) :
  Calls Try.prog 202 #[.agg #[.int .i64 a0_0, .int .i64 a0_1, .int .i64 a0_2], .agg #[.int .i64 a1_0, .int .i64 a1_1, .int .i64 a1_2]] w fun e w' => e = .returned (.int .i64 r) ∧ ∃ q os, w' = Sort.grow (w.drewN q) os := by
 have HD := Aside0.mk (Nat.le_refl w.drawn)
 have hu85 := Try.underlying85
 have HB := Aside0.mk (Below.refl w.heap.size w)
 have H : ((cmp_Compare_int.f a0_0 a1_0).bind fun t180 => ((cmp_Compare_int.f a0_1 a1_1).bind fun t181 => ((cmp_Compare_int.f a0_2 a1_2).bind fun t182 => ((cmp_Or_int.f k (([t180, t181, t182] : List Int))).bind fun t186 => (some t186))))) = some r := h
 clear h; replace H := bS H; obtain ⟨t180, A3, H⟩ := H
 replace H : ((cmp_Compare_int.f a0_1 a1_1).bind fun t181 => ((cmp_Compare_int.f a0_2 a1_2).bind fun t182 => ((cmp_Or_int.f k (([t180, t181, t182] : List Int))).bind fun t186 => (some t186)))) = some r := H
 replace H := bS H; obtain ⟨t181, A4, H⟩ := H
 replace H : ((cmp_Compare_int.f a0_2 a1_2).bind fun t182 => ((cmp_Or_int.f k (([t180, t181, t182] : List Int))).bind fun t186 => (some t186))) = some r := H
 replace H := bS H; obtain ⟨t182, A5, H⟩ := H
 replace H : ((cmp_Or_int.f k (([t180, t181, t182] : List Int))).bind fun t186 => (some t186)) = some r := H
 obtain ⟨y183, hy_⟩ : ∃ y_ : List Int, y_ = (([t180, t181, t182] : List Int)) := ⟨_, rfl⟩
 replace H : ((cmp_Or_int.f k y183).bind fun t186 => (some t186)) = some r := yH
 have Ny183 := ak hy_; clear hy_; replace H := bS H; obtain ⟨t186, A6, H⟩ := H
 replace H : (some t186) = some r := H
 obtain rfl := Option.some.inj H
 go_enter Try.func202, Try.ntmps202
 try go_wp2_with (first | ((with_reducible refine gate_dst (N := 2) rfl ?_); refine box_eventD ?hg (N := 2) ?hd (cs := #[.int .i64 a0_0, .int .i64 a0_1, .int .i64 a0_2]) (t := 85) ?hr ?_; (case hd => rfl); (case hg => rfl); (case hr => first | (go_simp; done) | (go_simp; rfl)); intro gb178 hg w7 hbox hb hd_; replace HD := Aside0.mk (show w.drawn ≤ w7.drawn from Nat.le_trans (Nat.le_trans HD.out (by first | exact Nat.le_refl _ | (simp only [drn, drn1]; omega))) (Nat.le_of_eq hd_.symm)); clear hd_; have BK178 := ak (hbox); have GW178 := ak (hgl hg (belowd HB)); have GE178 := ak (hgl hg (belowd HB)); replace HB := ak (below_step (belowd HB) hb); clear hb hbox hg) | ((with_reducible refine gate_dst (N := 3) rfl ?_); refine box_eventD ?hg (N := 3) ?hd (cs := #[.int .i64 a1_0, .int .i64 a1_1, .int .i64 a1_2]) (t := 85) ?hr ?_; (case hd => rfl); (case hg => rfl); (case hr => first | (go_simp; done) | (go_simp; rfl)); intro gb179 hg w8 hbox hb hd_; replace HD := Aside0.mk (show w.drawn ≤ w8.drawn from Nat.le_trans (Nat.le_trans HD.out (by first | exact Nat.le_refl _ | (simp only [drn, drn1]; omega))) (Nat.le_of_eq hd_.symm)); clear hd_; have BK179 := ak (hbox); have GW179 := ak (hgl hg (belowg1 HB GE178)); have GE179 := ak (hgl hg (belowg1 HB GE178)); replace HB := ak (below_step (belowg1 HB GE178) hb); have NB178_179 := ak ((by rw [hg]; exact Nat.ne_of_lt (blk_lt (blkd BK178)) : gb178 ≠ gb179)); have NB179_178 := ak ((by rw [hg]; exact Nat.ne_of_gt (blk_lt (blkd BK178)) : gb179 ≠ gb178)); replace BK178 := ak (blk_below (blkd BK178) hb); clear hb hbox hg))
 replace BK178 := ak (blk_drew BK178.out)
 replace BK179 := ak (blk_drew BK179.out)
 replace HB := ak (below_drew1 HB.out)
 refine start_ (n := 18) (S := fun w' => w'.cell? ⟨gb178, 0, none⟩ = some (.int .i64 a0_0) ∧ w'.cell? ⟨gb178, 1, none⟩ = some (.int .i64 a0_1) ∧ w'.cell? ⟨gb178, 2, none⟩ = some (.int .i64 a0_2) ∧ w'.cell? ⟨gb179, 0, none⟩ = some (.int .i64 a1_0) ∧ w'.cell? ⟨gb179, 1, none⟩ = some (.int .i64 a1_1) ∧ w'.cell? ⟨gb179, 2, none⟩ = some (.int .i64 a1_2)) (ds := []) (bl 18 0) (by kernel_rfl) rfl rfl ⟨bq BK178 0, bq BK178 1, bq BK178 2, bq BK179 0, bq BK179 1, bq BK179 2⟩ (fun hHeld => ?_); refine with_tabW impl_compareClaims.tab1 impl_compareClaims.bits1 (fun HT_ HW_ => ?_)
 replace HD := Aside0.mk (show w.drawn ≤ w8.drew.drawn from Nat.le_succ_of_le HD.out)
 generalize w8.drew = w9 at BK178 BK179 HB HD hHeld ⊢
 refine pureA 0 (some 5) 18 1 HT_ ?_
 refine pureA 2 (some 7) 18 5 HT_ ?_
 refine pureA 5 (some 10) 18 37 HT_ ?_
 refine pureA 7 (some 12) 18 165 HT_ ?_
 refine pureA 10 (some 15) 18 1189 HT_ ?_
 refine pureA 12 (some 17) 18 5285 HT_ ?_
 refine takeA 1 (some 6) 18 5287 HT_ HW_ hHeld ?_ (hy := by rintro w' ⟨s0, s1, s2, s3, s4, s5⟩; go_simp; with_reducible rfl)
 refine takeA 3 (some 8) 18 5295 HT_ HW_ hHeld ?_ (hy := by rintro w' ⟨s0, s1, s2, s3, s4, s5⟩; go_simp; with_reducible rfl)
 refine takeA 6 (some 11) 18 5359 HT_ HW_ hHeld ?_ (hy := by rintro w' ⟨s0, s1, s2, s3, s4, s5⟩; go_simp; with_reducible rfl)
 refine takeA 8 (some 13) 18 5615 HT_ HW_ hHeld ?_ (hy := by rintro w' ⟨s0, s1, s2, s3, s4, s5⟩; go_simp; with_reducible rfl)
 refine takeA 11 (some 16) 18 7663 HT_ HW_ hHeld ?_ (hy := by rintro w' ⟨s0, s1, s2, s3, s4, s5⟩; go_simp; with_reducible rfl)
 refine takeA 13 (some 18) 18 15855 HT_ HW_ hHeld ?_ (hy := by rintro w' ⟨s0, s1, s2, s3, s4, s5⟩; go_simp; with_reducible rfl)
 refine oneA 4 (some 9) 18 15871 HT_ (fun K hK => ?_)
 refine goes_ Try.func232 (by kernel_rfl) rfl #[.int .i64 a0_0, .int .i64 a1_0] (by rfl) rfl rfl (by (try simp only [List.map_toArray, List.map_cons, List.map_nil]); first | done | rfl | (simp only [List.length_drop, List.length_take]; rfl)) ?_
 with_reducible refine (cmp_Compare_int.calls a0_0 a1_0 t180 _ A3.out).mono ?_
 rintro e w' ⟨rfl, ⟨nd, rfl⟩⟩
 refine ⟨_, rfl, ?_⟩
 refine hK.out _ _ ⟨bq BK178 0, bq BK178 1, bq BK178 2, bq BK179 0, bq BK179 1, bq BK179 2⟩ (fun hHeld => ?_)
 clear hK K
 refine norm_ (a' := ?_) ?_ ?_
 rotate_left
 ·show Act.put _ (some 9) _ = _
  simp only [Act.put, List.setIfInBounds_toArray, List.set_cons_zero, List.set_cons_succ, i64_w, i32_w]
  rfl
 refine oneA 9 (some 14) 18 16383 HT_ (fun K hK => ?_)
 refine goes_ Try.func232 (by kernel_rfl) rfl #[.int .i64 a0_1, .int .i64 a1_1] (by rfl) rfl rfl (by (try simp only [List.map_toArray, List.map_cons, List.map_nil]); first | done | rfl | (simp only [List.length_drop, List.length_take]; rfl)) ?_
 with_reducible refine (cmp_Compare_int.calls a0_1 a1_1 t181 _ A4.out).mono ?_
 rintro e w' ⟨rfl, ⟨nd, rfl⟩⟩
 refine ⟨_, rfl, ?_⟩
 refine hK.out _ _ ⟨bq BK178 0, bq BK178 1, bq BK178 2, bq BK179 0, bq BK179 1, bq BK179 2⟩ (fun hHeld => ?_)
 clear hK K
 refine norm_ (a' := ?_) ?_ ?_
 rotate_left
 ·show Act.put _ (some 14) _ = _
  simp only [Act.put, List.setIfInBounds_toArray, List.set_cons_zero, List.set_cons_succ, i64_w, i32_w]
  rfl
 refine oneA 14 (some 19) 18 32767 HT_ (fun K hK => ?_)
 refine goes_ Try.func232 (by kernel_rfl) rfl #[.int .i64 a0_2, .int .i64 a1_2] (by rfl) rfl rfl (by (try simp only [List.map_toArray, List.map_cons, List.map_nil]); first | done | rfl | (simp only [List.length_drop, List.length_take]; rfl)) ?_
 with_reducible refine (cmp_Compare_int.calls a0_2 a1_2 t182 _ A5.out).mono ?_
 rintro e w' ⟨rfl, ⟨nd, rfl⟩⟩
 refine ⟨_, rfl, ?_⟩
 refine hK.out _ _ ⟨bq BK178 0, bq BK178 1, bq BK178 2, bq BK179 0, bq BK179 1, bq BK179 2⟩ (fun hHeld => ?_)
 clear hK K
 refine norm_ (a' := ?_) ?_ ?_
 rotate_left
 ·show Act.put _ (some 19) _ = _
  simp only [Act.put, List.setIfInBounds_toArray, List.set_cons_zero, List.set_cons_succ, i64_w, i32_w]
  rfl
 refine oneA 15 (some 20) 18 65535 HT_ (fun K hK => ?_)
 refine R_lit_stepD (Kd.int .i64) _ 3 ?hg (N := 20) ?hd (xs := ([t180, t181, t182] : List Int)) (inner := [.int .i64 t180, .int .i64 t181, .int .i64 t182]) (ok := fun _ => True) (okp := fun _ => True) ?hr ?hp (fun _ hk => hk) trivial (Below.refl _ _) (Nat.le_refl _) (by simp) ?_; (case hd => rfl); (case hg => rfl); (case hr => first | (go_simp; done) | (go_simp; rfl)); (case hp => exact (Reps.one (show Kd.M (Kd.int .i64) _ _ _ t180 [.int .i64 t180] from rfl) (Reps.one (show Kd.M (Kd.int .i64) _ _ _ t181 [.int .i64 t181] from rfl) (Reps.one (show Kd.M (Kd.int .i64) _ _ _ t182 [.int .i64 t182] from rfl) (Reps.none _ _)))))
 intro v184 w10 ho11 hb hg_ hnew_ hd_
 replace HD := Aside0.mk (show w.drawn ≤ w10.drawn from Nat.le_trans (Nat.le_trans HD.out (by first | exact Nat.le_refl _ | (simp only [drn, drn1]; omega))) (Nat.le_of_eq hd_.symm))
 clear hd_; clear hg_ hnew_
 (first | rw [← Ny183.out] at ho11 | (simp only [Int.reduceToNat] at ho11; rw [← Ny183.out] at ho11))
 have HO185 := ak (Kd.R_lower ho11 (below_size (belowg2 HB GE178 GE179)))
 replace BK178 := ak (blk_below (blkd BK178) hb)
 replace BK179 := ak (blk_below (blkd BK179) hb)
 replace HB := ak (below_step (belowg2 HB GE178 GE179) hb)
 clear hb ho11
 obtain ⟨Ao12, co12, eo12⟩ := Kd.R_slice HO185.out
 (first | subst eo12 | (injection eo12 with f1_ f2_ f3_; have f4_ := f1_.symm; have f5_ := f3_.symm; clear f1_ f2_ f3_; subst f4_; subst f5_))
 refine hK.out _ _ ⟨bq BK178 0, bq BK178 1, bq BK178 2, bq BK179 0, bq BK179 1, bq BK179 2⟩ (fun hHeld => ?_)
 clear hK K
 refine norm_ (a' := ?_) ?_ ?_
 rotate_left
 ·show Act.put _ (some 20) _ = _
  simp only [Act.put, List.setIfInBounds_toArray, List.set_cons_zero, List.set_cons_succ, i64_w, i32_w]
  rfl
 refine oneA 16 (some 21) 18 131071 HT_ (fun K hK => ?_)
 refine goes_ Try.func231 (by kernel_rfl) rfl #[.slice Ao12 y183.length co12] (by rfl) rfl rfl (by (try simp only [List.map_toArray, List.map_cons, List.map_nil]); first | done | rfl | (simp only [List.length_drop, List.length_take]; rfl)) ?_
 with_reducible refine (cmp_Or_int.calls k _ _ y183 t186 _ ?side1 ?side2 A6.out).mono ?_
 (case side1 => exact cd (Kd.R_reads' HO185.out).2.2)
 (case side2 => exact (Kd.R_reads' HO185.out).2.1)
 rintro e w' ⟨rfl, ⟨nd, rfl⟩⟩
 refine ⟨_, rfl, ?_⟩
 refine hK.out _ _ ⟨bq BK178 0, bq BK178 1, bq BK178 2, bq BK179 0, bq BK179 1, bq BK179 2⟩ (fun hHeld => ?_)
 clear hK K
 refine norm_ (a' := ?_) ?_ ?_
 rotate_left
 ·show Act.put _ (some 21) _ = _
  simp only [Act.put, List.setIfInBounds_toArray, List.set_cons_zero, List.set_cons_succ, i64_w, i32_w]
  rfl
 refine pureA 17 (some 4) 18 262143 HT_ ?_
 refine done_ (done_of HT_.out (by kernel_rfl)) ?_
 try go_wp2
 go_ret
 exact ⟨er2, laid_of (belowg2 HB GE178 GE179) (Nat.le_trans HD.out (by first | exact Nat.le_refl _ | (simp only [drn, drn1]; omega)))⟩


/-! ### impl_Claim_203: function 203 -/
def impl_Claim_203.f (l0 : List S85) : Option (List S85) := some (Lib.compactUpTo l0.toArray l0.length)
theorem impl_Claim_203.calls (P0_ : Nat → Prop) (u9000_ : Value) (l0 : List (S85)) (r : List (S85)) (w0 w : World) (hB : Below w0.heap.size w0 w) (ho0 : Kd.R k85 85 w w0.heap.size P0_ u9000_ l0) (h : impl_Claim_203.f l0 = some r) :
  Calls Try.prog 203 #[u9000_] w fun e w' => ∃ v0_ : Value, e = .returned (v0_) ∧ Kd.R k85 85 w' w0.heap.size (fun k_ => (P0_ k_ ∨ w.heap.size ≤ k_)) v0_ r ∧ Below w0.heap.size w0 w' ∧ Kept w w' (fun k_ => P0_ k_) := by
 unfold impl_Claim_203.f at h
 obtain rfl := Option.some.inj h
 exact compact_step impl_compareClaims.flat Try.sizeOf85 Try.isAgg85 (by decide) impl_compareClaims.eqs impl_compareClaims.nes impl_compareClaims.gds _ Try.zeroValue85 rfl (by decide) hB ho0

-- NOT PRINTED: function 987650003 (slices_pdqsortCmpFunc_229_at_202)

/-! ### slices_SortFunc_201_at_202: function 201 -/
def slices_SortFunc_201_at_202.le (x y : S85) : Bool := !(Go.Proofs.ltOf impl_compareClaims.cf) y x
def slices_SortFunc_201_at_202.f (l0 : List S85) : Option (List S85) := if l0.length < 4611686018427387904 then some (l0.mergeSort slices_SortFunc_201_at_202.le) else none
theorem slices_SortFunc_201_at_202.calls (P0_ : Nat → Prop) (u9000_ : Value) (l0 : List (S85)) (r : List (S85)) (w0 w : World) (hB : Below w0.heap.size w0 w) (ho0 : Kd.R k85 85 w w0.heap.size P0_ u9000_ l0) (h : slices_SortFunc_201_at_202.f l0 = some r) :
  Calls Try.prog 201 #[u9000_, .func (.func 202) #[] #[]] w fun e w' => e = .returned (.tuple #[]) ∧ Kd.R k85 85 w' w0.heap.size (fun k_ => (P0_ k_ ∨ w.heap.size ≤ k_)) u9000_ r ∧ Below w0.heap.size w0 w' ∧ Kept w w' (fun k_ => P0_ k_) := by
 unfold slices_SortFunc_201_at_202.f at h
 replace h := ifS h
 obtain ⟨hl, h⟩ := h
 obtain rfl := Option.some.inj h
 exact sort_step impl_compareClaims.flat Try.sizeOf85 Try.isAgg85 impl_compareClaims.cf impl_compareClaims.swo impl_compareClaims.total (fun W x y => impl_compareClaims.laid 5 _ _ _ _ _ _ _ W (impl_compareClaims.tells x y)) hB ho0 hl

/-! ### impl_claimsIn: function 139 -/
def impl_claimsIn.l0 : Nat → List (S85) → List (S91) → Int → Int → Option ((List (S85)))
  | 0, _, _, _, _ => none
  | k + 1, x3, x7, x8, x9 => if x9 < x8 then (if 0 ≤ x9 then (if x9 < (x7.length : Int) then (if x3.length < 5864062014805 then (impl_claimsIn.l0 k (x3 ++ [(⟨(rd_T91 x7 x9).f1.f0, (rd_T91 x7 x9).f1.f1, (rd_T91 x7 x9).f1.f2⟩ : S85)]) x7 x8 (wrap64 (x9 + 1))) else (none)) else (none)) else (none)) else ((slices_SortFunc_201_at_202.f x3).bind fun t195 => ((impl_Claim_203.f t195).bind fun t196 => (some t196)))
def impl_claimsIn.f (k : Nat) (l0 : List (S91)) : Option ((List (S85))) := impl_claimsIn.l0 k (([] : List (S85))) l0 (l0.length : Int) 0
theorem impl_claimsIn.mono_l : ∀ k, (∀ y0 y1 y2 y3, LeO (impl_claimsIn.l0 k y0 y1 y2 y3) (impl_claimsIn.l0 (k + 1) y0 y1 y2 y3))
 | 0 => fun _ _ _ _ r h => by simp [impl_claimsIn.l0] at h
 | k + 1 => by
  have ih0 := impl_claimsIn.mono_l k
  ·intro y0 y1 y2 y3
   unfold impl_claimsIn.l0
   repeat' (first | (with_reducible first | exact ih0 _ _ _ _ | exact LeO.refl _ | exact LeO.none _ | refine LeO.ite ?_ ?_ | refine LeO.bind ?_ (fun _ => ?_)) | exact ih0 _ _ _ _ | exact LeO.none _ | refine LeO.ite ?_ ?_ | refine LeO.bind ?_ (fun _ => ?_))
theorem impl_claimsIn.mono : ∀ a0 k, LeO (impl_claimsIn.f k a0) (impl_claimsIn.f (k + 1) a0) := by
 intro a0 k
 have ih0 := impl_claimsIn.mono_l k
 unfold impl_claimsIn.f
 repeat' (first | (with_reducible first | exact ih0 _ _ _ _ | exact LeO.refl _ | exact LeO.none _ | refine LeO.ite ?_ ?_ | refine LeO.bind ?_ (fun _ => ?_)) | exact ih0 _ _ _ _ | exact LeO.none _ | refine LeO.ite ?_ ?_ | refine LeO.bind ?_ (fun _ => ?_))
set_option maxHeartbeats 8000000 in
set_option maxRecDepth 100000 in
theorem impl_claimsIn.calls (k : Nat) (A0 : Option Addr) (c0 : Nat) (l0 : List (S91)) (r : List (S85)) (w : World) (hr0 : Kd.C k91 w A0 l0.length l0) (hc0 : l0.length ≤ c0) (h : impl_claimsIn.f k l0 = some r) :
  Calls Try.prog 139 #[.slice A0 l0.length c0] w fun e w' => ∃ v0_ : Value, e = .returned (v0_) ∧ Kd.R k85 85 w' w.heap.size (fun _ => True) v0_ r ∧ Below w.heap.size w w' := by
 have hu91 := Try.underlying91
 have hu85 := Try.underlying85
 have HR0 := Aside0.mk hr0; have HC0 := Aside0.mk hc0; clear hr0 hc0
 have HB := Aside0.mk (Below.refl w.heap.size w)
 have H : (impl_claimsIn.l0 k (([] : List (S85))) l0 (l0.length : Int) 0) = some r := h
 clear h
 obtain ⟨y187, hy_⟩ : ∃ y_ : List (S85), y_ = (([] : List (S85))) := ⟨_, rfl⟩
 replace H : (impl_claimsIn.l0 k y187 l0 (l0.length : Int) 0) = some r := yH
 have Ny187 := ak hy_; clear hy_
 have H' := Aside0.mk H
 clear H
 go_enter Try.func139, Try.ntmps139
 go_wp2_with (first | ((with_reducible refine gate_dst (N := 6) rfl ?_); refine Kd.R_lit k85 _ 85 ?hg (N := 6) ?hd (xs := ([] : List (S85))) (inner := []) (ok := fun _ => True) (okp := fun _ => True) ?hr ?hp (fun _ hk => hk) trivial (Below.refl _ _) (Nat.le_refl _) (by simp) ?_; (case hd => rfl); (case hg => rfl); (case hr => first | (go_simp; done) | (go_simp; rfl)); (case hp => exact (Reps.none _ _)); intro v188 w2 ho3 hb hg_ hnew_; clear hg_ hnew_; (first | rw [← Ny187.out] at ho3 | (simp only [Int.reduceToNat] at ho3; rw [← Ny187.out] at ho3)); have HO189 := ak (Kd.R_lower ho3 (below_size (belowd HB))); replace HB := ak (below_step (belowd HB) hb); clear hb ho3))
 go_loopg [3, 9] k (fun kq v3 v9 w' => ∃ (x3_1 : List (S85)) (x9_1 : Int), v9 = .int .i64 x9_1 ∧ Aside0 (impl_claimsIn.l0 kq x3_1 l0 (l0.length : Int) x9_1 = some r) ∧ Aside0 (kq ≤ k) ∧ Aside0 (Kd.R k85 85 w' w.heap.size (fun _ => True) v3 x3_1) ∧ Aside0 (Below w.heap.size w w'))
 case atStart => exact ⟨(y187), (0), er, H', ⟨Nat.le_refl _⟩, ⟨rdl HO189⟩, ⟨belowd HB⟩⟩
 case round =>
  clear H'
  obtain ⟨x3_1, x9_1, rfl, HA, HK1, HO_3, HB⟩ := hrel
  cases gk with
  | zero => exact absurd HA.out (by simp [impl_claimsIn.l0])
  | succ k1 =>
   have H := HA.out; clear HA
   simp only [impl_claimsIn.l0] at H
   by_cases c4 : x9_1 < (l0.length : Int)
   ·rw [if_pos c4] at H
    have c4b0 : decide (x9_1 < (l0.length : Int)) = true := decide_eq_true c4
    clear c4; replace H := ifS H; obtain ⟨c5, H⟩ := H; have c5b0 := decide_eq_true c5; clear c5; replace H := ifS H; obtain ⟨c6, H⟩ := H; have c6b0 := decide_eq_true c6; clear c6; replace H := ifS H; obtain ⟨c7, H⟩ := H; have LMc7 := Aside0.mk c7; clear c7
    obtain ⟨y192, hy_⟩ : ∃ y_ : List (S85), y_ = (x3_1 ++ [(⟨(rd_T91 l0 x9_1).f1.f0, (rd_T91 l0 x9_1).f1.f1, (rd_T91 l0 x9_1).f1.f2⟩ : S85)]) := ⟨_, rfl⟩
    replace H : (impl_claimsIn.l0 k1 y192 l0 (l0.length : Int) (wrap64 (x9_1 + 1))) = some r := yH
    have Ny192 := ak hy_; clear hy_
    have H' := Aside0.mk H
    clear H
    have p190 : 0 ≤ (x9_1 : Int) := da
    have q190 : x9_1 < (l0.length : Int) := da
    obtain ⟨ad190, e190, hx190_0, hx190_1, hx190_2, hx190_3, hx190_4⟩ := at_T91 HR0.out x9_1 p190 q190
    cases e190
    replace hx190_0 := (HB.out.cell (World.block_lt_of_cell? w _ hx190_0)).trans hx190_0
    replace hx190_1 := (HB.out.cell (World.block_lt_of_cell? w _ hx190_1)).trans hx190_1
    replace hx190_2 := (HB.out.cell (World.block_lt_of_cell? w _ hx190_2)).trans hx190_2
    replace hx190_3 := (HB.out.cell (World.block_lt_of_cell? w _ hx190_3)).trans hx190_3
    replace hx190_4 := (HB.out.cell (World.block_lt_of_cell? w _ hx190_4)).trans hx190_4
    replace p190 := eq_true p190; replace q190 := eq_true q190
    go_wp2_with (first | ((with_reducible refine gate_dst (N := 5) rfl ?_); refine boxev 5 #[.int .i64 0, .int .i64 0, .int .i64 0, .int .i64 0, .bool false] 91 ?_; intro gb191 hg w8 hbox hb; replace HO_3 := ak (Kd.R_below (rdl HO_3) hb); have BK191 := ak (hbox); have GW191 := ak (hgl hg (belowd HB)); have GE191 := ak (hgl hg (belowd HB)); replace HB := ak (below_step (belowd HB) hb); clear hb hbox hg; obtain ⟨hcz9_0, hcz9_1, hcz9_2, hcz9_3, hcz9_4, hfz9_0, hfz9_1, hfz9_2, hfz9_3, hfz9_4⟩ := box5 BK191) | ((with_reducible refine gate_builtin (b := .append) (xs := #[.tmp 13, .tmp 16]) rfl ?_); at_builtin; refine Kd.R_append k85 (w0 := w) w.heap.size rfl (.tmp 13) (.tmp 16) 70 85 (.agg #[(.int .i64 0), (.int .i64 0), (.int .i64 0)]) 24 rfl Try.underlying70 info85 rfl (by decide) (by omega) u3 x3_1 (⟨(rd_T91 l0 x9_1).f1.f0, (rd_T91 l0 x9_1).f1.f1, (rd_T91 l0 x9_1).f1.f2⟩ : S85) [.int .i64 ((rd_T91 l0 x9_1).f1.f0), .int .i64 ((rd_T91 l0 x9_1).f1.f1), .int .i64 ((rd_T91 l0 x9_1).f1.f2)] (fun _ => True) (fun _ => False) rfl (by first | (go_simp; done) | (go_simp; rfl)) ?aP (fun _ hk => hk.elim) ?aF ?aO ?aB ?aS ?aL ?_; (case aP => exact k85_mkM _ _ _ (⟨(rd_T91 l0 x9_1).f1.f0, (rd_T91 l0 x9_1).f1.f1, (rd_T91 l0 x9_1).f1.f2⟩ : S85)); (case aB => exact (belowg1 HB GE191)); (case aF => exact (fun _ _ => trivial)); (case aO => exact (by (with_reducible repeat (first | apply Kd.R_alloc | apply Kd.R_drewN | apply Kd.R_drew)); exact Kd.R_mono (farsR (Kd.R_types HO_3.out BK191.out (by decide))) (fun _ hk => trivial))); (case aS => exact (below_size (belowg1 HB GE191))); (case aL => have := LMc7.out; omega); intro v193 w10 ho hb hg hat; rw [← Ny192.out] at ho; replace BK191 := ak (blk_grown (g := gb191) (o := .cells #[.int .i64 ((rd_T91 l0 x9_1).f0), .int .i64 ((rd_T91 l0 x9_1).f1.f0), .int .i64 ((rd_T91 l0 x9_1).f1.f1), .int .i64 ((rd_T91 l0 x9_1).f1.f2), .bool ((rd_T91 l0 x9_1).f2)] 91 (0, 0)) (by (with_reducible repeat (first | refine blk_drewN ?_ _ | refine blk_drew ?_ | refine blk_alloc ?_ _)); refine blk_put (cs := #[.int .i64 ((rd_T91 l0 x9_1).f0), .int .i64 ((rd_T91 l0 x9_1).f1.f0), .int .i64 ((rd_T91 l0 x9_1).f1.f1), .int .i64 ((rd_T91 l0 x9_1).f1.f2), .bool false]) ?_ 4 _ rfl; (with_reducible repeat (first | refine blk_drewN ?_ _ | refine blk_drew ?_ | refine blk_alloc ?_ _)); refine blk_put (cs := #[.int .i64 ((rd_T91 l0 x9_1).f0), .int .i64 ((rd_T91 l0 x9_1).f1.f0), .int .i64 ((rd_T91 l0 x9_1).f1.f1), .int .i64 0, .bool false]) ?_ 3 _ rfl; (with_reducible repeat (first | refine blk_drewN ?_ _ | refine blk_drew ?_ | refine blk_alloc ?_ _)); refine blk_put (cs := #[.int .i64 ((rd_T91 l0 x9_1).f0), .int .i64 ((rd_T91 l0 x9_1).f1.f0), .int .i64 0, .int .i64 0, .bool false]) ?_ 2 _ rfl; (with_reducible repeat (first | refine blk_drewN ?_ _ | refine blk_drew ?_ | refine blk_alloc ?_ _)); refine blk_put (cs := #[.int .i64 ((rd_T91 l0 x9_1).f0), .int .i64 0, .int .i64 0, .int .i64 0, .bool false]) ?_ 1 _ rfl; (with_reducible repeat (first | refine blk_drewN ?_ _ | refine blk_drew ?_ | refine blk_alloc ?_ _)); refine blk_put (cs := #[.int .i64 0, .int .i64 0, .int .i64 0, .int .i64 0, .bool false]) ?_ 0 _ rfl; (with_reducible repeat (first | refine blk_drewN ?_ _ | refine blk_drew ?_ | refine blk_alloc ?_ _)); exact BK191.out) hg (Kd.R_ne HO_3.out BK191.out (by decide))); replace HB := ak (hb); have HO194 := ak (ho); clear HO_3; clear ho hb hg hat))
    go_roundg k1
    case measure => have := HK1.out; omega
    case rel => exact ⟨(y192), (wrap64 (x9_1 + 1)), er, H', ⟨by have := HK1.out; omega⟩, ⟨rdl HO194⟩, ⟨belowg1 HB GE191⟩⟩
   ·rw [if_neg c4] at H
    have c4b0 : decide (x9_1 < (l0.length : Int)) = false := decide_eq_false c4
    clear c4; replace H := bS H; obtain ⟨t195, A11, H⟩ := H
    replace H : ((impl_Claim_203.f t195).bind fun t196 => (some t196)) = some r := H
    replace H := bS H; obtain ⟨t196, A12, H⟩ := H
    replace H : (some t196) = some r := H
    obtain rfl := Option.some.inj H
    obtain ⟨Ao13, co13, eo13⟩ := Kd.R_slice HO_3.out
    subst eo13
    go_wp2_with (first | ((with_reducible refine gate_callee (f := 201) rfl ?_); refine goesLa (some 20) rfl Try.func201 #[.slice Ao13 x3_1.length co13, .func (.func 202) #[] #[]] rfl ?_; (with_reducible refine (slices_SortFunc_201_at_202.calls (fun k_ => some k_ = (.slice Ao13 x3_1.length co13 : Value).ownBlock) (.slice Ao13 x3_1.length co13) x3_1  t195 w _ ?side1 ?side2 A11.out).mono ?_); (case side1 => repeat (first | (with_reducible first | exact HB.out | apply below_alloc | apply pw_below_drewN | apply below_drew1) | exact HB.out)); (case side2 => exact Kd.R_tight rfl HO_3.out); rintro e w14 ⟨rfl, hy0, hb, hkp⟩; refine ⟨_, rfl, ?_⟩; replace HO_3 := ak (Kd.R_reok rfl hy0 (fun k_ e_ => HO_3.out.1 k_ e_)); replace HB := ak (hb); (try clear hb); (try clear hkp); (try clear hy0)) | ((with_reducible refine gate_callee (f := 203) rfl ?_); refine goesLa (some 22) rfl Try.func203 #[.slice Ao13 x3_1.length co13] rfl ?_; (with_reducible refine (impl_Claim_203.calls (fun k_ => some k_ = (.slice Ao13 x3_1.length co13 : Value).ownBlock) (.slice Ao13 x3_1.length co13) t195 t196 w _ ?side1 ?side2 A12.out).mono ?_); (case side1 => repeat (first | (with_reducible first | exact HB.out | apply below_alloc | apply pw_below_drewN | apply below_drew1) | exact HB.out)); (case side2 => exact Kd.R_tight rfl HO_3.out); rintro e w15 ⟨v197, rfl, ho0, hb, hkp⟩; refine ⟨_, rfl, ?_⟩; have HO198 := ak (Kd.R_mono (ok' := fun k_ => True) ho0 (fun k_ hk_ => trivial)); replace HB := ak (hb); clear HO_3; (try clear hb); (try clear hkp); (try clear ho0)))
    go_ret
    exact ⟨_, er2, by (with_reducible repeat (first | apply Kd.R_alloc | apply Kd.R_drewN | apply Kd.R_drew)); exact HO198.out, belowd HB⟩

/-! ### impl_ClaimsIn: function 50 -/
def impl_ClaimsIn.f (k : Nat) (l0 : List (S91)) : Option ((List (S85)) × Bool) := (impl_areStatements.f k l0).bind fun t199 => (if t199 = true then ((impl_claimsIn.f k l0).bind fun t200 => (some (t200, true))) else (some (([] : List (S85)), false)))
theorem impl_ClaimsIn.mono : ∀ a0 k, LeO (impl_ClaimsIn.f k a0) (impl_ClaimsIn.f (k + 1) a0) := by
 intro a0 k
 unfold impl_ClaimsIn.f
 repeat' (first | (with_reducible first | exact impl_areStatements.mono _ _ | exact impl_claimsIn.mono _ _ | exact LeO.refl _ | exact LeO.none _ | refine LeO.ite ?_ ?_ | refine LeO.bind ?_ (fun _ => ?_)) | exact impl_areStatements.mono _ _ | exact impl_claimsIn.mono _ _ | exact LeO.none _ | refine LeO.ite ?_ ?_ | refine LeO.bind ?_ (fun _ => ?_))
set_option maxHeartbeats 8000000 in
set_option maxRecDepth 100000 in
theorem impl_ClaimsIn.calls (k : Nat) (A0 : Option Addr) (c0 : Nat) (l0 : List (S91)) (r1 : List (S85)) (r2 : Bool) (w : World) (hr0 : Kd.C k91 w A0 l0.length l0) (hc0 : l0.length ≤ c0) (h : impl_ClaimsIn.f k l0 = some (r1, r2)) :
  Calls Try.prog 50 #[.slice A0 l0.length c0] w fun e w' => ∃ v0_ : Value, e = .returned (.tuple #[v0_, .bool r2]) ∧ Kd.R k85 85 w' w.heap.size (fun _ => True) v0_ r1 ∧ Below w.heap.size w w' := by
 have HR0 := Aside0.mk hr0; have HC0 := Aside0.mk hc0; clear hr0 hc0
 have HB := Aside0.mk (Below.refl w.heap.size w)
 have H : ((impl_areStatements.f k l0).bind fun t199 => (if t199 = true then ((impl_claimsIn.f k l0).bind fun t200 => (some (t200, true))) else (some (([] : List (S85)), false)))) = some (r1, r2) := h
 clear h; replace H := bS H; obtain ⟨t199, A2, H⟩ := H
 replace H : (if t199 = true then ((impl_claimsIn.f k l0).bind fun t200 => (some (t200, true))) else (some (([] : List (S85)), false))) = some (r1, r2) := H
 by_cases c3 : t199 = true
 ·subst c3
  have H1 : ((impl_claimsIn.f k l0).bind fun t200 => (some (t200, true))) = some (r1, r2) := by rw [if_pos rfl] at H; exact H
  clear H
  have H := H1
  clear H1; replace H := bS H; obtain ⟨t200, A4, H⟩ := H
  replace H : (some (t200, true)) = some (r1, r2) := H
  simp only [Option.some.injEq, Prod.mk.injEq] at H
  obtain ⟨rfl, rfl⟩ := H
  go_enter Try.func50, Try.ntmps50
  go_wp2_with (first | ((with_reducible refine gate_callee (f := 138) rfl ?_); refine goesLa (some 5) rfl Try.func138 #[.slice A0 l0.length c0] rfl ?_; (with_reducible refine (impl_areStatements.calls k _ _ l0 true _ ?side1 ?side2 A2.out).mono ?_); (case side1 => exact cd HR0.out); (case side2 => exact HC0.out); rintro e w5 ⟨rfl, hb⟩; refine ⟨_, rfl, ?_⟩; replace HB := ak (below_step (belowd HB) hb); (try clear hb)) | ((with_reducible refine gate_callee (f := 139) rfl ?_); refine goesLa (some 8) rfl Try.func139 #[.slice A0 l0.length c0] rfl ?_; (with_reducible refine (impl_claimsIn.calls k _ _ l0 t200 _ ?side1 ?side2 A4.out).mono ?_); (case side1 => exact cd (Kd.C_below HR0.out HB.out)); (case side2 => exact HC0.out); rintro e w6 ⟨v201, rfl, ho0, hb⟩; refine ⟨_, rfl, ?_⟩; have HO202 := ak (Kd.R_lower ho0 (below_size (belowd HB))); replace HB := ak (below_step (belowd HB) hb); (try clear hb); (try clear ho0)))
  go_ret2
  exact ⟨_, er2, by (with_reducible repeat (first | apply Kd.R_alloc | apply Kd.R_drewN | apply Kd.R_drew)); exact HO202.out, belowd HB⟩
 ·replace c3 := Bool.eq_false_iff.mpr c3
  subst c3
  have H1 : (some (([] : List (S85)), false)) = some (r1, r2) := by rw [if_neg (show ¬ (false = true) by decide)] at H; exact H
  clear H
  have H := H1
  clear H1
  simp only [Option.some.injEq, Prod.mk.injEq] at H
  obtain ⟨rfl, rfl⟩ := H
  go_enter Try.func50, Try.ntmps50
  go_wp2_with (first | ((with_reducible refine gate_callee (f := 138) rfl ?_); refine goesLa (some 5) rfl Try.func138 #[.slice A0 l0.length c0] rfl ?_; (with_reducible refine (impl_areStatements.calls k _ _ l0 false _ ?side1 ?side2 A2.out).mono ?_); (case side1 => exact cd HR0.out); (case side2 => exact HC0.out); rintro e w7 ⟨rfl, hb⟩; refine ⟨_, rfl, ?_⟩; replace HB := ak (below_step (belowd HB) hb); (try clear hb)))
  go_ret2
  exact ⟨_, er2, by first | exact Kd.R_nil _ _ _ _ _ | exact Kd.N_nil _ _ _ _ _ | exact Kd.V_nil _ _ _ _ _ | exact Kd.Q_nil _ _ _ _ _ | exact Kd.S_nil _ _ _ _ _, belowd HB⟩

end Go.Proofs.Ytkgogglnipdcfaa.QFnStated
