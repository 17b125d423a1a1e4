-- printed by this session's own program (wip/tools/pp.py: the kit's print.py with changes); Lean checks it
import Derived.Test.YtihekdlcfohkkaaGreatDoorQFnExactStepNetx0
import Derived.Test.YtihekdlcfohkkaaGreatDoorQFnExactStepNetx1
import Derived.Test.YtihekdlcfohkkaaGreatDoorQFnExactStepNetx7
import Derived.Test.YtihekdlcfohkkaaGreatDoorQFnExactStepNetx9
import Derived.Test.YtihekdlcfohkkaaGreatDoorQFnExactStepNetx10
namespace Go.Proofs.YtihekdlcfohkkaaGreatDoor.QFnExactStepNet
open Go.RowKit Go.Proofs.YtihekdlcfohkkaaGreatDoorW.PrintWords Go.Proofs.YtihekdlcfohkkaaGreatDoorW.PrintLast Go.Proofs.YtihekdlcfohkkaaGreatDoorW.PrintMore
attribute [local go_sem] max2_int min2_int max_two min_two max_three min_three max_four min_four strLss strGtr strLeq strGeq   -- for this text's walks alone
set_option linter.unusedVariables false
set_option linter.unusedSimpArgs false

/-! ### impl_onion: function 118 -/
def impl_onion.l0 : Nat → List Int → List Int → ByteArray → Int → Option (ByteArray)
  | 0, _, _, _, _ => none
  | k + 1, x0, x1, x7, x8 => if x8 ≥ 0 then (if 0 ≤ x8 then (if x8 < (x1.length : Int) then (if 0 ≤ 16 then (if 16 ≤ (x7.size : Int) then ((impl_check.f k (x7.extract 0 16)).bind fun t347 => ((some (([(rd x1 x8) % 256, (t347) % 256] : List Int) : List Int)).bind fun y348 => (if 0 ≤ 22 then (if 22 ≤ (x7.size : Int) then (if (strOfNums y348).size + (x7.extract 0 22).size ≤ 9223372036854775807 then (if x8 < (x0.length : Int) then ((impl_pad.f k (rd x0 x8) 24).bind fun t352 => ((impl_xor.f k ((strOfNums y348) ++ (x7.extract 0 22)) t352).bind fun t353 => (impl_onion.l0 k x0 x1 t353 (wrap64 (x8 - 1))))) else (none)) else (none)) else (none)) else (none)))) else (none)) else (none)) else (none)) else (none)) else (some x7)
def impl_onion.f (k : Nat) (l0 : List Int) (l1 : List Int) (a2 : ByteArray) : Option (ByteArray) := (impl_padded.f k a2).bind fun t344 => ((strings_Repeat.f k (⟨#[0]⟩ : ByteArray) 8).bind fun t345 => (if t344.size + t345.size ≤ 9223372036854775807 then (impl_onion.l0 k l0 l1 (t344 ++ t345) (wrap64 ((l0.length : Int) - 1))) else (none)))
theorem impl_onion.mono_l : ∀ k, (∀ y0 y1 y2 y3, LeO (impl_onion.l0 k y0 y1 y2 y3) (impl_onion.l0 (k + 1) y0 y1 y2 y3))
 | 0 => fun _ _ _ _ r h => by simp [impl_onion.l0] at h
 | k + 1 => by
  have ih0 := impl_onion.mono_l k
  ·intro y0 y1 y2 y3
   unfold impl_onion.l0
   repeat' (first | (with_reducible first | exact ih0 _ _ _ _ | exact impl_check.mono _ _ | exact impl_pad.mono _ _ _ | exact impl_padded.mono _ _ | exact impl_xor.mono _ _ _ | exact strings_Repeat.mono _ _ _ | exact LeO.refl _ | exact LeO.none _ | refine LeO.ite ?_ ?_ | refine LeO.bind ?_ (fun _ => ?_)) | exact ih0 _ _ _ _ | exact impl_check.mono _ _ | exact impl_pad.mono _ _ _ | exact impl_padded.mono _ _ | exact impl_xor.mono _ _ _ | exact strings_Repeat.mono _ _ _ | exact LeO.none _ | refine LeO.ite ?_ ?_ | refine LeO.bind ?_ (fun _ => ?_))
theorem impl_onion.mono : ∀ a0 a1 a2 k, LeO (impl_onion.f k a0 a1 a2) (impl_onion.f (k + 1) a0 a1 a2) := by
 intro a0 a1 a2 k
 have ih0 := impl_onion.mono_l k
 unfold impl_onion.f
 repeat' (first | (with_reducible first | exact ih0 _ _ _ _ | exact impl_check.mono _ _ | exact impl_pad.mono _ _ _ | exact impl_padded.mono _ _ | exact impl_xor.mono _ _ _ | exact strings_Repeat.mono _ _ _ | exact LeO.refl _ | exact LeO.none _ | refine LeO.ite ?_ ?_ | refine LeO.bind ?_ (fun _ => ?_)) | exact ih0 _ _ _ _ | exact impl_check.mono _ _ | exact impl_pad.mono _ _ _ | exact impl_padded.mono _ _ | exact impl_xor.mono _ _ _ | exact strings_Repeat.mono _ _ _ | exact LeO.none _ | refine LeO.ite ?_ ?_ | refine LeO.bind ?_ (fun _ => ?_))
def impl_onion.T5 : Bool × List (List Nat × List Nat) := (true, [([], []), ([], []), ([0, 1], [0, 1]), ([2], [2]), ([3], [3]), ([], []), ([5], [5]), ([6], [6]), ([7], [7]), ([4, 8], [4, 8]), ([9], [9]), ([], []), ([11], [11]), ([10, 12], [10, 12]), ([13, 7, 0, 1, 2, 3, 4, 5, 6, 7, 8, 9, 10, 11, 12, 13], [5, 11, 13])])
def impl_onion.B5 : List Nat := [0, 0, 3, 7, 15, 0, 32, 96, 224, 511, 1023, 0, 2048, 8191, 16383]
theorem impl_onion.tab5 : rtab .any (opsOf Tryz.f118 5) = impl_onion.T5 := by kernel_rfl
theorem impl_onion.bits5 : waitsOk impl_onion.T5.2 impl_onion.B5 = true := by kernel_rfl
set_option maxHeartbeats 8000000 in
set_option maxRecDepth 100000 in
theorem impl_onion.calls (k : Nat) (A0 : Option Addr) (c0 : Nat) (l0 : List Int) (A1 : Option Addr) (c1 : Nat) (l1 : List Int) (a2 : ByteArray) (r : ByteArray) (w : World) (hr0 : Kd.C (Kd.int .i64) w A0 l0.length l0) (hc0 : l0.length ≤ c0) (hr1 : Kd.C (Kd.int .i64) w A1 l1.length l1) (hc1 : l1.length ≤ c1) (h : impl_onion.f k l0 l1 a2 = some r) :
  Calls Tryz.prog 118 #[.slice A0 l0.length c0, .slice A1 l1.length c1, .string a2] w fun e w' => e = .returned (.string r) ∧ Below w.heap.size w w' := by
 have HR0 := Aside0.mk hr0; have HC0 := Aside0.mk hc0; clear hr0 hc0; have HR1 := Aside0.mk hr1; have HC1 := Aside0.mk hc1; clear hr1 hc1
 have HB := Aside0.mk (Below.refl w.heap.size w)
 have H : ((impl_padded.f k a2).bind fun t344 => ((strings_Repeat.f k (⟨#[0]⟩ : ByteArray) 8).bind fun t345 => (if t344.size + t345.size ≤ 9223372036854775807 then (impl_onion.l0 k l0 l1 (t344 ++ t345) (wrap64 ((l0.length : Int) - 1))) else (none)))) = some r := h
 clear h; replace H := bS H; obtain ⟨t344, A4, H⟩ := H
 replace H : ((strings_Repeat.f k (⟨#[0]⟩ : ByteArray) 8).bind fun t345 => (if t344.size + t345.size ≤ 9223372036854775807 then (impl_onion.l0 k l0 l1 (t344 ++ t345) (wrap64 ((l0.length : Int) - 1))) else (none))) = some r := H
 replace H := bS H; obtain ⟨t345, A5, H⟩ := H
 replace H : (if t344.size + t345.size ≤ 9223372036854775807 then (impl_onion.l0 k l0 l1 (t344 ++ t345) (wrap64 ((l0.length : Int) - 1))) else (none)) = some r := H
 replace H := ifS H; obtain ⟨c6, H⟩ := H; have c6b0 := eq_true c6
 have c6b1 : decide (t344.size + t345.size ≤ 9223372036854775807) = true := decide_eq_true c6
 try have c6b2 : (9223372036854775807 < t344.size + t345.size) = False := eq_false (Nat.not_lt.2 c6)
 have H' := Aside0.mk H
 clear H
 go_enter Tryz.func118, Tryz.ntmps118
 go_wp2_with (first | ((with_reducible refine gate_callee (f := 131) rfl ?_); refine goesLa (some 10) rfl Tryz.func131 #[.string a2] rfl ?_; (with_reducible refine (impl_padded.calls k a2 t344 _ A4.out).mono ?_); rintro e w7 ⟨rfl, hb⟩; refine ⟨_, rfl, ?_⟩; replace HB := ak (below_step (belowd HB) hb); (try clear hb)) | ((with_reducible refine gate_callee (f := 132) rfl ?_); refine goesLa (some 11) rfl Tryz.func132 #[.string (⟨#[0]⟩ : ByteArray), .int .i64 8] rfl ?_; (with_reducible refine (strings_Repeat.calls k (⟨#[0]⟩ : ByteArray) 8 t345 _ A5.out).mono ?_); rintro e w8 ⟨rfl, hb⟩; refine ⟨_, rfl, ?_⟩; replace HB := ak (below_step (belowd HB) hb); (try clear hb)))
 go_loopg [7, 8] k (fun kq v7 v8 w' => ∃ (x7_1 : ByteArray) (x8_1 : Int), v7 = .string x7_1 ∧ v8 = .int .i64 x8_1 ∧ Aside0 (impl_onion.l0 kq l0 l1 x7_1 x8_1 = some r) ∧ Aside0 (kq ≤ k) ∧ Aside0 (Below w.heap.size w w'))
 case atStart => exact ⟨(t344 ++ t345), (wrap64 ((l0.length : Int) - 1)), er, er, H', ⟨Nat.le_refl _⟩, ⟨belowd HB⟩⟩
 case round =>
  clear H'
  (try clear c1); (try clear c6); (try clear c6b0); (try clear c6b1); (try clear c6b2)
  obtain ⟨x7_1, x8_1, rfl, rfl, HA, HK1, HB⟩ := hrel
  cases gk with
  | zero => exact absurd HA.out (by simp [impl_onion.l0])
  | succ k1 =>
   have H := HA.out; clear HA
   simp only [impl_onion.l0] at H
   by_cases c9 : x8_1 ≥ 0
   ·rw [if_pos c9] at H
    have c9b0 : decide (0 ≤ x8_1) = true := decide_eq_true c9
    clear c9; replace H := ifS H; obtain ⟨c10, H⟩ := H; have c10b0 := decide_eq_true c10; clear c10; replace H := ifS H; obtain ⟨c11, H⟩ := H; have c11b0 := decide_eq_true c11; clear c11; replace H := ifS H; obtain ⟨c12, H⟩ := H; have c12b0 := eq_true c12
    have c12b1 : decide (0 ≤ 16) = true := decide_eq_true c12
    clear c12; replace H := ifS H; obtain ⟨c13, H⟩ := H; have c13b0 := eq_true c13
    have c13b1 : decide (16 ≤ (x7_1.size : Int)) = true := decide_eq_true c13
    clear c13; replace H := bS H; obtain ⟨t347, A14, H⟩ := H
    replace H : ((some (([(rd l1 x8_1) % 256, (t347) % 256] : List Int) : List Int)).bind fun y348 => (if 0 ≤ 22 then (if 22 ≤ (x7_1.size : Int) then (if (strOfNums y348).size + (x7_1.extract 0 22).size ≤ 9223372036854775807 then (if x8_1 < (l0.length : Int) then ((impl_pad.f k1 (rd l0 x8_1) 24).bind fun t352 => ((impl_xor.f k1 ((strOfNums y348) ++ (x7_1.extract 0 22)) t352).bind fun t353 => (impl_onion.l0 k1 l0 l1 t353 (wrap64 (x8_1 - 1))))) else (none)) else (none)) else (none)) else (none))) = some r := H
    obtain ⟨y348, hy_⟩ : ∃ y_ : List Int, y_ = (([(rd l1 x8_1) % 256, (t347) % 256] : List Int)) := ⟨_, rfl⟩
    replace H : (if 0 ≤ 22 then (if 22 ≤ (x7_1.size : Int) then (if (strOfNums y348).size + (x7_1.extract 0 22).size ≤ 9223372036854775807 then (if x8_1 < (l0.length : Int) then ((impl_pad.f k1 (rd l0 x8_1) 24).bind fun t352 => ((impl_xor.f k1 ((strOfNums y348) ++ (x7_1.extract 0 22)) t352).bind fun t353 => (impl_onion.l0 k1 l0 l1 t353 (wrap64 (x8_1 - 1))))) else (none)) else (none)) else (none)) else (none)) = some r := yH
    have Ny348 := ak hy_; clear hy_; replace H := ifS H; obtain ⟨c15, H⟩ := H; have c15b0 := eq_true c15
    have c15b1 : decide (0 ≤ 22) = true := decide_eq_true c15
    clear c15; replace H := ifS H; obtain ⟨c16, H⟩ := H; have c16b0 := eq_true c16
    have c16b1 : decide (22 ≤ (x7_1.size : Int)) = true := decide_eq_true c16
    clear c16; replace H := ifS H; obtain ⟨c17, H⟩ := H; have c17b0 := eq_true c17
    have c17b1 : decide ((strOfNums y348).size + (x7_1.extract 0 22).size ≤ 9223372036854775807) = true := decide_eq_true c17
    try have c17b2 : (9223372036854775807 < (strOfNums y348).size + (x7_1.extract 0 22).size) = False := eq_false (Nat.not_lt.2 c17)
    (try have c17x0 := c17b0; simp only [ByteArray.size_extract, Nat.sub_zero, Nat.min_self] at c17x0)
    (try have c17x2 := c17b2; simp only [ByteArray.size_extract, Nat.sub_zero, Nat.min_self] at c17x2)
    replace H := ifS H; obtain ⟨c18, H⟩ := H; have c18b0 := decide_eq_true c18; clear c18; replace H := bS H; obtain ⟨t352, A19, H⟩ := H
    replace H : ((impl_xor.f k1 ((strOfNums y348) ++ (x7_1.extract 0 22)) t352).bind fun t353 => (impl_onion.l0 k1 l0 l1 t353 (wrap64 (x8_1 - 1)))) = some r := H
    replace H := bS H; obtain ⟨t353, A20, H⟩ := H
    replace H : (impl_onion.l0 k1 l0 l1 t353 (wrap64 (x8_1 - 1))) = some r := H
    have H' := Aside0.mk H
    clear H
    try go_wp2
    replace HB := ak (below_drew1 HB.out)
    have p346 : 0 ≤ (x8_1 : Int) := da
    have q346 : x8_1 < (l1.length : Int) := da
    obtain ⟨ad346, e346, hx346_0⟩ := Kd.at_int HR1.out x8_1 p346 q346
    have hw346_0 := hx346_0
    cases e346
    replace hx346_0 := (HB.out.cell (World.block_lt_of_cell? w _ hx346_0)).trans hx346_0
    replace p346 := eq_true p346; replace q346 := eq_true q346
    refine start_ (n := 15) (S := fun w' => w'.cell? (ad346.add (x8_1).toNat) = some (.int .i64 (rd l1 x8_1))) (ds := []) (bl 15 0) (by kernel_rfl) rfl rfl (((HB.out.cell (World.block_lt_of_cell? w _ hw346_0)).trans hw346_0)) (fun hHeld => ?_); refine with_tabW impl_onion.tab5 impl_onion.bits5 (fun HT_ HW_ => ?_)
    generalize wr.drew = w21 at HB hx346_0 hHeld ⊢
    refine pureA 0 (some 20) 15 1 HT_ ?_
    refine pureA 1 (some 21) 15 3 HT_ ?_
    refine pureA 2 (some 22) 15 7 HT_ ?_
    refine pureA 5 (some 25) 15 39 HT_ ?_
    refine pureA 6 (some 26) 15 103 HT_ ?_
    refine pureA 11 (some 31) 15 2151 HT_ ?_
    refine pureA 12 (some 32) 15 6247 HT_ ?_
    refine takeA 3 (some 23) 15 6255 HT_ HW_ hHeld ?_ (hy := by intro w' s0; go_simp; with_reducible rfl)
    refine pureA 4 (some 24) 15 6271 HT_ ?_
    refine oneA 7 (some 27) 15 6399 HT_ (fun K hK => ?_)
    refine goes_ Tryz.func126 (by kernel_rfl) rfl #[.string (x7_1.extract 0 16)] (by rfl) rfl rfl (by (try simp only [List.map_toArray, List.map_cons, List.map_nil]); first | done | rfl | (simp only [List.length_drop, List.length_take]; rfl)) ?_
    with_reducible refine (impl_check.calls k1 (x7_1.extract 0 16) t347 _ A14.out).mono ?_
    rintro e w' ⟨rfl, ⟨nd, rfl⟩⟩
    refine ⟨_, rfl, ?_⟩
    refine hK.out _ _ (((HB.out.cell (World.block_lt_of_cell? w _ hw346_0)).trans hw346_0)) (fun hHeld => ?_)
    clear hK K
    refine norm_ (a' := ?_) ?_ ?_
    rotate_left
    ·show Act.put _ (some 27) _ = _
     simp only [Act.put, List.setIfInBounds_toArray, List.set_cons_zero, List.set_cons_succ, i64_w, i32_w]
     rfl
    refine pureA 8 (some 28) 15 6655 HT_ ?_
    refine oneA 9 (some 29) 15 7167 HT_ (fun K hK => ?_)
    refine Kd.R_lit_step (Kd.int .u8) _ 5 ?hg (N := 29) ?hd (xs := ([(rd l1 x8_1) % 256, (t347) % 256] : List Int)) (inner := [.int .u8 ((rd l1 x8_1) % 256), .int .u8 ((t347) % 256)]) (ok := fun _ => True) (okp := fun _ => True) ?hr ?hp (fun _ hk => hk) trivial (Below.refl _ _) (Nat.le_refl _) (by simp) ?_; (case hd => rfl); (case hg => rfl); (case hr => first | (go_simp; done) | (go_simp; rfl)); (case hp => exact (Reps.one (show Kd.M (Kd.int .u8) _ _ _ ((rd l1 x8_1) % 256) [.int .u8 ((rd l1 x8_1) % 256)] from rfl) (Reps.one (show Kd.M (Kd.int .u8) _ _ _ ((t347) % 256) [.int .u8 ((t347) % 256)] from rfl) (Reps.none _ _))))
    intro v349 w22 ho23 hb hg_ hnew_
    clear hg_ hnew_
    (first | rw [← Ny348.out] at ho23 | (simp only [Int.reduceToNat] at ho23; rw [← Ny348.out] at ho23))
    have HO350 := ak (Kd.R_lower ho23 (below_size (belowd HB)))
    replace HB := ak (below_step (belowd HB) hb)
    clear hb ho23
    refine hK.out _ _ (((HB.out.cell (World.block_lt_of_cell? w _ hw346_0)).trans hw346_0)) (fun hHeld => ?_)
    clear hK K
    refine norm_ (a' := ?_) ?_ ?_
    rotate_left
    ·show Act.put _ (some 29) _ = _
     simp only [Act.put, List.setIfInBounds_toArray, List.set_cons_zero, List.set_cons_succ, i64_w, i32_w]
     rfl
    refine oneA 10 (some 30) 15 8191 HT_ (fun K hK => ?_)
    have hcv24 := own_string (P := Tryz.prog) Tryz.underlying56 Tryz.underlying5 Tryz.underlying9 (Kd.own_of_R HO350.out)
    refine value_ (w1 := ?_) (v := ?_) (by rfl) rfl ?_ ?_
    rotate_left 2
    ·go_simp
     constructor
     ·rfl
     ·rfl
    clear hcv24
    refine hK.out _ _ (((HB.out.cell (World.block_lt_of_cell? w _ hw346_0)).trans hw346_0)) (fun hHeld => ?_)
    clear hK K
    refine norm_ (a' := ?_) ?_ ?_
    rotate_left
    ·show Act.put _ (some 30) _ = _
     simp only [Act.put, List.setIfInBounds_toArray, List.set_cons_zero, List.set_cons_succ, i64_w, i32_w]
     rfl
    refine pureA 13 (some 33) 15 16383 HT_ ?_
    refine pureA 14 (some 7) 15 32767 HT_ ?_
    refine done_ (done_of HT_.out (by kernel_rfl)) ?_
    have p351 : 0 ≤ (x8_1 : Int) := da
    have q351 : x8_1 < (l0.length : Int) := da
    obtain ⟨ad351, e351, hx351_0⟩ := Kd.at_int HR0.out x8_1 p351 q351
    cases e351
    replace hx351_0 := (HB.out.cell (World.block_lt_of_cell? w _ hx351_0)).trans hx351_0
    replace p351 := eq_true p351; replace q351 := eq_true q351
    try go_wp2_with (first | ((with_reducible refine gate_callee (f := 124) rfl ?_); refine goesLa (some 39) rfl Tryz.func124 #[.int .i64 (rd l0 x8_1), .int .i64 24] rfl ?_; (with_reducible refine (impl_pad.calls k1 (rd l0 x8_1) 24 t352 _ A19.out).mono ?_); rintro e w25 ⟨rfl, hb⟩; refine ⟨_, rfl, ?_⟩; replace HO350 := ak (Kd.R_below (rdl HO350) hb); replace HB := ak (below_step (belowd HB) hb); (try clear hb)) | ((with_reducible refine gate_callee (f := 123) rfl ?_); refine goesLa (some 40) rfl Tryz.func123 #[.string ((strOfNums y348) ++ (x7_1.extract 0 22)), .string t352] rfl ?_; (with_reducible refine (impl_xor.calls k1 ((strOfNums y348) ++ (x7_1.extract 0 22)) t352 t353 _ A20.out).mono ?_); rintro e w26 ⟨rfl, hb⟩; refine ⟨_, rfl, ?_⟩; replace HO350 := ak (Kd.R_below (rdl HO350) hb); replace HB := ak (below_step (belowd HB) hb); (try clear hb)))
    go_roundg k1
    case measure => have := HK1.out; omega
    case rel => exact ⟨(t353), (wrap64 (x8_1 - 1)), er, er, H', ⟨by have := HK1.out; omega⟩, ⟨belowd HB⟩⟩
   ·rw [if_neg c9] at H
    have c9b0 : decide (0 ≤ x8_1) = false := decide_eq_false c9
    clear c9
    obtain rfl := Option.some.inj H
    go_wp2
    go_ret
    exact ⟨er2, belowd HB⟩

/-! ### impl_Net_say: function 97 -/
def impl_Net_say.T6 : Bool × List (List Nat × List Nat) := (true, [([], []), ([], []), ([1], [1]), ([2], [2]), ([3], [3]), ([], []), ([], []), ([6], [6]), ([7], [7]), ([8], [8]), ([9], [9]), ([10], [10]), ([11], [11]), ([], []), ([12, 13], [12, 13]), ([4, 5, 14], [4, 5, 14]), ([0, 15, 15], [0, 15])])
def impl_Net_say.B6 : List Nat := [0, 0, 2, 6, 14, 0, 0, 64, 192, 448, 960, 1984, 4032, 0, 16320, 32766, 65535]
theorem impl_Net_say.tab6 : rtab .any (opsOf Tryz.f97 6) = impl_Net_say.T6 := by kernel_rfl
theorem impl_Net_say.bits6 : waitsOk impl_Net_say.T6.2 impl_Net_say.B6 = true := by kernel_rfl
def impl_Net_say.g (k : Nat) (n : Nt) (u : Int) (t : ByteArray) (H : List Int) : Option (Nt × Bool) := (if 0 ≤ wrap64 ((H.length : Int) - 1) ∧ wrap64 ((H.length : Int) - 1) < (H.length : Int) then (impl_onion.f k n.ks (H.set (wrap64 ((H.length : Int) - 1)).toNat (wrap64 (u + 2))) (strOfNums [wrap64 (n.sd + 1) % 256] ++ t)).bind fun s => (impl_Net_come.f k ⟨n.ks, n.ps, n.ss, n.ib, wrap64 (n.sd + 1)⟩ 0 s).bind fun m => some (m, true) else none)
def impl_Net_say.f (k : Nat) (n : Nt) (u : Int) (t : ByteArray) : Option (Nt × Bool) := (impl_within.f u 0 3).bind fun c => if c = false then some (n, false) else if 14 < (t.size : Int) then some (n, false) else if n.sd = 60 then some (n, false) else (slices_Repeat_int_int.f [1] (n.ks.length : Int)).bind fun H => impl_Net_say.g k n u t H
set_option maxHeartbeats 16000000 in
set_option maxRecDepth 100000 in
theorem impl_Net_say.calls {k : Nat} {v0 v1 v2 v3 : Value} {n m : Nt} {u : Int} {t : ByteArray} {r : Bool} {L : List SA} {w0 w : World} {b0 : Nat} (hs : Sep w0 w (bA b0 #[v0, v1, v2, v3, .int .i64 n.sd] 27 :: netA v0 v1 v2 v3 n ++ L)) (h : impl_Net_say.f k n u t = some (m, r)) :
    Calls Tryz.prog 97 #[.pointer (some ⟨b0, 0, none⟩), .int .i64 u, .string t] w fun e w' => e = .returned (.bool r) ∧ Sep w0 w' (bA b0 #[v0, v1, v2, v3, .int .i64 m.sd] 27 :: netA v0 v1 v2 v3 m ++ L) := by
 have hu27 := Tryz.underlying27
 obtain ⟨ks, ps, ss, ib, sd⟩ := n
 have HS : Sep w0 w (bA b0 #[v0, v1, v2, v3, .int .i64 sd] 27 :: rA KI 3 v0 ks :: sA KT 62 v1 ps :: sA KT 62 v2 ss :: sA KT 62 v3 ib :: L) := hs
 clear hs
 unfold impl_Net_say.f at h
 dsimp only at h ⊢
 obtain ⟨A0, c0, rfl⟩ := HS.slR 1
 obtain ⟨A1, c1, rfl⟩ := HS.slS 2
 obtain ⟨A2, c2, rfl⟩ := HS.slS 3
 obtain ⟨A3, c3, rfl⟩ := HS.slS 4
 replace h := bS h; obtain ⟨c, T1, h⟩ := h
 cases c with
 | false =>
  rw [if_pos rfl] at h
  skip
  obtain ⟨rfl, rfl⟩ := (Prod.mk.injEq _ _ _ _).mp (Option.some.inj h)
  clear h
  go_enter Tryz.func97, Tryz.ntmps97
  obtain ⟨z00, z01, z02, z03, z04, f00, f01, f02, f03, f04⟩ := box5 (HS.blk 0)
  go_wp2_with (first | (go_at_call 70; refine (impl_within.calls _ _ _ _ _ T1.out).mono ?_; rintro e W_ ⟨rfl, nd_, rfl⟩; replace HS := HS.drewN nd_; generalize World.drewN _ nd_ = W_ at HS ⊢; clear z00 z01 z02 z03 z04 f00 f01 f02 f03 f04; obtain ⟨z00, z01, z02, z03, z04, f00, f01, f02, f03, f04⟩ := box5 (HS.blk 0)))
  go_ret
  exact ⟨er, HS⟩
 | true =>
  rw [if_neg (by decide)] at h
  by_cases c1_ : 14 < (t.size : Int)
  ·rw [if_pos c1_] at h
   have cb1 : decide (14 < (t.size : Int)) = true := decide_eq_true c1_
   clear c1_
   obtain ⟨rfl, rfl⟩ := (Prod.mk.injEq _ _ _ _).mp (Option.some.inj h)
   clear h
   go_enter Tryz.func97, Tryz.ntmps97
   obtain ⟨z00, z01, z02, z03, z04, f00, f01, f02, f03, f04⟩ := box5 (HS.blk 0)
   go_wp2_with (first | (go_at_call 70; refine (impl_within.calls _ _ _ _ _ T1.out).mono ?_; rintro e W_ ⟨rfl, nd_, rfl⟩; replace HS := HS.drewN nd_; generalize World.drewN _ nd_ = W_ at HS ⊢; clear z00 z01 z02 z03 z04 f00 f01 f02 f03 f04; obtain ⟨z00, z01, z02, z03, z04, f00, f01, f02, f03, f04⟩ := box5 (HS.blk 0)))
   go_ret
   exact ⟨er, HS⟩
  ·rw [if_neg c1_] at h
   have cb1 : decide (14 < (t.size : Int)) = false := decide_eq_false c1_
   have hts : t.size ≤ 14 := by omega
   clear c1_
   by_cases c2_ : sd = 60
   ·rw [if_pos c2_] at h
    have cb2 : (sd == 60) = true := beq_iff_eq.2 c2_
    clear c2_
    obtain ⟨rfl, rfl⟩ := (Prod.mk.injEq _ _ _ _).mp (Option.some.inj h)
    clear h
    go_enter Tryz.func97, Tryz.ntmps97
    obtain ⟨z00, z01, z02, z03, z04, f00, f01, f02, f03, f04⟩ := box5 (HS.blk 0)
    go_wp2_with (first | (go_at_call 70; refine (impl_within.calls _ _ _ _ _ T1.out).mono ?_; rintro e W_ ⟨rfl, nd_, rfl⟩; replace HS := HS.drewN nd_; generalize World.drewN _ nd_ = W_ at HS ⊢; clear z00 z01 z02 z03 z04 f00 f01 f02 f03 f04; obtain ⟨z00, z01, z02, z03, z04, f00, f01, f02, f03, f04⟩ := box5 (HS.blk 0)))
    go_ret
    exact ⟨er, HS⟩
   ·rw [if_neg c2_] at h
    have cb2 : (sd == 60) = false := beq_eq_false_iff_ne.2 c2_
    clear c2_
    replace h := bS h; obtain ⟨H, TH, h⟩ := h
    have H' := ak h; clear h
    go_enter Tryz.func97, Tryz.ntmps97
    obtain ⟨z00, z01, z02, z03, z04, f00, f01, f02, f03, f04⟩ := box5 (HS.blk 0)
    go_upto_region 4 with (first | (go_at_call 70; refine (impl_within.calls _ _ _ _ _ T1.out).mono ?_; rintro e W_ ⟨rfl, nd_, rfl⟩; replace HS := HS.drewN nd_; generalize World.drewN _ nd_ = W_ at HS ⊢; clear z00 z01 z02 z03 z04 f00 f01 f02 f03 f04; obtain ⟨z00, z01, z02, z03, z04, f00, f01, f02, f03, f04⟩ := box5 (HS.blk 0)))
    clear z00 z01 z02 z03 z04 f00 f01 f02 f03 f04
    obtain ⟨W5_, e5_, H5_⟩ := (HS.putI 0 4 (.int .i64 (wrap64 (sd + 1))) #[.slice A0 ks.length c0, .slice A1 ps.length c1, .slice A2 ss.length c2, .slice A3 ib.length c3, .int .i64 (wrap64 (sd + 1))]).gen
    rw [e5_]
    clear HS e5_
    have HS := H5_
    clear H5_
    obtain ⟨z00, z01, z02, z03, z04, f00, f01, f02, f03, f04⟩ := box5 (HS.blk 0)
    go_upto_region 5 with (first | ((with_reducible refine gate_dst (N := 30) rfl ?_); refine Kd.R_lit KI _ 3 ?hg (N := 30) ?hd (xs := ([1] : List Int)) (inner := [.int .i64 1]) (ok := fun _ => True) (okp := fun _ => True) ?hr ?hp (fun _ hk => hk) trivial (Below.refl _ _) (Nat.le_refl _) (by simp) ?_; (case hd => rfl); (case hg => rfl); (case hr => first | (go_simp; done) | (go_simp; rfl)); (case hp => exact (Reps.one (show Kd.M KI _ _ _ 1 [.int .i64 1] from rfl) (Reps.none _ _))); intro vone W_ ho_ hb_ _ _; replace HS := HS.new (A := rA KI 3 vone ([1])) hb_ ho_; clear ho_ hb_; obtain ⟨A9, c9, rfl⟩ := HS.slR 0; clear z00 z01 z02 z03 z04 f00 f01 f02 f03 f04; obtain ⟨z00, z01, z02, z03, z04, f00, f01, f02, f03, f04⟩ := box5 (HS.blk 1)) | (go_at_call 117; have HC_ := slices_Repeat_int_int.calls A9 c9 [1] (ks.length : Int) H _ (HS.rdR 0).2.2 (HS.rdR 0).2.1 TH.out; refine HC_.mono ?_; clear HC_; rintro e W_ ⟨vH, rfl, ho_, hb_⟩; replace HS := HS.new (A := rA KI 3 vH H) hb_ ho_; clear ho_ hb_; clear z00 z01 z02 z03 z04 f00 f01 f02 f03 f04; obtain ⟨z00, z01, z02, z03, z04, f00, f01, f02, f03, f04⟩ := box5 (HS.blk 2)))
    have h := H'.out; clear H'
    unfold impl_Net_say.g at h
    dsimp only at h
    replace h := ifS h; obtain ⟨⟨hi0, hi1⟩, h⟩ := h
    obtain ⟨gH, qH, rfl⟩ := HS.addrR 0 (hx := by omega)
    obtain ⟨hHc, hHf⟩ := HS.rfree 0 (wrap64 ((H.length : Int) - 1)) hi0 hi1
    generalize hi_ : wrap64 ((H.length : Int) - 1) = i at h hi0 hi1 hHc hHf
    have pi0 : (0 ≤ i) = True := eq_true hi0
    have pi1 : (i < (H.length : Int)) = True := eq_true hi1
    clear z00 z01 z02 z03 z04 f00 f01 f02 f03 f04
    obtain ⟨z00, z01, z02, z03, z04, f00, f01, f02, f03, f04⟩ := box5 (HS.blk 2)
    go_upto_region 6 with fail
    clear z00 z01 z02 z03 z04 f00 f01 f02 f03 f04
    clear hHc hHf pi0 pi1
    replace HS := HS.rput i (wrap64 (u + 2))
    obtain ⟨W5_, e5_, H5_⟩ := HS.gen
    rw [e5_]
    clear HS e5_
    have HS := H5_
    clear H5_
    generalize hG : H.set i.toNat (wrap64 (u + 2)) = G at HS h
    have hGl : G.length = H.length := by rw [← hG, List.length_set]
    rw [← hGl] at HS
    simp only [← hGl]
    clear hi_ hi0 hi1 hG hGl
    obtain ⟨B, hB⟩ : ∃ B, strOfNums [wrap64 (sd + 1) % 256] = B := ⟨_, rfl⟩
    rw [hB] at h
    have hBs : B.size = 1 := by rw [← hB]; rfl
    have hs1 : decide (B.size + t.size ≤ 9223372036854775807) = true := decide_eq_true (by omega)
    have hs2 : (9223372036854775807 < B.size + t.size) = False := eq_false (by omega)
    clear hBs
    replace h := bS h; obtain ⟨s, T2, h⟩ := h
    replace h := bS h; obtain ⟨⟨ks1, ps1, ss1, ib1, sd1⟩, T3, h⟩ := h
    obtain ⟨e1, e2, e3⟩ := impl_Net_come.keeps T3.out
    dsimp only at e1 e2 e3
    replace e1 := e1.symm; replace e2 := e2.symm; replace e3 := e3.symm
    subst e1 e2 e3
    obtain ⟨rfl, rfl⟩ := (Prod.mk.injEq _ _ _ _).mp (Option.some.inj h)
    clear h
    go_upto_region 6 with fail
    obtain ⟨z00, z01, z02, z03, z04, f00, f01, f02, f03, f04⟩ := box5 (HS.blk 2)
    refine start_ (n := 17) (S := fun w' => w'.cell? ⟨b0, 0, none⟩ = some (.slice A0 ks.length c0) ∧ w'.cell? ⟨b0, 1, none⟩ = some (.slice A1 ps.length c1) ∧ w'.cell? ⟨b0, 2, none⟩ = some (.slice A2 ss.length c2) ∧ w'.cell? ⟨b0, 3, none⟩ = some (.slice A3 ib.length c3) ∧ w'.cell? ⟨b0, 4, none⟩ = some (.int .i64 (wrap64 (sd + 1)))) (ds := []) (bl 17 0) (by kernel_rfl) rfl rfl ⟨z00, z01, z02, z03, z04⟩ (fun hHeld => ?_); refine with_tabW impl_Net_say.tab6 impl_Net_say.bits6 (fun HT_ HW_ => ?_)
    clear z00 z01 z02 z03 z04 f00 f01 f02 f03 f04
    replace HS := HS.drew
    generalize World.drew _ = W9_ at HS hHeld ⊢
    refine pureA 0 (some 44) 17 1 HT_ ?_
    refine pureA 1 (some 45) 17 3 HT_ ?_
    refine pureA 2 (some 46) 17 7 HT_ ?_
    refine pureA 3 (some 47) 17 15 HT_ ?_
    refine takeA 4 (some 48) 17 31 HT_ HW_ hHeld ?_ (hy := by rintro w' ⟨s0, s1, s2, s3, s4⟩; go_simp; with_reducible rfl)
    refine pureA 5 (some 49) 17 63 HT_ ?_
    refine pureA 6 (some 50) 17 127 HT_ ?_
    refine pureA 7 (some 51) 17 255 HT_ ?_
    refine pureA 8 (some 52) 17 511 HT_ ?_
    refine takeA 9 (some 53) 17 1023 HT_ HW_ hHeld ?_ (hy := by rintro w' ⟨s0, s1, s2, s3, s4⟩; go_simp; with_reducible rfl)
    refine pureA 10 (some 54) 17 2047 HT_ ?_
    refine pureA 13 (some 57) 17 10239 HT_ ?_
    refine oneA 11 (some 55) 17 12287 HT_ (fun K hK => ?_)
    clear hHeld
    refine Kd.R_lit_step (Kd.int .u8) _ 5 ?hg (N := 55) ?hd (xs := ([wrap64 (sd + 1) % 256] : List Int)) (inner := [.int .u8 (wrap64 (sd + 1) % 256)]) (ok := fun _ => True) (okp := fun _ => True) ?hr ?hp (fun _ hk => hk) trivial (Below.refl _ _) (Nat.le_refl _) (by simp) ?_
    (case hd => rfl)
    (case hg => rfl)
    (case hr => first | (go_simp; done) | (go_simp; rfl))
    (case hp => exact (Reps.one (show Kd.M (Kd.int .u8) _ _ _ (wrap64 (sd + 1) % 256) [.int .u8 (wrap64 (sd + 1) % 256)] from rfl) (Reps.none _ _)))
    intro vby W_ ho_ hb_ _ _
    replace HS := HS.new (A := rA (Kd.int .u8) 5 vby ([wrap64 (sd + 1) % 256])) hb_ ho_
    clear ho_ hb_
    obtain ⟨z00, z01, z02, z03, z04, f00, f01, f02, f03, f04⟩ := box5 (HS.blk 3)
    refine hK.out _ _ ⟨z00, z01, z02, z03, z04⟩ (fun hHeld => ?_)
    clear hK K z00 z01 z02 z03 z04 f00 f01 f02 f03 f04
    refine norm_ (a' := ?_) ?_ ?_
    rotate_left
    ·show Act.put _ (some 55) _ = _
     simp only [Act.put, List.setIfInBounds_toArray, List.set_cons_zero, List.set_cons_succ, i64_w, i32_w]
     rfl
    refine oneA 12 (some 56) 17 16383 HT_ (fun K hK => ?_)
    clear hHeld
    have hcv := HS.text 0 (P := Tryz.prog) Tryz.underlying56 Tryz.underlying5 Tryz.underlying9
    rw [hB] at hcv
    refine value_ (w1 := ?_) (v := ?_) (by rfl) rfl ?_ ?_
    rotate_left 2
    ·go_simp
     constructor
     ·rfl
     ·rfl
    clear hcv
    obtain ⟨z00, z01, z02, z03, z04, f00, f01, f02, f03, f04⟩ := box5 (HS.blk 3)
    refine hK.out _ _ ⟨z00, z01, z02, z03, z04⟩ (fun hHeld => ?_)
    clear hK K z00 z01 z02 z03 z04 f00 f01 f02 f03 f04
    refine norm_ (a' := ?_) ?_ ?_
    rotate_left
    ·show Act.put _ (some 56) _ = _
     simp only [Act.put, List.setIfInBounds_toArray, List.set_cons_zero, List.set_cons_succ, i64_w, i32_w]
     rfl
    refine pureA 14 (some 58) 17 32767 HT_ ?_
    refine oneA 15 (some 59) 17 65535 HT_ (fun K hK => ?_)
    refine goes_ Tryz.func118 (by kernel_rfl) rfl #[.slice A0 ks.length c0, .slice (some ⟨gH, 0, none⟩) G.length qH, .string (B ++ t)] (by rfl) rfl rfl (by (try simp only [List.map_toArray, List.map_cons, List.map_nil]); first | done | rfl) ?_
    have HC_ := impl_onion.calls k _ _ ks _ _ G (B ++ t) s _ (HS.rdR 4).2.2 (HS.rdR 4).2.1 (HS.rdR 1).2.2 (HS.rdR 1).2.1 T2.out
    refine HC_.mono ?_
    clear HC_ hHeld
    rintro e W_ ⟨rfl, hb_⟩
    refine ⟨_, rfl, ?_⟩
    replace HS := HS.below hb_
    clear hb_
    obtain ⟨z00, z01, z02, z03, z04, f00, f01, f02, f03, f04⟩ := box5 (HS.blk 3)
    refine hK.out _ _ ⟨z00, z01, z02, z03, z04⟩ (fun hHeld => ?_)
    clear hK K z00 z01 z02 z03 z04 f00 f01 f02 f03 f04
    refine norm_ (a' := ?_) ?_ ?_
    rotate_left
    ·show Act.put _ (some 59) _ = _
     simp only [Act.put, List.setIfInBounds_toArray, List.set_cons_zero, List.set_cons_succ, i64_w, i32_w]
     rfl
    refine oneA 16 (some 60) 17 131071 HT_ (fun K hK => ?_)
    refine goes_ Tryz.func98 (by kernel_rfl) rfl #[.pointer (some ⟨b0, 0, none⟩), .int .i64 0, .string s] (by rfl) rfl rfl (by (try simp only [List.map_toArray, List.map_cons, List.map_nil]); first | done | rfl) ?_
    have HC_ := impl_Net_come.calls (n := ⟨ks, ps, ss, ib, wrap64 (sd + 1)⟩) (HS.fr7.fr7.fr7.fr7.fr7) T3.out
    refine HC_.mono ?_
    clear HC_ hHeld
    rintro e W_ ⟨rfl, HS'_⟩
    refine ⟨_, rfl, ?_⟩
    clear HS
    have HS := HS'_
    clear HS'_
    dsimp only [netA, List.cons_append, List.nil_append] at HS
    obtain ⟨z00, z01, z02, z03, z04, f00, f01, f02, f03, f04⟩ := box5 (HS.blk 0)
    refine hK.out _ _ ⟨z00, z01, z02, z03, z04⟩ (fun hHeld => ?_)
    clear hK K z00 z01 z02 z03 z04 f00 f01 f02 f03 f04
    refine norm_ (a' := ?_) ?_ ?_
    rotate_left
    ·show Act.put _ (some 60) _ = _
     simp only [Act.put, List.setIfInBounds_toArray, List.set_cons_zero, List.set_cons_succ, i64_w, i32_w]
     rfl
    refine done_ (done_of HT_.out (by kernel_rfl)) ?_
    clear HT_ HW_ hHeld
    go_wp2
    go_ret
    replace HS := HS.fr5.tail
    replace HS := HS.fr5.tail
    replace HS := HS.fr5.tail
    exact ⟨er, HS⟩

end Go.Proofs.YtihekdlcfohkkaaGreatDoor.QFnExactStepNet
