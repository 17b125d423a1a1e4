-- printed by this session's own program (wip/tools/pp.py: the kit's print.py with changes); Lean checks it
import Derived.Test.YtkgogglnipdcfaaQFnMixesx0
namespace Go.Proofs.Ytkgogglnipdcfaa.QFnMixes
open Go.RowKit Go.Proofs.YtkgogglnipdcfaaW.PrintWords Go.Proofs.YtkgogglnipdcfaaW.PrintLast Go.Proofs.YtkgogglnipdcfaaW.PrintMore
attribute [local go_sem] max2_int min2_int max_two min_two max_three min_three max_four min_four strLss strGtr strLeq strGeq   -- for this text's walks alone
set_option linter.unusedVariables false
set_option linter.unusedSimpArgs false

/-! ### spec_l8Tag: function 172 -/
def spec_l8Tag.l0 : Nat → ByteArray → Int → Int → Option (Int)
  | 0, _, _, _ => none
  | k + 1, x0, x3, x4 => if x4 < (x0.size : Int) then (if 0 ≤ x4 then (spec_l8Tag.l0 k x0 (Int.tmod (wrap64 ((wrap64 ((wrap64 (257 * x3)) + (wrap64 (bt x0 x4)))) + 1)) 4093) (wrap64 (x4 + 1))) else (none)) else (some x3)
def spec_l8Tag.f (k : Nat) (a0 : ByteArray) : Option (Int) := spec_l8Tag.l0 k a0 0 0
theorem spec_l8Tag.mono_l : ∀ k, (∀ y0 y1 y2, LeO (spec_l8Tag.l0 k y0 y1 y2) (spec_l8Tag.l0 (k + 1) y0 y1 y2))
 | 0 => fun _ _ _ r h => by simp [spec_l8Tag.l0] at h
 | k + 1 => by
  have ih0 := spec_l8Tag.mono_l k
  ·intro y0 y1 y2
   unfold spec_l8Tag.l0
   repeat' (first | (with_reducible first | exact ih0 _ _ _ | exact LeO.refl _ | exact LeO.none _ | refine LeO.ite ?_ ?_ | refine LeO.bind ?_ (fun _ => ?_)) | exact ih0 _ _ _ | exact LeO.none _ | refine LeO.ite ?_ ?_ | refine LeO.bind ?_ (fun _ => ?_))
theorem spec_l8Tag.mono : ∀ a0 k, LeO (spec_l8Tag.f k a0) (spec_l8Tag.f (k + 1) a0) := by
 intro a0 k
 have ih0 := spec_l8Tag.mono_l k
 unfold spec_l8Tag.f
 repeat' (first | (with_reducible first | exact ih0 _ _ _ | exact LeO.refl _ | exact LeO.none _ | refine LeO.ite ?_ ?_ | refine LeO.bind ?_ (fun _ => ?_)) | exact ih0 _ _ _ | exact LeO.none _ | refine LeO.ite ?_ ?_ | refine LeO.bind ?_ (fun _ => ?_))
set_option maxHeartbeats 8000000 in
set_option maxRecDepth 100000 in
theorem spec_l8Tag.calls (k : Nat) (a0 : ByteArray) (r : Int) (w : World) (h : spec_l8Tag.f k a0 = some r) :
  Calls Try.prog 172 #[.string a0] w fun e w' => e = .returned (.int .i64 r) ∧ Drawn0 w w' := by
 have H : (spec_l8Tag.l0 k a0 0 0) = some r := h
 clear h
 have H' := Aside0.mk H
 clear H
 go_enter Try.func172, Try.ntmps172
 go_wp2
 go_loopg [3, 4] k (fun kq v3 v4 w' => ∃ (x3_1 : Int) (x4_1 : Int), v3 = .int .i64 x3_1 ∧ v4 = .int .i64 x4_1 ∧ Aside0 (spec_l8Tag.l0 kq a0 x3_1 x4_1 = some r) ∧ Aside0 (kq ≤ k) ∧ Drawn0 w w')
 case atStart => exact ⟨(0), (0), er, er, H', ⟨Nat.le_refl _⟩, drw⟩
 case round =>
  clear H'
  obtain ⟨x3_1, x4_1, rfl, rfl, HA, HK1, ⟨m1, rfl⟩⟩ := hrel
  cases gk with
  | zero => exact absurd HA.out (by simp [spec_l8Tag.l0])
  | succ k1 =>
   have H := HA.out; clear HA
   simp only [spec_l8Tag.l0] at H
   by_cases c2 : x4_1 < (a0.size : Int)
   ·rw [if_pos c2] at H
    have c2b0 : decide (x4_1 < (a0.size : Int)) = true := decide_eq_true c2
    clear c2; replace H := ifS H; obtain ⟨c3, H⟩ := H; have c3b0 := decide_eq_true c3; clear c3
    have H' := Aside0.mk H
    clear H
    have p4 : 0 ≤ (x4_1 : Int) := da
    have q4 : x4_1 < (a0.size : Int) := da
    have hx4 := bt_at a0 x4_1
    replace p4 := eq_true p4; replace q4 := eq_true q4; go_wp2
    go_roundg k1
    case measure => have := HK1.out; omega
    case rel => exact ⟨(Int.tmod (wrap64 ((wrap64 ((wrap64 (257 * x3_1)) + (wrap64 (bt a0 x4_1)))) + 1)) 4093), (wrap64 (x4_1 + 1)), er, er, H', ⟨by have := HK1.out; omega⟩, drw⟩
   ·rw [if_neg c2] at H
    have c2b0 : decide (x4_1 < (a0.size : Int)) = false := decide_eq_false c2
    clear c2
    obtain rfl := Option.some.inj H
    go_wp2
    go_ret
    exact ⟨er, drw⟩

/-! ### spec_l1Has: function 173 -/
def spec_l1Has.l0 : Nat → Int → List Int → Int → Int → Option (Bool)
  | 0, _, _, _, _ => none
  | k + 1, x1, x7, x8, x9 => if x9 < x8 then (if 0 ≤ x9 then (if x9 < (x7.length : Int) then (if (rd x7 x9) = x1 then (some true) else (spec_l1Has.l0 k x1 x7 x8 (wrap64 (x9 + 1)))) else (none)) else (none)) else (some false)
def spec_l1Has.f (k : Nat) (l0 : List Int) (a1 : Int) : Option (Bool) := spec_l1Has.l0 k a1 l0 (l0.length : Int) 0
theorem spec_l1Has.mono_l : ∀ k, (∀ y0 y1 y2 y3, LeO (spec_l1Has.l0 k y0 y1 y2 y3) (spec_l1Has.l0 (k + 1) y0 y1 y2 y3))
 | 0 => fun _ _ _ _ r h => by simp [spec_l1Has.l0] at h
 | k + 1 => by
  have ih0 := spec_l1Has.mono_l k
  ·intro y0 y1 y2 y3
   unfold spec_l1Has.l0
   repeat' (first | (with_reducible first | exact ih0 _ _ _ _ | exact LeO.refl _ | exact LeO.none _ | refine LeO.ite ?_ ?_ | refine LeO.bind ?_ (fun _ => ?_)) | exact ih0 _ _ _ _ | exact LeO.none _ | refine LeO.ite ?_ ?_ | refine LeO.bind ?_ (fun _ => ?_))
theorem spec_l1Has.mono : ∀ a0 a1 k, LeO (spec_l1Has.f k a0 a1) (spec_l1Has.f (k + 1) a0 a1) := by
 intro a0 a1 k
 have ih0 := spec_l1Has.mono_l k
 unfold spec_l1Has.f
 repeat' (first | (with_reducible first | exact ih0 _ _ _ _ | exact LeO.refl _ | exact LeO.none _ | refine LeO.ite ?_ ?_ | refine LeO.bind ?_ (fun _ => ?_)) | exact ih0 _ _ _ _ | exact LeO.none _ | refine LeO.ite ?_ ?_ | refine LeO.bind ?_ (fun _ => ?_))
set_option maxHeartbeats 8000000 in
set_option maxRecDepth 100000 in
theorem spec_l1Has.calls (k : Nat) (A0 : Option Addr) (c0 : Nat) (l0 : List Int) (a1 : Int) (r : Bool) (w : World) (hr0 : Kd.C (Kd.int .i64) w A0 l0.length l0) (hc0 : l0.length ≤ c0) (h : spec_l1Has.f k l0 a1 = some r) :
  Calls Try.prog 173 #[.slice A0 l0.length c0, .int .i64 a1] w fun e w' => e = .returned (.bool r) ∧ Drawn0 w w' := by
 have HR0 := Aside0.mk hr0; have HC0 := Aside0.mk hc0; clear hr0 hc0
 have H : (spec_l1Has.l0 k a1 l0 (l0.length : Int) 0) = some r := h
 clear h
 have H' := Aside0.mk H
 clear H
 go_enter Try.func173, Try.ntmps173
 go_wp2
 go_loopg [9] k (fun kq v9 w' => ∃ (x9_1 : Int), v9 = .int .i64 x9_1 ∧ Aside0 (spec_l1Has.l0 kq a1 l0 (l0.length : Int) x9_1 = some r) ∧ Aside0 (kq ≤ k) ∧ Drawn0 w w')
 case atStart => exact ⟨(0), er, H', ⟨Nat.le_refl _⟩, drw⟩
 case round =>
  clear H'
  obtain ⟨x9_1, rfl, HA, HK1, ⟨m1, rfl⟩⟩ := hrel
  cases gk with
  | zero => exact absurd HA.out (by simp [spec_l1Has.l0])
  | succ k1 =>
   have H := HA.out; clear HA
   simp only [spec_l1Has.l0] at H
   by_cases c3 : x9_1 < (l0.length : Int)
   ·rw [if_pos c3] at H
    have c3b0 : decide (x9_1 < (l0.length : Int)) = true := decide_eq_true c3
    clear c3; replace H := ifS H; obtain ⟨c4, H⟩ := H; have c4b0 := decide_eq_true c4; clear c4; replace H := ifS H; obtain ⟨c5, H⟩ := H; have c5b0 := decide_eq_true c5; clear c5
    by_cases c6 : (rd l0 x9_1) = a1
    ·rw [if_pos c6] at H
     have c6b0 : ((rd l0 x9_1) == a1) = true := beq_iff_eq.mpr c6
     have c6b1 : ((rd l0 x9_1) != a1) = false := bne_eq_false_iff_eq.mpr c6
     clear c6
     obtain rfl := Option.some.inj H
     have p101 : 0 ≤ (x9_1 : Int) := da
     have q101 : x9_1 < (l0.length : Int) := da
     obtain ⟨ad101, e101, hx101_0⟩ := Kd.at_int HR0.out x9_1 p101 q101
     cases e101
     replace p101 := eq_true p101; replace q101 := eq_true q101; go_wp2
     go_ret
     exact ⟨er, drw⟩
    ·rw [if_neg c6] at H
     have c6b0 : ((rd l0 x9_1) == a1) = false := beq_eq_false_iff_ne.mpr c6
     have c6b1 : ((rd l0 x9_1) != a1) = true := bne_iff_ne.mpr c6
     have H' := Aside0.mk H
     clear H
     have p101 : 0 ≤ (x9_1 : Int) := da
     have q101 : x9_1 < (l0.length : Int) := da
     obtain ⟨ad101, e101, hx101_0⟩ := Kd.at_int HR0.out x9_1 p101 q101
     cases e101
     replace p101 := eq_true p101; replace q101 := eq_true q101; go_wp2
     go_roundg k1
     case measure => have := HK1.out; omega
     case rel => exact ⟨(wrap64 (x9_1 + 1)), er, H', ⟨by have := HK1.out; omega⟩, drw⟩
   ·rw [if_neg c3] at H
    have c3b0 : decide (x9_1 < (l0.length : Int)) = false := decide_eq_false c3
    clear c3
    obtain rfl := Option.some.inj H
    go_wp2
    go_ret
    exact ⟨er, drw⟩

/-! ### spec_l8Place: function 175 -/
def spec_l8Place.l0 : Nat → List ByteArray → ByteArray → Int → Option (List ByteArray)
  | 0, _, _, _ => none
  | k + 1, x0, x1, x5 => if x5 < (x0.length : Int) then (if 0 ≤ x5 then (if ((Op.bytesLess x1.toList ((rdOf ByteArray.empty x0 x5).toList)) = true) then ((some (([] : List ByteArray) : List ByteArray)).bind fun y103 => (if x5 ≤ (x0.length : Int) then (if y103.length + (x0.take (x5 : Int).toNat).length < 8796093022208 then ((some (y103 ++ (x0.take (x5 : Int).toNat) : List ByteArray)).bind fun y107 => (if y107.length < 8796093022208 then ((some (y107 ++ [x1] : List ByteArray)).bind fun y110 => (if y110.length + (x0.drop (x5 : Int).toNat).length < 8796093022208 then (some (y110 ++ (x0.drop (x5 : Int).toNat))) else (none))) else (none))) else (none)) else (none))) else (spec_l8Place.l0 k x0 x1 (wrap64 (x5 + 1)))) else (none)) else ((some (([] : List ByteArray) : List ByteArray)).bind fun y117 => (if 0 ≤ x5 then (if x5 ≤ (x0.length : Int) then (if y117.length + (x0.take (x5 : Int).toNat).length < 8796093022208 then ((some (y117 ++ (x0.take (x5 : Int).toNat) : List ByteArray)).bind fun y121 => (if y121.length < 8796093022208 then ((some (y121 ++ [x1] : List ByteArray)).bind fun y124 => (if y124.length + (x0.drop (x5 : Int).toNat).length < 8796093022208 then (some (y124 ++ (x0.drop (x5 : Int).toNat))) else (none))) else (none))) else (none)) else (none)) else (none)))
def spec_l8Place.f (k : Nat) (l0 : List ByteArray) (a1 : ByteArray) : Option (List ByteArray) := spec_l8Place.l0 k l0 a1 0
theorem spec_l8Place.mono_l : ∀ k, (∀ y0 y1 y2, LeO (spec_l8Place.l0 k y0 y1 y2) (spec_l8Place.l0 (k + 1) y0 y1 y2))
 | 0 => fun _ _ _ r h => by simp [spec_l8Place.l0] at h
 | k + 1 => by
  have ih0 := spec_l8Place.mono_l k
  ·intro y0 y1 y2
   unfold spec_l8Place.l0
   repeat' (first | (with_reducible first | exact ih0 _ _ _ | exact LeO.refl _ | exact LeO.none _ | refine LeO.ite ?_ ?_ | refine LeO.bind ?_ (fun _ => ?_)) | exact ih0 _ _ _ | exact LeO.none _ | refine LeO.ite ?_ ?_ | refine LeO.bind ?_ (fun _ => ?_))
theorem spec_l8Place.mono : ∀ a0 a1 k, LeO (spec_l8Place.f k a0 a1) (spec_l8Place.f (k + 1) a0 a1) := by
 intro a0 a1 k
 have ih0 := spec_l8Place.mono_l k
 unfold spec_l8Place.f
 repeat' (first | (with_reducible first | exact ih0 _ _ _ | exact LeO.refl _ | exact LeO.none _ | refine LeO.ite ?_ ?_ | refine LeO.bind ?_ (fun _ => ?_)) | exact ih0 _ _ _ | exact LeO.none _ | refine LeO.ite ?_ ?_ | refine LeO.bind ?_ (fun _ => ?_))
set_option maxHeartbeats 8000000 in
set_option maxRecDepth 100000 in
theorem spec_l8Place.calls (k : Nat) (A0 : Option Addr) (c0 : Nat) (l0 : List ByteArray) (a1 : ByteArray) (r : List ByteArray) (w : World) (hr0 : Kd.C Kd.string w A0 l0.length l0) (hc0 : l0.length ≤ c0) (h : spec_l8Place.f k l0 a1 = some r) :
  Calls Try.prog 175 #[.slice A0 l0.length c0, .string a1] w fun e w' => ∃ v0_ : Value, e = .returned (v0_) ∧ Kd.R Kd.string 9 w' w.heap.size (fun _ => True) v0_ r ∧ Below w.heap.size w w' := by
 have HR0 := Aside0.mk hr0; have HC0 := Aside0.mk hc0; clear hr0 hc0
 have HB := Aside0.mk (Below.refl w.heap.size w)
 have H : (spec_l8Place.l0 k l0 a1 0) = some r := h
 clear h
 have H' := Aside0.mk H
 clear H
 go_enter Try.func175, Try.ntmps175
 go_wp2
 go_loopg [5] k (fun kq v5 w' => ∃ (x5_1 : Int), v5 = .int .i64 x5_1 ∧ Aside0 (spec_l8Place.l0 kq l0 a1 x5_1 = some r) ∧ Aside0 (kq ≤ k) ∧ Aside0 (Below w.heap.size w w'))
 case atStart => exact ⟨(0), er, H', ⟨Nat.le_refl _⟩, ⟨belowd HB⟩⟩
 case round =>
  clear H'
  obtain ⟨x5_1, rfl, HA, HK1, HB⟩ := hrel
  cases gk with
  | zero => exact absurd HA.out (by simp [spec_l8Place.l0])
  | succ k1 =>
   have H := HA.out; clear HA
   simp only [spec_l8Place.l0] at H
   by_cases c3 : x5_1 < (l0.length : Int)
   ·rw [if_pos c3] at H
    have c3b0 : decide (x5_1 < (l0.length : Int)) = true := decide_eq_true c3
    clear c3; replace H := ifS H; obtain ⟨c4, H⟩ := H; have c4b0 := decide_eq_true c4; clear c4
    by_cases c5 : ((Op.bytesLess a1.toList ((rdOf ByteArray.empty l0 x5_1).toList)) = true)
    ·rw [if_pos c5] at H
     have c5b0 : (Op.bytesLess a1.toList ((rdOf ByteArray.empty l0 x5_1).toList)) = true := c5
     clear c5
     obtain ⟨y103, hy_⟩ : ∃ y_ : List ByteArray, y_ = (([] : List ByteArray)) := ⟨_, rfl⟩
     replace H : (if x5_1 ≤ (l0.length : Int) then (if y103.length + (l0.take (x5_1 : Int).toNat).length < 8796093022208 then ((some (y103 ++ (l0.take (x5_1 : Int).toNat) : List ByteArray)).bind fun y107 => (if y107.length < 8796093022208 then ((some (y107 ++ [a1] : List ByteArray)).bind fun y110 => (if y110.length + (l0.drop (x5_1 : Int).toNat).length < 8796093022208 then (some (y110 ++ (l0.drop (x5_1 : Int).toNat))) else (none))) else (none))) else (none)) else (none)) = some r := yH
     have Ny103 := ak hy_; clear hy_
     have c6b0 := eq_true (da : 0 ≤ x5_1)
     replace H := ifS H; obtain ⟨c7, H⟩ := H; have c7b0 := eq_true c7
     have c7b1 : decide (x5_1 ≤ (l0.length : Int)) = true := decide_eq_true c7
     clear c7; replace H := ifS H; obtain ⟨c8, H⟩ := H; have LMc8 := Aside0.mk c8; clear c8
     obtain ⟨y107, hy_⟩ : ∃ y_ : List ByteArray, y_ = (y103 ++ (l0.take (x5_1 : Int).toNat)) := ⟨_, rfl⟩
     replace H : (if y107.length < 8796093022208 then ((some (y107 ++ [a1] : List ByteArray)).bind fun y110 => (if y110.length + (l0.drop (x5_1 : Int).toNat).length < 8796093022208 then (some (y110 ++ (l0.drop (x5_1 : Int).toNat))) else (none))) else (none)) = some r := yH
     have Ny107 := ak hy_; clear hy_; replace H := ifS H; obtain ⟨c9, H⟩ := H; have LMc9 := Aside0.mk c9; clear c9
     obtain ⟨y110, hy_⟩ : ∃ y_ : List ByteArray, y_ = (y107 ++ [a1]) := ⟨_, rfl⟩
     replace H : (if y110.length + (l0.drop (x5_1 : Int).toNat).length < 8796093022208 then (some (y110 ++ (l0.drop (x5_1 : Int).toNat))) else (none)) = some r := yH
     have Ny110 := ak hy_; clear hy_
     have c10b0 := eq_true (da : 0 ≤ x5_1)
     have c11b0 := eq_true (da : x5_1 ≤ (l0.length : Int))
     replace H := ifS H; obtain ⟨c12, H⟩ := H; have LMc12 := Aside0.mk c12; clear c12
     obtain ⟨y114, hy_⟩ : ∃ y_ : List ByteArray, y_ = (y110 ++ (l0.drop (x5_1 : Int).toNat)) := ⟨_, rfl⟩
     replace H : (some y114) = some r := yH
     have Ny114 := ak hy_; clear hy_
     obtain rfl := Option.some.inj H
     have p102 : 0 ≤ (x5_1 : Int) := da
     have q102 : x5_1 < (l0.length : Int) := da
     obtain ⟨ad102, e102, hx102_0⟩ := Kd.at_string HR0.out x5_1 p102 q102
     cases e102
     replace hx102_0 := (HB.out.cell (World.block_lt_of_cell? w _ hx102_0)).trans hx102_0
     replace p102 := eq_true p102; replace q102 := eq_true q102
     go_wp2_with (first | ((with_reducible refine gate_dst (N := 21) rfl ?_); refine Kd.R_lit Kd.string _ 9 ?hg (N := 21) ?hd (xs := ([] : List ByteArray)) (inner := []) (ok := fun _ => True) (okp := fun _ => True) ?hr ?hp (fun _ hk => hk) trivial (Below.refl _ _) (Nat.le_refl _) (by simp) ?_; (case hd => rfl); (case hg => rfl); (case hr => first | (go_simp; done) | (go_simp; rfl)); (case hp => exact (Reps.none _ _)); intro v104 w13 ho14 hb hg_ hnew_; clear hg_ hnew_; (first | rw [← Ny103.out] at ho14 | (simp only [Int.reduceToNat] at ho14; rw [← Ny103.out] at ho14)); have HO105 := ak (Kd.R_lower ho14 (below_size (belowd HB))); replace HB := ak (below_step (belowd HB) hb); clear hb ho14; obtain ⟨i015, hi015, _, hsz15, _⟩ := info_parts info9; obtain ⟨hcut15, hA15, hC15⟩ := print_take_of (P := Try.prog) Value.string (⟨#[]⟩ : ByteArray) 22 9 .i64 Try.underlying22 hi015 hsz15 (some ad102) c0 l0 x5_1 (da) (da) HC0.out; have HR106 := Aside0.mk (Kd.C_of_reads (h1 := fun _ => rfl) (hA15 _ (Kd.reads_of_C HR0.out))); have HC106 := Aside0.mk hC15; clear hA15 hC15 hi015 hsz15) | ((with_reducible refine gate_builtin (b := .append) (xs := #[.tmp 21, .tmp 24]) rfl ?_); at_builtin; refine Kd.R_append_rows Kd.string (w0 := w) w.heap.size rfl (.tmp 21) (.tmp 24) 22 9 (.string ⟨#[]⟩) 16 rfl Try.underlying22 info9 rfl (by decide) (by omega) v104 y103 (l0.take (x5_1 : Int).toNat) _ _ _ (fun _ => True) (fun _ => False) rfl rfl ?aO ?aR (fun _ _ h => h) (fun _ h => h.elim) ?aF ?aB ?aS ?aL ?_; (case aR => first | (refine Eq.mp (congrArg (fun z_ => ReadsRow _ _ _ _ z_ _) (show (l0.take (x5_1 : Int).toNat).length = x5_1.toNat from (by rw [List.length_take]; have h_ : (x5_1 : Int) ≤ (l0.length : Int) := da; omega))) ?_; exact cd (Kd.C_below HR106.out HB.out)) | (rw [← show (l0.take (x5_1 : Int).toNat).length = x5_1.toNat from (by rw [List.length_take]; have h_ : (x5_1 : Int) ≤ (l0.length : Int) := da; omega)]; exact cd (Kd.C_below HR106.out HB.out)) | (exact cd (Kd.C_below HR106.out HB.out))); (case aB => exact (belowd HB)); (case aF => exact (fun _ _ => trivial)); (case aO => exact (rdl HO105)); (case aS => exact (below_size (belowd HB))); (case aL => have := LMc8.out; have hlx_ := (show (l0.take (x5_1 : Int).toNat).length = x5_1.toNat from (by rw [List.length_take]; have h_ : (x5_1 : Int) ≤ (l0.length : Int) := da; omega)); omega); intro v108 w16 ho hb hg hat; rw [← Ny107.out] at ho; replace HB := ak (hb); have HO109 := ak (ho); clear HO105; clear ho hb hg hat) | ((with_reducible refine gate_builtin (b := .append) (xs := #[.tmp 26, .tmp 28]) rfl ?_); at_builtin; refine Kd.R_append Kd.string (w0 := w) w.heap.size rfl (.tmp 26) (.tmp 28) 22 9 (.string ⟨#[]⟩) 16 rfl Try.underlying22 info9 rfl (by decide) (by omega) v108 y107 a1 [.string a1] (fun _ => True) (fun _ => False) rfl rfl ?aP (fun _ hk => hk.elim) ?aF ?aO ?aB ?aS ?aL ?_; (case aP => exact rfl); (case aB => exact (belowd HB)); (case aF => exact (fun _ _ => trivial)); (case aO => exact (rdl HO109)); (case aS => exact (below_size (belowd HB))); (case aL => have := LMc9.out; omega); intro v111 w17 ho hb hg hat; rw [← Ny110.out] at ho; replace HB := ak (hb); have HO112 := ak (ho); clear HO109; clear ho hb hg hat; obtain ⟨i018, hi018, _, hsz18, _⟩ := info_parts info9; obtain ⟨A18, hcut18, hA18, hC18⟩ := print_drop_of (P := Try.prog) Value.string (⟨#[]⟩ : ByteArray) 22 9 .i64 Try.underlying22 hi018 hsz18 (some ad102) c0 l0 x5_1 (da) (da) HC0.out; have HR113 := Aside0.mk (Kd.C_of_reads (h1 := fun _ => rfl) (hA18 _ (Kd.reads_of_C HR0.out))); have HC113 := Aside0.mk hC18; clear hA18 hC18 hi018 hsz18) | ((with_reducible refine gate_builtin (b := .append) (xs := #[.tmp 30, .tmp 33]) rfl ?_); at_builtin; refine Kd.R_append_rows Kd.string (w0 := w) w.heap.size rfl (.tmp 30) (.tmp 33) 22 9 (.string ⟨#[]⟩) 16 rfl Try.underlying22 info9 rfl (by decide) (by omega) v111 y110 (l0.drop (x5_1 : Int).toNat) _ _ _ (fun _ => True) (fun _ => False) rfl rfl ?aO ?aR (fun _ _ h => h) (fun _ h => h.elim) ?aF ?aB ?aS ?aL ?_; (case aR => first | (refine Eq.mp (congrArg (fun z_ => ReadsRow _ _ _ _ z_ _) (show (l0.drop (x5_1 : Int).toNat).length = (l0.length - x5_1.toNat) from List.length_drop)) ?_; exact cd (Kd.C_below HR113.out HB.out)) | (rw [← show (l0.drop (x5_1 : Int).toNat).length = (l0.length - x5_1.toNat) from List.length_drop]; exact cd (Kd.C_below HR113.out HB.out)) | (exact cd (Kd.C_below HR113.out HB.out))); (case aB => exact (belowd HB)); (case aF => exact (fun _ _ => trivial)); (case aO => exact (rdl HO112)); (case aS => exact (below_size (belowd HB))); (case aL => have := LMc12.out; have hlx_ := (show (l0.drop (x5_1 : Int).toNat).length = (l0.length - x5_1.toNat) from List.length_drop); omega); intro v115 w19 ho hb hg hat; rw [← Ny114.out] at ho; replace HB := ak (hb); have HO116 := ak (ho); clear HO112; clear ho hb hg hat))
     go_ret
     exact ⟨_, er2, by (with_reducible repeat (first | apply Kd.R_alloc | apply Kd.R_drewN | apply Kd.R_drew)); exact HO116.out, belowd HB⟩
    ·rw [if_neg c5] at H
     have c5b0 : (Op.bytesLess a1.toList ((rdOf ByteArray.empty l0 x5_1).toList)) = false := by simpa using c5
     clear c5
     have H' := Aside0.mk H
     clear H
     have p102 : 0 ≤ (x5_1 : Int) := da
     have q102 : x5_1 < (l0.length : Int) := da
     obtain ⟨ad102, e102, hx102_0⟩ := Kd.at_string HR0.out x5_1 p102 q102
     cases e102
     replace hx102_0 := (HB.out.cell (World.block_lt_of_cell? w _ hx102_0)).trans hx102_0
     replace p102 := eq_true p102; replace q102 := eq_true q102; go_wp2
     go_roundg k1
     case measure => have := HK1.out; omega
     case rel => exact ⟨(wrap64 (x5_1 + 1)), er, H', ⟨by have := HK1.out; omega⟩, ⟨belowd HB⟩⟩
   ·rw [if_neg c3] at H
    have c3b0 : decide (x5_1 < (l0.length : Int)) = false := decide_eq_false c3
    clear c3
    obtain ⟨y117, hy_⟩ : ∃ y_ : List ByteArray, y_ = (([] : List ByteArray)) := ⟨_, rfl⟩
    replace H : (if 0 ≤ x5_1 then (if x5_1 ≤ (l0.length : Int) then (if y117.length + (l0.take (x5_1 : Int).toNat).length < 8796093022208 then ((some (y117 ++ (l0.take (x5_1 : Int).toNat) : List ByteArray)).bind fun y121 => (if y121.length < 8796093022208 then ((some (y121 ++ [a1] : List ByteArray)).bind fun y124 => (if y124.length + (l0.drop (x5_1 : Int).toNat).length < 8796093022208 then (some (y124 ++ (l0.drop (x5_1 : Int).toNat))) else (none))) else (none))) else (none)) else (none)) else (none)) = some r := yH
    have Ny117 := ak hy_; clear hy_; replace H := ifS H; obtain ⟨c20, H⟩ := H; have c20b0 := eq_true c20
    have c20b1 : decide (0 ≤ x5_1) = true := decide_eq_true c20
    clear c20; replace H := ifS H; obtain ⟨c21, H⟩ := H; have c21b0 := eq_true c21
    have c21b1 : decide (x5_1 ≤ (l0.length : Int)) = true := decide_eq_true c21
    clear c21; replace H := ifS H; obtain ⟨c22, H⟩ := H; have LMc22 := Aside0.mk c22; clear c22
    obtain ⟨y121, hy_⟩ : ∃ y_ : List ByteArray, y_ = (y117 ++ (l0.take (x5_1 : Int).toNat)) := ⟨_, rfl⟩
    replace H : (if y121.length < 8796093022208 then ((some (y121 ++ [a1] : List ByteArray)).bind fun y124 => (if y124.length + (l0.drop (x5_1 : Int).toNat).length < 8796093022208 then (some (y124 ++ (l0.drop (x5_1 : Int).toNat))) else (none))) else (none)) = some r := yH
    have Ny121 := ak hy_; clear hy_; replace H := ifS H; obtain ⟨c23, H⟩ := H; have LMc23 := Aside0.mk c23; clear c23
    obtain ⟨y124, hy_⟩ : ∃ y_ : List ByteArray, y_ = (y121 ++ [a1]) := ⟨_, rfl⟩
    replace H : (if y124.length + (l0.drop (x5_1 : Int).toNat).length < 8796093022208 then (some (y124 ++ (l0.drop (x5_1 : Int).toNat))) else (none)) = some r := yH
    have Ny124 := ak hy_; clear hy_
    have c24b0 := eq_true (da : 0 ≤ x5_1)
    have c25b0 := eq_true (da : x5_1 ≤ (l0.length : Int))
    replace H := ifS H; obtain ⟨c26, H⟩ := H; have LMc26 := Aside0.mk c26; clear c26
    obtain ⟨y128, hy_⟩ : ∃ y_ : List ByteArray, y_ = (y124 ++ (l0.drop (x5_1 : Int).toNat)) := ⟨_, rfl⟩
    replace H : (some y128) = some r := yH
    have Ny128 := ak hy_; clear hy_
    obtain rfl := Option.some.inj H
    go_wp2_with (first | ((with_reducible refine gate_dst (N := 21) rfl ?_); refine Kd.R_lit Kd.string _ 9 ?hg (N := 21) ?hd (xs := ([] : List ByteArray)) (inner := []) (ok := fun _ => True) (okp := fun _ => True) ?hr ?hp (fun _ hk => hk) trivial (Below.refl _ _) (Nat.le_refl _) (by simp) ?_; (case hd => rfl); (case hg => rfl); (case hr => first | (go_simp; done) | (go_simp; rfl)); (case hp => exact (Reps.none _ _)); intro v118 w27 ho28 hb hg_ hnew_; clear hg_ hnew_; (first | rw [← Ny117.out] at ho28 | (simp only [Int.reduceToNat] at ho28; rw [← Ny117.out] at ho28)); have HO119 := ak (Kd.R_lower ho28 (below_size (belowd HB))); replace HB := ak (below_step (belowd HB) hb); clear hb ho28; obtain ⟨i029, hi029, _, hsz29, _⟩ := info_parts info9; obtain ⟨hcut29, hA29, hC29⟩ := print_take_of (P := Try.prog) Value.string (⟨#[]⟩ : ByteArray) 22 9 .i64 Try.underlying22 hi029 hsz29 A0 c0 l0 x5_1 (da) (da) HC0.out; have HR120 := Aside0.mk (Kd.C_of_reads (h1 := fun _ => rfl) (hA29 _ (Kd.reads_of_C HR0.out))); have HC120 := Aside0.mk hC29; clear hA29 hC29 hi029 hsz29) | ((with_reducible refine gate_builtin (b := .append) (xs := #[.tmp 21, .tmp 24]) rfl ?_); at_builtin; refine Kd.R_append_rows Kd.string (w0 := w) w.heap.size rfl (.tmp 21) (.tmp 24) 22 9 (.string ⟨#[]⟩) 16 rfl Try.underlying22 info9 rfl (by decide) (by omega) v118 y117 (l0.take (x5_1 : Int).toNat) _ _ _ (fun _ => True) (fun _ => False) rfl rfl ?aO ?aR (fun _ _ h => h) (fun _ h => h.elim) ?aF ?aB ?aS ?aL ?_; (case aR => first | (refine Eq.mp (congrArg (fun z_ => ReadsRow _ _ _ _ z_ _) (show (l0.take (x5_1 : Int).toNat).length = x5_1.toNat from (by rw [List.length_take]; have h_ : (x5_1 : Int) ≤ (l0.length : Int) := da; omega))) ?_; exact cd (Kd.C_below HR120.out HB.out)) | (rw [← show (l0.take (x5_1 : Int).toNat).length = x5_1.toNat from (by rw [List.length_take]; have h_ : (x5_1 : Int) ≤ (l0.length : Int) := da; omega)]; exact cd (Kd.C_below HR120.out HB.out)) | (exact cd (Kd.C_below HR120.out HB.out))); (case aB => exact (belowd HB)); (case aF => exact (fun _ _ => trivial)); (case aO => exact (rdl HO119)); (case aS => exact (below_size (belowd HB))); (case aL => have := LMc22.out; have hlx_ := (show (l0.take (x5_1 : Int).toNat).length = x5_1.toNat from (by rw [List.length_take]; have h_ : (x5_1 : Int) ≤ (l0.length : Int) := da; omega)); omega); intro v122 w30 ho hb hg hat; rw [← Ny121.out] at ho; replace HB := ak (hb); have HO123 := ak (ho); clear HO119; clear ho hb hg hat) | ((with_reducible refine gate_builtin (b := .append) (xs := #[.tmp 26, .tmp 28]) rfl ?_); at_builtin; refine Kd.R_append Kd.string (w0 := w) w.heap.size rfl (.tmp 26) (.tmp 28) 22 9 (.string ⟨#[]⟩) 16 rfl Try.underlying22 info9 rfl (by decide) (by omega) v122 y121 a1 [.string a1] (fun _ => True) (fun _ => False) rfl rfl ?aP (fun _ hk => hk.elim) ?aF ?aO ?aB ?aS ?aL ?_; (case aP => exact rfl); (case aB => exact (belowd HB)); (case aF => exact (fun _ _ => trivial)); (case aO => exact (rdl HO123)); (case aS => exact (below_size (belowd HB))); (case aL => have := LMc23.out; omega); intro v125 w31 ho hb hg hat; rw [← Ny124.out] at ho; replace HB := ak (hb); have HO126 := ak (ho); clear HO123; clear ho hb hg hat; obtain ⟨i032, hi032, _, hsz32, _⟩ := info_parts info9; obtain ⟨A32, hcut32, hA32, hC32⟩ := print_drop_of (P := Try.prog) Value.string (⟨#[]⟩ : ByteArray) 22 9 .i64 Try.underlying22 hi032 hsz32 A0 c0 l0 x5_1 (da) (da) HC0.out; have HR127 := Aside0.mk (Kd.C_of_reads (h1 := fun _ => rfl) (hA32 _ (Kd.reads_of_C HR0.out))); have HC127 := Aside0.mk hC32; clear hA32 hC32 hi032 hsz32) | ((with_reducible refine gate_builtin (b := .append) (xs := #[.tmp 30, .tmp 33]) rfl ?_); at_builtin; refine Kd.R_append_rows Kd.string (w0 := w) w.heap.size rfl (.tmp 30) (.tmp 33) 22 9 (.string ⟨#[]⟩) 16 rfl Try.underlying22 info9 rfl (by decide) (by omega) v125 y124 (l0.drop (x5_1 : Int).toNat) _ _ _ (fun _ => True) (fun _ => False) rfl rfl ?aO ?aR (fun _ _ h => h) (fun _ h => h.elim) ?aF ?aB ?aS ?aL ?_; (case aR => first | (refine Eq.mp (congrArg (fun z_ => ReadsRow _ _ _ _ z_ _) (show (l0.drop (x5_1 : Int).toNat).length = (l0.length - x5_1.toNat) from List.length_drop)) ?_; exact cd (Kd.C_below HR127.out HB.out)) | (rw [← show (l0.drop (x5_1 : Int).toNat).length = (l0.length - x5_1.toNat) from List.length_drop]; exact cd (Kd.C_below HR127.out HB.out)) | (exact cd (Kd.C_below HR127.out HB.out))); (case aB => exact (belowd HB)); (case aF => exact (fun _ _ => trivial)); (case aO => exact (rdl HO126)); (case aS => exact (below_size (belowd HB))); (case aL => have := LMc26.out; have hlx_ := (show (l0.drop (x5_1 : Int).toNat).length = (l0.length - x5_1.toNat) from List.length_drop); omega); intro v129 w33 ho hb hg hat; rw [← Ny128.out] at ho; replace HB := ak (hb); have HO130 := ak (ho); clear HO126; clear ho hb hg hat))
    go_ret
    exact ⟨_, er2, by (with_reducible repeat (first | apply Kd.R_alloc | apply Kd.R_drewN | apply Kd.R_drew)); exact HO130.out, belowd HB⟩

/-! ### spec_l1Put: function 176 -/
def spec_l1Put.l0 : Nat → List Int → Int → Int → Option (List Int)
  | 0, _, _, _ => none
  | k + 1, x0, x1, x5 => if x5 < (x0.length : Int) then (if 0 ≤ x5 then (if (rd x0 x5) < x1 then (spec_l1Put.l0 k x0 x1 (wrap64 (x5 + 1))) else (if (rd x0 x5) = x1 then (some x0) else ((some (([] : List Int) : List Int)).bind fun y133 => (if x5 ≤ (x0.length : Int) then ((some (x0.take (x5 : Int).toNat : List Int)).bind fun y136 => (if y133.length + y136.length < 17592186044416 then ((some (y133 ++ y136 : List Int)).bind fun y140 => (if y140.length < 17592186044416 then ((some (y140 ++ [x1] : List Int)).bind fun y143 => ((some (x0.drop (x5 : Int).toNat : List Int)).bind fun y146 => (if y143.length + y146.length < 17592186044416 then (some (y143 ++ y146)) else (none)))) else (none))) else (none))) else (none))))) else (none)) else ((some (([] : List Int) : List Int)).bind fun y153 => (if 0 ≤ x5 then (if x5 ≤ (x0.length : Int) then ((some (x0.take (x5 : Int).toNat : List Int)).bind fun y156 => (if y153.length + y156.length < 17592186044416 then ((some (y153 ++ y156 : List Int)).bind fun y160 => (if y160.length < 17592186044416 then ((some (y160 ++ [x1] : List Int)).bind fun y163 => ((some (x0.drop (x5 : Int).toNat : List Int)).bind fun y166 => (if y163.length + y166.length < 17592186044416 then (some (y163 ++ y166)) else (none)))) else (none))) else (none))) else (none)) else (none)))
def spec_l1Put.f (k : Nat) (l0 : List Int) (a1 : Int) : Option (List Int) := spec_l1Put.l0 k l0 a1 0
theorem spec_l1Put.mono_l : ∀ k, (∀ y0 y1 y2, LeO (spec_l1Put.l0 k y0 y1 y2) (spec_l1Put.l0 (k + 1) y0 y1 y2))
 | 0 => fun _ _ _ r h => by simp [spec_l1Put.l0] at h
 | k + 1 => by
  have ih0 := spec_l1Put.mono_l k
  ·intro y0 y1 y2
   unfold spec_l1Put.l0
   repeat' (first | (with_reducible first | exact ih0 _ _ _ | exact LeO.refl _ | exact LeO.none _ | refine LeO.ite ?_ ?_ | refine LeO.bind ?_ (fun _ => ?_)) | exact ih0 _ _ _ | exact LeO.none _ | refine LeO.ite ?_ ?_ | refine LeO.bind ?_ (fun _ => ?_))
theorem spec_l1Put.mono : ∀ a0 a1 k, LeO (spec_l1Put.f k a0 a1) (spec_l1Put.f (k + 1) a0 a1) := by
 intro a0 a1 k
 have ih0 := spec_l1Put.mono_l k
 unfold spec_l1Put.f
 repeat' (first | (with_reducible first | exact ih0 _ _ _ | exact LeO.refl _ | exact LeO.none _ | refine LeO.ite ?_ ?_ | refine LeO.bind ?_ (fun _ => ?_)) | exact ih0 _ _ _ | exact LeO.none _ | refine LeO.ite ?_ ?_ | refine LeO.bind ?_ (fun _ => ?_))
set_option maxHeartbeats 8000000 in
set_option maxRecDepth 100000 in
theorem spec_l1Put.calls (k : Nat) (P0_ : Nat → Prop) (u9000_ : Value) (l0 : List Int) (a1 : Int) (r : List Int) (w0 w : World) (hB : Below w0.heap.size w0 w) (ho0 : Kd.R (Kd.int .i64) 3 w w0.heap.size P0_ u9000_ l0) (h : spec_l1Put.f k l0 a1 = some r) :
  Calls Try.prog 176 #[u9000_, .int .i64 a1] w fun e w' => ∃ v0_ : Value, e = .returned (v0_) ∧ Kd.R (Kd.int .i64) 3 w' w0.heap.size (fun k_ => (P0_ k_ ∨ w.heap.size ≤ k_)) v0_ r ∧ Below w0.heap.size w0 w' ∧ Kept w w' (fun k_ => P0_ k_) := by
 have HO0 := Aside0.mk (show Kd.R (Kd.int .i64) 3 w w0.heap.size (fun k_ => (P0_ k_ ∨ w.heap.size ≤ k_)) u9000_ l0 from Kd.R_mono ho0 (fun k_ hk => (.inl hk)))
 have HK := Aside0.mk (Kept.refl w (fun k_ => P0_ k_))
 have HW0 := Aside0.mk hB.size
 have HB := Aside0.mk hB; clear hB
 have H : (spec_l1Put.l0 k l0 a1 0) = some r := h
 clear h
 have H' := Aside0.mk H
 clear H
 go_enter Try.func176, Try.ntmps176
 go_wp2
 go_loopg [5] k (fun kq v5 w' => ∃ (x5_1 : Int), v5 = .int .i64 x5_1 ∧ Aside0 (spec_l1Put.l0 kq l0 a1 x5_1 = some r) ∧ Aside0 (kq ≤ k) ∧ Aside0 (Kd.R (Kd.int .i64) 3 w' w0.heap.size (fun k_ => (P0_ k_ ∨ w.heap.size ≤ k_)) u9000_ l0) ∧ Aside0 (Kept w w' (fun k_ => P0_ k_)) ∧ Aside0 (Below w0.heap.size w0 w'))
 case atStart => exact ⟨(0), er, H', ⟨Nat.le_refl _⟩, ⟨rdl HO0⟩, ⟨by repeat (first | (with_reducible first | exact HK.out | apply Kept.alloc | apply Kept.drewN | apply Kept.drew) | exact HK.out)⟩, ⟨belowd HB⟩⟩
 case round =>
  clear H'
  obtain ⟨x5_1, rfl, HA, HK1, HO_0, HK, HB⟩ := hrel
  cases gk with
  | zero => exact absurd HA.out (by simp [spec_l1Put.l0])
  | succ k1 =>
   have H := HA.out; clear HA
   simp only [spec_l1Put.l0] at H
   by_cases c3 : x5_1 < (l0.length : Int)
   ·rw [if_pos c3] at H
    have c3b0 : decide (x5_1 < (l0.length : Int)) = true := decide_eq_true c3
    clear c3; replace H := ifS H; obtain ⟨c4, H⟩ := H; have c4b0 := decide_eq_true c4; clear c4
    by_cases c5 : (rd l0 x5_1) < a1
    ·rw [if_pos c5] at H
     have c5b0 : decide ((rd l0 x5_1) < a1) = true := decide_eq_true c5
     clear c5
     have H' := Aside0.mk H
     clear H
     obtain ⟨Ao6, co6, eo6⟩ := Kd.R_slice HO_0.out
     subst eo6
     have p131 : 0 ≤ (x5_1 : Int) := da
     have q131 : x5_1 < (l0.length : Int) := da
     obtain ⟨ad131, e131, hx131_0⟩ := Kd.at_int (Kd.R_reads' HO_0.out).2.2 x5_1 p131 q131
     cases e131
     replace p131 := eq_true p131; replace q131 := eq_true q131; go_wp2
     go_roundg k1
     case measure => have := HK1.out; omega
     case rel => exact ⟨(wrap64 (x5_1 + 1)), er, H', ⟨by have := HK1.out; omega⟩, ⟨rdl HO_0⟩, ⟨by repeat (first | (with_reducible first | exact HK.out | apply Kept.alloc | apply Kept.drewN | apply Kept.drew) | exact HK.out)⟩, ⟨belowd HB⟩⟩
    ·rw [if_neg c5] at H
     have c5b0 : decide ((rd l0 x5_1) < a1) = false := decide_eq_false c5
     clear c5
     by_cases c7 : (rd l0 x5_1) = a1
     ·rw [if_pos c7] at H
      have c7b0 : ((rd l0 x5_1) == a1) = true := beq_iff_eq.mpr c7
      have c7b1 : ((rd l0 x5_1) != a1) = false := bne_eq_false_iff_eq.mpr c7
      clear c7
      obtain rfl := Option.some.inj H
      obtain ⟨Ao8, co8, eo8⟩ := Kd.R_slice HO_0.out
      subst eo8
      have p131 : 0 ≤ (x5_1 : Int) := da
      have q131 : x5_1 < (l0.length : Int) := da
      obtain ⟨ad131, e131, hx131_0⟩ := Kd.at_int (Kd.R_reads' HO_0.out).2.2 x5_1 p131 q131
      cases e131
      replace p131 := eq_true p131; replace q131 := eq_true q131
      have p132 : 0 ≤ (x5_1 : Int) := da
      have q132 : x5_1 < (l0.length : Int) := da
      obtain ⟨ad132, e132, hx132_0⟩ := Kd.at_int (Kd.R_reads' HO_0.out).2.2 x5_1 p132 q132
      obtain rfl : ad131 = ad132 := (by injection e132)
      replace p132 := eq_true p132; replace q132 := eq_true q132; go_wp2
      go_ret
      exact ⟨_, er2, by (with_reducible repeat (first | apply Kd.R_alloc | apply Kd.R_drewN | apply Kd.R_drew)); exact HO_0.out, belowd HB, by repeat (first | (with_reducible first | exact HK.out | apply Kept.alloc | apply Kept.drewN | apply Kept.drew) | exact HK.out)⟩
     ·rw [if_neg c7] at H
      have c7b0 : ((rd l0 x5_1) == a1) = false := beq_eq_false_iff_ne.mpr c7
      have c7b1 : ((rd l0 x5_1) != a1) = true := bne_iff_ne.mpr c7
      obtain ⟨y133, hy_⟩ : ∃ y_ : List Int, y_ = (([] : List Int)) := ⟨_, rfl⟩
      replace H : (if x5_1 ≤ (l0.length : Int) then ((some (l0.take (x5_1 : Int).toNat : List Int)).bind fun y136 => (if y133.length + y136.length < 17592186044416 then ((some (y133 ++ y136 : List Int)).bind fun y140 => (if y140.length < 17592186044416 then ((some (y140 ++ [a1] : List Int)).bind fun y143 => ((some (l0.drop (x5_1 : Int).toNat : List Int)).bind fun y146 => (if y143.length + y146.length < 17592186044416 then (some (y143 ++ y146)) else (none)))) else (none))) else (none))) else (none)) = some r := yH
      have Ny133 := ak hy_; clear hy_
      have c9b0 := eq_true (da : 0 ≤ x5_1)
      replace H := ifS H; obtain ⟨c10, H⟩ := H; have c10b0 := eq_true c10
      have c10b1 : decide (x5_1 ≤ (l0.length : Int)) = true := decide_eq_true c10
      clear c10
      obtain ⟨y136, hy_⟩ : ∃ y_ : List Int, y_ = (l0.take (x5_1 : Int).toNat) := ⟨_, rfl⟩
      replace H : (if y133.length + y136.length < 17592186044416 then ((some (y133 ++ y136 : List Int)).bind fun y140 => (if y140.length < 17592186044416 then ((some (y140 ++ [a1] : List Int)).bind fun y143 => ((some (l0.drop (x5_1 : Int).toNat : List Int)).bind fun y146 => (if y143.length + y146.length < 17592186044416 then (some (y143 ++ y146)) else (none)))) else (none))) else (none)) = some r := yH
      have Ny136 := ak hy_; clear hy_; replace H := ifS H; obtain ⟨c11, H⟩ := H; have LMc11 := Aside0.mk c11; clear c11
      obtain ⟨y140, hy_⟩ : ∃ y_ : List Int, y_ = (y133 ++ y136) := ⟨_, rfl⟩
      replace H : (if y140.length < 17592186044416 then ((some (y140 ++ [a1] : List Int)).bind fun y143 => ((some (l0.drop (x5_1 : Int).toNat : List Int)).bind fun y146 => (if y143.length + y146.length < 17592186044416 then (some (y143 ++ y146)) else (none)))) else (none)) = some r := yH
      have Ny140 := ak hy_; clear hy_; replace H := ifS H; obtain ⟨c12, H⟩ := H; have LMc12 := Aside0.mk c12; clear c12
      obtain ⟨y143, hy_⟩ : ∃ y_ : List Int, y_ = (y140 ++ [a1]) := ⟨_, rfl⟩
      replace H : ((some (l0.drop (x5_1 : Int).toNat : List Int)).bind fun y146 => (if y143.length + y146.length < 17592186044416 then (some (y143 ++ y146)) else (none))) = some r := yH
      have Ny143 := ak hy_; clear hy_
      have c13b0 := eq_true (da : 0 ≤ x5_1)
      have c14b0 := eq_true (da : x5_1 ≤ (l0.length : Int))
      obtain ⟨y146, hy_⟩ : ∃ y_ : List Int, y_ = (l0.drop (x5_1 : Int).toNat) := ⟨_, rfl⟩
      replace H : (if y143.length + y146.length < 17592186044416 then (some (y143 ++ y146)) else (none)) = some r := yH
      have Ny146 := ak hy_; clear hy_; replace H := ifS H; obtain ⟨c15, H⟩ := H; have LMc15 := Aside0.mk c15; clear c15
      obtain ⟨y150, hy_⟩ : ∃ y_ : List Int, y_ = (y143 ++ y146) := ⟨_, rfl⟩
      replace H : (some y150) = some r := yH
      have Ny150 := ak hy_; clear hy_
      obtain rfl := Option.some.inj H
      obtain ⟨Ao16, co16, eo16⟩ := Kd.R_slice HO_0.out
      subst eo16
      have p131 : 0 ≤ (x5_1 : Int) := da
      have q131 : x5_1 < (l0.length : Int) := da
      obtain ⟨ad131, e131, hx131_0⟩ := Kd.at_int (Kd.R_reads' HO_0.out).2.2 x5_1 p131 q131
      cases e131
      replace p131 := eq_true p131; replace q131 := eq_true q131
      have p132 : 0 ≤ (x5_1 : Int) := da
      have q132 : x5_1 < (l0.length : Int) := da
      obtain ⟨ad132, e132, hx132_0⟩ := Kd.at_int (Kd.R_reads' HO_0.out).2.2 x5_1 p132 q132
      obtain rfl : ad131 = ad132 := (by injection e132)
      replace p132 := eq_true p132; replace q132 := eq_true q132
      go_wp2_with (first | ((with_reducible refine gate_dst (N := 34) rfl ?_); refine Kd.R_lit (Kd.int .i64) _ 3 ?hg (N := 34) ?hd (xs := ([] : List Int)) (inner := []) (ok := fun _ => True) (okp := fun _ => True) ?hr ?hp (fun _ hk => hk) trivial (Below.refl _ _) (Nat.le_refl _) (by simp) ?_; (case hd => rfl); (case hg => rfl); (case hr => first | (go_simp; done) | (go_simp; rfl)); (case hp => exact (Reps.none _ _)); intro v134 w17 ho18 hb hg_ hnew_; clear hg_ hnew_; (first | rw [← Ny133.out] at ho18 | (simp only [Int.reduceToNat] at ho18; rw [← Ny133.out] at ho18)); have HO135 := ak (Kd.R_lower (Kd.R_new' (Kd.R_newM (M := fun k_ => (P0_ k_ ∨ w.heap.size ≤ k_)) ho18 (by first | exact HK.out.1 | exact (show Kept w _ (fun k_ => P0_ k_) from by repeat (first | (with_reducible first | exact HK.out | apply Kept.alloc | apply Kept.drewN | apply Kept.drew) | exact HK.out)).1) (fun k_ h_ => .inr h_)) (Kd.R_lt (rdl HO_0))) (below_size (belowd HB))); replace HO_0 := ak (Kd.R_elder' (rdl HO_0) (Kd.R_base ho18) hb); replace HK := ak (Kept.below (S := (fun k_ => P0_ k_)) (by repeat (first | (with_reducible first | exact HK.out | apply Kept.alloc | apply Kept.drewN | apply Kept.drew) | exact HK.out)) hb); replace HB := ak (below_step (belowd HB) hb); clear hb ho18; have q19 : (x5_1 : Int) ≤ ((l0.length : Int) : Int) := da; obtain ⟨i019, hi019, _, hsz19, _⟩ := info_parts info3; have hroom19 : l0.length ≤ co16 := (Kd.R_reads' HO_0.out).2.1; have hC19 : Kd.C (Kd.int .i64) _ (some ad131) l0.length l0 := (Kd.R_reads' HO_0.out).2.2; have hcut19 := cut_to (P := Try.prog) 23 3 .i64 Try.underlying23 hi019 (some ad131) l0.length co16 x5_1 (da) q19 hroom19; have hr19 := Kd.C_take (m := (x5_1 : Int).toNat) hC19 (by omega); have hy19 : y136.length = (x5_1 : Int).toNat := (by rw [Ny136.out, List.length_take]; omega); rw [← Ny136.out] at hr19; rw [← hy19] at hcut19; have HR139 := Aside0.mk hr19; have HC139 := Aside0.mk (show y136.length ≤ co16 from by omega); clear hr19 hC19 hroom19 hi019 hsz19; have KY19 := Aside0.mk hy19; clear hy19; have KL19 := Aside0.mk (show (x5_1 : Int).toNat ≤ l0.length from by omega); replace q19 := eq_true q19) | ((with_reducible refine gate_builtin (b := .append) (xs := #[.tmp 34, .tmp 37]) rfl ?_); at_builtin; refine Kd.R_append_rows (Kd.int .i64) (w0 := w0) w0.heap.size rfl (.tmp 34) (.tmp 37) 23 3 (.int .i64 0) 8 rfl Try.underlying23 info3 rfl (by decide) (by omega) v134 y133 y136 _ _ _ (fun k_ => (P0_ k_ ∨ w.heap.size ≤ k_) ∧ some k_ ≠ (.slice (some ad131) l0.length co16 : Value).ownBlock) (fun _ => False) rfl rfl ?aO ?aR (fun _ _ h => h) (fun _ h => h.elim) ?aF ?aB ?aS ?aL ?_; (case aR => exact cd (by repeat (first | (with_reducible exact HR139.out) | (with_reducible refine Kd.C_alloc ?_ _) | (with_reducible refine Kd.C_drewN ?_ _) | (with_reducible refine Kd.C_drew ?_) | exact HR139.out))); (case aB => exact (belowd HB)); (case aF => exact (fun k_ hk => ⟨(.inr (Nat.le_trans (by first | exact HK.out.1 | exact (show Kept w _ (fun k_ => P0_ k_) from by repeat (first | (with_reducible first | exact HK.out | apply Kept.alloc | apply Kept.drewN | apply Kept.drew) | exact HK.out)).1) hk)), Kd.fresh' (Kd.R_lt (rdl HO_0)) k_ hk⟩)); (case aO => exact (by (with_reducible repeat (first | apply Kd.R_alloc | apply Kd.R_drewN | apply Kd.R_drew)); exact Kd.R_mono HO135.out (fun _ hk => ⟨hk.1.1, hk.2⟩))); (case aS => exact (below_size (belowd HB))); (case aL => have := LMc11.out; omega); intro v141 w20 ho hb hg hat; rw [← Ny140.out] at ho; replace HB := ak (hb); replace HK := ak (Kept.of_grown (S := (fun k_ => P0_ k_)) hg (by repeat (first | (with_reducible first | exact HK.out | apply Kept.alloc | apply Kept.drewN | apply Kept.drew) | exact HK.out)) (fun k_ e_ => (HO135.out.1 k_ e_).1.1)); replace HR139 := ak ((show Kd.C (Kd.int .i64) w20 (some ad131) y136.length y136 from by rw [Ny136.out]; exact Kd.C_take (m := (x5_1 : Int).toNat) ((Kd.R_reads' (Kd.R_after (ok := (fun k_ => (P0_ k_ ∨ w.heap.size ≤ k_))) (rdl HO_0) hg hat)).2.2) KL19.out)); replace HO_0 := ak (Kd.R_after (ok := (fun k_ => (P0_ k_ ∨ w.heap.size ≤ k_))) (rdl HO_0) hg hat); have HO142 := ak (ho); clear HO135; clear ho hb hg hat) | ((with_reducible refine gate_builtin (b := .append) (xs := #[.tmp 39, .tmp 41]) rfl ?_); at_builtin; refine Kd.R_append (Kd.int .i64) (w0 := w0) w0.heap.size rfl (.tmp 39) (.tmp 41) 23 3 (.int .i64 0) 8 rfl Try.underlying23 info3 rfl (by decide) (by omega) v141 y140 a1 [.int .i64 a1] (fun k_ => (P0_ k_ ∨ w.heap.size ≤ k_) ∧ some k_ ≠ (.slice (some ad131) l0.length co16 : Value).ownBlock) (fun _ => False) rfl rfl ?aP (fun _ hk => hk.elim) ?aF ?aO ?aB ?aS ?aL ?_; (case aP => exact rfl); (case aB => exact (belowd HB)); (case aF => exact (fun k_ hk => ⟨(.inr (Nat.le_trans (by first | exact HK.out.1 | exact (show Kept w _ (fun k_ => P0_ k_) from by repeat (first | (with_reducible first | exact HK.out | apply Kept.alloc | apply Kept.drewN | apply Kept.drew) | exact HK.out)).1) hk)), Kd.fresh' (Kd.R_lt (rdl HO_0)) k_ hk⟩)); (case aO => exact (rdl HO142)); (case aS => exact (below_size (belowd HB))); (case aL => have := LMc12.out; omega); intro v144 w21 ho hb hg hat; rw [← Ny143.out] at ho; replace HB := ak (hb); replace HK := ak (Kept.of_grown (S := (fun k_ => P0_ k_)) hg (by repeat (first | (with_reducible first | exact HK.out | apply Kept.alloc | apply Kept.drewN | apply Kept.drew) | exact HK.out)) (fun k_ e_ => (HO142.out.1 k_ e_).1)); replace HR139 := ak ((show Kd.C (Kd.int .i64) w21 (some ad131) y136.length y136 from by rw [Ny136.out]; exact Kd.C_take (m := (x5_1 : Int).toNat) ((Kd.R_reads' (Kd.R_after (ok := (fun k_ => (P0_ k_ ∨ w.heap.size ≤ k_))) (rdl HO_0) hg hat)).2.2) KL19.out)); replace HO_0 := ak (Kd.R_after (ok := (fun k_ => (P0_ k_ ∨ w.heap.size ≤ k_))) (rdl HO_0) hg hat); have HO145 := ak (ho); clear HO142; clear ho hb hg hat; have q22 : (x5_1 : Int) ≤ ((l0.length : Int) : Int) := da; obtain ⟨i022, hi022, _, hsz22, _⟩ := info_parts info3; have hroom22 : l0.length ≤ co16 := (Kd.R_reads' HO_0.out).2.1; have hC22 : Kd.C (Kd.int .i64) _ (some ad131) l0.length l0 := (Kd.R_reads' HO_0.out).2.2; have q022 : (0 : Int) ≤ (x5_1 : Int) := da; have hcut22 := cut_from (P := Try.prog) 23 3 .i64 Try.underlying23 hi022 1 hsz22 (some ad131) l0.length co16 x5_1 q022 q22; have hr22 := Kd.C_drop (m := (x5_1 : Int).toNat) (c := co16) hC22 (by omega) hroom22; obtain ⟨A22, hA22⟩ : ∃ A1, A1 = (if co16 = (x5_1 : Int).toNat then (some ad131) else ((some ad131) : Option Addr).map (·.add ((x5_1 : Int).toNat * 1))) := ⟨_, rfl⟩; obtain ⟨c22, hc22⟩ : ∃ c1, c1 = co16 - (x5_1 : Int).toNat := ⟨_, rfl⟩; have hy22 : y146.length = l0.length - (x5_1 : Int).toNat := (by rw [Ny146.out, List.length_drop] <;> omega); rw [show (l0).drop (x5_1 : Int).toNat = y146 from Ny146.out.symm] at hr22; replace hr22 : Kd.C (Kd.int .i64) _ A22 y146.length y146 := (by rw [hA22]; exact hr22); rw [← hy22, ← hA22, ← hc22] at hcut22; have HR149 := Aside0.mk hr22; have HC149 := Aside0.mk (show y146.length ≤ c22 from by rw [hy22, hc22]; exact Nat.sub_le_sub_right hroom22 _); clear hr22 hC22 hroom22 hi022 hsz22 hc22; have KY22 := Aside0.mk hy22; have KA22 := Aside0.mk hA22; clear hy22 hA22; have KL22 := Aside0.mk (show (x5_1 : Int).toNat ≤ l0.length from by omega); replace q22 := eq_true q22) | ((with_reducible refine gate_builtin (b := .append) (xs := #[.tmp 43, .tmp 46]) rfl ?_); at_builtin; refine Kd.R_append_rows (Kd.int .i64) (w0 := w0) w0.heap.size rfl (.tmp 43) (.tmp 46) 23 3 (.int .i64 0) 8 rfl Try.underlying23 info3 rfl (by decide) (by omega) v144 y143 y146 _ _ _ (fun k_ => (P0_ k_ ∨ w.heap.size ≤ k_) ∧ some k_ ≠ (.slice (some ad131) l0.length co16 : Value).ownBlock) (fun _ => False) rfl rfl ?aO ?aR (fun _ _ h => h) (fun _ h => h.elim) ?aF ?aB ?aS ?aL ?_; (case aR => exact cd (by repeat (first | (with_reducible exact HR149.out) | (with_reducible refine Kd.C_alloc ?_ _) | (with_reducible refine Kd.C_drewN ?_ _) | (with_reducible refine Kd.C_drew ?_) | exact HR149.out))); (case aB => exact (belowd HB)); (case aF => exact (fun k_ hk => ⟨(.inr (Nat.le_trans (by first | exact HK.out.1 | exact (show Kept w _ (fun k_ => P0_ k_) from by repeat (first | (with_reducible first | exact HK.out | apply Kept.alloc | apply Kept.drewN | apply Kept.drew) | exact HK.out)).1) hk)), Kd.fresh' (Kd.R_lt (rdl HO_0)) k_ hk⟩)); (case aO => exact (rdl HO145)); (case aS => exact (below_size (belowd HB))); (case aL => have := LMc15.out; omega); intro v151 w23 ho hb hg hat; rw [← Ny150.out] at ho; replace HB := ak (hb); replace HK := ak (Kept.of_grown (S := (fun k_ => P0_ k_)) hg (by repeat (first | (with_reducible first | exact HK.out | apply Kept.alloc | apply Kept.drewN | apply Kept.drew) | exact HK.out)) (fun k_ e_ => (HO145.out.1 k_ e_).1)); replace HR139 := ak ((show Kd.C (Kd.int .i64) w23 (some ad131) y136.length y136 from by rw [Ny136.out]; exact Kd.C_take (m := (x5_1 : Int).toNat) ((Kd.R_reads' (Kd.R_after (ok := (fun k_ => (P0_ k_ ∨ w.heap.size ≤ k_))) (rdl HO_0) hg hat)).2.2) KL19.out)); replace HR149 := ak ((show Kd.C (Kd.int .i64) w23 A22 y146.length y146 from by rw [Ny146.out, KA22.out]; exact Kd.C_drop (m := (x5_1 : Int).toNat) (c := co16) ((Kd.R_reads' (Kd.R_after (ok := (fun k_ => (P0_ k_ ∨ w.heap.size ≤ k_))) (rdl HO_0) hg hat)).2.2) KL22.out ((Kd.R_reads' (Kd.R_after (ok := (fun k_ => (P0_ k_ ∨ w.heap.size ≤ k_))) (rdl HO_0) hg hat)).2.1))); replace HO_0 := ak (Kd.R_after (ok := (fun k_ => (P0_ k_ ∨ w.heap.size ≤ k_))) (rdl HO_0) hg hat); have HO152 := ak (ho); clear HO145; clear ho hb hg hat))
      go_ret
      exact ⟨_, er2, by (with_reducible repeat (first | apply Kd.R_alloc | apply Kd.R_drewN | apply Kd.R_drew)); exact Kd.R_mono HO152.out (fun _ hk => hk.1), belowd HB, by repeat (first | (with_reducible first | exact HK.out | apply Kept.alloc | apply Kept.drewN | apply Kept.drew) | exact HK.out)⟩
   ·rw [if_neg c3] at H
    have c3b0 : decide (x5_1 < (l0.length : Int)) = false := decide_eq_false c3
    clear c3
    obtain ⟨y153, hy_⟩ : ∃ y_ : List Int, y_ = (([] : List Int)) := ⟨_, rfl⟩
    replace H : (if 0 ≤ x5_1 then (if x5_1 ≤ (l0.length : Int) then ((some (l0.take (x5_1 : Int).toNat : List Int)).bind fun y156 => (if y153.length + y156.length < 17592186044416 then ((some (y153 ++ y156 : List Int)).bind fun y160 => (if y160.length < 17592186044416 then ((some (y160 ++ [a1] : List Int)).bind fun y163 => ((some (l0.drop (x5_1 : Int).toNat : List Int)).bind fun y166 => (if y163.length + y166.length < 17592186044416 then (some (y163 ++ y166)) else (none)))) else (none))) else (none))) else (none)) else (none)) = some r := yH
    have Ny153 := ak hy_; clear hy_; replace H := ifS H; obtain ⟨c24, H⟩ := H; have c24b0 := eq_true c24
    have c24b1 : decide (0 ≤ x5_1) = true := decide_eq_true c24
    clear c24; replace H := ifS H; obtain ⟨c25, H⟩ := H; have c25b0 := eq_true c25
    have c25b1 : decide (x5_1 ≤ (l0.length : Int)) = true := decide_eq_true c25
    clear c25
    obtain ⟨y156, hy_⟩ : ∃ y_ : List Int, y_ = (l0.take (x5_1 : Int).toNat) := ⟨_, rfl⟩
    replace H : (if y153.length + y156.length < 17592186044416 then ((some (y153 ++ y156 : List Int)).bind fun y160 => (if y160.length < 17592186044416 then ((some (y160 ++ [a1] : List Int)).bind fun y163 => ((some (l0.drop (x5_1 : Int).toNat : List Int)).bind fun y166 => (if y163.length + y166.length < 17592186044416 then (some (y163 ++ y166)) else (none)))) else (none))) else (none)) = some r := yH
    have Ny156 := ak hy_; clear hy_; replace H := ifS H; obtain ⟨c26, H⟩ := H; have LMc26 := Aside0.mk c26; clear c26
    obtain ⟨y160, hy_⟩ : ∃ y_ : List Int, y_ = (y153 ++ y156) := ⟨_, rfl⟩
    replace H : (if y160.length < 17592186044416 then ((some (y160 ++ [a1] : List Int)).bind fun y163 => ((some (l0.drop (x5_1 : Int).toNat : List Int)).bind fun y166 => (if y163.length + y166.length < 17592186044416 then (some (y163 ++ y166)) else (none)))) else (none)) = some r := yH
    have Ny160 := ak hy_; clear hy_; replace H := ifS H; obtain ⟨c27, H⟩ := H; have LMc27 := Aside0.mk c27; clear c27
    obtain ⟨y163, hy_⟩ : ∃ y_ : List Int, y_ = (y160 ++ [a1]) := ⟨_, rfl⟩
    replace H : ((some (l0.drop (x5_1 : Int).toNat : List Int)).bind fun y166 => (if y163.length + y166.length < 17592186044416 then (some (y163 ++ y166)) else (none))) = some r := yH
    have Ny163 := ak hy_; clear hy_
    have c28b0 := eq_true (da : 0 ≤ x5_1)
    have c29b0 := eq_true (da : x5_1 ≤ (l0.length : Int))
    obtain ⟨y166, hy_⟩ : ∃ y_ : List Int, y_ = (l0.drop (x5_1 : Int).toNat) := ⟨_, rfl⟩
    replace H : (if y163.length + y166.length < 17592186044416 then (some (y163 ++ y166)) else (none)) = some r := yH
    have Ny166 := ak hy_; clear hy_; replace H := ifS H; obtain ⟨c30, H⟩ := H; have LMc30 := Aside0.mk c30; clear c30
    obtain ⟨y170, hy_⟩ : ∃ y_ : List Int, y_ = (y163 ++ y166) := ⟨_, rfl⟩
    replace H : (some y170) = some r := yH
    have Ny170 := ak hy_; clear hy_
    obtain rfl := Option.some.inj H
    obtain ⟨Ao31, co31, eo31⟩ := Kd.R_slice HO_0.out
    subst eo31
    go_wp2_with (first | ((with_reducible refine gate_dst (N := 34) rfl ?_); refine Kd.R_lit (Kd.int .i64) _ 3 ?hg (N := 34) ?hd (xs := ([] : List Int)) (inner := []) (ok := fun _ => True) (okp := fun _ => True) ?hr ?hp (fun _ hk => hk) trivial (Below.refl _ _) (Nat.le_refl _) (by simp) ?_; (case hd => rfl); (case hg => rfl); (case hr => first | (go_simp; done) | (go_simp; rfl)); (case hp => exact (Reps.none _ _)); intro v154 w32 ho33 hb hg_ hnew_; clear hg_ hnew_; (first | rw [← Ny153.out] at ho33 | (simp only [Int.reduceToNat] at ho33; rw [← Ny153.out] at ho33)); have HO155 := ak (Kd.R_lower (Kd.R_new' (Kd.R_newM (M := fun k_ => (P0_ k_ ∨ w.heap.size ≤ k_)) ho33 (by first | exact HK.out.1 | exact (show Kept w _ (fun k_ => P0_ k_) from by repeat (first | (with_reducible first | exact HK.out | apply Kept.alloc | apply Kept.drewN | apply Kept.drew) | exact HK.out)).1) (fun k_ h_ => .inr h_)) (Kd.R_lt (rdl HO_0))) (below_size (belowd HB))); replace HO_0 := ak (Kd.R_elder' (rdl HO_0) (Kd.R_base ho33) hb); replace HK := ak (Kept.below (S := (fun k_ => P0_ k_)) (by repeat (first | (with_reducible first | exact HK.out | apply Kept.alloc | apply Kept.drewN | apply Kept.drew) | exact HK.out)) hb); replace HB := ak (below_step (belowd HB) hb); clear hb ho33; have q34 : (x5_1 : Int) ≤ ((l0.length : Int) : Int) := da; obtain ⟨i034, hi034, _, hsz34, _⟩ := info_parts info3; have hroom34 : l0.length ≤ co31 := (Kd.R_reads' HO_0.out).2.1; have hC34 : Kd.C (Kd.int .i64) _ Ao31 l0.length l0 := (Kd.R_reads' HO_0.out).2.2; have hcut34 := cut_to (P := Try.prog) 23 3 .i64 Try.underlying23 hi034 Ao31 l0.length co31 x5_1 (da) q34 hroom34; have hr34 := Kd.C_take (m := (x5_1 : Int).toNat) hC34 (by omega); have hy34 : y156.length = (x5_1 : Int).toNat := (by rw [Ny156.out, List.length_take]; omega); rw [← Ny156.out] at hr34; rw [← hy34] at hcut34; have HR159 := Aside0.mk hr34; have HC159 := Aside0.mk (show y156.length ≤ co31 from by omega); clear hr34 hC34 hroom34 hi034 hsz34; have KY34 := Aside0.mk hy34; clear hy34; have KL34 := Aside0.mk (show (x5_1 : Int).toNat ≤ l0.length from by omega); replace q34 := eq_true q34) | ((with_reducible refine gate_builtin (b := .append) (xs := #[.tmp 34, .tmp 37]) rfl ?_); at_builtin; refine Kd.R_append_rows (Kd.int .i64) (w0 := w0) w0.heap.size rfl (.tmp 34) (.tmp 37) 23 3 (.int .i64 0) 8 rfl Try.underlying23 info3 rfl (by decide) (by omega) v154 y153 y156 _ _ _ (fun k_ => (P0_ k_ ∨ w.heap.size ≤ k_) ∧ some k_ ≠ (.slice Ao31 l0.length co31 : Value).ownBlock) (fun _ => False) rfl rfl ?aO ?aR (fun _ _ h => h) (fun _ h => h.elim) ?aF ?aB ?aS ?aL ?_; (case aR => exact cd (by repeat (first | (with_reducible exact HR159.out) | (with_reducible refine Kd.C_alloc ?_ _) | (with_reducible refine Kd.C_drewN ?_ _) | (with_reducible refine Kd.C_drew ?_) | exact HR159.out))); (case aB => exact (belowd HB)); (case aF => exact (fun k_ hk => ⟨(.inr (Nat.le_trans (by first | exact HK.out.1 | exact (show Kept w _ (fun k_ => P0_ k_) from by repeat (first | (with_reducible first | exact HK.out | apply Kept.alloc | apply Kept.drewN | apply Kept.drew) | exact HK.out)).1) hk)), Kd.fresh' (Kd.R_lt (rdl HO_0)) k_ hk⟩)); (case aO => exact (by (with_reducible repeat (first | apply Kd.R_alloc | apply Kd.R_drewN | apply Kd.R_drew)); exact Kd.R_mono HO155.out (fun _ hk => ⟨hk.1.1, hk.2⟩))); (case aS => exact (below_size (belowd HB))); (case aL => have := LMc26.out; omega); intro v161 w35 ho hb hg hat; rw [← Ny160.out] at ho; replace HB := ak (hb); replace HK := ak (Kept.of_grown (S := (fun k_ => P0_ k_)) hg (by repeat (first | (with_reducible first | exact HK.out | apply Kept.alloc | apply Kept.drewN | apply Kept.drew) | exact HK.out)) (fun k_ e_ => (HO155.out.1 k_ e_).1.1)); replace HR159 := ak ((show Kd.C (Kd.int .i64) w35 Ao31 y156.length y156 from by rw [Ny156.out]; exact Kd.C_take (m := (x5_1 : Int).toNat) ((Kd.R_reads' (Kd.R_after (ok := (fun k_ => (P0_ k_ ∨ w.heap.size ≤ k_))) (rdl HO_0) hg hat)).2.2) KL34.out)); replace HO_0 := ak (Kd.R_after (ok := (fun k_ => (P0_ k_ ∨ w.heap.size ≤ k_))) (rdl HO_0) hg hat); have HO162 := ak (ho); clear HO155; clear ho hb hg hat) | ((with_reducible refine gate_builtin (b := .append) (xs := #[.tmp 39, .tmp 41]) rfl ?_); at_builtin; refine Kd.R_append (Kd.int .i64) (w0 := w0) w0.heap.size rfl (.tmp 39) (.tmp 41) 23 3 (.int .i64 0) 8 rfl Try.underlying23 info3 rfl (by decide) (by omega) v161 y160 a1 [.int .i64 a1] (fun k_ => (P0_ k_ ∨ w.heap.size ≤ k_) ∧ some k_ ≠ (.slice Ao31 l0.length co31 : Value).ownBlock) (fun _ => False) rfl rfl ?aP (fun _ hk => hk.elim) ?aF ?aO ?aB ?aS ?aL ?_; (case aP => exact rfl); (case aB => exact (belowd HB)); (case aF => exact (fun k_ hk => ⟨(.inr (Nat.le_trans (by first | exact HK.out.1 | exact (show Kept w _ (fun k_ => P0_ k_) from by repeat (first | (with_reducible first | exact HK.out | apply Kept.alloc | apply Kept.drewN | apply Kept.drew) | exact HK.out)).1) hk)), Kd.fresh' (Kd.R_lt (rdl HO_0)) k_ hk⟩)); (case aO => exact (rdl HO162)); (case aS => exact (below_size (belowd HB))); (case aL => have := LMc27.out; omega); intro v164 w36 ho hb hg hat; rw [← Ny163.out] at ho; replace HB := ak (hb); replace HK := ak (Kept.of_grown (S := (fun k_ => P0_ k_)) hg (by repeat (first | (with_reducible first | exact HK.out | apply Kept.alloc | apply Kept.drewN | apply Kept.drew) | exact HK.out)) (fun k_ e_ => (HO162.out.1 k_ e_).1)); replace HR159 := ak ((show Kd.C (Kd.int .i64) w36 Ao31 y156.length y156 from by rw [Ny156.out]; exact Kd.C_take (m := (x5_1 : Int).toNat) ((Kd.R_reads' (Kd.R_after (ok := (fun k_ => (P0_ k_ ∨ w.heap.size ≤ k_))) (rdl HO_0) hg hat)).2.2) KL34.out)); replace HO_0 := ak (Kd.R_after (ok := (fun k_ => (P0_ k_ ∨ w.heap.size ≤ k_))) (rdl HO_0) hg hat); have HO165 := ak (ho); clear HO162; clear ho hb hg hat; have q37 : (x5_1 : Int) ≤ ((l0.length : Int) : Int) := da; obtain ⟨i037, hi037, _, hsz37, _⟩ := info_parts info3; have hroom37 : l0.length ≤ co31 := (Kd.R_reads' HO_0.out).2.1; have hC37 : Kd.C (Kd.int .i64) _ Ao31 l0.length l0 := (Kd.R_reads' HO_0.out).2.2; have q037 : (0 : Int) ≤ (x5_1 : Int) := da; have hcut37 := cut_from (P := Try.prog) 23 3 .i64 Try.underlying23 hi037 1 hsz37 Ao31 l0.length co31 x5_1 q037 q37; have hr37 := Kd.C_drop (m := (x5_1 : Int).toNat) (c := co31) hC37 (by omega) hroom37; obtain ⟨A37, hA37⟩ : ∃ A1, A1 = (if co31 = (x5_1 : Int).toNat then Ao31 else (Ao31 : Option Addr).map (·.add ((x5_1 : Int).toNat * 1))) := ⟨_, rfl⟩; obtain ⟨c37, hc37⟩ : ∃ c1, c1 = co31 - (x5_1 : Int).toNat := ⟨_, rfl⟩; have hy37 : y166.length = l0.length - (x5_1 : Int).toNat := (by rw [Ny166.out, List.length_drop] <;> omega); rw [show (l0).drop (x5_1 : Int).toNat = y166 from Ny166.out.symm] at hr37; replace hr37 : Kd.C (Kd.int .i64) _ A37 y166.length y166 := (by rw [hA37]; exact hr37); rw [← hy37, ← hA37, ← hc37] at hcut37; have HR169 := Aside0.mk hr37; have HC169 := Aside0.mk (show y166.length ≤ c37 from by rw [hy37, hc37]; exact Nat.sub_le_sub_right hroom37 _); clear hr37 hC37 hroom37 hi037 hsz37 hc37; have KY37 := Aside0.mk hy37; have KA37 := Aside0.mk hA37; clear hy37 hA37; have KL37 := Aside0.mk (show (x5_1 : Int).toNat ≤ l0.length from by omega); replace q37 := eq_true q37) | ((with_reducible refine gate_builtin (b := .append) (xs := #[.tmp 43, .tmp 46]) rfl ?_); at_builtin; refine Kd.R_append_rows (Kd.int .i64) (w0 := w0) w0.heap.size rfl (.tmp 43) (.tmp 46) 23 3 (.int .i64 0) 8 rfl Try.underlying23 info3 rfl (by decide) (by omega) v164 y163 y166 _ _ _ (fun k_ => (P0_ k_ ∨ w.heap.size ≤ k_) ∧ some k_ ≠ (.slice Ao31 l0.length co31 : Value).ownBlock) (fun _ => False) rfl rfl ?aO ?aR (fun _ _ h => h) (fun _ h => h.elim) ?aF ?aB ?aS ?aL ?_; (case aR => exact cd (by repeat (first | (with_reducible exact HR169.out) | (with_reducible refine Kd.C_alloc ?_ _) | (with_reducible refine Kd.C_drewN ?_ _) | (with_reducible refine Kd.C_drew ?_) | exact HR169.out))); (case aB => exact (belowd HB)); (case aF => exact (fun k_ hk => ⟨(.inr (Nat.le_trans (by first | exact HK.out.1 | exact (show Kept w _ (fun k_ => P0_ k_) from by repeat (first | (with_reducible first | exact HK.out | apply Kept.alloc | apply Kept.drewN | apply Kept.drew) | exact HK.out)).1) hk)), Kd.fresh' (Kd.R_lt (rdl HO_0)) k_ hk⟩)); (case aO => exact (rdl HO165)); (case aS => exact (below_size (belowd HB))); (case aL => have := LMc30.out; omega); intro v171 w38 ho hb hg hat; rw [← Ny170.out] at ho; replace HB := ak (hb); replace HK := ak (Kept.of_grown (S := (fun k_ => P0_ k_)) hg (by repeat (first | (with_reducible first | exact HK.out | apply Kept.alloc | apply Kept.drewN | apply Kept.drew) | exact HK.out)) (fun k_ e_ => (HO165.out.1 k_ e_).1)); replace HR159 := ak ((show Kd.C (Kd.int .i64) w38 Ao31 y156.length y156 from by rw [Ny156.out]; exact Kd.C_take (m := (x5_1 : Int).toNat) ((Kd.R_reads' (Kd.R_after (ok := (fun k_ => (P0_ k_ ∨ w.heap.size ≤ k_))) (rdl HO_0) hg hat)).2.2) KL34.out)); replace HR169 := ak ((show Kd.C (Kd.int .i64) w38 A37 y166.length y166 from by rw [Ny166.out, KA37.out]; exact Kd.C_drop (m := (x5_1 : Int).toNat) (c := co31) ((Kd.R_reads' (Kd.R_after (ok := (fun k_ => (P0_ k_ ∨ w.heap.size ≤ k_))) (rdl HO_0) hg hat)).2.2) KL37.out ((Kd.R_reads' (Kd.R_after (ok := (fun k_ => (P0_ k_ ∨ w.heap.size ≤ k_))) (rdl HO_0) hg hat)).2.1))); replace HO_0 := ak (Kd.R_after (ok := (fun k_ => (P0_ k_ ∨ w.heap.size ≤ k_))) (rdl HO_0) hg hat); have HO172 := ak (ho); clear HO165; clear ho hb hg hat))
    go_ret
    exact ⟨_, er2, by (with_reducible repeat (first | apply Kd.R_alloc | apply Kd.R_drewN | apply Kd.R_drew)); exact Kd.R_mono HO172.out (fun _ hk => hk.1), belowd HB, by repeat (first | (with_reducible first | exact HK.out | apply Kept.alloc | apply Kept.drewN | apply Kept.drew) | exact HK.out)⟩

/-! ### spec_l8Put: function 96 -/
def spec_l8Put.j0 : Nat → ByteArray → List Int → Bool → List ByteArray → Int → Int → Int → Option (List ByteArray × Int × Int × Int × List Int × Int)
  | 0, _, _, _, _, _, _, _ => none
  | k + 1, x1, x7, x21, x174000, x174001, x174002, x174003 => if x21 = true then (some (x174000, x174001, x174002, x174003, x7, 2)) else ((spec_l8Place.f k x174000 x1).bind fun t177 => ((spec_l8Tag.f k x1).bind fun t180 => ((spec_l1Put.f k x7 t180).bind fun t181 => (some (t177, x174001, x174002, x174003, t181, 0)))))
def spec_l8Put.f (k : Nat) (l0_0 : List ByteArray) (a0_1 : Int) (a0_2 : Int) (a0_3 : Int) (l0_4 : List Int) (a1 : ByteArray) : Option (List ByteArray × Int × Int × Int × List Int × Int) := (spec_l8Tag.f k a1).bind fun t175 => ((spec_l1Has.f k l0_4 t175).bind fun t176 => (if t176 = true then (some (l0_0, a0_1, a0_2, a0_3, l0_4, 1)) else (if (l0_0.length : Int) = 12 then (spec_l8Put.j0 k a1 l0_4 true l0_0 a0_1 a0_2 a0_3) else (spec_l8Put.j0 k a1 l0_4 ((l0_4.length : Int) == 100) l0_0 a0_1 a0_2 a0_3))))
theorem spec_l8Put.mono_l : ∀ k, (∀ y0 y1 y2 y3 y4 y5 y6, LeO (spec_l8Put.j0 k y0 y1 y2 y3 y4 y5 y6) (spec_l8Put.j0 (k + 1) y0 y1 y2 y3 y4 y5 y6))
 | 0 => fun _ _ _ _ _ _ _ r h => by simp [spec_l8Put.j0] at h
 | k + 1 => by
  have ih0 := spec_l8Put.mono_l k
  ·intro y0 y1 y2 y3 y4 y5 y6
   unfold spec_l8Put.j0
   repeat' (first | (with_reducible first | exact ih0 _ _ _ _ _ _ _ | exact spec_l1Has.mono _ _ _ | exact spec_l1Put.mono _ _ _ | exact spec_l8Place.mono _ _ _ | exact spec_l8Tag.mono _ _ | exact LeO.refl _ | exact LeO.none _ | refine LeO.ite ?_ ?_ | refine LeO.bind ?_ (fun _ => ?_)) | exact ih0 _ _ _ _ _ _ _ | exact spec_l1Has.mono _ _ _ | exact spec_l1Put.mono _ _ _ | exact spec_l8Place.mono _ _ _ | exact spec_l8Tag.mono _ _ | exact LeO.none _ | refine LeO.ite ?_ ?_ | refine LeO.bind ?_ (fun _ => ?_))
theorem spec_l8Put.mono : ∀ a0 a1 a2 a3 a4 a5 k, LeO (spec_l8Put.f k a0 a1 a2 a3 a4 a5) (spec_l8Put.f (k + 1) a0 a1 a2 a3 a4 a5) := by
 intro a0 a1 a2 a3 a4 a5 k
 have ih0 := spec_l8Put.mono_l k
 unfold spec_l8Put.f
 repeat' (first | (with_reducible first | exact ih0 _ _ _ _ _ _ _ | exact spec_l1Has.mono _ _ _ | exact spec_l1Put.mono _ _ _ | exact spec_l8Place.mono _ _ _ | exact spec_l8Tag.mono _ _ | exact LeO.refl _ | exact LeO.none _ | refine LeO.ite ?_ ?_ | refine LeO.bind ?_ (fun _ => ?_)) | exact ih0 _ _ _ _ _ _ _ | exact spec_l1Has.mono _ _ _ | exact spec_l1Put.mono _ _ _ | exact spec_l8Place.mono _ _ _ | exact spec_l8Tag.mono _ _ | exact LeO.none _ | refine LeO.ite ?_ ?_ | refine LeO.bind ?_ (fun _ => ?_))
set_option maxHeartbeats 8000000 in
set_option maxRecDepth 100000 in
theorem spec_l8Put.calls (k : Nat) (P0_0_ : Nat → Prop) (u9000_ : Value) (l0_0 : List ByteArray) (a0_1 : Int) (a0_2 : Int) (a0_3 : Int) (P0_4_ : Nat → Prop) (u9001_ : Value) (l0_4 : List Int) (a1 : ByteArray) (r1 : List ByteArray) (r2 : Int) (r3 : Int) (r4 : Int) (r5 : List Int) (r6 : Int) (w0 w : World) (hB : Below w0.heap.size w0 w) (ho0_0 : Kd.R Kd.string 9 w w0.heap.size P0_0_ u9000_ l0_0) (ho0_4 : Kd.R (Kd.int .i64) 3 w w0.heap.size P0_4_ u9001_ l0_4) (h : spec_l8Put.f k l0_0 a0_1 a0_2 a0_3 l0_4 a1 = some (r1, r2, r3, r4, r5, r6)) :
  Calls Try.prog 96 #[.agg #[u9000_, .int .i64 a0_1, .int .i64 a0_2, .int .i64 a0_3, u9001_], .string a1] w fun e w' => ∃ v0_ v4_ : Value, e = .returned (.tuple #[.agg #[v0_, .int .i64 r2, .int .i64 r3, .int .i64 r4, v4_], .int .i64 r6]) ∧ Kd.R Kd.string 9 w' w0.heap.size (fun k_ => ((P0_0_ k_ ∨ P0_4_ k_) ∨ w.heap.size ≤ k_)) v0_ r1 ∧ Kd.R (Kd.int .i64) 3 w' w0.heap.size (fun k_ => ((P0_0_ k_ ∨ P0_4_ k_) ∨ w.heap.size ≤ k_)) v4_ r5 ∧ Below w0.heap.size w0 w' ∧ Kept w w' (fun k_ => P0_0_ k_ ∨ P0_4_ k_) := by
 have hu27 := Try.underlying27
 have HO0_0 := Aside0.mk (show Kd.R Kd.string 9 w w0.heap.size (fun k_ => ((P0_0_ k_ ∨ P0_4_ k_) ∨ w.heap.size ≤ k_)) u9000_ l0_0 from Kd.R_mono ho0_0 (fun k_ hk => (.inl (.inl hk))))
 have HO0_4 := Aside0.mk (show Kd.R (Kd.int .i64) 3 w w0.heap.size (fun k_ => ((P0_0_ k_ ∨ P0_4_ k_) ∨ w.heap.size ≤ k_)) u9001_ l0_4 from Kd.R_mono ho0_4 (fun k_ hk => (.inl (.inr hk))))
 have HK := Aside0.mk (Kept.refl w (fun k_ => P0_0_ k_ ∨ P0_4_ k_))
 have HW0 := Aside0.mk hB.size
 have HB := Aside0.mk hB; clear hB
 have H : ((spec_l8Tag.f k a1).bind fun t175 => ((spec_l1Has.f k l0_4 t175).bind fun t176 => (if t176 = true then (some (l0_0, a0_1, a0_2, a0_3, l0_4, 1)) else (if (l0_0.length : Int) = 12 then (spec_l8Put.j0 k a1 l0_4 true l0_0 a0_1 a0_2 a0_3) else (spec_l8Put.j0 k a1 l0_4 ((l0_4.length : Int) == 100) l0_0 a0_1 a0_2 a0_3))))) = some (r1, r2, r3, r4, r5, r6) := h
 clear h; replace H := bS H; obtain ⟨t175, A3, H⟩ := H
 replace H : ((spec_l1Has.f k l0_4 t175).bind fun t176 => (if t176 = true then (some (l0_0, a0_1, a0_2, a0_3, l0_4, 1)) else (if (l0_0.length : Int) = 12 then (spec_l8Put.j0 k a1 l0_4 true l0_0 a0_1 a0_2 a0_3) else (spec_l8Put.j0 k a1 l0_4 ((l0_4.length : Int) == 100) l0_0 a0_1 a0_2 a0_3)))) = some (r1, r2, r3, r4, r5, r6) := H
 replace H := bS H; obtain ⟨t176, A4, H⟩ := H
 replace H : (if t176 = true then (some (l0_0, a0_1, a0_2, a0_3, l0_4, 1)) else (if (l0_0.length : Int) = 12 then (spec_l8Put.j0 k a1 l0_4 true l0_0 a0_1 a0_2 a0_3) else (spec_l8Put.j0 k a1 l0_4 ((l0_4.length : Int) == 100) l0_0 a0_1 a0_2 a0_3))) = some (r1, r2, r3, r4, r5, r6) := H
 by_cases c5 : t176 = true
 ·subst c5
  have H1 : (some (l0_0, a0_1, a0_2, a0_3, l0_4, 1)) = some (r1, r2, r3, r4, r5, r6) := by rw [if_pos rfl] at H; exact H
  clear H
  have H := H1
  clear H1
  simp only [Option.some.injEq, Prod.mk.injEq] at H
  obtain ⟨rfl, rfl, rfl, rfl, rfl, rfl⟩ := H
  obtain ⟨Ao6, co6, eo6⟩ := Kd.R_slice HO0_0.out
  subst eo6
  obtain ⟨Ao7, co7, eo7⟩ := Kd.R_slice HO0_4.out
  subst eo7
  go_enter Try.func96, Try.ntmps96
  try go_wp2_with (first | ((with_reducible refine gate_dst (N := 2) rfl ?_); (try (refine gate_guard (by rfl) ?_; dsimp only)); refine boxev 2 #[.slice Ao6 l0_0.length co6, .int .i64 a0_1, .int .i64 a0_2, .int .i64 a0_3, .slice Ao7 l0_4.length co7] 27 ?_; intro gb173 hg w8 hbox hb; replace HO0_0 := ak (Kd.R_below (rdl HO0_0) hb); replace HO0_4 := ak (Kd.R_below (rdl HO0_4) hb); have BK173 := ak (hbox); have GW173 := ak ((by rw [hg]; exact (by first | exact HK.out.1 | exact (show Kept w _ (fun k_ => P0_0_ k_ ∨ P0_4_ k_) from by repeat (first | (with_reducible first | exact HK.out | apply Kept.alloc | apply Kept.drewN | apply Kept.drew) | exact HK.out)).1) : w.heap.size ≤ gb173)); replace HK := ak (Kept.below (S := (fun k_ => P0_0_ k_ ∨ P0_4_ k_)) (by repeat (first | (with_reducible first | exact HK.out | apply Kept.alloc | apply Kept.drewN | apply Kept.drew) | exact HK.out)) hb); have GE173 := ak ((by rw [hg]; exact (below_size (belowd HB)) : w0.heap.size ≤ gb173)); replace HB := ak (below_step (belowd HB) hb); clear hb hbox hg) | ((with_reducible refine gate_dst (N := 4) rfl ?_); (try (refine gate_guard (by rfl) ?_; dsimp only)); refine boxev 4 #[.slice none 0 0, .int .i64 0, .int .i64 0, .int .i64 0, .slice none 0 0] 27 ?_; intro gb174 hg w9 hbox hb; replace HO0_0 := ak (Kd.R_below (rdl HO0_0) hb); replace HO0_4 := ak (Kd.R_below (rdl HO0_4) hb); have BK174 := ak (hbox); have GW174 := ak ((by rw [hg]; exact (by first | exact HK.out.1 | exact (show Kept w _ (fun k_ => P0_0_ k_ ∨ P0_4_ k_) from by repeat (first | (with_reducible first | exact HK.out | apply Kept.alloc | apply Kept.drewN | apply Kept.drew | refine Kept.setCell ?_ (.inr GW173.out) _) | exact HK.out)).1) : w.heap.size ≤ gb174)); replace HK := ak (Kept.below (S := (fun k_ => P0_0_ k_ ∨ P0_4_ k_)) (by repeat (first | (with_reducible first | exact HK.out | apply Kept.alloc | apply Kept.drewN | apply Kept.drew | refine Kept.setCell ?_ (.inr GW173.out) _) | exact HK.out)) hb); have GE174 := ak ((by rw [hg]; exact (below_size (belowg1 HB GE173)) : w0.heap.size ≤ gb174)); replace HB := ak (below_step (belowg1 HB GE173) hb); have NB173_174 := ak ((by rw [hg]; exact Nat.ne_of_lt (blk_lt (blkd BK173)) : gb173 ≠ gb174)); have NB174_173 := ak ((by rw [hg]; exact Nat.ne_of_gt (blk_lt (blkd BK173)) : gb174 ≠ gb173)); replace BK173 := ak (blk_below (blkd BK173) hb); clear hb hbox hg))
  replace HO0_0 := ak (Kd.R_drew HO0_0.out)
  replace HO0_4 := ak (Kd.R_drew HO0_4.out)
  replace BK173 := ak (blk_drew BK173.out)
  replace BK174 := ak (blk_drew BK174.out)
  replace HK := ak (Kept.drew HK.out)
  replace HB := ak (below_drew1 HB.out)
  refine start_ (n := 5) (S := fun w' => w'.cell? ⟨gb173, 0, none⟩ = some (.slice Ao6 l0_0.length co6) ∧ w'.cell? ⟨gb173, 1, none⟩ = some (.int .i64 a0_1) ∧ w'.cell? ⟨gb173, 2, none⟩ = some (.int .i64 a0_2) ∧ w'.cell? ⟨gb173, 3, none⟩ = some (.int .i64 a0_3) ∧ w'.cell? ⟨gb173, 4, none⟩ = some (.slice Ao7 l0_4.length co7)) (ds := []) (bl 5 0) (by kernel_rfl) rfl rfl ⟨bq BK173 0, bq BK173 1, bq BK173 2, bq BK173 3, bq BK173 4⟩ (fun hHeld => ?_)
  generalize w9.drew = w10 at HO0_0 HO0_4 BK173 BK174 HK HB hHeld ⊢
  refine pure_ (i := 0) (N := some 6) (v := ?_) (a' := ?_) (bl 5 1) rfl rfl (by kernel_rfl) (fun _ _ _ h => h) (Or.inl ⟨by rfl, ?_⟩) ?_ ?_
  rotate_left
  ·intro w'
   go_simp
   with_reducible rfl
  rotate_left
  ·simp only [Act.put, List.setIfInBounds_toArray, List.set_cons_zero, List.set_cons_succ, i64_w, i32_w]
   rfl
  refine pure_ (i := 2) (N := some 8) (v := ?_) (a' := ?_) (bl 5 5) rfl rfl (by kernel_rfl) (fun _ _ _ h => h) (Or.inl ⟨by rfl, ?_⟩) ?_ ?_
  rotate_left
  ·intro w'
   go_simp
   with_reducible rfl
  rotate_left
  ·simp only [Act.put, List.setIfInBounds_toArray, List.set_cons_zero, List.set_cons_succ, i64_w, i32_w]
   rfl
  refine take_ (i := 1) (N := some 7) (v := ?_) (a' := ?_) (bl 5 7) rfl rfl (by kernel_rfl) (fun _ _ _ h => h) (Or.inl ⟨by rfl, ?_⟩) hHeld ?_ ?_
  rotate_left
  ·rintro w' ⟨s0, s1, s2, s3, s4⟩
   go_simp
   with_reducible rfl
  rotate_left
  ·simp only [Act.put, List.setIfInBounds_toArray, List.set_cons_zero, List.set_cons_succ, i64_w, i32_w]
   rfl
  refine one_ (i := 3) (N := some 9) (bl 5 15) rfl rfl (by kernel_rfl) (by decide) (fun K hK => ?_)
  refine goes_ Try.func172 (by kernel_rfl) rfl #[.string a1] (by rfl) rfl rfl (by (try simp only [List.map_toArray, List.map_cons, List.map_nil]); first | done | rfl | (simp only [List.length_drop, List.length_take]; rfl)) ?_
  with_reducible refine (spec_l8Tag.calls k a1 t175 _ A3.out).mono ?_
  rintro e w' ⟨rfl, ⟨nd, rfl⟩⟩
  refine ⟨_, rfl, ?_⟩
  refine hK.out _ _ ⟨bq BK173 0, bq BK173 1, bq BK173 2, bq BK173 3, bq BK173 4⟩ (fun hHeld => ?_)
  clear hK K
  refine norm_ (a' := ?_) ?_ ?_
  rotate_left
  ·show Act.put _ (some 9) _ = _
   simp only [Act.put, List.setIfInBounds_toArray, List.set_cons_zero, List.set_cons_succ, i64_w, i32_w]
   rfl
  refine one_ (i := 4) (N := some 10) (bl 5 31) rfl rfl (by kernel_rfl) (by decide) (fun K hK => ?_)
  refine goes_ Try.func173 (by kernel_rfl) rfl #[.slice Ao7 l0_4.length co7, .int .i64 t175] (by rfl) rfl rfl (by (try simp only [List.map_toArray, List.map_cons, List.map_nil]); first | done | rfl | (simp only [List.length_drop, List.length_take]; rfl)) ?_
  with_reducible refine (spec_l1Has.calls k _ _ l0_4 t175 true _ ?side1 ?side2 A4.out).mono ?_
  (case side1 => exact cd (Kd.R_reads' HO0_4.out).2.2)
  (case side2 => exact (Kd.R_reads' HO0_4.out).2.1)
  rintro e w' ⟨rfl, ⟨nd, rfl⟩⟩
  refine ⟨_, rfl, ?_⟩
  refine hK.out _ _ ⟨bq BK173 0, bq BK173 1, bq BK173 2, bq BK173 3, bq BK173 4⟩ (fun hHeld => ?_)
  clear hK K
  refine norm_ (a' := ?_) ?_ ?_
  rotate_left
  ·show Act.put _ (some 10) _ = _
   simp only [Act.put, List.setIfInBounds_toArray, List.set_cons_zero, List.set_cons_succ, i64_w, i32_w]
   rfl
  refine done_ (by kernel_rfl) ?_
  have hnb11 := NB173_174.out; have hnc11 := NB174_173.out; obtain ⟨hcz12_0, hcz12_1, hcz12_2, hcz12_3, hcz12_4, hfz12_0, hfz12_1, hfz12_2, hfz12_3, hfz12_4⟩ := box5 BK173; obtain ⟨hcz13_0, hcz13_1, hcz13_2, hcz13_3, hcz13_4, hfz13_0, hfz13_1, hfz13_2, hfz13_3, hfz13_4⟩ := box5 BK174
  try go_wp2
  refine bodyPost_ret (results_ct rfl _ _ gb174 27 #[.slice Ao6 l0_0.length co6, .int .i64 a0_1, .int .i64 a0_2, .int .i64 a0_3, .slice Ao7 l0_4.length co7] (0, 0) _ rfl (by (with_reducible repeat (first | refine blk_drewN ?_ _ | refine blk_drew ?_ | refine blk_alloc ?_ _)); refine blk_put (cs := #[.slice Ao6 l0_0.length co6, .int .i64 a0_1, .int .i64 a0_2, .int .i64 a0_3, .slice none 0 0]) ?_ 4 _ rfl; (with_reducible repeat (first | refine blk_drewN ?_ _ | refine blk_drew ?_ | refine blk_alloc ?_ _)); refine blk_put (cs := #[.slice Ao6 l0_0.length co6, .int .i64 a0_1, .int .i64 a0_2, .int .i64 0, .slice none 0 0]) ?_ 3 _ rfl; (with_reducible repeat (first | refine blk_drewN ?_ _ | refine blk_drew ?_ | refine blk_alloc ?_ _)); refine blk_put (cs := #[.slice Ao6 l0_0.length co6, .int .i64 a0_1, .int .i64 0, .int .i64 0, .slice none 0 0]) ?_ 2 _ rfl; (with_reducible repeat (first | refine blk_drewN ?_ _ | refine blk_drew ?_ | refine blk_alloc ?_ _)); refine blk_put (cs := #[.slice Ao6 l0_0.length co6, .int .i64 0, .int .i64 0, .int .i64 0, .slice none 0 0]) ?_ 1 _ rfl; (with_reducible repeat (first | refine blk_drewN ?_ _ | refine blk_drew ?_ | refine blk_alloc ?_ _)); refine blk_put (cs := #[.slice none 0 0, .int .i64 0, .int .i64 0, .int .i64 0, .slice none 0 0]) ?_ 0 _ rfl; (with_reducible repeat (first | refine blk_drewN ?_ _ | refine blk_drew ?_ | refine blk_alloc ?_ _)); exact BK174.out) Try.underlying27 rfl (by kernel_rfl)) rfl ?_
  exact ⟨_, _, er2, by (with_reducible repeat (first | apply Kd.R_alloc | apply Kd.R_drewN | apply Kd.R_drew)); exact Kd.R_mono (farsR (Kd.R_types HO0_0.out BK174.out (by decide))) (fun _ hk => hk.1), by (with_reducible repeat (first | apply Kd.R_alloc | apply Kd.R_drewN | apply Kd.R_drew)); exact Kd.R_mono (farsR (Kd.R_types HO0_4.out BK174.out (by decide))) (fun _ hk => hk.1), belowg2 HB GE173 GE174, by repeat (first | (with_reducible first | exact HK.out | apply Kept.alloc | apply Kept.drewN | apply Kept.drew | refine Kept.setCell ?_ (.inr GW173.out) _ | refine Kept.setCell ?_ (.inr GW174.out) _) | exact HK.out)⟩
 ·replace c5 := Bool.eq_false_iff.mpr c5
  subst c5
  have H1 : (if (l0_0.length : Int) = 12 then (spec_l8Put.j0 k a1 l0_4 true l0_0 a0_1 a0_2 a0_3) else (spec_l8Put.j0 k a1 l0_4 ((l0_4.length : Int) == 100) l0_0 a0_1 a0_2 a0_3)) = some (r1, r2, r3, r4, r5, r6) := by rw [if_neg (show ¬ (false = true) by decide)] at H; exact H
  clear H
  have H := H1
  clear H1; have HC14 := Aside0.mk H; clear H
  obtain ⟨Ao15, co15, eo15⟩ := Kd.R_slice HO0_0.out
  subst eo15
  obtain ⟨Ao16, co16, eo16⟩ := Kd.R_slice HO0_4.out
  subst eo16
  go_enter Try.func96, Try.ntmps96
  try go_wp2_with (first | ((with_reducible refine gate_dst (N := 2) rfl ?_); (try (refine gate_guard (by rfl) ?_; dsimp only)); refine boxev 2 #[.slice Ao15 l0_0.length co15, .int .i64 a0_1, .int .i64 a0_2, .int .i64 a0_3, .slice Ao16 l0_4.length co16] 27 ?_; intro gb173 hg w17 hbox hb; replace HO0_0 := ak (Kd.R_below (rdl HO0_0) hb); replace HO0_4 := ak (Kd.R_below (rdl HO0_4) hb); have BK173 := ak (hbox); have GW173 := ak ((by rw [hg]; exact (by first | exact HK.out.1 | exact (show Kept w _ (fun k_ => P0_0_ k_ ∨ P0_4_ k_) from by repeat (first | (with_reducible first | exact HK.out | apply Kept.alloc | apply Kept.drewN | apply Kept.drew) | exact HK.out)).1) : w.heap.size ≤ gb173)); replace HK := ak (Kept.below (S := (fun k_ => P0_0_ k_ ∨ P0_4_ k_)) (by repeat (first | (with_reducible first | exact HK.out | apply Kept.alloc | apply Kept.drewN | apply Kept.drew) | exact HK.out)) hb); have GE173 := ak ((by rw [hg]; exact (below_size (belowd HB)) : w0.heap.size ≤ gb173)); replace HB := ak (below_step (belowd HB) hb); clear hb hbox hg) | ((with_reducible refine gate_dst (N := 4) rfl ?_); (try (refine gate_guard (by rfl) ?_; dsimp only)); refine boxev 4 #[.slice none 0 0, .int .i64 0, .int .i64 0, .int .i64 0, .slice none 0 0] 27 ?_; intro gb174 hg w18 hbox hb; replace HO0_0 := ak (Kd.R_below (rdl HO0_0) hb); replace HO0_4 := ak (Kd.R_below (rdl HO0_4) hb); have BK174 := ak (hbox); have GW174 := ak ((by rw [hg]; exact (by first | exact HK.out.1 | exact (show Kept w _ (fun k_ => P0_0_ k_ ∨ P0_4_ k_) from by repeat (first | (with_reducible first | exact HK.out | apply Kept.alloc | apply Kept.drewN | apply Kept.drew | refine Kept.setCell ?_ (.inr GW173.out) _) | exact HK.out)).1) : w.heap.size ≤ gb174)); replace HK := ak (Kept.below (S := (fun k_ => P0_0_ k_ ∨ P0_4_ k_)) (by repeat (first | (with_reducible first | exact HK.out | apply Kept.alloc | apply Kept.drewN | apply Kept.drew | refine Kept.setCell ?_ (.inr GW173.out) _) | exact HK.out)) hb); have GE174 := ak ((by rw [hg]; exact (below_size (belowg1 HB GE173)) : w0.heap.size ≤ gb174)); replace HB := ak (below_step (belowg1 HB GE173) hb); have NB173_174 := ak ((by rw [hg]; exact Nat.ne_of_lt (blk_lt (blkd BK173)) : gb173 ≠ gb174)); have NB174_173 := ak ((by rw [hg]; exact Nat.ne_of_gt (blk_lt (blkd BK173)) : gb174 ≠ gb173)); replace BK173 := ak (blk_below (blkd BK173) hb); clear hb hbox hg))
  replace HO0_0 := ak (Kd.R_drew HO0_0.out)
  replace HO0_4 := ak (Kd.R_drew HO0_4.out)
  replace BK173 := ak (blk_drew BK173.out)
  replace BK174 := ak (blk_drew BK174.out)
  replace HK := ak (Kept.drew HK.out)
  replace HB := ak (below_drew1 HB.out)
  refine start_ (n := 5) (S := fun w' => w'.cell? ⟨gb173, 0, none⟩ = some (.slice Ao15 l0_0.length co15) ∧ w'.cell? ⟨gb173, 1, none⟩ = some (.int .i64 a0_1) ∧ w'.cell? ⟨gb173, 2, none⟩ = some (.int .i64 a0_2) ∧ w'.cell? ⟨gb173, 3, none⟩ = some (.int .i64 a0_3) ∧ w'.cell? ⟨gb173, 4, none⟩ = some (.slice Ao16 l0_4.length co16)) (ds := []) (bl 5 0) (by kernel_rfl) rfl rfl ⟨bq BK173 0, bq BK173 1, bq BK173 2, bq BK173 3, bq BK173 4⟩ (fun hHeld => ?_)
  generalize w18.drew = w19 at HO0_0 HO0_4 BK173 BK174 HK HB hHeld ⊢
  refine pure_ (i := 0) (N := some 6) (v := ?_) (a' := ?_) (bl 5 1) rfl rfl (by kernel_rfl) (fun _ _ _ h => h) (Or.inl ⟨by rfl, ?_⟩) ?_ ?_
  rotate_left
  ·intro w'
   go_simp
   with_reducible rfl
  rotate_left
  ·simp only [Act.put, List.setIfInBounds_toArray, List.set_cons_zero, List.set_cons_succ, i64_w, i32_w]
   rfl
  refine pure_ (i := 2) (N := some 8) (v := ?_) (a' := ?_) (bl 5 5) rfl rfl (by kernel_rfl) (fun _ _ _ h => h) (Or.inl ⟨by rfl, ?_⟩) ?_ ?_
  rotate_left
  ·intro w'
   go_simp
   with_reducible rfl
  rotate_left
  ·simp only [Act.put, List.setIfInBounds_toArray, List.set_cons_zero, List.set_cons_succ, i64_w, i32_w]
   rfl
  refine take_ (i := 1) (N := some 7) (v := ?_) (a' := ?_) (bl 5 7) rfl rfl (by kernel_rfl) (fun _ _ _ h => h) (Or.inl ⟨by rfl, ?_⟩) hHeld ?_ ?_
  rotate_left
  ·rintro w' ⟨s0, s1, s2, s3, s4⟩
   go_simp
   with_reducible rfl
  rotate_left
  ·simp only [Act.put, List.setIfInBounds_toArray, List.set_cons_zero, List.set_cons_succ, i64_w, i32_w]
   rfl
  refine one_ (i := 3) (N := some 9) (bl 5 15) rfl rfl (by kernel_rfl) (by decide) (fun K hK => ?_)
  refine goes_ Try.func172 (by kernel_rfl) rfl #[.string a1] (by rfl) rfl rfl (by (try simp only [List.map_toArray, List.map_cons, List.map_nil]); first | done | rfl | (simp only [List.length_drop, List.length_take]; rfl)) ?_
  with_reducible refine (spec_l8Tag.calls k a1 t175 _ A3.out).mono ?_
  rintro e w' ⟨rfl, ⟨nd, rfl⟩⟩
  refine ⟨_, rfl, ?_⟩
  refine hK.out _ _ ⟨bq BK173 0, bq BK173 1, bq BK173 2, bq BK173 3, bq BK173 4⟩ (fun hHeld => ?_)
  clear hK K
  refine norm_ (a' := ?_) ?_ ?_
  rotate_left
  ·show Act.put _ (some 9) _ = _
   simp only [Act.put, List.setIfInBounds_toArray, List.set_cons_zero, List.set_cons_succ, i64_w, i32_w]
   rfl
  refine one_ (i := 4) (N := some 10) (bl 5 31) rfl rfl (by kernel_rfl) (by decide) (fun K hK => ?_)
  refine goes_ Try.func173 (by kernel_rfl) rfl #[.slice Ao16 l0_4.length co16, .int .i64 t175] (by rfl) rfl rfl (by (try simp only [List.map_toArray, List.map_cons, List.map_nil]); first | done | rfl | (simp only [List.length_drop, List.length_take]; rfl)) ?_
  with_reducible refine (spec_l1Has.calls k _ _ l0_4 t175 false _ ?side1 ?side2 A4.out).mono ?_
  (case side1 => exact cd (Kd.R_reads' HO0_4.out).2.2)
  (case side2 => exact (Kd.R_reads' HO0_4.out).2.1)
  rintro e w' ⟨rfl, ⟨nd, rfl⟩⟩
  refine ⟨_, rfl, ?_⟩
  refine hK.out _ _ ⟨bq BK173 0, bq BK173 1, bq BK173 2, bq BK173 3, bq BK173 4⟩ (fun hHeld => ?_)
  clear hK K
  refine norm_ (a' := ?_) ?_ ?_
  rotate_left
  ·show Act.put _ (some 10) _ = _
   simp only [Act.put, List.setIfInBounds_toArray, List.set_cons_zero, List.set_cons_succ, i64_w, i32_w]
   rfl
  refine done_ (by kernel_rfl) ?_
  go_upto_region 3 with (fail)
  go_cut [21] (fun v21 wc => ∃ (kq : Nat) (x21_13 : Bool), v21 = .bool x21_13 ∧ Aside0 (spec_l8Put.j0 kq a1 l0_4 x21_13 l0_0 a0_1 a0_2 a0_3 = some (r1, r2, r3, r4, r5, r6)) ∧ Aside0 (kq ≤ k) ∧ Aside0 (Kd.R (Kd.int .i64) 3 wc w0.heap.size (fun k_ => ((P0_0_ k_ ∨ P0_4_ k_) ∨ w.heap.size ≤ k_)) (.slice Ao16 l0_4.length co16) l0_4) ∧ Aside0 (Kd.R Kd.string 9 wc w0.heap.size (fun k_ => ((P0_0_ k_ ∨ P0_4_ k_) ∨ w.heap.size ≤ k_)) (.slice Ao15 l0_0.length co15) l0_0) ∧ Aside0 (wc.heap[gb173]? = some (.cells #[(.slice Ao15 l0_0.length co15), .int .i64 a0_1, .int .i64 a0_2, .int .i64 a0_3, (.slice Ao16 l0_4.length co16)] 27 (0, 0))) ∧ Aside0 (wc.heap[gb174]? = some (.cells #[(.slice none 0 0), .int .i64 0, .int .i64 0, .int .i64 0, (.slice none 0 0)] 27 (0, 0))) ∧ Aside0 (Kept w wc (fun k_ => P0_0_ k_ ∨ P0_4_ k_)) ∧ Aside0 (Below w0.heap.size w0 wc))
  case first =>
   have H := HC14.out; clear HC14
   by_cases c20 : (l0_0.length : Int) = 12
   ·rw [if_pos c20] at H
    have c20b0 : ((l0_0.length : Int) == 12) = true := beq_iff_eq.mpr c20
    have c20b1 : ((l0_0.length : Int) != 12) = false := bne_eq_false_iff_eq.mpr c20
    clear c20
    (first | rw [c20b0] | (simp only [i64_w, i32_w]; rw [c20b0]) | skip)
    have H' := Aside0.mk H
    clear H; have hnb21 := NB173_174.out; have hnc21 := NB174_173.out; obtain ⟨hcz22_0, hcz22_1, hcz22_2, hcz22_3, hcz22_4, hfz22_0, hfz22_1, hfz22_2, hfz22_3, hfz22_4⟩ := box5 BK173; go_wp2
    go_meet
    case rel => exact ⟨_, (true), er, H', ⟨by first | omega | exact Nat.le_refl _⟩, ⟨rdl HO0_4⟩, ⟨rdl HO0_0⟩, ⟨blkd BK173⟩, ⟨blkd BK174⟩, ⟨by repeat (first | (with_reducible first | exact HK.out | apply Kept.alloc | apply Kept.drewN | apply Kept.drew | refine Kept.setCell ?_ (.inr GW173.out) _ | refine Kept.setCell ?_ (.inr GW174.out) _) | exact HK.out)⟩, ⟨belowg2 HB GE173 GE174⟩⟩
   ·rw [if_neg c20] at H
    have c20b0 : ((l0_0.length : Int) == 12) = false := beq_eq_false_iff_ne.mpr c20
    have c20b1 : ((l0_0.length : Int) != 12) = true := bne_iff_ne.mpr c20
    (first | rw [c20b0] | (simp only [i64_w, i32_w]; rw [c20b0]) | skip)
    have H' := Aside0.mk H
    clear H; have hnb23 := NB173_174.out; have hnc23 := NB174_173.out; obtain ⟨hcz24_0, hcz24_1, hcz24_2, hcz24_3, hcz24_4, hfz24_0, hfz24_1, hfz24_2, hfz24_3, hfz24_4⟩ := box5 BK173; go_wp2
    go_meet
    case rel => exact ⟨_, (((l0_4.length : Int) == 100)), er, H', ⟨by first | omega | exact Nat.le_refl _⟩, ⟨rdl HO0_4⟩, ⟨rdl HO0_0⟩, ⟨blkd BK173⟩, ⟨blkd BK174⟩, ⟨by repeat (first | (with_reducible first | exact HK.out | apply Kept.alloc | apply Kept.drewN | apply Kept.drew | refine Kept.setCell ?_ (.inr GW173.out) _ | refine Kept.setCell ?_ (.inr GW174.out) _) | exact HK.out)⟩, ⟨belowg2 HB GE173 GE174⟩⟩
  case rest =>
   clear HC14; (try clear c5)
   obtain ⟨kq, x21_13, rfl, HA, HJ13, HO_7, HO_174000, BK173, BK174, HK, HB⟩ := hcut
   cases kq with
   | zero => exact absurd HA.out (by simp [spec_l8Put.j0])
   | succ kj13 =>
    have H := HA.out; clear HA
    simp only [spec_l8Put.j0] at H
    by_cases c25 : x21_13 = true
    ·subst c25
     have H1 : (some (l0_0, a0_1, a0_2, a0_3, l0_4, 2)) = some (r1, r2, r3, r4, r5, r6) := by rw [if_pos rfl] at H; exact H
     clear H
     have H := H1
     clear H1
     simp only [Option.some.injEq, Prod.mk.injEq] at H
     obtain ⟨rfl, rfl, rfl, rfl, rfl, rfl⟩ := H; have hnb26 := NB173_174.out; have hnc26 := NB174_173.out; obtain ⟨hcz27_0, hcz27_1, hcz27_2, hcz27_3, hcz27_4, hfz27_0, hfz27_1, hfz27_2, hfz27_3, hfz27_4⟩ := box5 BK173; obtain ⟨hcz28_0, hcz28_1, hcz28_2, hcz28_3, hcz28_4, hfz28_0, hfz28_1, hfz28_2, hfz28_3, hfz28_4⟩ := box5 BK174; go_wp2
     refine bodyPost_ret (results_ct rfl _ _ gb174 27 #[.slice Ao15 l0_0.length co15, .int .i64 a0_1, .int .i64 a0_2, .int .i64 a0_3, .slice Ao16 l0_4.length co16] (0, 0) _ rfl (by (with_reducible repeat (first | refine blk_drewN ?_ _ | refine blk_drew ?_ | refine blk_alloc ?_ _)); refine blk_put (cs := #[.slice Ao15 l0_0.length co15, .int .i64 a0_1, .int .i64 a0_2, .int .i64 a0_3, .slice none 0 0]) ?_ 4 _ rfl; (with_reducible repeat (first | refine blk_drewN ?_ _ | refine blk_drew ?_ | refine blk_alloc ?_ _)); refine blk_put (cs := #[.slice Ao15 l0_0.length co15, .int .i64 a0_1, .int .i64 a0_2, .int .i64 0, .slice none 0 0]) ?_ 3 _ rfl; (with_reducible repeat (first | refine blk_drewN ?_ _ | refine blk_drew ?_ | refine blk_alloc ?_ _)); refine blk_put (cs := #[.slice Ao15 l0_0.length co15, .int .i64 a0_1, .int .i64 0, .int .i64 0, .slice none 0 0]) ?_ 2 _ rfl; (with_reducible repeat (first | refine blk_drewN ?_ _ | refine blk_drew ?_ | refine blk_alloc ?_ _)); refine blk_put (cs := #[.slice Ao15 l0_0.length co15, .int .i64 0, .int .i64 0, .int .i64 0, .slice none 0 0]) ?_ 1 _ rfl; (with_reducible repeat (first | refine blk_drewN ?_ _ | refine blk_drew ?_ | refine blk_alloc ?_ _)); refine blk_put (cs := #[.slice none 0 0, .int .i64 0, .int .i64 0, .int .i64 0, .slice none 0 0]) ?_ 0 _ rfl; (with_reducible repeat (first | refine blk_drewN ?_ _ | refine blk_drew ?_ | refine blk_alloc ?_ _)); exact BK174.out) Try.underlying27 rfl (by kernel_rfl)) rfl ?_
     exact ⟨_, _, er2, by (with_reducible repeat (first | apply Kd.R_alloc | apply Kd.R_drewN | apply Kd.R_drew)); exact Kd.R_mono (farsR (Kd.R_types HO_174000.out BK174.out (by decide))) (fun _ hk => hk.1), by (with_reducible repeat (first | apply Kd.R_alloc | apply Kd.R_drewN | apply Kd.R_drew)); exact Kd.R_mono (farsR (Kd.R_types HO_7.out BK174.out (by decide))) (fun _ hk => hk.1), belowg2 HB GE173 GE174, by repeat (first | (with_reducible first | exact HK.out | apply Kept.alloc | apply Kept.drewN | apply Kept.drew | refine Kept.setCell ?_ (.inr GW173.out) _ | refine Kept.setCell ?_ (.inr GW174.out) _) | exact HK.out)⟩
    ·replace c25 := Bool.eq_false_iff.mpr c25
     subst c25
     have H1 : ((spec_l8Place.f kj13 l0_0 a1).bind fun t177 => ((spec_l8Tag.f kj13 a1).bind fun t180 => ((spec_l1Put.f kj13 l0_4 t180).bind fun t181 => (some (t177, a0_1, a0_2, a0_3, t181, 0))))) = some (r1, r2, r3, r4, r5, r6) := by rw [if_neg (show ¬ (false = true) by decide)] at H; exact H
     clear H
     have H := H1
     clear H1; replace H := bS H; obtain ⟨t177, A29, H⟩ := H
     replace H : ((spec_l8Tag.f kj13 a1).bind fun t180 => ((spec_l1Put.f kj13 l0_4 t180).bind fun t181 => (some (t177, a0_1, a0_2, a0_3, t181, 0)))) = some (r1, r2, r3, r4, r5, r6) := H
     replace H := bS H; obtain ⟨t180, A30, H⟩ := H
     replace H : ((spec_l1Put.f kj13 l0_4 t180).bind fun t181 => (some (t177, a0_1, a0_2, a0_3, t181, 0))) = some (r1, r2, r3, r4, r5, r6) := H
     replace H := bS H; obtain ⟨t181, A31, H⟩ := H
     replace H : (some (t177, a0_1, a0_2, a0_3, t181, 0)) = some (r1, r2, r3, r4, r5, r6) := H
     simp only [Option.some.injEq, Prod.mk.injEq] at H
     obtain ⟨rfl, rfl, rfl, rfl, rfl, rfl⟩ := H; have hnb32 := NB173_174.out; have hnc32 := NB174_173.out; obtain ⟨hcz33_0, hcz33_1, hcz33_2, hcz33_3, hcz33_4, hfz33_0, hfz33_1, hfz33_2, hfz33_3, hfz33_4⟩ := box5 BK173
     try go_wp2_with (first | ((with_reducible refine gate_callee (f := 175) rfl ?_); refine goesLa (some 26) rfl Try.func175 #[.slice Ao15 l0_0.length co15, .string a1] rfl ?_; (with_reducible refine (spec_l8Place.calls kj13 _ _ l0_0 a1 t177 _ ?side1 ?side2 A29.out).mono ?_); (case side1 => exact cd (Kd.R_reads' HO_174000.out).2.2); (case side2 => exact (Kd.R_reads' HO_174000.out).2.1); rintro e w34 ⟨v178, rfl, ho0, hb⟩; refine ⟨_, rfl, ?_⟩; replace HO_7 := ak (Kd.R_below (rdl HO_7) hb); have HO179 := ak (Kd.R_lower (Kd.R_new' (Kd.R_newM (M := fun k_ => ((P0_0_ k_ ∨ P0_4_ k_) ∨ w.heap.size ≤ k_)) ho0 (by first | exact HK.out.1 | exact (show Kept w _ (fun k_ => P0_0_ k_ ∨ P0_4_ k_) from by repeat (first | (with_reducible first | exact HK.out | apply Kept.alloc | apply Kept.drewN | apply Kept.drew | refine Kept.setCell ?_ (.inr GW173.out) _ | refine Kept.setCell ?_ (.inr GW174.out) _) | exact HK.out)).1) (fun k_ h_ => .inr h_)) (Kd.R_lt (rdl HO_174000))) (below_size (belowg2 HB GE173 GE174))); replace HO_174000 := ak (Kd.R_elder' (rdl HO_174000) (Kd.R_base ho0) hb); replace BK173 := ak (blk_below (blkd BK173) hb); replace BK174 := ak (blk_below (blkd BK174) hb); replace HK := ak (Kept.below (S := (fun k_ => P0_0_ k_ ∨ P0_4_ k_)) (by repeat (first | (with_reducible first | exact HK.out | apply Kept.alloc | apply Kept.drewN | apply Kept.drew | refine Kept.setCell ?_ (.inr GW173.out) _ | refine Kept.setCell ?_ (.inr GW174.out) _) | exact HK.out)) hb); replace HB := ak (below_step (belowg2 HB GE173 GE174) hb); (try clear hb); (try clear ho0); obtain ⟨Ao35, co35, eo35⟩ := Kd.R_slice HO179.out; subst eo35; obtain ⟨hcz36_0, hcz36_1, hcz36_2, hcz36_3, hcz36_4, hfz36_0, hfz36_1, hfz36_2, hfz36_3, hfz36_4⟩ := box5 BK173))
     have n0_ : Aside0 (Kd.R (Kd.int .i64) 3 (w34.setCell ⟨gb173, 0, none⟩ (.slice Ao35 t177.length co35)) w0.heap.size (fun k_ => ((P0_0_ k_ ∨ P0_4_ k_) ∨ w.heap.size ≤ k_)) (.slice Ao16 l0_4.length co16) l0_4) := ⟨by (with_reducible repeat (first | apply Kd.R_alloc | apply Kd.R_drewN | apply Kd.R_drew)); exact Kd.R_mono (Kd.R_far (p := ⟨gb173, 0, none⟩) (Kd.R_types HO_7.out BK173.out (by decide)) (fun _ hk => hk.2) (.slice Ao35 t177.length co35)) (fun _ hk => hk.1)⟩
     have n1_ : Aside0 (Kd.R Kd.string 9 (w34.setCell ⟨gb173, 0, none⟩ (.slice Ao35 t177.length co35)) w0.heap.size (fun k_ => ((P0_0_ k_ ∨ P0_4_ k_) ∨ w.heap.size ≤ k_) ∧ some k_ ≠ (.slice Ao35 t177.length co35 : Value).ownBlock) (.slice Ao15 l0_0.length co15) l0_0) := ⟨by (with_reducible repeat (first | apply Kd.R_alloc | apply Kd.R_drewN | apply Kd.R_drew)); exact Kd.R_mono (Kd.R_far (p := ⟨gb173, 0, none⟩) (Kd.R_types HO_174000.out BK173.out (by decide)) (fun _ hk => hk.2) (.slice Ao35 t177.length co35)) (fun _ hk => ⟨hk.1.1, hk.1.2⟩)⟩
     have n2_ : Aside0 (Kd.R Kd.string 9 (w34.setCell ⟨gb173, 0, none⟩ (.slice Ao35 t177.length co35)) w0.heap.size (fun k_ => ((P0_0_ k_ ∨ P0_4_ k_) ∨ w.heap.size ≤ k_) ∧ some k_ ≠ (.slice Ao15 l0_0.length co15 : Value).ownBlock) (.slice Ao35 t177.length co35) t177) := ⟨by (with_reducible repeat (first | apply Kd.R_alloc | apply Kd.R_drewN | apply Kd.R_drew)); exact Kd.R_mono (Kd.R_far (p := ⟨gb173, 0, none⟩) (Kd.R_types HO179.out BK173.out (by decide)) (fun _ hk => hk.2) (.slice Ao35 t177.length co35)) (fun _ hk => ⟨hk.1.1.1, hk.1.2⟩)⟩
     have n3_ : Aside0 ((w34.setCell ⟨gb173, 0, none⟩ (.slice Ao35 t177.length co35)).heap[gb173]? = some (.cells #[.slice Ao35 t177.length co35, .int .i64 a0_1, .int .i64 a0_2, .int .i64 a0_3, .slice Ao16 l0_4.length co16] 27 (0, 0))) := ⟨by (with_reducible repeat (first | refine blk_drewN ?_ _ | refine blk_drew ?_ | refine blk_alloc ?_ _)); refine blk_put (cs := #[.slice Ao15 l0_0.length co15, .int .i64 a0_1, .int .i64 a0_2, .int .i64 a0_3, .slice Ao16 l0_4.length co16]) ?_ 0 _ rfl; (with_reducible repeat (first | refine blk_drewN ?_ _ | refine blk_drew ?_ | refine blk_alloc ?_ _)); exact BK173.out⟩
     have n4_ : Aside0 ((w34.setCell ⟨gb173, 0, none⟩ (.slice Ao35 t177.length co35)).heap[gb174]? = some (.cells #[.slice none 0 0, .int .i64 0, .int .i64 0, .int .i64 0, .slice none 0 0] 27 (0, 0))) := ⟨by (with_reducible repeat (first | refine blk_drewN ?_ _ | refine blk_drew ?_ | refine blk_alloc ?_ _)); refine blk_far ?_ NB174_173.out _; (with_reducible repeat (first | refine blk_drewN ?_ _ | refine blk_drew ?_ | refine blk_alloc ?_ _)); exact BK174.out⟩
     have n5_ : Aside0 (Kept w (w34.setCell ⟨gb173, 0, none⟩ (.slice Ao35 t177.length co35)) (fun k_ => P0_0_ k_ ∨ P0_4_ k_)) := ⟨by repeat (first | (with_reducible first | exact HK.out | apply Kept.alloc | apply Kept.drewN | apply Kept.drew | refine Kept.setCell ?_ (.inr GW173.out) _ | refine Kept.setCell ?_ (.inr GW174.out) _) | exact HK.out)⟩
     have n6_ : Aside0 (Below w0.heap.size w0 (w34.setCell ⟨gb173, 0, none⟩ (.slice Ao35 t177.length co35))) := ⟨belowg2 HB GE173 GE174⟩
     (try clear HO_7); (try clear HO_174000); (try clear HO179); (try clear BK173); (try clear BK174); (try clear HK); (try clear HB)
     generalize (w34.setCell ⟨gb173, 0, none⟩ (.slice Ao35 t177.length co35)) = w37 at n0_ n1_ n2_ n3_ n4_ n5_ n6_ ⊢
     have HO_7 := n0_
     have HO_174000 := n1_
     have HO179 := n2_
     have BK173 := n3_
     have BK174 := n4_
     have HK := n5_
     have HB := n6_
     clear n0_ n1_ n2_ n3_ n4_ n5_ n6_
     replace HO_7 := ak (Kd.R_drew HO_7.out)
     replace HO_174000 := ak (Kd.R_drew HO_174000.out)
     replace HO179 := ak (Kd.R_drew HO179.out)
     replace BK173 := ak (blk_drew BK173.out)
     replace BK174 := ak (blk_drew BK174.out)
     replace HK := ak (Kept.drew HK.out)
     replace HB := ak (below_drew1 HB.out)
     refine start_ (n := 7) (S := fun w' => w'.cell? ⟨gb173, 0, none⟩ = some (.slice Ao35 t177.length co35) ∧ w'.cell? ⟨gb173, 1, none⟩ = some (.int .i64 a0_1) ∧ w'.cell? ⟨gb173, 2, none⟩ = some (.int .i64 a0_2) ∧ w'.cell? ⟨gb173, 3, none⟩ = some (.int .i64 a0_3) ∧ w'.cell? ⟨gb173, 4, none⟩ = some (.slice Ao16 l0_4.length co16)) (ds := [6]) (bl 7 0) (by kernel_rfl) rfl rfl ⟨bq BK173 0, bq BK173 1, bq BK173 2, bq BK173 3, bq BK173 4⟩ (fun hHeld => ?_)
     generalize w37.drew = w38 at HO_7 HO_174000 HO179 BK173 BK174 HK HB hHeld ⊢
     refine pure_ (i := 0) (N := some 28) (v := ?_) (a' := ?_) (bl 7 1) rfl rfl (by kernel_rfl) (fun _ _ _ h => h) (Or.inl ⟨by rfl, ?_⟩) ?_ ?_
     rotate_left
     ·intro w'
      go_simp
      with_reducible rfl
     rotate_left
     ·simp only [Act.put, List.setIfInBounds_toArray, List.set_cons_zero, List.set_cons_succ, i64_w, i32_w]
      rfl
     refine pure_ (i := 2) (N := some 30) (v := ?_) (a' := ?_) (bl 7 5) rfl rfl (by kernel_rfl) (fun _ _ _ h => h) (Or.inl ⟨by rfl, ?_⟩) ?_ ?_
     rotate_left
     ·intro w'
      go_simp
      with_reducible rfl
     rotate_left
     ·simp only [Act.put, List.setIfInBounds_toArray, List.set_cons_zero, List.set_cons_succ, i64_w, i32_w]
      rfl
     refine take_ (i := 1) (N := some 29) (v := ?_) (a' := ?_) (bl 7 7) rfl rfl (by kernel_rfl) (fun _ _ _ h => h) (Or.inl ⟨by rfl, ?_⟩) hHeld ?_ ?_
     rotate_left
     ·rintro w' ⟨s0, s1, s2, s3, s4⟩
      go_simp
      with_reducible rfl
     rotate_left
     ·simp only [Act.put, List.setIfInBounds_toArray, List.set_cons_zero, List.set_cons_succ, i64_w, i32_w]
      rfl
     refine one_ (i := 3) (N := some 31) (bl 7 15) rfl rfl (by kernel_rfl) (by decide) (fun K hK => ?_)
     refine goes_ Try.func172 (by kernel_rfl) rfl #[.string a1] (by rfl) rfl rfl (by (try simp only [List.map_toArray, List.map_cons, List.map_nil]); first | done | rfl | (simp only [List.length_drop, List.length_take]; rfl)) ?_
     with_reducible refine (spec_l8Tag.calls kj13 a1 t180 _ A30.out).mono ?_
     rintro e w' ⟨rfl, ⟨nd, rfl⟩⟩
     refine ⟨_, rfl, ?_⟩
     refine hK.out _ _ ⟨bq BK173 0, bq BK173 1, bq BK173 2, bq BK173 3, bq BK173 4⟩ (fun hHeld => ?_)
     clear hK K
     refine norm_ (a' := ?_) ?_ ?_
     rotate_left
     ·show Act.put _ (some 31) _ = _
      simp only [Act.put, List.setIfInBounds_toArray, List.set_cons_zero, List.set_cons_succ, i64_w, i32_w]
      rfl
     refine one_ (i := 4) (N := some 32) (bl 7 31) rfl rfl (by kernel_rfl) (by decide) (fun K hK => ?_)
     refine goes_ Try.func176 (by kernel_rfl) rfl #[.slice Ao16 l0_4.length co16, .int .i64 t180] (by rfl) rfl rfl (by (try simp only [List.map_toArray, List.map_cons, List.map_nil]); first | done | rfl | (simp only [List.length_drop, List.length_take]; rfl)) ?_
     with_reducible refine (spec_l1Put.calls kj13 (fun k_ => some k_ = (.slice Ao16 l0_4.length co16 : Value).ownBlock) (.slice Ao16 l0_4.length co16) l0_4 t180 t181 w0 _ ?side1 ?side2 A31.out).mono ?_
     (case side1 => repeat (first | (with_reducible first | exact HB.out | apply below_alloc | apply pw_below_drewN | apply below_drew1 | refine below_set ?_ GE173.out | refine below_set ?_ GE174.out) | exact HB.out))
     (case side2 => exact Kd.R_tight rfl HO_7.out)
     rintro e w39 ⟨v182, rfl, ho0, hb, hkp⟩
     refine ⟨_, rfl, ?_⟩
     replace HO_174000 := ak (Kd.R_mono (ok' := fun k_ => ((P0_0_ k_ ∨ P0_4_ k_) ∨ w.heap.size ≤ k_) ∧ some k_ ≠ (.slice Ao35 t177.length co35 : Value).ownBlock) (Kd.R_keptB ((Kd.R_apart' HO_174000.out (Kd.R_typed HO_7.out) (by decide))) hkp (fun k_ hk_ hs_ => (hk_.2) hs_)) (fun k_ hk_ => ⟨hk_.1.1.1, hk_.1.1.2⟩))
     replace BK173 := ak (blk_kept (blkd BK173) hkp (fun hs_ => (fun e_ => (Kd.R_ne HO_7.out BK173.out (by decide)) e_) hs_))
     replace BK174 := ak (blk_kept (blkd BK174) hkp (fun hs_ => (fun e_ => (Kd.R_ne HO_7.out BK174.out (by decide)) e_) hs_))
     replace HO179 := ak (Kd.R_mono (ok' := fun k_ => ((P0_0_ k_ ∨ P0_4_ k_) ∨ w.heap.size ≤ k_) ∧ some k_ ≠ (.slice Ao15 l0_0.length co15 : Value).ownBlock) (Kd.R_keptB ((Kd.R_apart' HO179.out (Kd.R_typed HO_7.out) (by decide))) hkp (fun k_ hk_ hs_ => (hk_.2) hs_)) (fun k_ hk_ => ⟨hk_.1.1.1, hk_.1.1.2⟩))
     have HO183 := ak (Kd.R_mono (ok' := fun k_ => ((P0_0_ k_ ∨ P0_4_ k_) ∨ w.heap.size ≤ k_)) ho0 (fun k_ hk_ => Or.elim hk_ (fun hs_ => (HO_7.out.1 k_ (hs_).symm)) (fun hn_ => (.inr (Nat.le_trans (by first | exact HK.out.1 | exact (show Kept w _ (fun k_ => P0_0_ k_ ∨ P0_4_ k_) from by repeat (first | (with_reducible first | exact HK.out | apply Kept.alloc | apply Kept.drewN | apply Kept.drew | refine Kept.setCell ?_ (.inr GW173.out) _ | refine Kept.setCell ?_ (.inr GW174.out) _) | exact HK.out)).1) hn_)))))
     replace HK := ak (Kept.then_ (S := (fun k_ => P0_0_ k_ ∨ P0_4_ k_)) (by repeat (first | (with_reducible first | exact HK.out | apply Kept.alloc | apply Kept.drewN | apply Kept.drew | refine Kept.setCell ?_ (.inr GW173.out) _ | refine Kept.setCell ?_ (.inr GW174.out) _) | exact HK.out)) hkp (fun k_ hs_ => (fun e_ => (HO_7.out.1 k_ e_.symm)) hs_))
     replace HB := ak (hb)
     clear HO_7; (try clear hb); (try clear hkp); (try clear ho0)
     obtain ⟨Ao40, co40, eo40⟩ := Kd.R_slice HO183.out
     (first | subst eo40 | (injection eo40 with f1_ f2_ f3_; have f4_ := f1_.symm; have f5_ := f3_.symm; clear f1_ f2_ f3_; subst f4_; subst f5_))
     refine hK.out _ _ ⟨bq BK173 0, bq BK173 1, bq BK173 2, bq BK173 3, bq BK173 4⟩ (fun hHeld => ?_)
     clear hK K
     refine norm_ (a' := ?_) ?_ ?_
     rotate_left
     ·show Act.put _ (some 32) _ = _
      simp only [Act.put, List.setIfInBounds_toArray, List.set_cons_zero, List.set_cons_succ, i64_w, i32_w]
      rfl
     refine pure_ (i := 5) (N := some 33) (v := ?_) (a' := ?_) (bl 7 63) rfl rfl (by kernel_rfl) (fun _ _ _ h => h) (Or.inl ⟨by rfl, ?_⟩) ?_ ?_
     rotate_left
     ·intro w'
      go_simp
      with_reducible rfl
     rotate_left
     ·simp only [Act.put, List.setIfInBounds_toArray, List.set_cons_zero, List.set_cons_succ, i64_w, i32_w]
      rfl
     refine last_ (i := 6) (N := none) (bl 7 127) rfl rfl (by kernel_rfl) (by decide) (fun K hK => ?_)
     have hs41 : w39.cell? ⟨gb173, 4, none⟩ = some (.slice Ao16 l0_4.length co16) := bq BK173 4
     have hfs41 := blk_frozen BK173.out 4
     have hns41_1 := NB174_173.out; have hms41_1 := NB173_174.out
     refine skip_ (w1 := ?_) (by rfl) rfl ?_ ?_
     rotate_left
     ·go_simp
      rfl
     refine hK.out _ _ ?_
     clear hK K
     refine done_ (by kernel_rfl) ?_
     obtain ⟨hcz42_0, hcz42_1, hcz42_2, hcz42_3, hcz42_4, hfz42_0, hfz42_1, hfz42_2, hfz42_3, hfz42_4⟩ := box5 BK173; obtain ⟨hcz43_0, hcz43_1, hcz43_2, hcz43_3, hcz43_4, hfz43_0, hfz43_1, hfz43_2, hfz43_3, hfz43_4⟩ := box5 BK174
     try go_wp2
     refine bodyPost_ret (results_ct rfl _ _ gb174 27 #[.slice Ao35 t177.length co35, .int .i64 a0_1, .int .i64 a0_2, .int .i64 a0_3, .slice Ao40 t181.length co40] (0, 0) _ rfl (by (with_reducible repeat (first | refine blk_drewN ?_ _ | refine blk_drew ?_ | refine blk_alloc ?_ _)); refine blk_put (cs := #[.slice Ao35 t177.length co35, .int .i64 a0_1, .int .i64 a0_2, .int .i64 a0_3, .slice none 0 0]) ?_ 4 _ rfl; (with_reducible repeat (first | refine blk_drewN ?_ _ | refine blk_drew ?_ | refine blk_alloc ?_ _)); refine blk_put (cs := #[.slice Ao35 t177.length co35, .int .i64 a0_1, .int .i64 a0_2, .int .i64 0, .slice none 0 0]) ?_ 3 _ rfl; (with_reducible repeat (first | refine blk_drewN ?_ _ | refine blk_drew ?_ | refine blk_alloc ?_ _)); refine blk_put (cs := #[.slice Ao35 t177.length co35, .int .i64 a0_1, .int .i64 0, .int .i64 0, .slice none 0 0]) ?_ 2 _ rfl; (with_reducible repeat (first | refine blk_drewN ?_ _ | refine blk_drew ?_ | refine blk_alloc ?_ _)); refine blk_put (cs := #[.slice Ao35 t177.length co35, .int .i64 0, .int .i64 0, .int .i64 0, .slice none 0 0]) ?_ 1 _ rfl; (with_reducible repeat (first | refine blk_drewN ?_ _ | refine blk_drew ?_ | refine blk_alloc ?_ _)); refine blk_put (cs := #[.slice none 0 0, .int .i64 0, .int .i64 0, .int .i64 0, .slice none 0 0]) ?_ 0 _ rfl; (with_reducible repeat (first | refine blk_drewN ?_ _ | refine blk_drew ?_ | refine blk_alloc ?_ _)); refine blk_far ?_ NB174_173.out _; (with_reducible repeat (first | refine blk_drewN ?_ _ | refine blk_drew ?_ | refine blk_alloc ?_ _)); exact BK174.out) Try.underlying27 rfl (by kernel_rfl)) rfl ?_
     exact ⟨_, _, er2, by (with_reducible repeat (first | apply Kd.R_alloc | apply Kd.R_drewN | apply Kd.R_drew)); exact Kd.R_mono (farsR (Kd.R_types (Kd.R_types HO179.out BK173.out (by decide)) BK174.out (by decide))) (fun _ hk => hk.1.1.1), by (with_reducible repeat (first | apply Kd.R_alloc | apply Kd.R_drewN | apply Kd.R_drew)); exact Kd.R_mono (farsR (Kd.R_types (Kd.R_types HO183.out BK173.out (by decide)) BK174.out (by decide))) (fun _ hk => hk.1.1), belowg2 HB GE173 GE174, by repeat (first | (with_reducible first | exact HK.out | apply Kept.alloc | apply Kept.drewN | apply Kept.drew | refine Kept.setCell ?_ (.inr GW173.out) _ | refine Kept.setCell ?_ (.inr GW174.out) _) | exact HK.out)⟩

/-! ### spec_l1In: function 153 -/
def spec_l1In.f (a0 : Int) (a1 : Int) (a2 : Int) : Option (Bool) := if a0 ≥ a1 then (some (decide (a0 ≤ a2))) else (some false)
set_option maxHeartbeats 8000000 in
set_option maxRecDepth 100000 in
theorem spec_l1In.calls (a0 : Int) (a1 : Int) (a2 : Int) (r : Bool) (w : World) (h : spec_l1In.f a0 a1 a2 = some r) :
  Calls Try.prog 153 #[.int .i64 a0, .int .i64 a1, .int .i64 a2] w fun e w' => e = .returned (.bool r) ∧ Drawn0 w w' := by
 have H : (if a0 ≥ a1 then (some (decide (a0 ≤ a2))) else (some false)) = some r := h
 clear h
 by_cases c4 : a0 ≥ a1
 ·rw [if_pos c4] at H
  have c4b0 : decide (a1 ≤ a0) = true := decide_eq_true c4
  clear c4
  obtain rfl := Option.some.inj H
  go_enter Try.func153, Try.ntmps153
  go_wp2
  go_ret
  exact ⟨er, drw⟩
 ·rw [if_neg c4] at H
  have c4b0 : decide (a1 ≤ a0) = false := decide_eq_false c4
  clear c4
  obtain rfl := Option.some.inj H
  go_enter Try.func153, Try.ntmps153
  go_wp2
  go_ret
  exact ⟨er, drw⟩

/-! ### spec_NewMix: function 110 -/
def spec_NewMix.f (a0 : Int) (a1 : Int) : Option (List ByteArray × Int × Int × Int × List Int × Bool) := (spec_l1In.f a0 1 12).bind fun t185 => (if t185 = true then ((spec_l1In.f a1 1 10).bind fun t186 => (if t186 = true then (some (([] : List ByteArray), a0, a1, 0, ([] : List Int), true)) else (some (([] : List ByteArray), 0, 0, 0, ([] : List Int), false)))) else (some (([] : List ByteArray), 0, 0, 0, ([] : List Int), false)))
set_option maxHeartbeats 8000000 in
set_option maxRecDepth 100000 in
theorem spec_NewMix.calls (a0 : Int) (a1 : Int) (r1 : List ByteArray) (r2 : Int) (r3 : Int) (r4 : Int) (r5 : List Int) (r6 : Bool) (w : World) (h : spec_NewMix.f a0 a1 = some (r1, r2, r3, r4, r5, r6)) :
  Calls Try.prog 110 #[.int .i64 a0, .int .i64 a1] w fun e w' => ∃ v0_ v4_ : Value, e = .returned (.tuple #[.agg #[v0_, .int .i64 r2, .int .i64 r3, .int .i64 r4, v4_], .bool r6]) ∧ Kd.R Kd.string 9 w' w.heap.size (fun _ => True) v0_ r1 ∧ Kd.R (Kd.int .i64) 3 w' w.heap.size (fun _ => True) v4_ r5 ∧ Below w.heap.size w w' := by
 have hu27 := Try.underlying27
 have HB := Aside0.mk (Below.refl w.heap.size w)
 have H : ((spec_l1In.f a0 1 12).bind fun t185 => (if t185 = true then ((spec_l1In.f a1 1 10).bind fun t186 => (if t186 = true then (some (([] : List ByteArray), a0, a1, 0, ([] : List Int), true)) else (some (([] : List ByteArray), 0, 0, 0, ([] : List Int), false)))) else (some (([] : List ByteArray), 0, 0, 0, ([] : List Int), false)))) = some (r1, r2, r3, r4, r5, r6) := h
 clear h; replace H := bS H; obtain ⟨t185, A3, H⟩ := H
 replace H : (if t185 = true then ((spec_l1In.f a1 1 10).bind fun t186 => (if t186 = true then (some (([] : List ByteArray), a0, a1, 0, ([] : List Int), true)) else (some (([] : List ByteArray), 0, 0, 0, ([] : List Int), false)))) else (some (([] : List ByteArray), 0, 0, 0, ([] : List Int), false))) = some (r1, r2, r3, r4, r5, r6) := H
 by_cases c4 : t185 = true
 ·subst c4
  have H1 : ((spec_l1In.f a1 1 10).bind fun t186 => (if t186 = true then (some (([] : List ByteArray), a0, a1, 0, ([] : List Int), true)) else (some (([] : List ByteArray), 0, 0, 0, ([] : List Int), false)))) = some (r1, r2, r3, r4, r5, r6) := by rw [if_pos rfl] at H; exact H
  clear H
  have H := H1
  clear H1; replace H := bS H; obtain ⟨t186, A5, H⟩ := H
  replace H : (if t186 = true then (some (([] : List ByteArray), a0, a1, 0, ([] : List Int), true)) else (some (([] : List ByteArray), 0, 0, 0, ([] : List Int), false))) = some (r1, r2, r3, r4, r5, r6) := H
  by_cases c6 : t186 = true
  ·subst c6
   have H1 : (some (([] : List ByteArray), a0, a1, 0, ([] : List Int), true)) = some (r1, r2, r3, r4, r5, r6) := by rw [if_pos rfl] at H; exact H
   clear H
   have H := H1
   clear H1
   simp only [Option.some.injEq, Prod.mk.injEq] at H
   obtain ⟨rfl, rfl, rfl, rfl, rfl, rfl⟩ := H
   go_enter Try.func110, Try.ntmps110
   go_wp2_with (first | ((with_reducible refine gate_dst (N := 4) rfl ?_); refine boxev 4 #[.slice none 0 0, .int .i64 0, .int .i64 0, .int .i64 0, .slice none 0 0] 27 ?_; intro gb184 hg w7 hbox hb; have BK184 := ak (hbox); have GW184 := ak (hgl hg (belowd HB)); have GE184 := ak (hgl hg (belowd HB)); replace HB := ak (below_step (belowd HB) hb); clear hb hbox hg) | ((with_reducible refine gate_callee (f := 153) rfl ?_); refine goesLa (some 7) rfl Try.func153 #[.int .i64 a0, .int .i64 1, .int .i64 12] rfl ?_; (with_reducible refine (spec_l1In.calls a0 1 12 true _ A3.out).mono ?_); rintro e w' ⟨rfl, ⟨nd, rfl⟩⟩; refine ⟨_, rfl, ?_⟩; (try (rw [drewN_self w7]; generalize hq_ : World.drewN w7 _ = w7; have n0_ : Aside0 (w7.heap[gb184]? = some (.cells #[.slice none 0 0, .int .i64 0, .int .i64 0, .int .i64 0, .slice none 0 0] 27 (0, 0))) := ⟨by rw [← hq_]; exact (blkd BK184)⟩; have n1_ : Aside0 (Below w.heap.size w w7) := ⟨by rw [← hq_]; exact (belowg1 HB GE184)⟩; clear BK184 HB hq_; have BK184 := n0_; have HB := n1_; clear n0_ n1_))) | (go_at_call 153; (with_reducible refine (spec_l1In.calls a1 1 10 true _ A5.out).mono ?_); rintro e w' ⟨rfl, ⟨nd, rfl⟩⟩; (try (rw [drewN_self w7]; generalize hq_ : World.drewN w7 _ = w7; have n0_ : Aside0 (w7.heap[gb184]? = some (.cells #[.slice none 0 0, .int .i64 0, .int .i64 0, .int .i64 0, .slice none 0 0] 27 (0, 0))) := ⟨by rw [← hq_]; exact (blkd BK184)⟩; have n1_ : Aside0 (Below w.heap.size w w7) := ⟨by rw [← hq_]; exact (belowg1 HB GE184)⟩; clear BK184 HB hq_; have BK184 := n0_; have HB := n1_; clear n0_ n1_)); obtain ⟨hcz8_0, hcz8_1, hcz8_2, hcz8_3, hcz8_4, hfz8_0, hfz8_1, hfz8_2, hfz8_3, hfz8_4⟩ := box5 BK184))
   refine bodyPost_ret (results_ct rfl _ _ gb184 27 #[.slice none 0 0, .int .i64 a0, .int .i64 a1, .int .i64 0, .slice none 0 0] (0, 0) _ rfl (by (with_reducible repeat (first | refine blk_drewN ?_ _ | refine blk_drew ?_ | refine blk_alloc ?_ _)); refine blk_put (cs := #[.slice none 0 0, .int .i64 a0, .int .i64 a1, .int .i64 0, .slice none 0 0]) ?_ 4 _ rfl; (with_reducible repeat (first | refine blk_drewN ?_ _ | refine blk_drew ?_ | refine blk_alloc ?_ _)); refine blk_put (cs := #[.slice none 0 0, .int .i64 a0, .int .i64 a1, .int .i64 0, .slice none 0 0]) ?_ 3 _ rfl; (with_reducible repeat (first | refine blk_drewN ?_ _ | refine blk_drew ?_ | refine blk_alloc ?_ _)); refine blk_put (cs := #[.slice none 0 0, .int .i64 a0, .int .i64 0, .int .i64 0, .slice none 0 0]) ?_ 2 _ rfl; (with_reducible repeat (first | refine blk_drewN ?_ _ | refine blk_drew ?_ | refine blk_alloc ?_ _)); refine blk_put (cs := #[.slice none 0 0, .int .i64 0, .int .i64 0, .int .i64 0, .slice none 0 0]) ?_ 1 _ rfl; (with_reducible repeat (first | refine blk_drewN ?_ _ | refine blk_drew ?_ | refine blk_alloc ?_ _)); refine blk_put (cs := #[.slice none 0 0, .int .i64 0, .int .i64 0, .int .i64 0, .slice none 0 0]) ?_ 0 _ rfl; (with_reducible repeat (first | refine blk_drewN ?_ _ | refine blk_drew ?_ | refine blk_alloc ?_ _)); exact BK184.out) Try.underlying27 rfl (by kernel_rfl)) rfl ?_
   exact ⟨_, _, er2, by first | exact Kd.R_nil _ _ _ _ _ | exact Kd.N_nil _ _ _ _ _ | exact Kd.V_nil _ _ _ _ _ | exact Kd.Q_nil _ _ _ _ _ | exact Kd.S_nil _ _ _ _ _, by first | exact Kd.R_nil _ _ _ _ _ | exact Kd.N_nil _ _ _ _ _ | exact Kd.V_nil _ _ _ _ _ | exact Kd.Q_nil _ _ _ _ _ | exact Kd.S_nil _ _ _ _ _, belowg1 HB GE184⟩
  ·replace c6 := Bool.eq_false_iff.mpr c6
   subst c6
   have H1 : (some (([] : List ByteArray), 0, 0, 0, ([] : List Int), false)) = some (r1, r2, r3, r4, r5, r6) := by rw [if_neg (show ¬ (false = true) by decide)] at H; exact H
   clear H
   have H := H1
   clear H1
   simp only [Option.some.injEq, Prod.mk.injEq] at H
   obtain ⟨rfl, rfl, rfl, rfl, rfl, rfl⟩ := H
   go_enter Try.func110, Try.ntmps110
   go_wp2_with (first | ((with_reducible refine gate_dst (N := 4) rfl ?_); refine boxev 4 #[.slice none 0 0, .int .i64 0, .int .i64 0, .int .i64 0, .slice none 0 0] 27 ?_; intro gb184 hg w9 hbox hb; have BK184 := ak (hbox); have GW184 := ak (hgl hg (belowd HB)); have GE184 := ak (hgl hg (belowd HB)); replace HB := ak (below_step (belowd HB) hb); clear hb hbox hg) | ((with_reducible refine gate_callee (f := 153) rfl ?_); refine goesLa (some 7) rfl Try.func153 #[.int .i64 a0, .int .i64 1, .int .i64 12] rfl ?_; (with_reducible refine (spec_l1In.calls a0 1 12 true _ A3.out).mono ?_); rintro e w' ⟨rfl, ⟨nd, rfl⟩⟩; refine ⟨_, rfl, ?_⟩; (try (rw [drewN_self w9]; generalize hq_ : World.drewN w9 _ = w9; have n0_ : Aside0 (w9.heap[gb184]? = some (.cells #[.slice none 0 0, .int .i64 0, .int .i64 0, .int .i64 0, .slice none 0 0] 27 (0, 0))) := ⟨by rw [← hq_]; exact (blkd BK184)⟩; have n1_ : Aside0 (Below w.heap.size w w9) := ⟨by rw [← hq_]; exact (belowg1 HB GE184)⟩; clear BK184 HB hq_; have BK184 := n0_; have HB := n1_; clear n0_ n1_))) | (go_at_call 153; (with_reducible refine (spec_l1In.calls a1 1 10 false _ A5.out).mono ?_); rintro e w' ⟨rfl, ⟨nd, rfl⟩⟩; (try (rw [drewN_self w9]; generalize hq_ : World.drewN w9 _ = w9; have n0_ : Aside0 (w9.heap[gb184]? = some (.cells #[.slice none 0 0, .int .i64 0, .int .i64 0, .int .i64 0, .slice none 0 0] 27 (0, 0))) := ⟨by rw [← hq_]; exact (blkd BK184)⟩; have n1_ : Aside0 (Below w.heap.size w w9) := ⟨by rw [← hq_]; exact (belowg1 HB GE184)⟩; clear BK184 HB hq_; have BK184 := n0_; have HB := n1_; clear n0_ n1_)); obtain ⟨hcz10_0, hcz10_1, hcz10_2, hcz10_3, hcz10_4, hfz10_0, hfz10_1, hfz10_2, hfz10_3, hfz10_4⟩ := box5 BK184))
   refine bodyPost_ret (results_ct rfl _ _ gb184 27 #[.slice none 0 0, .int .i64 0, .int .i64 0, .int .i64 0, .slice none 0 0] (0, 0) _ rfl (by (with_reducible repeat (first | refine blk_drewN ?_ _ | refine blk_drew ?_ | refine blk_alloc ?_ _)); refine blk_put (cs := #[.slice none 0 0, .int .i64 0, .int .i64 0, .int .i64 0, .slice none 0 0]) ?_ 4 _ rfl; (with_reducible repeat (first | refine blk_drewN ?_ _ | refine blk_drew ?_ | refine blk_alloc ?_ _)); refine blk_put (cs := #[.slice none 0 0, .int .i64 0, .int .i64 0, .int .i64 0, .slice none 0 0]) ?_ 3 _ rfl; (with_reducible repeat (first | refine blk_drewN ?_ _ | refine blk_drew ?_ | refine blk_alloc ?_ _)); refine blk_put (cs := #[.slice none 0 0, .int .i64 0, .int .i64 0, .int .i64 0, .slice none 0 0]) ?_ 2 _ rfl; (with_reducible repeat (first | refine blk_drewN ?_ _ | refine blk_drew ?_ | refine blk_alloc ?_ _)); refine blk_put (cs := #[.slice none 0 0, .int .i64 0, .int .i64 0, .int .i64 0, .slice none 0 0]) ?_ 1 _ rfl; (with_reducible repeat (first | refine blk_drewN ?_ _ | refine blk_drew ?_ | refine blk_alloc ?_ _)); refine blk_put (cs := #[.slice none 0 0, .int .i64 0, .int .i64 0, .int .i64 0, .slice none 0 0]) ?_ 0 _ rfl; (with_reducible repeat (first | refine blk_drewN ?_ _ | refine blk_drew ?_ | refine blk_alloc ?_ _)); exact BK184.out) Try.underlying27 rfl (by kernel_rfl)) rfl ?_
   exact ⟨_, _, er2, by first | exact Kd.R_nil _ _ _ _ _ | exact Kd.N_nil _ _ _ _ _ | exact Kd.V_nil _ _ _ _ _ | exact Kd.Q_nil _ _ _ _ _ | exact Kd.S_nil _ _ _ _ _, by first | exact Kd.R_nil _ _ _ _ _ | exact Kd.N_nil _ _ _ _ _ | exact Kd.V_nil _ _ _ _ _ | exact Kd.Q_nil _ _ _ _ _ | exact Kd.S_nil _ _ _ _ _, belowg1 HB GE184⟩
 ·replace c4 := Bool.eq_false_iff.mpr c4
  subst c4
  have H1 : (some (([] : List ByteArray), 0, 0, 0, ([] : List Int), false)) = some (r1, r2, r3, r4, r5, r6) := by rw [if_neg (show ¬ (false = true) by decide)] at H; exact H
  clear H
  have H := H1
  clear H1
  simp only [Option.some.injEq, Prod.mk.injEq] at H
  obtain ⟨rfl, rfl, rfl, rfl, rfl, rfl⟩ := H
  go_enter Try.func110, Try.ntmps110
  go_wp2_with (first | ((with_reducible refine gate_dst (N := 4) rfl ?_); refine boxev 4 #[.slice none 0 0, .int .i64 0, .int .i64 0, .int .i64 0, .slice none 0 0] 27 ?_; intro gb184 hg w11 hbox hb; have BK184 := ak (hbox); have GW184 := ak (hgl hg (belowd HB)); have GE184 := ak (hgl hg (belowd HB)); replace HB := ak (below_step (belowd HB) hb); clear hb hbox hg) | ((with_reducible refine gate_callee (f := 153) rfl ?_); refine goesLa (some 7) rfl Try.func153 #[.int .i64 a0, .int .i64 1, .int .i64 12] rfl ?_; (with_reducible refine (spec_l1In.calls a0 1 12 false _ A3.out).mono ?_); rintro e w' ⟨rfl, ⟨nd, rfl⟩⟩; refine ⟨_, rfl, ?_⟩; (try (rw [drewN_self w11]; generalize hq_ : World.drewN w11 _ = w11; have n0_ : Aside0 (w11.heap[gb184]? = some (.cells #[.slice none 0 0, .int .i64 0, .int .i64 0, .int .i64 0, .slice none 0 0] 27 (0, 0))) := ⟨by rw [← hq_]; exact (blkd BK184)⟩; have n1_ : Aside0 (Below w.heap.size w w11) := ⟨by rw [← hq_]; exact (belowg1 HB GE184)⟩; clear BK184 HB hq_; have BK184 := n0_; have HB := n1_; clear n0_ n1_)); obtain ⟨hcz12_0, hcz12_1, hcz12_2, hcz12_3, hcz12_4, hfz12_0, hfz12_1, hfz12_2, hfz12_3, hfz12_4⟩ := box5 BK184))
  refine bodyPost_ret (results_ct rfl _ _ gb184 27 #[.slice none 0 0, .int .i64 0, .int .i64 0, .int .i64 0, .slice none 0 0] (0, 0) _ rfl (by (with_reducible repeat (first | refine blk_drewN ?_ _ | refine blk_drew ?_ | refine blk_alloc ?_ _)); refine blk_put (cs := #[.slice none 0 0, .int .i64 0, .int .i64 0, .int .i64 0, .slice none 0 0]) ?_ 4 _ rfl; (with_reducible repeat (first | refine blk_drewN ?_ _ | refine blk_drew ?_ | refine blk_alloc ?_ _)); refine blk_put (cs := #[.slice none 0 0, .int .i64 0, .int .i64 0, .int .i64 0, .slice none 0 0]) ?_ 3 _ rfl; (with_reducible repeat (first | refine blk_drewN ?_ _ | refine blk_drew ?_ | refine blk_alloc ?_ _)); refine blk_put (cs := #[.slice none 0 0, .int .i64 0, .int .i64 0, .int .i64 0, .slice none 0 0]) ?_ 2 _ rfl; (with_reducible repeat (first | refine blk_drewN ?_ _ | refine blk_drew ?_ | refine blk_alloc ?_ _)); refine blk_put (cs := #[.slice none 0 0, .int .i64 0, .int .i64 0, .int .i64 0, .slice none 0 0]) ?_ 1 _ rfl; (with_reducible repeat (first | refine blk_drewN ?_ _ | refine blk_drew ?_ | refine blk_alloc ?_ _)); refine blk_put (cs := #[.slice none 0 0, .int .i64 0, .int .i64 0, .int .i64 0, .slice none 0 0]) ?_ 0 _ rfl; (with_reducible repeat (first | refine blk_drewN ?_ _ | refine blk_drew ?_ | refine blk_alloc ?_ _)); exact BK184.out) Try.underlying27 rfl (by kernel_rfl)) rfl ?_
  exact ⟨_, _, er2, by first | exact Kd.R_nil _ _ _ _ _ | exact Kd.N_nil _ _ _ _ _ | exact Kd.V_nil _ _ _ _ _ | exact Kd.Q_nil _ _ _ _ _ | exact Kd.S_nil _ _ _ _ _, by first | exact Kd.R_nil _ _ _ _ _ | exact Kd.N_nil _ _ _ _ _ | exact Kd.V_nil _ _ _ _ _ | exact Kd.Q_nil _ _ _ _ _ | exact Kd.S_nil _ _ _ _ _, belowg1 HB GE184⟩

/-! ### spec_l8Text: function 95 -/
def spec_l8Text.f (a0 : ByteArray) : Option (Bool) := some (decide ((a0.size : Int) ≤ 24))
set_option maxHeartbeats 8000000 in
set_option maxRecDepth 100000 in
theorem spec_l8Text.calls (a0 : ByteArray) (r : Bool) (w : World) (h : spec_l8Text.f a0 = some r) :
  Calls Try.prog 95 #[.string a0] w fun e w' => e = .returned (.bool r) ∧ Drawn0 w w' := by
 have H : (some (decide ((a0.size : Int) ≤ 24))) = some r := h
 clear h
 obtain rfl := Option.some.inj H
 go_enter Try.func95, Try.ntmps95
 go_wp2
 go_ret
 exact ⟨er, drw⟩

end Go.Proofs.Ytkgogglnipdcfaa.QFnMixes
