-- printed by this session's own program (wip/tools/pp.py: the kit's print.py with changes); Lean checks it
import Derived.Test.YtihekdlcfohkkaaGreatDoorQFnExactPlayNetx0
import Derived.Test.YtihekdlcfohkkaaGreatDoorQFnExactPlayNetx2
import Derived.Test.YtihekdlcfohkkaaGreatDoorQFnExactPlayNetx4
namespace Go.Proofs.YtihekdlcfohkkaaGreatDoor.QFnExactPlayNet
open Go.RowKit Go.Proofs.YtihekdlcfohkkaaGreatDoorW.PrintWords Go.Proofs.YtihekdlcfohkkaaGreatDoorW.PrintLast Go.Proofs.YtihekdlcfohkkaaGreatDoorW.PrintMore
attribute [local go_sem] max2_int min2_int max_two min_two max_three min_three max_four min_four strLss strGtr strLeq strGeq   -- for this text's walks alone
set_option linter.unusedVariables false
set_option linter.unusedSimpArgs false

/-! ### spec_PeelOnion: function 88 -/
def spec_PeelOnion.T4 : Bool × List (List Nat × List Nat) := (true, [([], []), ([0], [0]), ([1], [1]), ([2], [2]), ([3], [3]), ([4, 3], [4]), ([5], [5]), ([6, 5], [5, 6]), ([7, 5], [5, 7]), ([5], [5]), ([9, 5], [5, 9]), ([10, 5, 5], [5, 10]), ([8, 11, 5], [5, 8, 11]), ([5, 12], [5, 12])])
def spec_PeelOnion.B4 : List Nat := [0, 1, 3, 7, 15, 31, 63, 127, 255, 63, 575, 1599, 4095, 8191]
theorem spec_PeelOnion.tab4 : rtab .any (opsOf Tryz.f88 4) = spec_PeelOnion.T4 := by kernel_rfl
theorem spec_PeelOnion.bits4 : waitsOk spec_PeelOnion.T4.2 spec_PeelOnion.B4 = true := by kernel_rfl
def spec_PeelOnion.f (k : Nat) (a0 : Int) (a1 : ByteArray) : Option (Int × ByteArray × ByteArray × Bool) := (spec_l4Key.f a0).bind fun c0 => if c0 = true ∧ a1.size = 24 then (spec_l7Pad.f k a0 24).bind fun p => (spec_l7Xor.f k a1 p).bind fun t => if t.size = 24 then (spec_l1In.f (wrap64 (bt t 0)) 1 250).bind fun c => if c = true then (spec_l7Check.f k (t.extract 2 18)).bind fun d => if wrap64 (bt t 1) = d then (spec_UnpadBody.f k ((t.extract 2 t.size ++ (⟨#[0, 0]⟩ : ByteArray)).extract 0 16)).bind fun b => some (wrap64 (bt t 0), t.extract 2 t.size ++ (⟨#[0, 0]⟩ : ByteArray), b.1, true) else some (0, ⟨#[]⟩, ⟨#[]⟩, false) else some (0, ⟨#[]⟩, ⟨#[]⟩, false) else none else none
set_option maxHeartbeats 16000000 in
set_option maxRecDepth 100000 in
theorem spec_PeelOnion.calls (k : Nat) (a0 : Int) (a1 : ByteArray) (r1 : Int) (r2 : ByteArray) (r3 : ByteArray) (r4 : Bool) (w : World) (h : spec_PeelOnion.f k a0 a1 = some (r1, r2, r3, r4)) :
  Calls Tryz.prog 88 #[.int .i64 a0, .string a1] w fun e w' => e = .returned (.tuple #[.agg #[.int .i64 r1, .string r2, .string r3], .bool r4]) ∧ Below w.heap.size w w' := by
 have huP := Tryz.underlying105
 have HS := Sep.nil w
 unfold spec_PeelOnion.f at h
 replace h := bS h; obtain ⟨c0, T0, h⟩ := h
 replace h := ifS h; obtain ⟨⟨rfl, hz⟩, h⟩ := h
 replace h := bS h; obtain ⟨p, T1, h⟩ := h
 replace h := bS h; obtain ⟨t, T2, h⟩ := h
 replace h := ifS h; obtain ⟨ht, h⟩ := h
 replace h := bS h; obtain ⟨c, T3, h⟩ := h
 have hz1 : ((a1.size : Int) != 24) = false := by rw [hz]; rfl
 have q0 : (0 < t.size) = True := eq_true (by omega)
 have q1 : (1 < t.size) = True := eq_true (by omega)
 have qi0 : (0 < (t.size : Int)) = True := eq_true (by omega)
 have qi1 : (1 < (t.size : Int)) = True := eq_true (by omega)
 have x0 : ∀ h : 0 < t.size, ((t[0]'h).toNat : Int) = bt t 0 := bt_at t 0
 have x1 : ∀ h : 1 < t.size, ((t[1]'h).toNat : Int) = bt t 1 := bt_at t 1
 have hl1 : decide ((18 : Int) ≤ (t.size : Int)) = true := decide_eq_true (by omega)
 have hl2 : decide ((2 : Int) ≤ (t.size : Int)) = true := decide_eq_true (by omega)
 have hs2 : (t.extract 2 t.size).size = 22 := by rw [ByteArray.size_extract, ht]; rfl
 have hl3 : decide ((t.extract 2 t.size).size + 2 ≤ 9223372036854775807) = true := decide_eq_true (by omega)
 have hl4 : (9223372036854775807 < (t.extract 2 t.size).size + 2) = False := eq_false (by omega)
 have hl5 : decide ((16 : Int) ≤ ((t.extract 2 t.size ++ (⟨#[0, 0]⟩ : ByteArray)).size : Int)) = true := decide_eq_true (by rw [ByteArray.size_append, hs2]; decide)
 have hl6 : (2 ≤ (t.size : Int)) = True := eq_true (by omega)
 have hl7 : (18 ≤ (t.size : Int)) = True := eq_true (by omega)
 have hl8 : (16 ≤ ((t.extract 2 t.size ++ (⟨#[0, 0]⟩ : ByteArray)).size : Int)) = True := eq_true (by rw [ByteArray.size_append, hs2]; decide)
 have hl9 : (9223372036854775807 < t.size - 2 + 2) = False := eq_false (by omega)
 clear ht hz hs2 hl3 hl4
 go_enter Tryz.func88, Tryz.ntmps88
 go_upto_region 4 with (first | ((with_reducible refine gate_dst (N := 4) rfl ?_); refine boxev 4 #[.int .i64 0, .string (⟨#[]⟩ : ByteArray), .string (⟨#[]⟩ : ByteArray)] 105 ?_; intro b4 hg_ W_ ho_ hb_; replace HS := HS.box hg_ ho_ hb_; clear hg_ ho_ hb_; obtain ⟨z40, z41, z42, f40, f41, f42⟩ := box3 (HS.blk 0)) | (go_at_call 109; refine (spec_l4Key.calls a0 true _ T0.out).mono ?_; rintro e W_ ⟨rfl, nd_, rfl⟩; replace HS := HS.drewN nd_; generalize World.drewN _ nd_ = W_ at HS ⊢; clear z40 z41 z42 f40 f41 f42; obtain ⟨z40, z41, z42, f40, f41, f42⟩ := box3 (HS.blk 0)) | (go_at_call 111; refine (spec_l7Pad.calls k a0 24 p _ T1.out).mono ?_; rintro e W_ ⟨rfl, hb_⟩; replace HS := HS.below hb_; clear hb_; clear z40 z41 z42 f40 f41 f42; obtain ⟨z40, z41, z42, f40, f41, f42⟩ := box3 (HS.blk 0)) | (go_at_call 110; refine (spec_l7Xor.calls k a1 p t _ T2.out).mono ?_; rintro e W_ ⟨rfl, hb_⟩; replace HS := HS.below hb_; clear hb_; clear z40 z41 z42 f40 f41 f42; obtain ⟨z40, z41, z42, f40, f41, f42⟩ := box3 (HS.blk 0)))
 clear z40 z41 z42 f40 f41 f42
 refine start_ (n := 14) (S := fun w' => True) (ds := []) (bl 14 0) (by kernel_rfl) rfl rfl trivial (fun hHeld => ?_); refine with_tabW spec_PeelOnion.tab4 spec_PeelOnion.bits4 (fun HT_ HW_ => ?_)
 replace HS := HS.drew
 generalize World.drew _ = W9_ at HS ⊢
 refine pureA 0 (some 23) 14 1 HT_ ?_
 refine pureA 1 (some 24) 14 3 HT_ ?_
 refine pureA 2 (some 25) 14 7 HT_ ?_
 refine oneA 3 (some 26) 14 15 HT_ (fun K hK => ?_)
 refine goes_ Tryz.func79 (by kernel_rfl) rfl #[.int .i64 (wrap64 (bt t 0)), .int .i64 1, .int .i64 250] (by rfl) rfl rfl (by (try simp only [List.map_toArray, List.map_cons, List.map_nil]); first | done | rfl) ?_
 refine (spec_l1In.calls (wrap64 (bt t 0)) 1 250 c _ T3.out).mono ?_
 clear hHeld
 rintro e W_ ⟨rfl, nd_, rfl⟩
 refine ⟨_, rfl, ?_⟩
 replace HS := HS.drewN nd_
 generalize World.drewN _ nd_ = W_ at HS ⊢
 refine hK.out _ _ trivial (fun hHeld => ?_)
 clear hK K 
 refine norm_ (a' := ?_) ?_ ?_
 rotate_left
 ·show Act.put _ (some 26) _ = _
  simp only [Act.put, List.setIfInBounds_toArray, List.set_cons_zero, List.set_cons_succ, i64_w, i32_w]
  rfl
 refine pureA 4 (some 27) 14 31 HT_ ?_
 refine pureA 5 (some 28) 14 63 HT_ ?_
 cases c with
 | false =>
  rw [if_neg (by decide)] at h
  simp only [Bool.not_false]
  refine pureB 6 (some 29) 14 127 HT_ ?_
  refine pureB 7 (some 30) 14 255 HT_ ?_
  refine pureB 8 (some 31) 14 511 HT_ ?_
  refine pureB 9 (some 32) 14 1023 HT_ ?_
  refine pureB 10 (some 33) 14 2047 HT_ ?_
  refine pureB 11 (some 34) 14 4095 HT_ ?_
  refine pureB 12 (some 35) 14 8191 HT_ ?_
  refine pureA 13 (some 36) 14 16383 HT_ ?_
  refine done_ (done_of HT_.out (by kernel_rfl)) ?_
  clear HT_ HW_ hHeld
  obtain ⟨z40, z41, z42, f40, f41, f42⟩ := box3 (HS.blk 0)
  simp only [Option.some.injEq, Prod.mk.injEq] at h
  obtain ⟨rfl, rfl, rfl, rfl⟩ := h
  go_wp2
  have HF := (((HS.putI 0 0 (.int .i64 0) #[.int .i64 0, .string (⟨#[]⟩ : ByteArray), .string (⟨#[]⟩ : ByteArray)]).putI 0 1 (.string (⟨#[]⟩ : ByteArray)) #[.int .i64 0, .string (⟨#[]⟩ : ByteArray), .string (⟨#[]⟩ : ByteArray)]).putI 0 2 (.string (⟨#[]⟩ : ByteArray)) #[.int .i64 0, .string (⟨#[]⟩ : ByteArray), .string (⟨#[]⟩ : ByteArray)])
  refine bodyPost_ret (results_ct rfl _ _ b4 105 #[.int .i64 0, .string (⟨#[]⟩ : ByteArray), .string (⟨#[]⟩ : ByteArray)] (0, 0) _ rfl (by exact (HF.blk 0).out) Tryz.underlying105 rfl (by kernel_rfl)) rfl ?_
  exact ⟨rfl, HF.base⟩
 | true =>
  rw [if_pos rfl] at h
  simp only [Bool.not_true]
  replace h := bS h; obtain ⟨d, T4, h⟩ := h
  refine pureA 6 (some 29) 14 127 HT_ ?_
  refine pureA 7 (some 30) 14 255 HT_ ?_
  refine pureA 8 (some 31) 14 511 HT_ ?_
  refine pureA 9 (some 32) 14 1023 HT_ ?_
  refine pureA 10 (some 33) 14 2047 HT_ ?_
  refine oneA 11 (some 34) 14 4095 HT_ (fun K hK => ?_)
  refine goes_ Tryz.func112 (by kernel_rfl) rfl #[.string (t.extract 2 18)] (by rfl) rfl rfl (by (try simp only [List.map_toArray, List.map_cons, List.map_nil]); first | done | rfl) ?_
  refine (spec_l7Check.calls k (t.extract 2 18) d _ T4.out).mono ?_
  clear hHeld
  rintro e W_ ⟨rfl, nd_, rfl⟩
  refine ⟨_, rfl, ?_⟩
  replace HS := HS.drewN nd_
  generalize World.drewN _ nd_ = W_ at HS ⊢
  refine hK.out _ _ trivial (fun hHeld => ?_)
  clear hK K 
  refine norm_ (a' := ?_) ?_ ?_
  rotate_left
  ·show Act.put _ (some 34) _ = _
   simp only [Act.put, List.setIfInBounds_toArray, List.set_cons_zero, List.set_cons_succ, i64_w, i32_w]
   rfl
  refine pureA 12 (some 35) 14 8191 HT_ ?_
  refine pureA 13 (some 36) 14 16383 HT_ ?_
  refine done_ (done_of HT_.out (by kernel_rfl)) ?_
  clear HT_ HW_ hHeld
  by_cases hc : wrap64 (bt t 1) = d
  ·rw [if_pos hc] at h
   have hcb : (wrap64 (bt t 1) != d) = false := by rw [hc]; exact bne_self_eq_false d
   simp only [hcb]
   replace h := bS h; obtain ⟨⟨b, b'⟩, T5, h⟩ := h
   obtain ⟨z40, z41, z42, f40, f41, f42⟩ := box3 (HS.blk 0)
   go_upto_region 7 with fail
   generalize hu : t.extract 2 t.size ++ (⟨#[0, 0]⟩ : ByteArray) = u at h T5 hl5 hl8 ⊢
   simp only [Option.some.injEq, Prod.mk.injEq] at h
   obtain ⟨rfl, rfl, rfl, rfl⟩ := h
   clear hc hu
   go_wp2_with (first | (go_at_call 113; refine (spec_UnpadBody.calls k _ b b' _ T5.out).mono ?_; rintro e W_ ⟨rfl, nd_, rfl⟩; replace HS := HS.drewN nd_; generalize World.drewN _ nd_ = W_ at HS ⊢; clear z40 z41 z42 f40 f41 f42; obtain ⟨z40, z41, z42, f40, f41, f42⟩ := box3 (HS.blk 0)))
   have HF := (((HS.putI 0 0 (.int .i64 (wrap64 (bt t 0))) #[.int .i64 (wrap64 (bt t 0)), .string (⟨#[]⟩ : ByteArray), .string (⟨#[]⟩ : ByteArray)]).putI 0 1 (.string u) #[.int .i64 (wrap64 (bt t 0)), .string u, .string (⟨#[]⟩ : ByteArray)]).putI 0 2 (.string b) #[.int .i64 (wrap64 (bt t 0)), .string u, .string b])
   refine bodyPost_ret (results_ct rfl _ _ b4 105 #[.int .i64 (wrap64 (bt t 0)), .string u, .string b] (0, 0) _ rfl (by exact (HF.blk 0).out) Tryz.underlying105 rfl (by kernel_rfl)) rfl ?_
   exact ⟨rfl, HF.base⟩
  ·rw [if_neg hc] at h
   have hcb : (wrap64 (bt t 1) != d) = true := bne_iff_ne.mpr hc
   simp only [hcb]
   clear hc
   obtain ⟨z40, z41, z42, f40, f41, f42⟩ := box3 (HS.blk 0)
   simp only [Option.some.injEq, Prod.mk.injEq] at h
   obtain ⟨rfl, rfl, rfl, rfl⟩ := h
   go_wp2
   have HF := (((HS.putI 0 0 (.int .i64 0) #[.int .i64 0, .string (⟨#[]⟩ : ByteArray), .string (⟨#[]⟩ : ByteArray)]).putI 0 1 (.string (⟨#[]⟩ : ByteArray)) #[.int .i64 0, .string (⟨#[]⟩ : ByteArray), .string (⟨#[]⟩ : ByteArray)]).putI 0 2 (.string (⟨#[]⟩ : ByteArray)) #[.int .i64 0, .string (⟨#[]⟩ : ByteArray), .string (⟨#[]⟩ : ByteArray)])
   refine bodyPost_ret (results_ct rfl _ _ b4 105 #[.int .i64 0, .string (⟨#[]⟩ : ByteArray), .string (⟨#[]⟩ : ByteArray)] (0, 0) _ rfl (by exact (HF.blk 0).out) Tryz.underlying105 rfl (by kernel_rfl)) rfl ?_
   exact ⟨rfl, HF.base⟩

/-! ### spec_l8Place: function 114 -/
def spec_l8Place.l0 : Nat → List ByteArray → ByteArray → Int → Option (List ByteArray)
  | 0, _, _, _ => none
  | k + 1, x0, x1, x5 => if x5 < (x0.length : Int) then (if 0 ≤ x5 then (if ((Op.bytesLess x1.toList ((rdOf ByteArray.empty x0 x5).toList)) = true) then ((some (([] : List ByteArray) : List ByteArray)).bind fun y185 => (if x5 ≤ (x0.length : Int) then (if y185.length + (x0.take (x5 : Int).toNat).length < 8796093022208 then ((some (y185 ++ (x0.take (x5 : Int).toNat) : List ByteArray)).bind fun y189 => (if y189.length < 8796093022208 then ((some (y189 ++ [x1] : List ByteArray)).bind fun y192 => (if y192.length + (x0.drop (x5 : Int).toNat).length < 8796093022208 then (some (y192 ++ (x0.drop (x5 : Int).toNat))) else (none))) else (none))) else (none)) else (none))) else (spec_l8Place.l0 k x0 x1 (wrap64 (x5 + 1)))) else (none)) else ((some (([] : List ByteArray) : List ByteArray)).bind fun y199 => (if 0 ≤ x5 then (if x5 ≤ (x0.length : Int) then (if y199.length + (x0.take (x5 : Int).toNat).length < 8796093022208 then ((some (y199 ++ (x0.take (x5 : Int).toNat) : List ByteArray)).bind fun y203 => (if y203.length < 8796093022208 then ((some (y203 ++ [x1] : List ByteArray)).bind fun y206 => (if y206.length + (x0.drop (x5 : Int).toNat).length < 8796093022208 then (some (y206 ++ (x0.drop (x5 : Int).toNat))) else (none))) else (none))) else (none)) else (none)) else (none)))
def spec_l8Place.f (k : Nat) (l0 : List ByteArray) (a1 : ByteArray) : Option (List ByteArray) := spec_l8Place.l0 k l0 a1 0
theorem spec_l8Place.mono_l : ∀ k, (∀ y0 y1 y2, LeO (spec_l8Place.l0 k y0 y1 y2) (spec_l8Place.l0 (k + 1) y0 y1 y2))
 | 0 => fun _ _ _ r h => by simp [spec_l8Place.l0] at h
 | k + 1 => by
  have ih0 := spec_l8Place.mono_l k
  ·intro y0 y1 y2
   unfold spec_l8Place.l0
   repeat' (first | (with_reducible first | exact ih0 _ _ _ | exact LeO.refl _ | exact LeO.none _ | refine LeO.ite ?_ ?_ | refine LeO.bind ?_ (fun _ => ?_)) | exact ih0 _ _ _ | exact LeO.none _ | refine LeO.ite ?_ ?_ | refine LeO.bind ?_ (fun _ => ?_))
theorem spec_l8Place.mono : ∀ a0 a1 k, LeO (spec_l8Place.f k a0 a1) (spec_l8Place.f (k + 1) a0 a1) := by
 intro a0 a1 k
 have ih0 := spec_l8Place.mono_l k
 unfold spec_l8Place.f
 repeat' (first | (with_reducible first | exact ih0 _ _ _ | exact LeO.refl _ | exact LeO.none _ | refine LeO.ite ?_ ?_ | refine LeO.bind ?_ (fun _ => ?_)) | exact ih0 _ _ _ | exact LeO.none _ | refine LeO.ite ?_ ?_ | refine LeO.bind ?_ (fun _ => ?_))
set_option maxHeartbeats 8000000 in
set_option maxRecDepth 100000 in
theorem spec_l8Place.calls (k : Nat) (A0 : Option Addr) (c0 : Nat) (l0 : List ByteArray) (a1 : ByteArray) (r : List ByteArray) (w : World) (hr0 : Kd.C Kd.string w A0 l0.length l0) (hc0 : l0.length ≤ c0) (h : spec_l8Place.f k l0 a1 = some r) :
  Calls Tryz.prog 114 #[.slice A0 l0.length c0, .string a1] w fun e w' => ∃ v0_ : Value, e = .returned (v0_) ∧ Kd.R Kd.string 9 w' w.heap.size (fun _ => True) v0_ r ∧ Below w.heap.size w w' := by
 have HR0 := Aside0.mk hr0; have HC0 := Aside0.mk hc0; clear hr0 hc0
 have HB := Aside0.mk (Below.refl w.heap.size w)
 have H : (spec_l8Place.l0 k l0 a1 0) = some r := h
 clear h
 have H' := Aside0.mk H
 clear H
 go_enter Tryz.func114, Tryz.ntmps114
 go_wp2
 go_loopg [5] k (fun kq v5 w' => ∃ (x5_1 : Int), v5 = .int .i64 x5_1 ∧ Aside0 (spec_l8Place.l0 kq l0 a1 x5_1 = some r) ∧ Aside0 (kq ≤ k) ∧ Aside0 (Below w.heap.size w w'))
 case atStart => exact ⟨(0), er, H', ⟨Nat.le_refl _⟩, ⟨belowd HB⟩⟩
 case round =>
  clear H'
  obtain ⟨x5_1, rfl, HA, HK1, HB⟩ := hrel
  cases gk with
  | zero => exact absurd HA.out (by simp [spec_l8Place.l0])
  | succ k1 =>
   have H := HA.out; clear HA
   simp only [spec_l8Place.l0] at H
   by_cases c3 : x5_1 < (l0.length : Int)
   ·rw [if_pos c3] at H
    have c3b0 : decide (x5_1 < (l0.length : Int)) = true := decide_eq_true c3
    clear c3; replace H := ifS H; obtain ⟨c4, H⟩ := H; have c4b0 := decide_eq_true c4; clear c4
    by_cases c5 : ((Op.bytesLess a1.toList ((rdOf ByteArray.empty l0 x5_1).toList)) = true)
    ·rw [if_pos c5] at H
     have c5b0 : (Op.bytesLess a1.toList ((rdOf ByteArray.empty l0 x5_1).toList)) = true := c5
     clear c5
     obtain ⟨y185, hy_⟩ : ∃ y_ : List ByteArray, y_ = (([] : List ByteArray)) := ⟨_, rfl⟩
     replace H : (if x5_1 ≤ (l0.length : Int) then (if y185.length + (l0.take (x5_1 : Int).toNat).length < 8796093022208 then ((some (y185 ++ (l0.take (x5_1 : Int).toNat) : List ByteArray)).bind fun y189 => (if y189.length < 8796093022208 then ((some (y189 ++ [a1] : List ByteArray)).bind fun y192 => (if y192.length + (l0.drop (x5_1 : Int).toNat).length < 8796093022208 then (some (y192 ++ (l0.drop (x5_1 : Int).toNat))) else (none))) else (none))) else (none)) else (none)) = some r := yH
     have Ny185 := ak hy_; clear hy_
     have c6b0 := eq_true (da : 0 ≤ x5_1)
     replace H := ifS H; obtain ⟨c7, H⟩ := H; have c7b0 := eq_true c7
     have c7b1 : decide (x5_1 ≤ (l0.length : Int)) = true := decide_eq_true c7
     clear c7; replace H := ifS H; obtain ⟨c8, H⟩ := H; have LMc8 := Aside0.mk c8; clear c8
     obtain ⟨y189, hy_⟩ : ∃ y_ : List ByteArray, y_ = (y185 ++ (l0.take (x5_1 : Int).toNat)) := ⟨_, rfl⟩
     replace H : (if y189.length < 8796093022208 then ((some (y189 ++ [a1] : List ByteArray)).bind fun y192 => (if y192.length + (l0.drop (x5_1 : Int).toNat).length < 8796093022208 then (some (y192 ++ (l0.drop (x5_1 : Int).toNat))) else (none))) else (none)) = some r := yH
     have Ny189 := ak hy_; clear hy_; replace H := ifS H; obtain ⟨c9, H⟩ := H; have LMc9 := Aside0.mk c9; clear c9
     obtain ⟨y192, hy_⟩ : ∃ y_ : List ByteArray, y_ = (y189 ++ [a1]) := ⟨_, rfl⟩
     replace H : (if y192.length + (l0.drop (x5_1 : Int).toNat).length < 8796093022208 then (some (y192 ++ (l0.drop (x5_1 : Int).toNat))) else (none)) = some r := yH
     have Ny192 := ak hy_; clear hy_
     have c10b0 := eq_true (da : 0 ≤ x5_1)
     have c11b0 := eq_true (da : x5_1 ≤ (l0.length : Int))
     replace H := ifS H; obtain ⟨c12, H⟩ := H; have LMc12 := Aside0.mk c12; clear c12
     obtain ⟨y196, hy_⟩ : ∃ y_ : List ByteArray, y_ = (y192 ++ (l0.drop (x5_1 : Int).toNat)) := ⟨_, rfl⟩
     replace H : (some y196) = some r := yH
     have Ny196 := ak hy_; clear hy_
     obtain rfl := Option.some.inj H
     have p184 : 0 ≤ (x5_1 : Int) := da
     have q184 : x5_1 < (l0.length : Int) := da
     obtain ⟨ad184, e184, hx184_0⟩ := Kd.at_string HR0.out x5_1 p184 q184
     cases e184
     replace hx184_0 := (HB.out.cell (World.block_lt_of_cell? w _ hx184_0)).trans hx184_0
     replace p184 := eq_true p184; replace q184 := eq_true q184
     go_wp2_with (first | ((with_reducible refine gate_dst (N := 21) rfl ?_); refine Kd.R_lit Kd.string _ 9 ?hg (N := 21) ?hd (xs := ([] : List ByteArray)) (inner := []) (ok := fun _ => True) (okp := fun _ => True) ?hr ?hp (fun _ hk => hk) trivial (Below.refl _ _) (Nat.le_refl _) (by simp) ?_; (case hd => rfl); (case hg => rfl); (case hr => first | (go_simp; done) | (go_simp; rfl)); (case hp => exact (Reps.none _ _)); intro v186 w13 ho14 hb hg_ hnew_; clear hg_ hnew_; (first | rw [← Ny185.out] at ho14 | (simp only [Int.reduceToNat] at ho14; rw [← Ny185.out] at ho14)); have HO187 := ak (Kd.R_lower ho14 (below_size (belowd HB))); replace HB := ak (below_step (belowd HB) hb); clear hb ho14; obtain ⟨i015, hi015, _, hsz15, _⟩ := info_parts info9; obtain ⟨hcut15, hA15, hC15⟩ := print_take_of (P := Tryz.prog) Value.string (⟨#[]⟩ : ByteArray) 62 9 .i64 Tryz.underlying62 hi015 hsz15 (some ad184) c0 l0 x5_1 (da) (da) HC0.out; have HR188 := Aside0.mk (Kd.C_of_reads (h1 := fun _ => rfl) (hA15 _ (Kd.reads_of_C HR0.out))); have HC188 := Aside0.mk hC15; clear hA15 hC15 hi015 hsz15) | ((with_reducible refine gate_builtin (b := .append) (xs := #[.tmp 21, .tmp 24]) rfl ?_); at_builtin; refine Kd.R_append_rows Kd.string (w0 := w) w.heap.size rfl (.tmp 21) (.tmp 24) 62 9 (.string ⟨#[]⟩) 16 rfl Tryz.underlying62 info9 rfl (by decide) (by omega) v186 y185 (l0.take (x5_1 : Int).toNat) _ _ _ (fun _ => True) (fun _ => False) rfl rfl ?aO ?aR (fun _ _ h => h) (fun _ h => h.elim) ?aF ?aB ?aS ?aL ?_; (case aR => first | (refine Eq.mp (congrArg (fun z_ => ReadsRow _ _ _ _ z_ _) (show (l0.take (x5_1 : Int).toNat).length = x5_1.toNat from (by rw [List.length_take]; have h_ : (x5_1 : Int) ≤ (l0.length : Int) := da; omega))) ?_; exact cd (Kd.C_below HR188.out HB.out)) | (rw [← show (l0.take (x5_1 : Int).toNat).length = x5_1.toNat from (by rw [List.length_take]; have h_ : (x5_1 : Int) ≤ (l0.length : Int) := da; omega)]; exact cd (Kd.C_below HR188.out HB.out)) | (exact cd (Kd.C_below HR188.out HB.out))); (case aB => exact (belowd HB)); (case aF => exact (fun _ _ => trivial)); (case aO => exact (rdl HO187)); (case aS => exact (below_size (belowd HB))); (case aL => have := LMc8.out; have hlx_ := (show (l0.take (x5_1 : Int).toNat).length = x5_1.toNat from (by rw [List.length_take]; have h_ : (x5_1 : Int) ≤ (l0.length : Int) := da; omega)); omega); intro v190 w16 ho hb hg hat; rw [← Ny189.out] at ho; replace HB := ak (hb); have HO191 := ak (ho); clear HO187; clear ho hb hg hat) | ((with_reducible refine gate_builtin (b := .append) (xs := #[.tmp 26, .tmp 28]) rfl ?_); at_builtin; refine Kd.R_append Kd.string (w0 := w) w.heap.size rfl (.tmp 26) (.tmp 28) 62 9 (.string ⟨#[]⟩) 16 rfl Tryz.underlying62 info9 rfl (by decide) (by omega) v190 y189 a1 [.string a1] (fun _ => True) (fun _ => False) rfl rfl ?aP (fun _ hk => hk.elim) ?aF ?aO ?aB ?aS ?aL ?_; (case aP => exact rfl); (case aB => exact (belowd HB)); (case aF => exact (fun _ _ => trivial)); (case aO => exact (rdl HO191)); (case aS => exact (below_size (belowd HB))); (case aL => have := LMc9.out; omega); intro v193 w17 ho hb hg hat; rw [← Ny192.out] at ho; replace HB := ak (hb); have HO194 := ak (ho); clear HO191; clear ho hb hg hat; obtain ⟨i018, hi018, _, hsz18, _⟩ := info_parts info9; obtain ⟨A18, hcut18, hA18, hC18⟩ := print_drop_of (P := Tryz.prog) Value.string (⟨#[]⟩ : ByteArray) 62 9 .i64 Tryz.underlying62 hi018 hsz18 (some ad184) c0 l0 x5_1 (da) (da) HC0.out; have HR195 := Aside0.mk (Kd.C_of_reads (h1 := fun _ => rfl) (hA18 _ (Kd.reads_of_C HR0.out))); have HC195 := Aside0.mk hC18; clear hA18 hC18 hi018 hsz18) | ((with_reducible refine gate_builtin (b := .append) (xs := #[.tmp 30, .tmp 33]) rfl ?_); at_builtin; refine Kd.R_append_rows Kd.string (w0 := w) w.heap.size rfl (.tmp 30) (.tmp 33) 62 9 (.string ⟨#[]⟩) 16 rfl Tryz.underlying62 info9 rfl (by decide) (by omega) v193 y192 (l0.drop (x5_1 : Int).toNat) _ _ _ (fun _ => True) (fun _ => False) rfl rfl ?aO ?aR (fun _ _ h => h) (fun _ h => h.elim) ?aF ?aB ?aS ?aL ?_; (case aR => first | (refine Eq.mp (congrArg (fun z_ => ReadsRow _ _ _ _ z_ _) (show (l0.drop (x5_1 : Int).toNat).length = (l0.length - x5_1.toNat) from List.length_drop)) ?_; exact cd (Kd.C_below HR195.out HB.out)) | (rw [← show (l0.drop (x5_1 : Int).toNat).length = (l0.length - x5_1.toNat) from List.length_drop]; exact cd (Kd.C_below HR195.out HB.out)) | (exact cd (Kd.C_below HR195.out HB.out))); (case aB => exact (belowd HB)); (case aF => exact (fun _ _ => trivial)); (case aO => exact (rdl HO194)); (case aS => exact (below_size (belowd HB))); (case aL => have := LMc12.out; have hlx_ := (show (l0.drop (x5_1 : Int).toNat).length = (l0.length - x5_1.toNat) from List.length_drop); omega); intro v197 w19 ho hb hg hat; rw [← Ny196.out] at ho; replace HB := ak (hb); have HO198 := ak (ho); clear HO194; clear ho hb hg hat))
     go_ret
     exact ⟨_, er2, by (with_reducible repeat (first | apply Kd.R_alloc | apply Kd.R_drewN | apply Kd.R_drew)); exact HO198.out, belowd HB⟩
    ·rw [if_neg c5] at H
     have c5b0 : (Op.bytesLess a1.toList ((rdOf ByteArray.empty l0 x5_1).toList)) = false := by simpa using c5
     clear c5
     have H' := Aside0.mk H
     clear H
     have p184 : 0 ≤ (x5_1 : Int) := da
     have q184 : x5_1 < (l0.length : Int) := da
     obtain ⟨ad184, e184, hx184_0⟩ := Kd.at_string HR0.out x5_1 p184 q184
     cases e184
     replace hx184_0 := (HB.out.cell (World.block_lt_of_cell? w _ hx184_0)).trans hx184_0
     replace p184 := eq_true p184; replace q184 := eq_true q184; go_wp2
     go_roundg k1
     case measure => have := HK1.out; omega
     case rel => exact ⟨(wrap64 (x5_1 + 1)), er, H', ⟨by have := HK1.out; omega⟩, ⟨belowd HB⟩⟩
   ·rw [if_neg c3] at H
    have c3b0 : decide (x5_1 < (l0.length : Int)) = false := decide_eq_false c3
    clear c3
    obtain ⟨y199, hy_⟩ : ∃ y_ : List ByteArray, y_ = (([] : List ByteArray)) := ⟨_, rfl⟩
    replace H : (if 0 ≤ x5_1 then (if x5_1 ≤ (l0.length : Int) then (if y199.length + (l0.take (x5_1 : Int).toNat).length < 8796093022208 then ((some (y199 ++ (l0.take (x5_1 : Int).toNat) : List ByteArray)).bind fun y203 => (if y203.length < 8796093022208 then ((some (y203 ++ [a1] : List ByteArray)).bind fun y206 => (if y206.length + (l0.drop (x5_1 : Int).toNat).length < 8796093022208 then (some (y206 ++ (l0.drop (x5_1 : Int).toNat))) else (none))) else (none))) else (none)) else (none)) else (none)) = some r := yH
    have Ny199 := ak hy_; clear hy_; replace H := ifS H; obtain ⟨c20, H⟩ := H; have c20b0 := eq_true c20
    have c20b1 : decide (0 ≤ x5_1) = true := decide_eq_true c20
    clear c20; replace H := ifS H; obtain ⟨c21, H⟩ := H; have c21b0 := eq_true c21
    have c21b1 : decide (x5_1 ≤ (l0.length : Int)) = true := decide_eq_true c21
    clear c21; replace H := ifS H; obtain ⟨c22, H⟩ := H; have LMc22 := Aside0.mk c22; clear c22
    obtain ⟨y203, hy_⟩ : ∃ y_ : List ByteArray, y_ = (y199 ++ (l0.take (x5_1 : Int).toNat)) := ⟨_, rfl⟩
    replace H : (if y203.length < 8796093022208 then ((some (y203 ++ [a1] : List ByteArray)).bind fun y206 => (if y206.length + (l0.drop (x5_1 : Int).toNat).length < 8796093022208 then (some (y206 ++ (l0.drop (x5_1 : Int).toNat))) else (none))) else (none)) = some r := yH
    have Ny203 := ak hy_; clear hy_; replace H := ifS H; obtain ⟨c23, H⟩ := H; have LMc23 := Aside0.mk c23; clear c23
    obtain ⟨y206, hy_⟩ : ∃ y_ : List ByteArray, y_ = (y203 ++ [a1]) := ⟨_, rfl⟩
    replace H : (if y206.length + (l0.drop (x5_1 : Int).toNat).length < 8796093022208 then (some (y206 ++ (l0.drop (x5_1 : Int).toNat))) else (none)) = some r := yH
    have Ny206 := ak hy_; clear hy_
    have c24b0 := eq_true (da : 0 ≤ x5_1)
    have c25b0 := eq_true (da : x5_1 ≤ (l0.length : Int))
    replace H := ifS H; obtain ⟨c26, H⟩ := H; have LMc26 := Aside0.mk c26; clear c26
    obtain ⟨y210, hy_⟩ : ∃ y_ : List ByteArray, y_ = (y206 ++ (l0.drop (x5_1 : Int).toNat)) := ⟨_, rfl⟩
    replace H : (some y210) = some r := yH
    have Ny210 := ak hy_; clear hy_
    obtain rfl := Option.some.inj H
    go_wp2_with (first | ((with_reducible refine gate_dst (N := 21) rfl ?_); refine Kd.R_lit Kd.string _ 9 ?hg (N := 21) ?hd (xs := ([] : List ByteArray)) (inner := []) (ok := fun _ => True) (okp := fun _ => True) ?hr ?hp (fun _ hk => hk) trivial (Below.refl _ _) (Nat.le_refl _) (by simp) ?_; (case hd => rfl); (case hg => rfl); (case hr => first | (go_simp; done) | (go_simp; rfl)); (case hp => exact (Reps.none _ _)); intro v200 w27 ho28 hb hg_ hnew_; clear hg_ hnew_; (first | rw [← Ny199.out] at ho28 | (simp only [Int.reduceToNat] at ho28; rw [← Ny199.out] at ho28)); have HO201 := ak (Kd.R_lower ho28 (below_size (belowd HB))); replace HB := ak (below_step (belowd HB) hb); clear hb ho28; obtain ⟨i029, hi029, _, hsz29, _⟩ := info_parts info9; obtain ⟨hcut29, hA29, hC29⟩ := print_take_of (P := Tryz.prog) Value.string (⟨#[]⟩ : ByteArray) 62 9 .i64 Tryz.underlying62 hi029 hsz29 A0 c0 l0 x5_1 (da) (da) HC0.out; have HR202 := Aside0.mk (Kd.C_of_reads (h1 := fun _ => rfl) (hA29 _ (Kd.reads_of_C HR0.out))); have HC202 := Aside0.mk hC29; clear hA29 hC29 hi029 hsz29) | ((with_reducible refine gate_builtin (b := .append) (xs := #[.tmp 21, .tmp 24]) rfl ?_); at_builtin; refine Kd.R_append_rows Kd.string (w0 := w) w.heap.size rfl (.tmp 21) (.tmp 24) 62 9 (.string ⟨#[]⟩) 16 rfl Tryz.underlying62 info9 rfl (by decide) (by omega) v200 y199 (l0.take (x5_1 : Int).toNat) _ _ _ (fun _ => True) (fun _ => False) rfl rfl ?aO ?aR (fun _ _ h => h) (fun _ h => h.elim) ?aF ?aB ?aS ?aL ?_; (case aR => first | (refine Eq.mp (congrArg (fun z_ => ReadsRow _ _ _ _ z_ _) (show (l0.take (x5_1 : Int).toNat).length = x5_1.toNat from (by rw [List.length_take]; have h_ : (x5_1 : Int) ≤ (l0.length : Int) := da; omega))) ?_; exact cd (Kd.C_below HR202.out HB.out)) | (rw [← show (l0.take (x5_1 : Int).toNat).length = x5_1.toNat from (by rw [List.length_take]; have h_ : (x5_1 : Int) ≤ (l0.length : Int) := da; omega)]; exact cd (Kd.C_below HR202.out HB.out)) | (exact cd (Kd.C_below HR202.out HB.out))); (case aB => exact (belowd HB)); (case aF => exact (fun _ _ => trivial)); (case aO => exact (rdl HO201)); (case aS => exact (below_size (belowd HB))); (case aL => have := LMc22.out; have hlx_ := (show (l0.take (x5_1 : Int).toNat).length = x5_1.toNat from (by rw [List.length_take]; have h_ : (x5_1 : Int) ≤ (l0.length : Int) := da; omega)); omega); intro v204 w30 ho hb hg hat; rw [← Ny203.out] at ho; replace HB := ak (hb); have HO205 := ak (ho); clear HO201; clear ho hb hg hat) | ((with_reducible refine gate_builtin (b := .append) (xs := #[.tmp 26, .tmp 28]) rfl ?_); at_builtin; refine Kd.R_append Kd.string (w0 := w) w.heap.size rfl (.tmp 26) (.tmp 28) 62 9 (.string ⟨#[]⟩) 16 rfl Tryz.underlying62 info9 rfl (by decide) (by omega) v204 y203 a1 [.string a1] (fun _ => True) (fun _ => False) rfl rfl ?aP (fun _ hk => hk.elim) ?aF ?aO ?aB ?aS ?aL ?_; (case aP => exact rfl); (case aB => exact (belowd HB)); (case aF => exact (fun _ _ => trivial)); (case aO => exact (rdl HO205)); (case aS => exact (below_size (belowd HB))); (case aL => have := LMc23.out; omega); intro v207 w31 ho hb hg hat; rw [← Ny206.out] at ho; replace HB := ak (hb); have HO208 := ak (ho); clear HO205; clear ho hb hg hat; obtain ⟨i032, hi032, _, hsz32, _⟩ := info_parts info9; obtain ⟨A32, hcut32, hA32, hC32⟩ := print_drop_of (P := Tryz.prog) Value.string (⟨#[]⟩ : ByteArray) 62 9 .i64 Tryz.underlying62 hi032 hsz32 A0 c0 l0 x5_1 (da) (da) HC0.out; have HR209 := Aside0.mk (Kd.C_of_reads (h1 := fun _ => rfl) (hA32 _ (Kd.reads_of_C HR0.out))); have HC209 := Aside0.mk hC32; clear hA32 hC32 hi032 hsz32) | ((with_reducible refine gate_builtin (b := .append) (xs := #[.tmp 30, .tmp 33]) rfl ?_); at_builtin; refine Kd.R_append_rows Kd.string (w0 := w) w.heap.size rfl (.tmp 30) (.tmp 33) 62 9 (.string ⟨#[]⟩) 16 rfl Tryz.underlying62 info9 rfl (by decide) (by omega) v207 y206 (l0.drop (x5_1 : Int).toNat) _ _ _ (fun _ => True) (fun _ => False) rfl rfl ?aO ?aR (fun _ _ h => h) (fun _ h => h.elim) ?aF ?aB ?aS ?aL ?_; (case aR => first | (refine Eq.mp (congrArg (fun z_ => ReadsRow _ _ _ _ z_ _) (show (l0.drop (x5_1 : Int).toNat).length = (l0.length - x5_1.toNat) from List.length_drop)) ?_; exact cd (Kd.C_below HR209.out HB.out)) | (rw [← show (l0.drop (x5_1 : Int).toNat).length = (l0.length - x5_1.toNat) from List.length_drop]; exact cd (Kd.C_below HR209.out HB.out)) | (exact cd (Kd.C_below HR209.out HB.out))); (case aB => exact (belowd HB)); (case aF => exact (fun _ _ => trivial)); (case aO => exact (rdl HO208)); (case aS => exact (below_size (belowd HB))); (case aL => have := LMc26.out; have hlx_ := (show (l0.drop (x5_1 : Int).toNat).length = (l0.length - x5_1.toNat) from List.length_drop); omega); intro v211 w33 ho hb hg hat; rw [← Ny210.out] at ho; replace HB := ak (hb); have HO212 := ak (ho); clear HO208; clear ho hb hg hat))
    go_ret
    exact ⟨_, er2, by (with_reducible repeat (first | apply Kd.R_alloc | apply Kd.R_drewN | apply Kd.R_drew)); exact HO212.out, belowd HB⟩

/-! ### spec_l17Come: function 89 -/
def spec_l17Come.T3 : Bool × List (List Nat × List Nat) := (true, [([], []), ([0], [0]), ([], []), ([], []), ([3], [3]), ([], []), ([4, 5], [4, 5]), ([6], [6]), ([], []), ([7, 8], [7, 8]), ([1, 2, 0, 1, 2, 3, 4, 5, 6, 7, 8, 9], [1, 2]), ([10, 9, 9, 0, 1, 2, 3, 4, 5, 6, 7, 8, 9], [9, 10])])
def spec_l17Come.B3 : List Nat := [0, 1, 0, 0, 8, 0, 56, 120, 0, 504, 1023, 2047]
theorem spec_l17Come.tab3 : rtab .any (opsOf Tryz.f89 3) = spec_l17Come.T3 := by kernel_rfl
theorem spec_l17Come.bits3 : waitsOk spec_l17Come.T3.2 spec_l17Come.B3 = true := by kernel_rfl
def spec_l17Come.T4 : Bool × List (List Nat × List Nat) := (true, [([], []), ([0], [0]), ([], []), ([], []), ([3], [3]), ([], []), ([4, 5], [4, 5]), ([6], [6]), ([], []), ([7, 8], [7, 8]), ([1, 2, 0, 1, 2, 3, 4, 5, 6, 7, 8, 9], [1, 2]), ([10, 9, 9, 0, 1, 2, 3, 4, 5, 6, 7, 8, 9], [9, 10])])
def spec_l17Come.B4 : List Nat := [0, 1, 0, 0, 8, 0, 56, 120, 0, 504, 1023, 2047]
theorem spec_l17Come.tab4 : rtab .any (opsOf Tryz.f89 4) = spec_l17Come.T4 := by kernel_rfl
theorem spec_l17Come.bits4 : waitsOk spec_l17Come.T4.2 spec_l17Come.B4 = true := by kernel_rfl
def spec_l17Come.f (k : Nat) (n : Nt) (i : Int) (s : ByteArray) : Option Nt := if 0 ≤ i ∧ i < (n.ps.length : Int) ∧ i < (n.ss.length : Int) then (spec_l17Has.f k (n.ss.getD i.toNat []) s).bind fun b => if b = true ∨ (n.ss.getD i.toNat []).length = 100 then some n else (spec_l8Place.f k (n.ss.getD i.toNat []) s).bind fun S => (spec_l8Place.f k (n.ps.getD i.toNat []) s).bind fun P => some ⟨n.ks, n.ps.set i.toNat P, n.ss.set i.toNat S, n.ib, n.sd⟩ else none
theorem spec_l17Come.keeps {k : Nat} {n m : Nt} {i : Int} {s : ByteArray} (h : spec_l17Come.f k n i s = some m) : m.ks = n.ks ∧ m.ib = n.ib ∧ m.sd = n.sd := by
 unfold spec_l17Come.f at h
 replace h := ifS h; obtain ⟨-, h⟩ := h
 replace h := bS h; obtain ⟨b, -, h⟩ := h
 split at h
 ·obtain rfl := Option.some.inj h; exact ⟨rfl, rfl, rfl⟩
 ·replace h := bS h; obtain ⟨_, -, h⟩ := h; replace h := bS h; obtain ⟨_, -, h⟩ := h; obtain rfl := Option.some.inj h; exact ⟨rfl, rfl, rfl⟩
set_option maxHeartbeats 16000000 in
set_option maxRecDepth 100000 in
theorem spec_l17Come.calls {k : Nat} {v0 v1 v2 v3 : Value} {n m : Nt} {i : Int} {s : ByteArray} {L : List SA} {w0 w : World} (hs : Sep w0 w (netA v0 v1 v2 v3 n ++ L)) (h : spec_l17Come.f k n i s = some m) :
    Calls Tryz.prog 89 #[.agg #[v0, v1, v2, v3, .int .i64 n.sd], .int .i64 i, .string s] w fun e w' => e = .returned (.agg #[v0, v1, v2, v3, .int .i64 n.sd]) ∧ Sep w0 w' (netA v0 v1 v2 v3 m ++ L) := by
 have hu27 := Tryz.underlying27
 obtain ⟨ks, ps, ss, ib, sd⟩ := n
 have HS : Sep w0 w (rA KI 3 v0 ks :: sA KT 62 v1 ps :: sA KT 62 v2 ss :: sA KT 62 v3 ib :: L) := hs
 clear hs
 unfold spec_l17Come.f at h
 dsimp only at h ⊢
 replace h := ifS h; obtain ⟨⟨i0, i1, i2⟩, h⟩ := h
 obtain ⟨A0, c0, rfl⟩ := HS.slR 0
 obtain ⟨A3, c3, rfl⟩ := HS.slS 3
 obtain ⟨g1, q1, rfl⟩ := HS.addr 1 (hx := by omega)
 obtain ⟨g2, q2, rfl⟩ := HS.addr 2 (hx := by omega)
 have p0 : (0 ≤ i) = True := eq_true i0
 have p1 : (i < (ps.length : Int)) = True := eq_true i1
 have p2 : (i < (ss.length : Int)) = True := eq_true i2
 obtain ⟨AP, qP, HS, -, -⟩ := HS.fr1.lend i i0 i1
 obtain ⟨AS, qS, HS, -, -⟩ := HS.fr3.lend i i0 i2
 generalize hS : ss.getD i.toNat [] = S at HS h
 generalize hP : ps.getD i.toNat [] = P at HS h
 have GS := ak hS; have GP := ak hP; clear hS hP
 replace h := bS h; obtain ⟨b, T1, h⟩ := h
 by_cases hb : b = true ∨ S.length = 100
 ·rw [if_pos hb] at h
  obtain rfl := Option.some.inj h
  clear h
  have hl : b = false → ((S.length : Int) == 100) = true := fun e => beq_iff_eq.2 (by rcases hb with h | h; (rw [e] at h; cases h); omega)
  clear hb
  cases b
  all_goals
   first | replace hl := hl rfl | clear hl
   go_enter Tryz.func89, Tryz.ntmps89
   go_wp2_with (first | ((with_reducible refine gate_dst (N := 3) rfl ?_); refine boxev 3 #[.slice A0 ks.length c0, .slice (some ⟨g1, 0, none⟩) ps.length q1, .slice (some ⟨g2, 0, none⟩) ss.length q2, .slice A3 ib.length c3, .int .i64 sd] 27 ?_; intro b3 hg_ W_ ho_ hb_; replace HS := HS.box hg_ ho_ hb_; clear hg_ ho_ hb_; obtain ⟨z30, z31, z32, z33, z34, f30, f31, f32, f33, f34⟩ := box5 (HS.blk 0)) | ((with_reducible refine gate_dst (N := 6) rfl ?_); refine boxev 6 #[.slice none 0 0, .slice none 0 0, .slice none 0 0, .slice none 0 0, .int .i64 0] 27 ?_; intro b6 hg_ W_ ho_ hb_; replace HS := HS.box hg_ ho_ hb_; clear hg_ ho_ hb_; clear z30 z31 z32 z33 z34 f30 f31 f32 f33 f34; obtain ⟨z60, z61, z62, z63, z64, f60, f61, f62, f63, f64⟩ := box5 (HS.blk 0); clear z60 z61 z62 z63 z64 f60 f61 f62 f63 f64; obtain ⟨z60, z61, z62, z63, z64, f60, f61, f62, f63, f64⟩ := box5 (HS.blk 0); obtain ⟨z30, z31, z32, z33, z34, f30, f31, f32, f33, f34⟩ := box5 (HS.blk 1); obtain ⟨hcgs, hfgs⟩ := HS.fr2.hole i0 i2) | (go_at_call 83; have HC_ := spec_l17Has.calls k _ _ S s _ _ (HS.rdR 3).2.2 (HS.rdR 3).2.1 T1.out; refine HC_.mono ?_; clear HC_; rintro e W_ ⟨rfl, nd_, rfl⟩; replace HS := HS.drewN nd_; generalize World.drewN _ nd_ = W_ at HS ⊢; clear z60 z61 z62 z63 z64 f60 f61 f62 f63 f64 z30 z31 z32 z33 z34 f30 f31 f32 f33 f34 hcgs hfgs; obtain ⟨z60, z61, z62, z63, z64, f60, f61, f62, f63, f64⟩ := box5 (HS.blk 0); obtain ⟨z30, z31, z32, z33, z34, f30, f31, f32, f33, f34⟩ := box5 (HS.blk 1); obtain ⟨hcgs, hfgs⟩ := HS.fr2.hole i0 i2))
   have HF := HS.put5I 0 (.slice A0 ks.length c0) (.slice (some ⟨g1, 0, none⟩) ps.length q1) (.slice (some ⟨g2, 0, none⟩) ss.length q2) (.slice A3 ib.length c3) (.int .i64 sd)
   refine bodyPost_ret (results_cell_row rfl _ _ b6 27 #[.slice A0 ks.length c0, .slice (some ⟨g1, 0, none⟩) ps.length q1, .slice (some ⟨g2, 0, none⟩) ss.length q2, .slice A3 ib.length c3, .int .i64 sd] (0, 0) _ rfl (by exact (HF.blk 0).out) Tryz.underlying27 rfl (by kernel_rfl)) rfl ?_
   replace HS := HF
   replace HS := HS.fr3.fr3.back0 GS
   replace HS := HS.fr4.fr4.back0 GP
   replace HS := HS.fr2.tail
   replace HS := HS.fr2.tail
   exact ⟨rfl, HS.fr3.fr2.fr2.fr3⟩
 ·rw [if_neg hb] at h
  obtain ⟨hb1, hb2⟩ := not_or.1 hb
  obtain rfl : b = false := by simpa using hb1
  have hl : ((S.length : Int) == 100) = false := beq_eq_false_iff_ne.2 (fun e => hb2 (by omega))
  clear hb hb1 hb2
  replace h := bS h; obtain ⟨S', T2, h⟩ := h
  replace h := bS h; obtain ⟨P', T3, h⟩ := h
  obtain rfl := Option.some.inj h
  clear h
  go_enter Tryz.func89, Tryz.ntmps89
  go_upto_region 3 with (first | ((with_reducible refine gate_dst (N := 3) rfl ?_); refine boxev 3 #[.slice A0 ks.length c0, .slice (some ⟨g1, 0, none⟩) ps.length q1, .slice (some ⟨g2, 0, none⟩) ss.length q2, .slice A3 ib.length c3, .int .i64 sd] 27 ?_; intro b3 hg_ W_ ho_ hb_; replace HS := HS.box hg_ ho_ hb_; clear hg_ ho_ hb_; obtain ⟨z30, z31, z32, z33, z34, f30, f31, f32, f33, f34⟩ := box5 (HS.blk 0)) | ((with_reducible refine gate_dst (N := 6) rfl ?_); refine boxev 6 #[.slice none 0 0, .slice none 0 0, .slice none 0 0, .slice none 0 0, .int .i64 0] 27 ?_; intro b6 hg_ W_ ho_ hb_; replace HS := HS.box hg_ ho_ hb_; clear hg_ ho_ hb_; clear z30 z31 z32 z33 z34 f30 f31 f32 f33 f34; obtain ⟨z60, z61, z62, z63, z64, f60, f61, f62, f63, f64⟩ := box5 (HS.blk 0); clear z60 z61 z62 z63 z64 f60 f61 f62 f63 f64; obtain ⟨z60, z61, z62, z63, z64, f60, f61, f62, f63, f64⟩ := box5 (HS.blk 0); obtain ⟨z30, z31, z32, z33, z34, f30, f31, f32, f33, f34⟩ := box5 (HS.blk 1); obtain ⟨hcgs, hfgs⟩ := HS.fr2.hole i0 i2) | (go_at_call 83; have HC_ := spec_l17Has.calls k _ _ S s _ _ (HS.rdR 3).2.2 (HS.rdR 3).2.1 T1.out; refine HC_.mono ?_; clear HC_; rintro e W_ ⟨rfl, nd_, rfl⟩; replace HS := HS.drewN nd_; generalize World.drewN _ nd_ = W_ at HS ⊢; clear z60 z61 z62 z63 z64 f60 f61 f62 f63 f64 z30 z31 z32 z33 z34 f30 f31 f32 f33 f34 hcgs hfgs; obtain ⟨z60, z61, z62, z63, z64, f60, f61, f62, f63, f64⟩ := box5 (HS.blk 0); obtain ⟨z30, z31, z32, z33, z34, f30, f31, f32, f33, f34⟩ := box5 (HS.blk 1); obtain ⟨hcgs, hfgs⟩ := HS.fr2.hole i0 i2))
  clear z60 z61 z62 z63 z64 f60 f61 f62 f63 f64 z30 z31 z32 z33 z34 f30 f31 f32 f33 f34 hcgs hfgs
  obtain ⟨z30, z31, z32, z33, z34, f30, f31, f32, f33, f34⟩ := box5 (HS.blk 1)
  obtain ⟨hcgs, hfgs⟩ := HS.fr2.hole i0 i2
  refine start_ (n := 12) (S := fun w' => w'.cell? ⟨b3, 0, none⟩ = some (.slice A0 ks.length c0) ∧ w'.cell? ⟨b3, 1, none⟩ = some (.slice (some ⟨g1, 0, none⟩) ps.length q1) ∧ w'.cell? ⟨b3, 2, none⟩ = some (.slice (some ⟨g2, 0, none⟩) ss.length q2) ∧ w'.cell? ⟨b3, 3, none⟩ = some (.slice A3 ib.length c3) ∧ w'.cell? ⟨b3, 4, none⟩ = some (.int .i64 sd) ∧ w'.cell? ⟨g2, i.toNat, none⟩ = some (.slice AS S.length qS)) (ds := [11]) (bl 12 0) (by kernel_rfl) rfl rfl ⟨z30, z31, z32, z33, z34, hcgs⟩ (fun hHeld => ?_); refine with_tabW spec_l17Come.tab3 spec_l17Come.bits3 (fun HT_ HW_ => ?_)
  clear z30 z31 z32 z33 z34 f30 f31 f32 f33 f34 hcgs hfgs
  replace HS := HS.drew
  generalize World.drew _ = W9_ at HS hHeld ⊢
  refine pureA 0 (some 24) 12 1 HT_ ?_
  refine takeA 1 (some 25) 12 3 HT_ HW_ hHeld ?_ (hy := by rintro w' ⟨s0, s1, s2, s3, s4, s5⟩; go_simp; with_reducible rfl)
  refine pureA 2 (some 26) 12 7 HT_ ?_
  refine pureA 3 (some 27) 12 15 HT_ ?_
  refine takeA 4 (some 28) 12 31 HT_ HW_ hHeld ?_ (hy := by rintro w' ⟨s0, s1, s2, s3, s4, s5⟩; go_simp; with_reducible rfl)
  refine pureA 5 (some 29) 12 63 HT_ ?_
  refine pureA 6 (some 30) 12 127 HT_ ?_
  refine takeA 7 (some 31) 12 255 HT_ HW_ hHeld ?_ (hy := by rintro w' ⟨s0, s1, s2, s3, s4, s5⟩; go_simp; with_reducible rfl)
  refine pureA 8 (some 32) 12 511 HT_ ?_
  refine oneA 9 (some 33) 12 1023 HT_ (fun K hK => ?_)
  refine goes_ Tryz.func114 (by kernel_rfl) rfl #[.slice AS S.length qS, .string s] (by rfl) rfl rfl (by (try simp only [List.map_toArray, List.map_cons, List.map_nil]); first | done | rfl) ?_
  have HC_ := spec_l8Place.calls k _ _ S s S' _ (HS.rdR 3).2.2 (HS.rdR 3).2.1 T2.out
  refine HC_.mono ?_
  clear HC_ hHeld
  rintro e W_ ⟨u_, rfl, ho_, hb_⟩
  refine ⟨_, rfl, ?_⟩
  replace HS := HS.new (A := rA Kd.string 9 u_ S') hb_ ho_
  obtain ⟨AS1, qS1, rfl⟩ := HS.slR 0
  clear ho_ hb_
  obtain ⟨z30, z31, z32, z33, z34, f30, f31, f32, f33, f34⟩ := box5 (HS.blk 2)
  obtain ⟨hcgs, hfgs⟩ := HS.fr3.hole i0 i2
  refine hK.out _ _ ⟨z30, z31, z32, z33, z34, hcgs⟩ (fun hHeld => ?_)
  clear hK K z30 z31 z32 z33 z34 f30 f31 f32 f33 f34 hcgs hfgs
  refine norm_ (a' := ?_) ?_ ?_
  rotate_left
  ·show Act.put _ (some 33) _ = _
   simp only [Act.put, List.setIfInBounds_toArray, List.set_cons_zero, List.set_cons_succ, i64_w, i32_w]
   rfl
  refine pureA 10 (some 34) 12 2047 HT_ ?_
  refine last_ (i := 11) (N := none) (bl 12 4095) rfl rfl (one_of HT_.out (by kernel_rfl)) (by decide) (fun K hK => ?_)
  clear hHeld
  obtain ⟨hcgs, hfgs⟩ := HS.fr3.hole i0 i2
  refine skip_ (w1 := ?_) (by rfl) rfl ?_ ?_
  rotate_left
  ·go_simp
   rfl
  clear hcgs hfgs
  replace HS := HS.fr3.hput i0 i2 (.slice AS1 S'.length qS1) rfl
  refine hK.out _ _ ?_
  clear hK K
  refine done_ (done_of HT_.out (by kernel_rfl)) ?_
  clear HT_ HW_
  obtain ⟨W5_, e5_, H5_⟩ := HS.gen
  rw [e5_]
  clear HS e5_
  have HS := H5_
  clear H5_
  replace HS := HS.back
  replace HS := HS.fr3.tail
  go_upto_region 4 with fail
  obtain ⟨z30, z31, z32, z33, z34, f30, f31, f32, f33, f34⟩ := box5 (HS.blk 2)
  obtain ⟨hcgp, hfgp⟩ := HS.fr3.hole i0 i1
  refine start_ (n := 12) (S := fun w' => w'.cell? ⟨b3, 0, none⟩ = some (.slice A0 ks.length c0) ∧ w'.cell? ⟨b3, 1, none⟩ = some (.slice (some ⟨g1, 0, none⟩) ps.length q1) ∧ w'.cell? ⟨b3, 2, none⟩ = some (.slice (some ⟨g2, 0, none⟩) ss.length q2) ∧ w'.cell? ⟨b3, 3, none⟩ = some (.slice A3 ib.length c3) ∧ w'.cell? ⟨b3, 4, none⟩ = some (.int .i64 sd) ∧ w'.cell? ⟨g1, i.toNat, none⟩ = some (.slice AP P.length qP)) (ds := [11]) (bl 12 0) (by kernel_rfl) rfl rfl ⟨z30, z31, z32, z33, z34, hcgp⟩ (fun hHeld => ?_); refine with_tabW spec_l17Come.tab4 spec_l17Come.bits4 (fun HT_ HW_ => ?_)
  clear z30 z31 z32 z33 z34 f30 f31 f32 f33 f34 hcgp hfgp
  replace HS := HS.drew
  generalize World.drew _ = W9_ at HS hHeld ⊢
  refine pureA 0 (some 35) 12 1 HT_ ?_
  refine takeA 1 (some 36) 12 3 HT_ HW_ hHeld ?_ (hy := by rintro w' ⟨s0, s1, s2, s3, s4, s5⟩; go_simp; with_reducible rfl)
  refine pureA 2 (some 37) 12 7 HT_ ?_
  refine pureA 3 (some 38) 12 15 HT_ ?_
  refine takeA 4 (some 39) 12 31 HT_ HW_ hHeld ?_ (hy := by rintro w' ⟨s0, s1, s2, s3, s4, s5⟩; go_simp; with_reducible rfl)
  refine pureA 5 (some 40) 12 63 HT_ ?_
  refine pureA 6 (some 41) 12 127 HT_ ?_
  refine takeA 7 (some 42) 12 255 HT_ HW_ hHeld ?_ (hy := by rintro w' ⟨s0, s1, s2, s3, s4, s5⟩; go_simp; with_reducible rfl)
  refine pureA 8 (some 43) 12 511 HT_ ?_
  refine oneA 9 (some 44) 12 1023 HT_ (fun K hK => ?_)
  refine goes_ Tryz.func114 (by kernel_rfl) rfl #[.slice AP P.length qP, .string s] (by rfl) rfl rfl (by (try simp only [List.map_toArray, List.map_cons, List.map_nil]); first | done | rfl) ?_
  have HC_ := spec_l8Place.calls k _ _ P s P' _ (HS.rdR 4).2.2 (HS.rdR 4).2.1 T3.out
  refine HC_.mono ?_
  clear HC_ hHeld
  rintro e W_ ⟨u_, rfl, ho_, hb_⟩
  refine ⟨_, rfl, ?_⟩
  replace HS := HS.new (A := rA Kd.string 9 u_ P') hb_ ho_
  obtain ⟨AP1, qP1, rfl⟩ := HS.slR 0
  clear ho_ hb_
  obtain ⟨z30, z31, z32, z33, z34, f30, f31, f32, f33, f34⟩ := box5 (HS.blk 3)
  obtain ⟨hcgp, hfgp⟩ := HS.fr4.hole i0 i1
  refine hK.out _ _ ⟨z30, z31, z32, z33, z34, hcgp⟩ (fun hHeld => ?_)
  clear hK K z30 z31 z32 z33 z34 f30 f31 f32 f33 f34 hcgp hfgp
  refine norm_ (a' := ?_) ?_ ?_
  rotate_left
  ·show Act.put _ (some 44) _ = _
   simp only [Act.put, List.setIfInBounds_toArray, List.set_cons_zero, List.set_cons_succ, i64_w, i32_w]
   rfl
  refine pureA 10 (some 45) 12 2047 HT_ ?_
  refine last_ (i := 11) (N := none) (bl 12 4095) rfl rfl (one_of HT_.out (by kernel_rfl)) (by decide) (fun K hK => ?_)
  clear hHeld
  obtain ⟨hcgp, hfgp⟩ := HS.fr4.hole i0 i1
  refine skip_ (w1 := ?_) (by rfl) rfl ?_ ?_
  rotate_left
  ·go_simp
   rfl
  clear hcgp hfgp
  replace HS := HS.fr4.hput i0 i1 (.slice AP1 P'.length qP1) rfl
  refine hK.out _ _ ?_
  clear hK K
  refine done_ (done_of HT_.out (by kernel_rfl)) ?_
  clear HT_ HW_
  obtain ⟨W5_, e5_, H5_⟩ := HS.gen
  rw [e5_]
  clear HS e5_
  have HS := H5_
  clear H5_
  replace HS := HS.back
  replace HS := HS.fr4.tail
  obtain ⟨z60, z61, z62, z63, z64, f60, f61, f62, f63, f64⟩ := box5 (HS.blk 2)
  obtain ⟨z30, z31, z32, z33, z34, f30, f31, f32, f33, f34⟩ := box5 (HS.blk 3)
  go_wp2
  have HF := HS.put5I 2 (.slice A0 ks.length c0) (.slice (some ⟨g1, 0, none⟩) ps.length q1) (.slice (some ⟨g2, 0, none⟩) ss.length q2) (.slice A3 ib.length c3) (.int .i64 sd)
  refine bodyPost_ret (results_cell_row rfl _ _ b6 27 #[.slice A0 ks.length c0, .slice (some ⟨g1, 0, none⟩) ps.length q1, .slice (some ⟨g2, 0, none⟩) ss.length q2, .slice A3 ib.length c3, .int .i64 sd] (0, 0) _ rfl (by exact (HF.blk 2).out) Tryz.underlying27 rfl (by kernel_rfl)) rfl ?_
  replace HS := HF
  replace HS := HS.fr2.tail
  replace HS := HS.fr2.tail
  exact ⟨rfl, HS.fr3.fr2.fr2.fr3⟩

/-! ### spec_l17Tick: function 53 -/
def spec_l17Tick.T12 : Bool × List (List Nat × List Nat) := (true, [([], []), ([0], [0]), ([], []), ([], []), ([3], [3]), ([], []), ([4, 5], [4, 5]), ([6], [6]), ([], []), ([8], [8]), ([9], [9]), ([7, 10], [7, 10]), ([1, 2, 0, 1, 2, 3, 4, 5, 6, 7, 8, 9, 10, 11], [1, 2]), ([12, 11, 11, 0, 1, 2, 3, 4, 5, 6, 7, 8, 9, 10, 11], [11, 12])])
def spec_l17Tick.B12 : List Nat := [0, 1, 0, 0, 8, 0, 56, 120, 0, 256, 768, 2040, 4095, 8191]
theorem spec_l17Tick.tab12 : rtab .any (opsOf Tryz.f53 12) = spec_l17Tick.T12 := by kernel_rfl
theorem spec_l17Tick.bits12 : waitsOk spec_l17Tick.T12.2 spec_l17Tick.B12 = true := by kernel_rfl
def spec_l17Tick.l0 (k : Nat) (i : Int) (z : Bool) : List ByteArray → Nt → Option Nt
  | [], n => some n
  | s :: r, n => if i < (n.ks.length : Int) then (spec_PeelOnion.f k (rd n.ks i) s).bind fun (x, y, b, o) => if o = false then spec_l17Tick.l0 k i z r n else if z = false then (if x = 1 then (spec_l17Come.f k n (wrap64 (i + 1)) y).bind fun n' => spec_l17Tick.l0 k i z r n' else spec_l17Tick.l0 k i z r n) else (spec_l1In.f (wrap64 (x - 2)) 0 3).bind fun c => if c = false then spec_l17Tick.l0 k i z r n else if b = (⟨#[]⟩ : ByteArray) then spec_l17Tick.l0 k i z r n else if 0 ≤ wrap64 (x - 2) ∧ wrap64 (x - 2) < (n.ib.length : Int) then (if (n.ib.getD (wrap64 (x - 2)).toNat []).length < 60 then spec_l17Tick.l0 k i z r ⟨n.ks, n.ps, n.ss, n.ib.set (wrap64 (x - 2)).toNat (n.ib.getD (wrap64 (x - 2)).toNat [] ++ [b]), n.sd⟩ else spec_l17Tick.l0 k i z r n) else none else none
def spec_l17Tick.f (k : Nat) (n : Nt) (i : Int) : Option Nt := if 0 ≤ i ∧ i < (n.ps.length : Int) ∧ i < (n.ks.length : Int) ∧ 0 < n.ib.length ∧ (n.ps.getD i.toNat []).length ≤ 1048576 then spec_l17Tick.l0 k i (i == wrap64 ((n.ks.length : Int) - 1)) (n.ps.getD i.toNat []) ⟨n.ks, n.ps.set i.toNat [], n.ss, n.ib, n.sd⟩ else none
set_option maxHeartbeats 16000000 in
set_option maxRecDepth 100000 in
theorem spec_l17Tick.calls {k : Nat} {v0 v1 v2 v3 : Value} {n m : Nt} {i : Int} {L : List SA} {w0 w : World} (hs : Sep w0 w (netA v0 v1 v2 v3 n ++ L)) (h : spec_l17Tick.f k n i = some m) :
    Calls Tryz.prog 53 #[.agg #[v0, v1, v2, v3, .int .i64 n.sd], .int .i64 i] w fun e w' => e = .returned (.agg #[v0, v1, v2, v3, .int .i64 n.sd]) ∧ Sep w0 w' (netA v0 v1 v2 v3 m ++ L) := by
 have hu27 := Tryz.underlying27
 obtain ⟨ks, ps, ss, ib, sd⟩ := n
 have HS : Sep w0 w (rA KI 3 v0 ks :: sA KT 62 v1 ps :: sA KT 62 v2 ss :: sA KT 62 v3 ib :: L) := hs
 clear hs
 unfold spec_l17Tick.f at h
 dsimp only at h ⊢
 replace h := ifS h; obtain ⟨⟨i0, i1, i2, i3, i4⟩, h⟩ := h
 obtain ⟨A2, c2, rfl⟩ := HS.slS 2
 obtain ⟨g0, q0, rfl⟩ := HS.addrR 0 (hx := by omega)
 obtain ⟨g1, q1, rfl⟩ := HS.addr 1 (hx := by omega)
 obtain ⟨g3, q3, rfl⟩ := HS.addr 3 (hx := by omega)
 have p0 : (0 ≤ i) = True := eq_true i0
 have p1 : (i < (ps.length : Int)) = True := eq_true i1
 have p2 : (i < (ks.length : Int)) = True := eq_true i2
 obtain ⟨AP, qP, HS, -, -⟩ := HS.fr1.lend i i0 i1
 generalize ps.getD i.toNat [] = P at HS h i4
 have I4 := ak i4; have H' := ak h; clear i4 h
 have hz_ : ∃ z, (i == wrap64 ((ks.length : Int) - 1)) = z := ⟨_, rfl⟩
 obtain ⟨z, hz⟩ := hz_
 rw [hz] at H'
 go_enter Tryz.func53, Tryz.ntmps53
 go_upto_region 3 with (first | ((with_reducible refine gate_dst (N := 2) rfl ?_); refine boxev 2 #[.slice (some ⟨g0, 0, none⟩) ks.length q0, .slice (some ⟨g1, 0, none⟩) ps.length q1, .slice A2 ss.length c2, .slice (some ⟨g3, 0, none⟩) ib.length q3, .int .i64 sd] 27 ?_; intro b2 hg_ W_ ho_ hb_; replace HS := HS.box hg_ ho_ hb_; clear hg_ ho_ hb_; obtain ⟨z20, z21, z22, z23, z24, f20, f21, f22, f23, f24⟩ := box5 (HS.blk 0)) | ((with_reducible refine gate_dst (N := 4) rfl ?_); refine boxev 4 #[.slice none 0 0, .slice none 0 0, .slice none 0 0, .slice none 0 0, .int .i64 0] 27 ?_; intro b4 hg_ W_ ho_ hb_; replace HS := HS.box hg_ ho_ hb_; clear hg_ ho_ hb_; clear z20 z21 z22 z23 z24 f20 f21 f22 f23 f24; obtain ⟨z40, z41, z42, z43, z44, f40, f41, f42, f43, f44⟩ := box5 (HS.blk 0); clear z40 z41 z42 z43 z44 f40 f41 f42 f43 f44; obtain ⟨z40, z41, z42, z43, z44, f40, f41, f42, f43, f44⟩ := box5 (HS.blk 0); obtain ⟨z20, z21, z22, z23, z24, f20, f21, f22, f23, f24⟩ := box5 (HS.blk 1); obtain ⟨hcgp, hfgp⟩ := HS.fr2.hole i0 i1))
 clear z40 z41 z42 z43 z44 f40 f41 f42 f43 f44 z20 z21 z22 z23 z24 f20 f21 f22 f23 f24 hcgp hfgp
 replace HS := HS.fr2.hput i0 i1 (.slice none 0 0) rfl
 obtain ⟨W5_, e5_, H5_⟩ := HS.gen
 rw [e5_]
 clear HS e5_
 have HS := H5_
 clear H5_
 replace HS := HS.nilrow Kd.string 9
 replace HS := HS.fr1.back
 replace HS := HS.fr3.fr6.fr6.fr3.fr6.fr5.fr6
 try go_wp2
 go_loopg [23] P.length (fun kq v23 w' => ∃ (j : Nat) (ps' ss' ib' : List (List ByteArray)), v23 = .int .i64 (j : Int) ∧ Aside0 (spec_l17Tick.l0 k i z (P.drop j) ⟨ks, ps', ss', ib', sd⟩ = some m) ∧ j ≤ P.length ∧ P.length - j ≤ kq ∧ ib'.length = ib.length ∧ Sep w0 w' (bA b2 #[.slice (some ⟨g0, 0, none⟩) ks.length q0, .slice (some ⟨g1, 0, none⟩) ps.length q1, .slice A2 ss.length c2, .slice (some ⟨g3, 0, none⟩) ib.length q3, .int .i64 sd] 27 :: bA b4 #[.slice none 0 0, .slice none 0 0, .slice none 0 0, .slice none 0 0, .int .i64 0] 27 :: rA KI 3 (.slice (some ⟨g0, 0, none⟩) ks.length q0) ks :: sA KT 62 (.slice (some ⟨g1, 0, none⟩) ps.length q1) ps' :: sA KT 62 (.slice A2 ss.length c2) ss' :: sA KT 62 (.slice (some ⟨g3, 0, none⟩) ib.length q3) ib' :: rA Kd.string 9 (.slice AP P.length qP) P :: L))
 case atStart => exact ⟨0, _, _, _, rfl, H', Nat.zero_le _, Nat.le_refl _, rfl, HS⟩
 case round =>
  clear HS H'
  obtain ⟨j, ps', ss', ib', rfl, HA, j1, j2, hib, HS⟩ := hrel
  have h := HA.out; clear HA
  by_cases hj : j < P.length
  ·obtain ⟨s, hsj⟩ : ∃ s, rdOf ByteArray.empty P (j : Int) = s := ⟨_, rfl⟩
   have hd : P.drop j = s :: P.drop (j + 1) := by rw [← hsj, List.drop_eq_getElem_cons hj]; simp [rdOf, List.getD_eq_getElem?_getD, List.getElem?_eq_getElem hj]
   rw [hd] at h
   simp only [spec_l17Tick.l0] at h
   rw [if_pos i2] at h
   replace h := bS h; obtain ⟨⟨x, y, b, o⟩, T1, h⟩ := h
   obtain ⟨gP, qP', e⟩ := HS.addrR 6 (hx := by omega)
   obtain rfl : AP = some ⟨gP, 0, none⟩ := by injection e
   clear e
   have hjb : decide ((j : Int) < (P.length : Int)) = true := decide_eq_true (by omega)
   have pj0 : (0 ≤ (j : Int)) = True := eq_true (by omega)
   have pj1 : ((j : Int) < (P.length : Int)) = True := eq_true (by omega)
   have hp0 := HS.cellS 6 (n := P.length) (j : Int) (by omega) (by omega)
   rw [hsj] at hp0
   rw [Int.toNat_natCast] at hp0
   have hk0 := HS.cellI 2 i i0 i2
   obtain ⟨z20, z21, z22, z23, z24, f20, f21, f22, f23, f24⟩ := box5 (HS.blk 0)
   go_upto_region 7 with (first | (go_at_call 88; refine (spec_PeelOnion.calls k _ _ x y b o _ T1.out).mono ?_; rintro e W_ ⟨rfl, hb_⟩; replace HS := HS.below hb_; clear hb_ hp0 hk0; clear z20 z21 z22 z23 z24 f20 f21 f22 f23 f24; obtain ⟨z20, z21, z22, z23, z24, f20, f21, f22, f23, f24⟩ := box5 (HS.blk 0); have hk0 := HS.cellI 2 i i0 i2) | ((with_reducible refine gate_dst (N := 8) rfl ?_); refine boxev 8 #[.int .i64 0, .string (⟨#[]⟩ : ByteArray), .string (⟨#[]⟩ : ByteArray)] 105 ?_; intro b8 hg_ W_ ho_ hb_; replace HS := HS.box hg_ ho_ hb_; clear hg_ ho_ hb_; clear z20 z21 z22 z23 z24 f20 f21 f22 f23 f24; obtain ⟨z80, z81, z82, f80, f81, f82⟩ := box3 (HS.blk 0); clear hk0; clear z80 z81 z82 f80 f81 f82; obtain ⟨z20, z21, z22, z23, z24, f20, f21, f22, f23, f24⟩ := box5 (HS.blk 1); obtain ⟨z80, z81, z82, f80, f81, f82⟩ := box3 (HS.blk 0)))
   clear z20 z21 z22 z23 z24 f20 f21 f22 f23 f24 z80 z81 z82 f80 f81 f82
   obtain ⟨W5_, e5_, H5_⟩ := (((HS.putI 0 0 (.int .i64 x) #[.int .i64 x, .string (⟨#[]⟩ : ByteArray), .string (⟨#[]⟩ : ByteArray)]).putI 0 1 (.string y) #[.int .i64 x, .string y, .string (⟨#[]⟩ : ByteArray)]).putI 0 2 (.string b) #[.int .i64 x, .string y, .string b]).gen
   rw [e5_]
   clear HS e5_
   have HS := H5_
   clear H5_
   obtain ⟨z20, z21, z22, z23, z24, f20, f21, f22, f23, f24⟩ := box5 (HS.blk 1)
   obtain ⟨z80, z81, z82, f80, f81, f82⟩ := box3 (HS.blk 0)
   go_upto_region 9 with fail
   generalize wrap64 (x - 2) = u at h ⊢
   cases o with
   | false =>
    rw [if_pos rfl] at h
    go_wp2
    replace HS := HS.tail
    go_roundg (P.length - (j + 1))
    case measure => omega
    case rel => exact ⟨j + 1, ps', ss', ib', nw_next hj I4.out, ⟨h⟩, hj, Nat.le_refl _, hib, HS⟩
   | true =>
    rw [if_neg (by decide)] at h
    cases z with
    | false =>
     rw [if_pos rfl] at h
     by_cases hx : x = 1
     ·rw [if_pos hx] at h
      have hxb : (x == 1) = true := beq_iff_eq.2 hx
      clear hx
      replace h := bS h; obtain ⟨⟨ks1, ps1, ss1, ib1, sd1⟩, T3, h⟩ := h
      obtain ⟨e1, e2, e3⟩ := spec_l17Come.keeps T3.out
      dsimp only at e1 e2 e3
      replace e1 := e1.symm; replace e2 := e2.symm; replace e3 := e3.symm
      subst e1 e2 e3
      go_wp2_with (first | (go_at_call 89; have HC_ := spec_l17Come.calls (n := ⟨ks, ps', ss', ib', sd⟩) (HS.fr6.fr6.fr6.fr6) T3.out; refine HC_.mono ?_; clear HC_; rintro e W_ ⟨rfl, HS'_⟩; clear HS; have HS := HS'_; clear HS'_; dsimp only [netA, List.cons_append, List.nil_append] at HS; clear z20 z21 z22 z23 z24 f20 f21 f22 f23 f24 z80 z81 z82 f80 f81 f82; obtain ⟨z20, z21, z22, z23, z24, f20, f21, f22, f23, f24⟩ := box5 (HS.blk 5); obtain ⟨z80, z81, z82, f80, f81, f82⟩ := box3 (HS.blk 4)))
      replace HS := HS.fr5.put5 (.slice (some ⟨g0, 0, none⟩) ks.length q0) (.slice (some ⟨g1, 0, none⟩) ps.length q1) (.slice A2 ss.length c2) (.slice (some ⟨g3, 0, none⟩) ib.length q3) (.int .i64 sd)
      replace HS := HS.fr5.tail
      go_roundg (P.length - (j + 1))
      case measure => omega
      case rel => exact ⟨j + 1, ps1, ss1, ib', nw_next hj I4.out, ⟨h⟩, hj, Nat.le_refl _, hib, HS.fr6.fr5.fr5.fr5.fr5.fr6.fr6⟩
     ·rw [if_neg hx] at h
      have hxb : (x == 1) = false := beq_eq_false_iff_ne.2 hx
      clear hx
      go_wp2
      replace HS := HS.tail
      go_roundg (P.length - (j + 1))
      case measure => omega
      case rel => exact ⟨j + 1, ps', ss', ib', nw_next hj I4.out, ⟨h⟩, hj, Nat.le_refl _, hib, HS⟩
    | true =>
     rw [if_neg (by decide)] at h
     replace h := bS h; obtain ⟨c, T2, h⟩ := h
     rcases Bool.eq_false_or_eq_true (x == 1) with hxb | hxb
     all_goals
      cases c with
      | false =>
       rw [if_pos rfl] at h
       go_wp2_with (first | (go_at_call 79; refine (spec_l1In.calls _ _ _ _ _ T2.out).mono ?_; rintro e W_ ⟨rfl, nd_, rfl⟩; replace HS := HS.drewN nd_; generalize World.drewN _ nd_ = W_ at HS ⊢; clear z20 z21 z22 z23 z24 f20 f21 f22 f23 f24 z80 z81 z82 f80 f81 f82; obtain ⟨z20, z21, z22, z23, z24, f20, f21, f22, f23, f24⟩ := box5 (HS.blk 1); obtain ⟨z80, z81, z82, f80, f81, f82⟩ := box3 (HS.blk 0)))
       replace HS := HS.tail
       go_roundg (P.length - (j + 1))
       case measure => omega
       case rel => exact ⟨j + 1, ps', ss', ib', nw_next hj I4.out, ⟨h⟩, hj, Nat.le_refl _, hib, HS⟩
      | true =>
       rw [if_neg (by decide)] at h
       by_cases hb : b = (⟨#[]⟩ : ByteArray)
       ·rw [if_pos hb] at h
        subst hb
        go_wp2_with (first | (go_at_call 79; refine (spec_l1In.calls _ _ _ _ _ T2.out).mono ?_; rintro e W_ ⟨rfl, nd_, rfl⟩; replace HS := HS.drewN nd_; generalize World.drewN _ nd_ = W_ at HS ⊢; clear z20 z21 z22 z23 z24 f20 f21 f22 f23 f24 z80 z81 z82 f80 f81 f82; obtain ⟨z20, z21, z22, z23, z24, f20, f21, f22, f23, f24⟩ := box5 (HS.blk 1); obtain ⟨z80, z81, z82, f80, f81, f82⟩ := box3 (HS.blk 0)))
        replace HS := HS.tail
        go_roundg (P.length - (j + 1))
        case measure => omega
        case rel => exact ⟨j + 1, ps', ss', ib', nw_next hj I4.out, ⟨h⟩, hj, Nat.le_refl _, hib, HS⟩
       ·rw [if_neg hb] at h
        have hbb := nw_nonempty hb
        clear hb
        replace h := ifS h; obtain ⟨⟨u0, u1⟩, h⟩ := h
        rw [hib] at u1
        have pu0 : (0 ≤ u) = True := eq_true u0
        have pu1 : (u < (ib.length : Int)) = True := eq_true u1
        obtain ⟨AI, qI, HS, -, -⟩ := HS.fr6.lend u u0 u1
        generalize hI : ib'.getD u.toNat [] = I at HS h
        have GI := ak hI; clear hI
        clear z20 z21 z22 z23 z24 f20 f21 f22 f23 f24 z80 z81 z82 f80 f81 f82
        obtain ⟨z20, z21, z22, z23, z24, f20, f21, f22, f23, f24⟩ := box5 (HS.blk 3)
        obtain ⟨z80, z81, z82, f80, f81, f82⟩ := box3 (HS.blk 2)
        obtain ⟨hcgi, hfgi⟩ := HS.hole u0 u1
        by_cases hn : I.length < 60
        ·rw [if_pos hn] at h
         have hnb : decide ((I.length : Int) < 60) = true := decide_eq_true (by omega)
         generalize hIb : I ++ [b] = I' at h
         go_upto_region 12 with (first | (go_at_call 79; refine (spec_l1In.calls _ _ _ _ _ T2.out).mono ?_; rintro e W_ ⟨rfl, nd_, rfl⟩; replace HS := HS.drewN nd_; generalize World.drewN _ nd_ = W_ at HS ⊢; clear z20 z21 z22 z23 z24 f20 f21 f22 f23 f24 z80 z81 z82 f80 f81 f82 hcgi hfgi; obtain ⟨z20, z21, z22, z23, z24, f20, f21, f22, f23, f24⟩ := box5 (HS.blk 3); obtain ⟨z80, z81, z82, f80, f81, f82⟩ := box3 (HS.blk 2); obtain ⟨hcgi, hfgi⟩ := HS.hole u0 u1))
         clear z20 z21 z22 z23 z24 f20 f21 f22 f23 f24 z80 z81 z82 f80 f81 f82 hcgi hfgi
         obtain ⟨z20, z21, z22, z23, z24, f20, f21, f22, f23, f24⟩ := box5 (HS.blk 3)
         obtain ⟨z80, z81, z82, f80, f81, f82⟩ := box3 (HS.blk 2)
         obtain ⟨hcgi, hfgi⟩ := HS.hole u0 u1
         refine start_ (n := 14) (S := fun w' => w'.cell? ⟨b2, 0, none⟩ = some (.slice (some ⟨g0, 0, none⟩) ks.length q0) ∧ w'.cell? ⟨b2, 1, none⟩ = some (.slice (some ⟨g1, 0, none⟩) ps.length q1) ∧ w'.cell? ⟨b2, 2, none⟩ = some (.slice A2 ss.length c2) ∧ w'.cell? ⟨b2, 3, none⟩ = some (.slice (some ⟨g3, 0, none⟩) ib.length q3) ∧ w'.cell? ⟨b2, 4, none⟩ = some (.int .i64 sd) ∧ w'.cell? ⟨b8, 0, none⟩ = some (.int .i64 x) ∧ w'.cell? ⟨b8, 1, none⟩ = some (.string y) ∧ w'.cell? ⟨b8, 2, none⟩ = some (.string b) ∧ w'.cell? ⟨g3, u.toNat, none⟩ = some (.slice AI I.length qI)) (ds := [13]) (bl 14 0) (by kernel_rfl) rfl rfl ⟨z20, z21, z22, z23, z24, z80, z81, z82, hcgi⟩ (fun hHeld => ?_); refine with_tabW spec_l17Tick.tab12 spec_l17Tick.bits12 (fun HT_ HW_ => ?_)
         clear z20 z21 z22 z23 z24 f20 f21 f22 f23 f24 z80 z81 z82 f80 f81 f82 hcgi hfgi
         replace HS := HS.drew
         generalize World.drew _ = W9_ at HS hHeld ⊢
         refine pureA 0 (some 86) 14 1 HT_ ?_
         refine takeA 1 (some 87) 14 3 HT_ HW_ hHeld ?_ (hy := by rintro w' ⟨s0, s1, s2, s3, s4, s5, s6, s7, s8⟩; go_simp; with_reducible rfl)
         refine pureA 2 (some 88) 14 7 HT_ ?_
         refine pureA 3 (some 89) 14 15 HT_ ?_
         refine takeA 4 (some 90) 14 31 HT_ HW_ hHeld ?_ (hy := by rintro w' ⟨s0, s1, s2, s3, s4, s5, s6, s7, s8⟩; go_simp; with_reducible rfl)
         refine pureA 5 (some 91) 14 63 HT_ ?_
         refine pureA 6 (some 92) 14 127 HT_ ?_
         refine takeA 7 (some 93) 14 255 HT_ HW_ hHeld ?_ (hy := by rintro w' ⟨s0, s1, s2, s3, s4, s5, s6, s7, s8⟩; go_simp; with_reducible rfl)
         refine pureA 8 (some 94) 14 511 HT_ ?_
         refine takeA 9 (some 95) 14 1023 HT_ HW_ hHeld ?_ (hy := by rintro w' ⟨s0, s1, s2, s3, s4, s5, s6, s7, s8⟩; go_simp; with_reducible rfl)
         refine oneA 10 (some 96) 14 2047 HT_ (fun K hK => ?_)
         clear hHeld
         refine Kd.R_lit_step Kd.string _ 9 ?hg (N := 96) ?hd (xs := ([b] : List ByteArray)) (inner := [.string b]) (ok := fun _ => True) (okp := fun _ => True) ?hr ?hp (fun _ hk => hk) trivial (Below.refl _ _) (Nat.le_refl _) (by simp) ?_
         (case hd => rfl)
         (case hg => rfl)
         (case hr => first | (go_simp; done) | (go_simp; rfl))
         (case hp => exact Reps.one (show Kd.M Kd.string _ _ _ b [.string b] from rfl) (Reps.none _ _))
         intro vU W_ ho_ hb_ _ _
         replace HS := HS.new (A := rA Kd.string 9 vU [b]) hb_ ho_
         clear ho_ hb_
         obtain ⟨AU, qU, rfl⟩ := HS.slR 0
         obtain ⟨z20, z21, z22, z23, z24, f20, f21, f22, f23, f24⟩ := box5 (HS.blk 4)
         obtain ⟨z80, z81, z82, f80, f81, f82⟩ := box3 (HS.blk 3)
         obtain ⟨hcgi, hfgi⟩ := HS.fr1.hole u0 u1
         refine hK.out _ _ ⟨z20, z21, z22, z23, z24, z80, z81, z82, hcgi⟩ (fun hHeld => ?_)
         clear hK K z20 z21 z22 z23 z24 f20 f21 f22 f23 f24 z80 z81 z82 f80 f81 f82 hcgi hfgi
         refine norm_ (a' := ?_) ?_ ?_
         rotate_left
         ·show Act.put _ (some 96) _ = _
          simp only [Act.put, List.setIfInBounds_toArray, List.set_cons_zero, List.set_cons_succ, i64_w, i32_w]
          rfl
         refine oneA 11 (some 97) 14 4095 HT_ (fun K hK => ?_)
         clear hHeld
         have HU := (HS.rdR 0).2.2
         replace HS := HS.fr2
         refine Sep.append Kd.string (by rfl) (.tmp 93) (.tmp 96) 62 9 (.string ⟨#[]⟩) 16 rfl Tryz.underlying62 info9 rfl (by decide) (by omega) (.slice AI I.length qI) I [b] AU 1 qU rfl rfl HS HU (fun _ _ _ _ h => h) (by omega) ?_
         clear HS HU
         intro vI W_ HS
         rw [hIb] at HS
         obtain ⟨AI1, qI1, rfl⟩ := HS.slR 0
         obtain ⟨z20, z21, z22, z23, z24, f20, f21, f22, f23, f24⟩ := box5 (HS.blk 4)
         obtain ⟨z80, z81, z82, f80, f81, f82⟩ := box3 (HS.blk 3)
         obtain ⟨hcgi, hfgi⟩ := HS.fr2.hole u0 u1
         refine hK.out _ _ ⟨z20, z21, z22, z23, z24, z80, z81, z82, hcgi⟩ (fun hHeld => ?_)
         clear hK K z20 z21 z22 z23 z24 f20 f21 f22 f23 f24 z80 z81 z82 f80 f81 f82 hcgi hfgi
         refine norm_ (a' := ?_) ?_ ?_
         rotate_left
         ·show Act.put _ (some 97) _ = _
          simp only [Act.put, List.setIfInBounds_toArray, List.set_cons_zero, List.set_cons_succ, i64_w, i32_w]
          rfl
         refine pureA 12 (some 98) 14 8191 HT_ ?_
         refine last_ (i := 13) (N := none) (bl 14 16383) rfl rfl (one_of HT_.out (by kernel_rfl)) (by decide) (fun K hK => ?_)
         clear hHeld
         obtain ⟨hcgi, hfgi⟩ := HS.fr2.hole u0 u1
         refine skip_ (w1 := ?_) (by rfl) rfl ?_ ?_
         rotate_left
         ·go_simp
          rfl
         clear hcgi hfgi
         replace HS := HS.fr2.hput u0 u1 (.slice AI1 I'.length qI1) rfl
         refine hK.out _ _ ?_
         clear hK K
         refine done_ (done_of HT_.out (by kernel_rfl)) ?_
         clear HT_ HW_
         obtain ⟨W5_, e5_, H5_⟩ := HS.gen
         rw [e5_]
         clear HS e5_
         have HS := H5_
         clear H5_
         replace HS := HS.back
         have hib1 : (ib'.set u.toNat I').length = ib.length := by rw [List.length_set]; exact hib
         go_wp2
         replace HS := HS.fr2.tail
         replace HS := HS.fr1.tail
         go_roundg (P.length - (j + 1))
         case measure => omega
         case rel => exact ⟨j + 1, ps', ss', ib'.set u.toNat I', nw_next hj I4.out, ⟨h⟩, hj, Nat.le_refl _, hib1, HS.fr6.fr1.fr6.fr6.fr6.fr6.fr6⟩
        ·rw [if_neg hn] at h
         have hnb : decide ((I.length : Int) < 60) = false := decide_eq_false (by omega)
         go_wp2_with (first | (go_at_call 79; refine (spec_l1In.calls _ _ _ _ _ T2.out).mono ?_; rintro e W_ ⟨rfl, nd_, rfl⟩; replace HS := HS.drewN nd_; generalize World.drewN _ nd_ = W_ at HS ⊢; clear z20 z21 z22 z23 z24 f20 f21 f22 f23 f24 z80 z81 z82 f80 f81 f82 hcgi hfgi; obtain ⟨z20, z21, z22, z23, z24, f20, f21, f22, f23, f24⟩ := box5 (HS.blk 3); obtain ⟨z80, z81, z82, f80, f81, f82⟩ := box3 (HS.blk 2); obtain ⟨hcgi, hfgi⟩ := HS.hole u0 u1))
         replace HS := HS.back0 GI
         replace HS := HS.fr1.tail
         go_roundg (P.length - (j + 1))
         case measure => omega
         case rel => exact ⟨j + 1, ps', ss', ib', nw_next hj I4.out, ⟨h⟩, hj, Nat.le_refl _, hib, HS.fr6.fr1.fr6.fr6.fr6.fr6.fr6⟩
  ·have hd : P.drop j = [] := List.drop_eq_nil_of_le (by omega)
   rw [hd] at h
   simp only [spec_l17Tick.l0] at h
   obtain rfl := Option.some.inj h
   have hjb : decide ((j : Int) < (P.length : Int)) = false := decide_eq_false (by omega)
   obtain ⟨z20, z21, z22, z23, z24, f20, f21, f22, f23, f24⟩ := box5 (HS.blk 0)
   obtain ⟨z40, z41, z42, z43, z44, f40, f41, f42, f43, f44⟩ := box5 (HS.blk 1)
   go_wp2
   have HF := HS.fr1.put5 (.slice (some ⟨g0, 0, none⟩) ks.length q0) (.slice (some ⟨g1, 0, none⟩) ps.length q1) (.slice A2 ss.length c2) (.slice (some ⟨g3, 0, none⟩) ib.length q3) (.int .i64 sd)
   refine bodyPost_ret (results_cell_row rfl _ _ b4 27 #[.slice (some ⟨g0, 0, none⟩) ks.length q0, .slice (some ⟨g1, 0, none⟩) ps.length q1, .slice A2 ss.length c2, .slice (some ⟨g3, 0, none⟩) ib.length q3, .int .i64 sd] (0, 0) _ rfl (by exact (HF.blk 0).out) Tryz.underlying27 rfl (by kernel_rfl)) rfl ?_
   replace HS := HF
   replace HS := HS.tail
   replace HS := HS.tail
   replace HS := HS.fr4.tail
   exact ⟨rfl, HS⟩
theorem spec_l17Tick.keeps_l {k : Nat} {i : Int} {z : Bool} : ∀ {P : List ByteArray} {n m : Nt}, spec_l17Tick.l0 k i z P n = some m → m.ks = n.ks ∧ m.sd = n.sd
 | [], n, m, h => by
  simp only [spec_l17Tick.l0] at h
  obtain rfl := Option.some.inj h
  exact ⟨rfl, rfl⟩
 | s :: r, n, m, h => by
  have ih : ∀ n' : Nt, spec_l17Tick.l0 k i z r n' = some m → m.ks = n'.ks ∧ m.sd = n'.sd := fun n' h' => spec_l17Tick.keeps_l h'
  simp only [spec_l17Tick.l0] at h
  replace h := ifS h; obtain ⟨-, h⟩ := h
  replace h := bS h; obtain ⟨⟨x, y, b, o⟩, -, h⟩ := h
  dsimp only at h
  repeat' split at h
  all_goals
   first
   | exact ih _ h
   | (replace h := bS h; obtain ⟨n', T, h⟩ := h; obtain ⟨e1, e2, e3⟩ := spec_l17Come.keeps T.out; have := ih _ h; exact ⟨this.1.trans e1, this.2.trans e3⟩)
   | (replace h := bS h; obtain ⟨c, -, h⟩ := h; (repeat' split at h); (all_goals first | exact ih _ h | (have h2 := ih _ h; exact h2) | cases h))
theorem spec_l17Tick.keeps {k : Nat} {n m : Nt} {i : Int} (h : spec_l17Tick.f k n i = some m) : m.ks = n.ks ∧ m.sd = n.sd := by
 unfold spec_l17Tick.f at h
 replace h := ifS h; obtain ⟨-, h⟩ := h
 exact spec_l17Tick.keeps_l (n := ⟨n.ks, n.ps.set i.toNat [], n.ss, n.ib, n.sd⟩) h

/-! ### spec_l7Body: function 128 -/
def spec_l7Body.f (a0 : ByteArray) : Option (Bool) := some (decide ((a0.size : Int) < 16))
set_option maxHeartbeats 8000000 in
set_option maxRecDepth 100000 in
theorem spec_l7Body.calls (a0 : ByteArray) (r : Bool) (w : World) (h : spec_l7Body.f a0 = some r) :
  Calls Tryz.prog 128 #[.string a0] w fun e w' => e = .returned (.bool r) ∧ Drawn0 w w' := by
 have H : (some (decide ((a0.size : Int) < 16))) = some r := h
 clear h
 obtain rfl := Option.some.inj H
 go_enter Tryz.func128, Tryz.ntmps128
 go_wp2
 go_ret
 exact ⟨er, drw⟩

/-! ### spec_l7PadBody: function 129 -/
def spec_l7PadBody.f (a0 : ByteArray) : Option (ByteArray) := if a0.size + 1 ≤ 9223372036854775807 then (if 0 ≤ (wrap64 (15 - (a0.size : Int))) then (if (wrap64 (15 - (a0.size : Int)) : Int).toNat ≤ 281474976710656 then ((some (List.replicate (wrap64 (15 - (a0.size : Int)) : Int).toNat 0 : List Int)).bind fun y213 => (if (a0 ++ (⟨#[128]⟩ : ByteArray)).size + (strOfNums y213).size ≤ 9223372036854775807 then (some ((a0 ++ (⟨#[128]⟩ : ByteArray)) ++ (strOfNums y213))) else (none))) else (none)) else (none)) else (none)
set_option maxHeartbeats 8000000 in
set_option maxRecDepth 100000 in
theorem spec_l7PadBody.calls (a0 : ByteArray) (r : ByteArray) (w : World) (h : spec_l7PadBody.f a0 = some r) :
  Calls Tryz.prog 129 #[.string a0] w fun e w' => e = .returned (.string r) ∧ Below w.heap.size w w' := by
 have HB := Aside0.mk (Below.refl w.heap.size w)
 have H : (if a0.size + 1 ≤ 9223372036854775807 then (if 0 ≤ (wrap64 (15 - (a0.size : Int))) then (if (wrap64 (15 - (a0.size : Int)) : Int).toNat ≤ 281474976710656 then ((some (List.replicate (wrap64 (15 - (a0.size : Int)) : Int).toNat 0 : List Int)).bind fun y213 => (if (a0 ++ (⟨#[128]⟩ : ByteArray)).size + (strOfNums y213).size ≤ 9223372036854775807 then (some ((a0 ++ (⟨#[128]⟩ : ByteArray)) ++ (strOfNums y213))) else (none))) else (none)) else (none)) else (none)) = some r := h
 clear h; replace H := ifS H; obtain ⟨c2, H⟩ := H; have c2b0 := eq_true c2
 have c2b1 : decide (a0.size + 1 ≤ 9223372036854775807) = true := decide_eq_true c2
 try have c2b2 : (9223372036854775807 < a0.size + 1) = False := eq_false (Nat.not_lt.2 c2)
 obtain ⟨ji3, hji3⟩ : ∃ j_ : Int, (wrap64 (15 - (a0.size : Int))) = j_ := ⟨_, rfl⟩
 replace H : (if 0 ≤ (ji3) then (if (ji3 : Int).toNat ≤ 281474976710656 then ((some (List.replicate (ji3 : Int).toNat 0 : List Int)).bind fun y213 => (if (a0 ++ (⟨#[128]⟩ : ByteArray)).size + (strOfNums y213).size ≤ 9223372036854775807 then (some ((a0 ++ (⟨#[128]⟩ : ByteArray)) ++ (strOfNums y213))) else (none))) else (none)) else (none)) = some r := by first | (rw [hji3] at H; exact H) | (simp only [hji3] at H ⊢; exact H)
 have hji3w : (IntKind.i64.wrap (15 - (a0.size : Int))) = ji3 := (i64_w _).trans hji3
 replace H := ifS H; obtain ⟨c4, H⟩ := H; have c4b0 := eq_true c4
 have c4b1 : decide (0 ≤ (ji3)) = true := decide_eq_true c4
 clear c4; replace H := ifS H; obtain ⟨c5, H⟩ := H; have c5b0 := eq_true c5
 have c5b1 : decide ((ji3 : Int).toNat ≤ 281474976710656) = true := decide_eq_true c5
 clear c5
 obtain ⟨y213, hy_⟩ : ∃ y_ : List Int, y_ = (List.replicate (ji3 : Int).toNat 0) := ⟨_, rfl⟩
 replace H : (if (a0 ++ (⟨#[128]⟩ : ByteArray)).size + (strOfNums y213).size ≤ 9223372036854775807 then (some ((a0 ++ (⟨#[128]⟩ : ByteArray)) ++ (strOfNums y213))) else (none)) = some r := yH
 have Ny213 := ak hy_; clear hy_; replace H := ifS H; obtain ⟨c6, H⟩ := H; have c6b0 := eq_true c6
 have c6b1 : decide ((a0 ++ (⟨#[128]⟩ : ByteArray)).size + (strOfNums y213).size ≤ 9223372036854775807) = true := decide_eq_true c6
 try have c6b2 : (9223372036854775807 < (a0 ++ (⟨#[128]⟩ : ByteArray)).size + (strOfNums y213).size) = False := eq_false (Nat.not_lt.2 c6)
 obtain rfl := Option.some.inj H
 go_enter Tryz.func129, Tryz.ntmps129
 go_wp2_with (first | ((with_reducible refine gate_dst (N := 8) rfl ?_); refine Kd.R_make (Kd.int .u8) _ 5 rfl (N := 8) rfl 56 _ _ rfl ji3 rfl rfl Tryz.underlying56 (.int .u8 0) 1 info5 rfl (by decide) (by omega) 0 (ok := fun _ => True) (okp := fun _ => True) rfl (fun _ hk => hk) trivial (da) (Nat.le_trans (Nat.mul_le_mul_right _ (da : ji3.toNat ≤ 281474976710656)) (by omega)) (Below.refl _ _) (Nat.le_refl _) ?_; intro v214 w7 ho8 hb hg_ hnew_; clear hg_ hnew_; (first | rw [← Ny213.out] at ho8 | (simp only [Int.reduceToNat] at ho8; rw [← Ny213.out] at ho8)); have HO215 := ak (Kd.R_lower ho8 (below_size (belowd HB))); replace HB := ak (below_step (belowd HB) hb); clear hb ho8; have hcv9 := own_string (P := Tryz.prog) Tryz.underlying56 Tryz.underlying5 Tryz.underlying9 (Kd.own_of_R HO215.out)))
 go_ret
 exact ⟨by first | rfl | (simp [errW_none, errW_some] <;> rfl) | (simp only [← hji3]; first | rfl | (simp [errW_none, errW_some] <;> rfl)) | (simp [*, errW_none, errW_some] <;> rfl), belowd HB⟩

end Go.Proofs.YtihekdlcfohkkaaGreatDoor.QFnExactPlayNet
