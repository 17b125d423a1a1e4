-- printed by this session's own program (wip/tools/pp.py: the kit's print.py with changes); Lean checks it
import Derived.Test.YtihekdlcfohkkaaGreatDoorQFnExactPlayNetx0
import Derived.Test.YtihekdlcfohkkaaGreatDoorQFnExactPlayNetx2
import Derived.Test.YtihekdlcfohkkaaGreatDoorQFnExactPlayNetx3
namespace Go.Proofs.YtihekdlcfohkkaaGreatDoor.QFnExactPlayNet
open Go.RowKit Go.Proofs.YtihekdlcfohkkaaGreatDoorW.PrintWords Go.Proofs.YtihekdlcfohkkaaGreatDoorW.PrintLast Go.Proofs.YtihekdlcfohkkaaGreatDoorW.PrintMore
attribute [local go_sem] max2_int min2_int max_two min_two max_three min_three max_four min_four strLss strGtr strLeq strGeq   -- for this text's walks alone
set_option linter.unusedVariables false
set_option linter.unusedSimpArgs false

/-! ### nets: what is read of one, what one is made of -/
structure Nt where
  ks : List Int
  ps : List (List ByteArray)
  ss : List (List ByteArray)
  ib : List (List ByteArray)
  sd : Int
abbrev KI : Kd Int := Kd.int .i64
abbrev KT : Kd (List ByteArray) := Kd.slice 9 Kd.string
/-- A net that is read. -/
def NC (W : World) (v0 v1 v2 v3 : Value) (n : Nt) : Prop := ∃ A0 c0 A1 c1 A2 c2 A3 c3, (v0 = .slice A0 n.ks.length c0 ∧ v1 = .slice A1 n.ps.length c1 ∧ v2 = .slice A2 n.ss.length c2 ∧ v3 = .slice A3 n.ib.length c3) ∧ (KI.C W A0 n.ks.length n.ks ∧ n.ks.length ≤ c0) ∧ (KT.C W A1 n.ps.length n.ps ∧ n.ps.length ≤ c1) ∧ (KT.C W A2 n.ss.length n.ss ∧ n.ss.length ≤ c2) ∧ (KT.C W A3 n.ib.length n.ib ∧ n.ib.length ≤ c3)
/-- A net of the call's own: four things. -/
def netA (v0 v1 v2 v3 : Value) (n : Nt) : List SA := [rA KI 3 v0 n.ks, sA KT 62 v1 n.ps, sA KT 62 v2 n.ss, sA KT 62 v3 n.ib]
theorem netA_at (v0 v1 v2 v3 : Value) (n : Nt) (L0 L : List SA) (j : Nat) (hj : j < 4) : (L0 ++ (netA v0 v1 v2 v3 n ++ L)).getD (L0.length + j) nA = (netA v0 v1 v2 v3 n).getD j nA := by
  rw [getD_app_r (by omega), Nat.add_sub_cancel_left, getD_app_l (by simpa [netA] using hj)]
theorem NC.of {W : World} {b : Nat} {c : Nat → Nat} {i : Nat} {v0 v1 v2 v3 : Value} {n : Nt} (h : SepAt c b W i (netA v0 v1 v2 v3 n)) : NC W v0 v1 v2 v3 n := by
  obtain ⟨h0, h1, h2, h3, -⟩ := h
  obtain ⟨A0, c0, e0, l0, r0⟩ := Kd.R_reads h0
  obtain ⟨A1, c1, e1, l1, r1⟩ := Kd.S_reads h1
  obtain ⟨A2, c2, e2, l2, r2⟩ := Kd.S_reads h2
  obtain ⟨A3, c3, e3, l3, r3⟩ := Kd.S_reads h3
  exact ⟨A0, c0, A1, c1, A2, c2, A3, c3, ⟨e0, e1, e2, e3⟩, ⟨r0, l0⟩, ⟨r1, l1⟩, ⟨r2, l2⟩, ⟨r3, l3⟩⟩
theorem SepAt.mid {c : Nat → Nat} {b : Nat} {W : World} : ∀ (L0 : List SA) {L : List SA} {i : Nat}, SepAt c b W i (L0 ++ L) → SepAt c b W (i + L0.length) L
  | [], _, _, h => h
  | _ :: L0, _, i, h => by
    have := SepAt.mid L0 (i := i + 1) h.2
    rw [List.length_cons, show i + (L0.length + 1) = i + 1 + L0.length from by omega]
    exact this
theorem SepAt.left {c : Nat → Nat} {b : Nat} {W : World} : ∀ (L0 : List SA) {L : List SA} {i : Nat}, SepAt c b W i (L0 ++ L) → SepAt c b W i L0
  | [], _, _, _ => trivial
  | _ :: L0, _, _, h => ⟨h.1, SepAt.left L0 h.2⟩
/-- The net behind L0. -/
theorem sepNc {w0 W : World} {L : List SA} {v0 v1 v2 v3 : Value} {n : Nt} (h : Sep w0 W L) (m : Nat) (e : (L.drop m).take 4 = netA v0 v1 v2 v3 n := by rfl) : NC W v0 v1 v2 v3 n := by
  obtain ⟨_, c, h⟩ := h
  have h' : SepAt c w0.heap.size W 0 (L.take m ++ ((L.drop m).take 4 ++ (L.drop m).drop 4)) := by rw [List.take_append_drop, List.take_append_drop]; exact h
  have := SepAt.left _ (SepAt.mid _ h')
  rw [e] at this
  exact NC.of this
theorem NC.slices {W : World} {v0 v1 v2 v3 : Value} {n : Nt} (h : NC W v0 v1 v2 v3 n) : (∃ A c, v0 = .slice A n.ks.length c) ∧ (∃ A c, v1 = .slice A n.ps.length c) ∧ (∃ A c, v2 = .slice A n.ss.length c) ∧ (∃ A c, v3 = .slice A n.ib.length c) := by
  obtain ⟨A0, c0, A1, c1, A2, c2, A3, c3, ⟨e0, e1, e2, e3⟩, _⟩ := h
  exact ⟨⟨_, _, e0⟩, ⟨_, _, e1⟩, ⟨_, _, e2⟩, ⟨_, _, e3⟩⟩
theorem NC.below {W W1 : World} {v0 v1 v2 v3 : Value} {n : Nt} (h : NC W v0 v1 v2 v3 n) (hb : Below W.heap.size W W1) : NC W1 v0 v1 v2 v3 n := by
  obtain ⟨A0, c0, A1, c1, A2, c2, A3, c3, e, ⟨r0, l0⟩, ⟨r1, l1⟩, ⟨r2, l2⟩, ⟨r3, l3⟩⟩ := h
  exact ⟨A0, c0, A1, c1, A2, c2, A3, c3, e, ⟨Kd.C_below r0 hb, l0⟩, ⟨Kd.C_below r1 hb, l1⟩, ⟨Kd.C_below r2 hb, l2⟩, ⟨Kd.C_below r3 hb, l3⟩⟩
/-- A net that has just been made. -/
def MadeNet (w : World) (n : Nt) (b : Bool) (e : Ending) (w' : World) : Prop := ∃ v0 v1 v2 v3 : Value, e = .returned (.tuple #[.agg #[v0, v1, v2, v3, .int .i64 n.sd], .bool b]) ∧ (∃ c, SepAt c w.heap.size w' 0 (netA v0 v1 v2 v3 n)) ∧ Below w.heap.size w w'
def MadeNet1 (w : World) (n : Nt) (e : Ending) (w' : World) : Prop := ∃ v0 v1 v2 v3 : Value, e = .returned (.agg #[v0, v1, v2, v3, .int .i64 n.sd]) ∧ (∃ c, SepAt c w.heap.size w' 0 (netA v0 v1 v2 v3 n)) ∧ Below w.heap.size w w'
theorem made_of {w w' : World} {v0 v1 v2 v3 : Value} {r1 : List Int} {r2 r3 r4 : List (List ByteArray)} {g1 g2 g3 : Nat} {sd : Int} (h0 : KI.R 3 w' w.heap.size (fun _ => True) v0 r1) (h1 : Kd.S KT 62 w' w.heap.size (fun k_ => k_ = g1) v1 r2) (h2 : Kd.S KT 62 w' w.heap.size (fun k_ => k_ = g2) v2 r3) (h3 : Kd.S KT 62 w' w.heap.size (fun k_ => k_ = g3) v3 r4) (hn : g1 ≠ g2 ∧ g1 ≠ g3 ∧ g2 ≠ g3) : ∃ c, SepAt c w.heap.size w' 0 (netA v0 v1 v2 v3 ⟨r1, r2, r3, r4, sd⟩) := by
  classical
  obtain ⟨n1, n2, n3⟩ := hn
  refine ⟨fun k => if (∃ cells, w'.heap[k]? = some (.cells cells 3 (0, 0))) then 0 else if k = g1 then 1 else if k = g2 then 2 else if k = g3 then 3 else 4, ?_, ?_, ?_, ?_, trivial⟩
  · refine Kd.R_mono (Kd.R_bound h0) (fun k hk => if_pos ?_)
    obtain ⟨_, _, _, q, hq, hc⟩ := hk
    have : q = 3 := by simpa [Kd.int, Kd.scalar] using hq
    subst this
    exact hc
  all_goals
    first
    | refine Kd.S_mono (Kd.S_bound h1) (fun k hk => ?_)
    | refine Kd.S_mono (Kd.S_bound h2) (fun k hk => ?_)
    | refine Kd.S_mono (Kd.S_bound h3) (fun k hk => ?_)
    obtain ⟨hk, _, _, q, hq, cells, hc⟩ := hk
    have hne : ¬ ∃ cells, w'.heap[k]? = some (.cells cells 3 (0, 0)) := by
      rintro ⟨cells', hc'⟩
      rw [hc] at hc'
      injection hc' with hc'
      injection hc' with _ hc'
      subst hc'
      simp [Kd.slice, Kd.string, Kd.scalar] at hq
    simp only [if_neg hne]
    subst hk
  · rw [if_pos rfl]
  · rw [if_neg (Ne.symm n1), if_pos rfl]
  · rw [if_neg (Ne.symm n2), if_neg (Ne.symm n3), if_pos rfl]
theorem nw_next {j n : Nat} (h : j < n) (hn : n ≤ 1048576) : Value.int .i64 (wrap64 ((j : Int) + 1)) = Value.int .i64 ((j + 1 : Nat) : Int) := by
  rw [IntWalk.wrap64_in _ (by omega)]
  rfl
theorem nw_nonempty {b : ByteArray} (h : ¬ b = (⟨#[]⟩ : ByteArray)) : b.toList.isEmpty = false := by
  rw [List.isEmpty_eq_false_iff]
  intro e
  rw [ByteArray.toList_eq] at e
  exact h (congrArg ByteArray.mk (Array.toList_inj.1 e))
/-- The net that stands first has been made. -/
theorem nw_apart {w W : World} {L : List SA} {v0 v1 v2 v3 : Value} {n : Nt} (h : Sep w W (netA v0 v1 v2 v3 n ++ L)) : ∃ c, SepAt c w.heap.size W 0 (netA v0 v1 v2 v3 n) := by
  obtain ⟨_, c, h⟩ := h
  exact ⟨c, SepAt.left _ h⟩
/-- A net of nothing. -/
theorem nw_none {w W : World} {L : List SA} (h : Sep w W L) : ∃ c, SepAt c w.heap.size W 0 (netA (.slice none 0 0) (.slice none 0 0) (.slice none 0 0) (.slice none 0 0) ⟨[], [], [], [], 0⟩) :=
  nw_apart ((((h.nilS KT 62).nilS KT 62).nilS KT 62).nilrow KI 3)
/-! ### spec_l17Own: function 52 -/
def spec_l17Own.T1 : Bool × List (List Nat × List Nat) := (true, [([], []), ([], []), ([1], [1]), ([0, 2], [0, 2]), ([], []), ([4], [4]), ([5, 3], [5]), ([], []), ([7], [7]), ([8, 6], [8]), ([], []), ([10], [10]), ([11, 9], [11]), ([], []), ([13], [13]), ([3, 6, 9, 12, 14], [3, 6, 9, 12, 14]), ([15, 12, 0, 1, 2, 3, 4, 5, 6, 7, 8, 9, 10, 11, 12, 13, 14, 15], [15])])
def spec_l17Own.B1 : List Nat := [0, 0, 2, 7, 0, 16, 63, 0, 128, 511, 0, 1024, 4095, 0, 8192, 32767, 65535]
theorem spec_l17Own.tab1 : rtab .any (opsOf Tryz.f52 1) = spec_l17Own.T1 := by kernel_rfl
theorem spec_l17Own.bits1 : waitsOk spec_l17Own.T1.2 spec_l17Own.B1 = true := by kernel_rfl
def spec_l17Own.f (k : Nat) (n : Nt) : Option Nt := if n.ks.length ≤ 1048576 then (spec_l17Rows.f k n.ps).bind fun t1 => (spec_l17Rows.f k n.ss).bind fun t2 => (spec_l17Rows.f k n.ib).bind fun t3 => some ⟨n.ks, t1, t2, t3, n.sd⟩ else none
set_option maxHeartbeats 16000000 in
set_option maxRecDepth 100000 in
theorem spec_l17Own.calls {k : Nat} {v0 v1 v2 v3 : Value} {n r : Nt} {w : World} (hn : NC w v0 v1 v2 v3 n) (h : spec_l17Own.f k n = some r) :
    Calls Tryz.prog 52 #[.agg #[v0, v1, v2, v3, .int .i64 n.sd]] w (MadeNet1 w r) := by
 obtain ⟨A0, c0, A1, c1, A2, c2, A3, c3, ⟨rfl, rfl, rfl, rfl⟩, ⟨x0, y0⟩, ⟨x1, y1⟩, ⟨x2, y2⟩, ⟨x3, y3⟩⟩ := hn
 have X0 := ak x0; have X1 := ak x1; have X2 := ak x2; have X3 := ak x3; have Y0 := ak y0; have Y1 := ak y1; have Y2 := ak y2; have Y3 := ak y3
 clear x0 x1 x2 x3 y0 y1 y2 y3
 obtain ⟨ks, ps, ss, ib, sd⟩ := n
 dsimp only at X0 X1 X2 X3 Y0 Y1 Y2 Y3 ⊢
 have hu27 := Tryz.underlying27
 have HS := Sep.nil w
 unfold spec_l17Own.f at h
 dsimp only at h
 replace h := ifS h; obtain ⟨hn, h⟩ := h
 have HN := ak hn; clear hn
 replace h := bS h; obtain ⟨t1, T1, h⟩ := h
 replace h := bS h; obtain ⟨t2, T2, h⟩ := h
 replace h := bS h; obtain ⟨t3, T3, h⟩ := h
 obtain rfl := Option.some.inj h
 clear h
 go_enter Tryz.func52, Tryz.ntmps52
 go_upto_region 1 with (first | ((with_reducible refine gate_dst (N := 1) rfl ?_); refine boxev 1 #[.slice A0 ks.length c0, .slice A1 ps.length c1, .slice A2 ss.length c2, .slice A3 ib.length c3, .int .i64 sd] 27 ?_; intro b1 hg_ W_ ho_ hb_; replace HS := HS.box hg_ ho_ hb_; clear hg_ ho_ hb_; obtain ⟨z10, z11, z12, z13, z14, f10, f11, f12, f13, f14⟩ := box5 (HS.blk 0)) | ((with_reducible refine gate_dst (N := 2) rfl ?_); refine boxev 2 #[.slice none 0 0, .slice none 0 0, .slice none 0 0, .slice none 0 0, .int .i64 0] 27 ?_; intro b2 hg_ W_ ho_ hb_; replace HS := HS.box hg_ ho_ hb_; clear hg_ ho_ hb_; clear z10 z11 z12 z13 z14 f10 f11 f12 f13 f14; obtain ⟨z20, z21, z22, z23, z24, f20, f21, f22, f23, f24⟩ := box5 (HS.blk 0); clear z20 z21 z22 z23 z24 f20 f21 f22 f23 f24; obtain ⟨z20, z21, z22, z23, z24, f20, f21, f22, f23, f24⟩ := box5 (HS.blk 0); obtain ⟨z10, z11, z12, z13, z14, f10, f11, f12, f13, f14⟩ := box5 (HS.blk 1)))
 clear z20 z21 z22 z23 z24 f20 f21 f22 f23 f24 z10 z11 z12 z13 z14 f10 f11 f12 f13 f14
 obtain ⟨z10, z11, z12, z13, z14, f10, f11, f12, f13, f14⟩ := box5 (HS.blk 1)
 refine start_ (n := 17) (S := fun w' => w'.cell? ⟨b1, 0, none⟩ = some (.slice A0 ks.length c0) ∧ w'.cell? ⟨b1, 1, none⟩ = some (.slice A1 ps.length c1) ∧ w'.cell? ⟨b1, 2, none⟩ = some (.slice A2 ss.length c2) ∧ w'.cell? ⟨b1, 3, none⟩ = some (.slice A3 ib.length c3) ∧ w'.cell? ⟨b1, 4, none⟩ = some (.int .i64 sd)) (ds := []) (bl 17 0) (by kernel_rfl) rfl rfl ⟨z10, z11, z12, z13, z14⟩ (fun hHeld => ?_); refine with_tabW spec_l17Own.tab1 spec_l17Own.bits1 (fun HT_ HW_ => ?_)
 clear z10 z11 z12 z13 z14 f10 f11 f12 f13 f14
 replace HS := HS.drew
 generalize World.drew _ = W9_ at HS hHeld ⊢
 refine pureA 1 (some 4) 17 2 HT_ ?_
 refine takeA 2 (some 5) 17 6 HT_ HW_ hHeld ?_ (hy := by rintro w' ⟨s0, s1, s2, s3, s4⟩; go_simp; with_reducible rfl)
 refine pureA 4 (some 7) 17 22 HT_ ?_
 refine takeA 5 (some 8) 17 54 HT_ HW_ hHeld ?_ (hy := by rintro w' ⟨s0, s1, s2, s3, s4⟩; go_simp; with_reducible rfl)
 refine pureA 7 (some 10) 17 182 HT_ ?_
 refine takeA 8 (some 11) 17 438 HT_ HW_ hHeld ?_ (hy := by rintro w' ⟨s0, s1, s2, s3, s4⟩; go_simp; with_reducible rfl)
 refine pureA 10 (some 13) 17 1462 HT_ ?_
 refine takeA 11 (some 14) 17 3510 HT_ HW_ hHeld ?_ (hy := by rintro w' ⟨s0, s1, s2, s3, s4⟩; go_simp; with_reducible rfl)
 refine pureA 13 (some 16) 17 11702 HT_ ?_
 refine takeA 14 (some 17) 17 28086 HT_ HW_ hHeld ?_ (hy := by rintro w' ⟨s0, s1, s2, s3, s4⟩; go_simp; with_reducible rfl)
 refine oneA 0 (some 3) 17 28087 HT_ (fun K hK => ?_)
 clear hHeld
 refine Kd.R_lit_step (Kd.int .i64) _ 3 ?hg (N := 3) ?hd (xs := ([] : List Int)) (inner := []) (ok := fun _ => True) (okp := fun _ => True) ?hr ?hp (fun _ hk => hk) trivial (Below.refl _ _) (Nat.le_refl _) (by simp) ?_
 (case hd => rfl)
 (case hg => rfl)
 (case hr => first | (go_simp; done) | (go_simp; rfl))
 (case hp => exact (Reps.none _ _))
 intro u0 W_ ho_ hb_ _ _
 replace HS := HS.new (A := rA KI 3 u0 []) hb_ ho_
 clear ho_ hb_
 obtain ⟨z10, z11, z12, z13, z14, f10, f11, f12, f13, f14⟩ := box5 (HS.blk 2)
 refine hK.out _ _ ⟨z10, z11, z12, z13, z14⟩ (fun hHeld => ?_)
 clear hK K z10 z11 z12 z13 z14 f10 f11 f12 f13 f14
 refine norm_ (a' := ?_) ?_ ?_
 rotate_left
 ·show Act.put _ (some 3) _ = _
  simp only [Act.put, List.setIfInBounds_toArray, List.set_cons_zero, List.set_cons_succ, i64_w, i32_w]
  rfl
 refine oneA 3 (some 6) 17 28095 HT_ (fun K hK => ?_)
 clear hHeld
 refine Sep.append KI (by rfl) (.tmp 3) (.tmp 5) 22 3 (.int .i64 0) 8 rfl Tryz.underlying22 info3 rfl (by decide) (by omega) u0 [] ks A0 ks.length c0 rfl rfl HS (Kd.C_below X0.out HS.base) (fun _ _ _ _ h => h) ?aL ?_
 (case aL => have := HN.out; simp only [List.length_nil]; omega)
 clear HS
 intro u4 W_ HS
 rw [List.nil_append] at HS
 obtain ⟨B0, d0, rfl⟩ := HS.slR 0
 obtain ⟨z10, z11, z12, z13, z14, f10, f11, f12, f13, f14⟩ := box5 (HS.blk 2)
 refine hK.out _ _ ⟨z10, z11, z12, z13, z14⟩ (fun hHeld => ?_)
 clear hK K z10 z11 z12 z13 z14 f10 f11 f12 f13 f14
 refine norm_ (a' := ?_) ?_ ?_
 rotate_left
 ·show Act.put _ (some 6) _ = _
  simp only [Act.put, List.setIfInBounds_toArray, List.set_cons_zero, List.set_cons_succ, i64_w, i32_w]
  rfl
 refine oneA 6 (some 9) 17 28159 HT_ (fun K hK => ?_)
 refine goes_ Tryz.func87 (by kernel_rfl) rfl #[.slice A1 ps.length c1] (by rfl) rfl rfl (by (try simp only [List.map_toArray, List.map_cons, List.map_nil]); first | done | rfl) ?_
 have HC_ := spec_l17Rows.calls k _ _ ps t1 _ (Kd.C_below X1.out HS.base) Y1.out T1.out
 refine HC_.mono ?_
 clear HC_ hHeld
 rintro e W_ ⟨u1, rfl, ho_, hb_⟩
 refine ⟨_, rfl, ?_⟩
 replace HS := HS.new (A := sA KT 62 u1 t1) hb_ ho_
 obtain ⟨B1, d1, rfl⟩ := HS.slS 0
 clear ho_ hb_
 obtain ⟨z10, z11, z12, z13, z14, f10, f11, f12, f13, f14⟩ := box5 (HS.blk 3)
 refine hK.out _ _ ⟨z10, z11, z12, z13, z14⟩ (fun hHeld => ?_)
 clear hK K z10 z11 z12 z13 z14 f10 f11 f12 f13 f14
 refine norm_ (a' := ?_) ?_ ?_
 rotate_left
 ·show Act.put _ (some 9) _ = _
  simp only [Act.put, List.setIfInBounds_toArray, List.set_cons_zero, List.set_cons_succ, i64_w, i32_w]
  rfl
 refine oneA 9 (some 12) 17 28671 HT_ (fun K hK => ?_)
 refine goes_ Tryz.func87 (by kernel_rfl) rfl #[.slice A2 ss.length c2] (by rfl) rfl rfl (by (try simp only [List.map_toArray, List.map_cons, List.map_nil]); first | done | rfl) ?_
 have HC_ := spec_l17Rows.calls k _ _ ss t2 _ (Kd.C_below X2.out HS.base) Y2.out T2.out
 refine HC_.mono ?_
 clear HC_ hHeld
 rintro e W_ ⟨u2, rfl, ho_, hb_⟩
 refine ⟨_, rfl, ?_⟩
 replace HS := HS.new (A := sA KT 62 u2 t2) hb_ ho_
 obtain ⟨B2, d2, rfl⟩ := HS.slS 0
 clear ho_ hb_
 obtain ⟨z10, z11, z12, z13, z14, f10, f11, f12, f13, f14⟩ := box5 (HS.blk 4)
 refine hK.out _ _ ⟨z10, z11, z12, z13, z14⟩ (fun hHeld => ?_)
 clear hK K z10 z11 z12 z13 z14 f10 f11 f12 f13 f14
 refine norm_ (a' := ?_) ?_ ?_
 rotate_left
 ·show Act.put _ (some 12) _ = _
  simp only [Act.put, List.setIfInBounds_toArray, List.set_cons_zero, List.set_cons_succ, i64_w, i32_w]
  rfl
 refine oneA 12 (some 15) 17 32767 HT_ (fun K hK => ?_)
 refine goes_ Tryz.func87 (by kernel_rfl) rfl #[.slice A3 ib.length c3] (by rfl) rfl rfl (by (try simp only [List.map_toArray, List.map_cons, List.map_nil]); first | done | rfl) ?_
 have HC_ := spec_l17Rows.calls k _ _ ib t3 _ (Kd.C_below X3.out HS.base) Y3.out T3.out
 refine HC_.mono ?_
 clear HC_ hHeld
 rintro e W_ ⟨u3, rfl, ho_, hb_⟩
 refine ⟨_, rfl, ?_⟩
 replace HS := HS.new (A := sA KT 62 u3 t3) hb_ ho_
 obtain ⟨B3, d3, rfl⟩ := HS.slS 0
 clear ho_ hb_
 obtain ⟨z10, z11, z12, z13, z14, f10, f11, f12, f13, f14⟩ := box5 (HS.blk 5)
 refine hK.out _ _ ⟨z10, z11, z12, z13, z14⟩ (fun hHeld => ?_)
 clear hK K z10 z11 z12 z13 z14 f10 f11 f12 f13 f14
 refine norm_ (a' := ?_) ?_ ?_
 rotate_left
 ·show Act.put _ (some 15) _ = _
  simp only [Act.put, List.setIfInBounds_toArray, List.set_cons_zero, List.set_cons_succ, i64_w, i32_w]
  rfl
 refine pureA 15 (some 18) 17 65535 HT_ ?_
 refine oneA 16 none 17 131071 HT_ (fun K hK => ?_)
 clear hHeld
 obtain ⟨z20, z21, z22, z23, z24, f20, f21, f22, f23, f24⟩ := box5 (HS.blk 4)
 refine skip_ (w1 := ?_) (by rfl) rfl ?_ ?_
 rotate_left
 ·go_simp
  rfl
 replace HS := (((((HS.putI 4 0 (.slice B0 ks.length d0) #[.slice B0 ks.length d0, .slice none 0 0, .slice none 0 0, .slice none 0 0, .int .i64 0]).putI 4 1 (.slice B1 t1.length d1) #[.slice B0 ks.length d0, .slice B1 t1.length d1, .slice none 0 0, .slice none 0 0, .int .i64 0]).putI 4 2 (.slice B2 t2.length d2) #[.slice B0 ks.length d0, .slice B1 t1.length d1, .slice B2 t2.length d2, .slice none 0 0, .int .i64 0]).putI 4 3 (.slice B3 t3.length d3) #[.slice B0 ks.length d0, .slice B1 t1.length d1, .slice B2 t2.length d2, .slice B3 t3.length d3, .int .i64 0]).putI 4 4 (.int .i64 sd) #[.slice B0 ks.length d0, .slice B1 t1.length d1, .slice B2 t2.length d2, .slice B3 t3.length d3, .int .i64 sd])
 clear z20 z21 z22 z23 z24 f20 f21 f22 f23 f24
 obtain ⟨z10, z11, z12, z13, z14, f10, f11, f12, f13, f14⟩ := box5 (HS.blk 5)
 refine hK.out _ _ ⟨z10, z11, z12, z13, z14⟩ (fun hHeld => ?_)
 clear hK K z10 z11 z12 z13 z14 f10 f11 f12 f13 f14
 refine done_ (done_of HT_.out (by kernel_rfl)) ?_
 clear HT_ HW_ hHeld
 go_wp2
 refine bodyPost_ret (results_cell_row rfl _ _ b2 27 #[.slice B0 ks.length d0, .slice B1 t1.length d1, .slice B2 t2.length d2, .slice B3 t3.length d3, .int .i64 sd] (0, 0) _ rfl (by exact (HS.blk 4).out) Tryz.underlying27 rfl (by kernel_rfl)) rfl ?_
 exact ⟨_, _, _, _, rfl, (HS.sel [3, 2, 1, 0]).cols, HS.base⟩

/-! ### spec_l4Key: function 109 -/
def spec_l4Key.f (a0 : Int) : Option (Bool) := (spec_l1In.f a0 0 65535).bind fun t162 => (some t162)
set_option maxHeartbeats 8000000 in
set_option maxRecDepth 100000 in
theorem spec_l4Key.calls (a0 : Int) (r : Bool) (w : World) (h : spec_l4Key.f a0 = some r) :
  Calls Tryz.prog 109 #[.int .i64 a0] w fun e w' => e = .returned (.bool r) ∧ Drawn0 w w' := by
 have H : ((spec_l1In.f a0 0 65535).bind fun t162 => (some t162)) = some r := h
 clear h; replace H := bS H; obtain ⟨t162, A2, H⟩ := H
 replace H : (some t162) = some r := H
 obtain rfl := Option.some.inj H
 go_enter Tryz.func109, Tryz.ntmps109
 go_wp2_with (first | ((with_reducible refine gate_callee (f := 79) rfl ?_); refine goesLa (some 4) rfl Tryz.func79 #[.int .i64 a0, .int .i64 0, .int .i64 65535] rfl ?_; (with_reducible refine (spec_l1In.calls a0 0 65535 t162 _ A2.out).mono ?_); rintro e w' ⟨rfl, ⟨nd, rfl⟩⟩; refine ⟨_, rfl, ?_⟩))
 go_ret
 exact ⟨er, drw⟩

/-! ### the words of xor: bytes of a conversion, written one by one -/
def xorT (a b : ByteArray) : ByteArray := strOfNums ((List.range a.size).map fun (i : Nat) => Go.bits .xor .u8 (bt a (i : Int)) (bt b (i : Int)))
/-- The row behind []byte(a), its first i bytes done. -/
def XorAt (a b : ByteArray) (g : Nat) (i : Int) (W : World) : Prop := ∃ cs e mk, W.heap[g]? = some (.cells cs e (cs.size, mk)) ∧ a.size ≤ cs.size ∧ ∀ j, j < a.size → cs[j]? = some (.int .u8 (if (j : Int) < i then Go.bits .xor .u8 (bt a (j : Int)) (bt b (j : Int)) else bt a (j : Int)))
theorem XorAt.start (a b : ByteArray) (W : World) (e : TypeId) : XorAt a b W.heap.size 0 (Lib.bytesWorld W e a) := by
 refine ⟨_, _, _, Lib.bytesWorld_at_new W e a, ?_, fun j hj => ?_⟩
 ·simp [Lib.bytesCells]
 ·have h := Lib.bytesWorld_cell W e a j hj
  have h' : j < a.data.toList.length := by rw [data_length]; exact hj
  simp only [World.cell?, Lib.bytesWorld_at_new] at h
  rw [if_neg (by omega)]
  refine Eq.trans (b := some (Value.int .u8 (a.data.toList.getD j 0).toNat)) h ?_
  have h2 : (a.data.toList.getD j 0).toNat = bt a (j : Int) := by
   have h3 : (j : Int).toNat < a.size := by omega
   simp only [bt, dif_pos h3, List.getD_eq_getElem?_getD, List.getElem?_eq_getElem h', Option.getD_some]
   rfl
  rw [h2]
theorem XorAt.cell {a b : ByteArray} {g : Nat} {i : Int} {W : World} (h : XorAt a b g i W) (h0 : 0 ≤ i) (h1 : i < (a.size : Int)) : W.cell? ⟨g, i.toNat, none⟩ = some (.int .u8 (bt a i)) ∧ W.frozen? ⟨g, i.toNat, none⟩ = false := by
 obtain ⟨cs, e, mk, hc, hs, hv⟩ := h
 have hi : i.toNat < a.size := by omega
 have hv' := hv i.toNat hi
 rw [if_neg (by omega), Int.toNat_of_nonneg h0] at hv'
 constructor
 ·simp only [World.cell?, hc]
  exact hv'
 ·simp only [World.frozen?, hc]
  simp
  omega
theorem XorAt.put {a b : ByteArray} {g : Nat} {i : Int} {W : World} (h : XorAt a b g i W) (h0 : 0 ≤ i) (h1 : i < (a.size : Int)) (hm : a.size ≤ 1048576) : XorAt a b g (wrap64 (i + 1)) (W.setCell ⟨g, i.toNat, none⟩ (.int .u8 (Go.bits .xor .u8 (bt a i) (bt b i)))) := by
 obtain ⟨cs, e, mk, hc, hs, hv⟩ := h
 refine ⟨cs.setIfInBounds i.toNat (.int .u8 (Go.bits .xor .u8 (bt a i) (bt b i))), e, mk, by simp [World.setCell, Array.getElem?_modify, hc], by simpa using hs, fun j hj => ?_⟩
 have hw : wrap64 (i + 1) = i + 1 := IntWalk.wrap64_in _ (by omega)
 rw [Array.getElem?_setIfInBounds, hw]
 by_cases e1 : i.toNat = j
 ·subst e1
  rw [if_pos rfl, if_pos (by omega), if_pos (by omega), Int.toNat_of_nonneg h0]
 ·rw [if_neg e1, hv j hj]
  by_cases e2 : (j : Int) < i
  ·rw [if_pos e2, if_pos (by omega)]
  ·rw [if_neg e2, if_neg (by omega)]
theorem XorAt.drew {a b : ByteArray} {g : Nat} {i : Int} {W : World} (h : XorAt a b g i W) (n : Nat) : XorAt a b g i (W.drewN n) := h
theorem XorAt.done {a b : ByteArray} {g : Nat} {i : Int} {W : World} (h : XorAt a b g i W) (h1 : ¬ i < (a.size : Int)) (hl : a.size ≤ 9223372036854775807) : ReadsInt W .u8 (some ⟨g, 0, none⟩) a.size ((List.range a.size).map fun (i : Nat) => Go.bits .xor .u8 (bt a (i : Int)) (bt b (i : Int))) := by
 obtain ⟨cs, e, mk, hc, hs, hv⟩ := h
 refine ⟨by simp, hl, fun _ => ⟨_, rfl, fun j hj => ?_⟩⟩
 have := hv j hj
 rw [if_pos (by omega)] at this
 rw [add_plain]
 simp only [World.cell?, hc]
 simpa [hj] using this
/-! ### spec_l7Xor: function 110 -/
def spec_l7Xor.f (k : Nat) (a0 a1 : ByteArray) : Option ByteArray := if a0.size ≤ a1.size then (if a0.size ≤ 1048576 then some (xorT a0 a1) else none) else none
theorem spec_l7Xor.mono : ∀ a0 a1 k, LeO (spec_l7Xor.f k a0 a1) (spec_l7Xor.f (k + 1) a0 a1) := fun _ _ _ => LeO.refl _
set_option maxHeartbeats 8000000 in
set_option maxRecDepth 100000 in
theorem spec_l7Xor.calls (k : Nat) (a0 a1 : ByteArray) (r : ByteArray) (w : World) (h : spec_l7Xor.f k a0 a1 = some r) :
 Calls Tryz.prog 110 #[.string a0, .string a1] w fun e w' => e = .returned (.string r) ∧ Below w.heap.size w w' := by
 unfold spec_l7Xor.f at h
 replace h := ifS h; obtain ⟨hl, h⟩ := h
 replace h := ifS h; obtain ⟨hm, h⟩ := h
 obtain rfl := Option.some.inj h
 clear h
 have HL := ak hl; have HM := ak hm; clear hl hm
 have HCV := ak (fun W => print_bytes (P := Tryz.prog) 9 56 5 Tryz.underlying9 Tryz.underlying56 Tryz.underlying5 a0 W)
 go_enter Tryz.func110, Tryz.ntmps110
 have HX0 := ak (XorAt.start a0 a1 w 5)
 have HB0 := ak (bytes_below (Below.refl w.heap.size w) (Nat.le_refl _) 5 a0)
 have HCW := HCV.out w
 clear HCV
 generalize hg : w.heap.size = g at HX0 HB0 HCW
 generalize hW : Lib.bytesWorld w 5 a0 = W1 at HX0 HB0 HCW
 generalize hcap : grownCap w a0.size 0 5 = cp at HCW
 clear hW hcap
 go_wp2_with (simp only [HCW, Result.andThen])
 clear HCW
 go_loopg [11] a0.size (fun kq v11 w' => ∃ (i : Int), v11 = .int .i64 i ∧ 0 ≤ i ∧ i ≤ a0.size ∧ (a0.size - i.toNat : Nat) ≤ kq ∧ Aside0 (XorAt a0 a1 g i w') ∧ Aside0 (Below g w w'))
 case atStart => exact ⟨0, rfl, Int.le_refl _, by omega, by omega, HX0, HB0⟩
 case round =>
 clear HX0 HB0
 obtain ⟨i, rfl, hi0, hi1, hk, HX, HB⟩ := hrel
 by_cases hlt : i < (a0.size : Int)
 ·have c1 : decide (i < (a0.size : Int)) = true := decide_eq_true hlt
  have p4 : 0 ≤ i := hi0
  have q4 : i < (a1.size : Int) := by have := HL.out; omega
  have hx4 := bt_at a1 i
  obtain ⟨hz, hf⟩ := HX.out.cell hi0 hlt
  have HX2 := ak ((show XorAt a0 a1 g i wr.drew from HX.out).put hi0 hlt HM.out)
  have HB2 := ak (Below.setCell (below_drew HB.out) (show g ≤ (Addr.mk g i.toNat none).block from Nat.le_refl _) (.int .u8 (Go.bits .xor .u8 (bt a0 i) (bt a1 i))))
  replace p4 := eq_true p4; replace q4 := eq_true q4; go_wp2
  go_region
  go_wp2
  go_roundg (a0.size - (i + 1).toNat)
  case measure => have := HM.out; omega
  case rel => exact ⟨wrap64 (i + 1), er, by rw [IntWalk.wrap64_in _ (by have := HM.out; omega)]; omega, by rw [IntWalk.wrap64_in _ (by have := HM.out; omega)]; omega, by rw [IntWalk.wrap64_in _ (by have := HM.out; omega)]; exact Nat.le_refl _, HX2, HB2⟩
 ·have c1 : decide (i < (a0.size : Int)) = false := decide_eq_false hlt
  have hcs := string_of_reads (P := Tryz.prog) (c := cp) Tryz.underlying56 Tryz.underlying5 Tryz.underlying9 (HX.out.done hlt (by have := HM.out; omega))
  go_wp2
  go_ret
  subst hg
  exact ⟨er, HB.out⟩

/-! ### spec_l4Keys: function 154 -/
def spec_l4Keys.f (k : Nat) (l0 : List Int) : Option (Bool) := if (l0.length : Int) ≤ 8 then ((spec_l1All.f k l0 0 65535).bind fun t163 => (some t163)) else (some false)
theorem spec_l4Keys.mono : ∀ a0 k, LeO (spec_l4Keys.f k a0) (spec_l4Keys.f (k + 1) a0) := by
 intro a0 k
 unfold spec_l4Keys.f
 repeat' (first | (with_reducible first | exact spec_l1All.mono _ _ _ _ | exact LeO.refl _ | exact LeO.none _ | refine LeO.ite ?_ ?_ | refine LeO.bind ?_ (fun _ => ?_)) | exact spec_l1All.mono _ _ _ _ | exact LeO.none _ | refine LeO.ite ?_ ?_ | refine LeO.bind ?_ (fun _ => ?_))
set_option maxHeartbeats 8000000 in
set_option maxRecDepth 100000 in
theorem spec_l4Keys.calls (k : Nat) (A0 : Option Addr) (c0 : Nat) (l0 : List Int) (r : Bool) (w : World) (hr0 : Kd.C (Kd.int .i64) w A0 l0.length l0) (hc0 : l0.length ≤ c0) (h : spec_l4Keys.f k l0 = some r) :
  Calls Tryz.prog 154 #[.slice A0 l0.length c0] w fun e w' => e = .returned (.bool r) ∧ Drawn0 w w' := by
 have HR0 := Aside0.mk hr0; have HC0 := Aside0.mk hc0; clear hr0 hc0
 have H : (if (l0.length : Int) ≤ 8 then ((spec_l1All.f k l0 0 65535).bind fun t163 => (some t163)) else (some false)) = some r := h
 clear h
 by_cases c2 : (l0.length : Int) ≤ 8
 ·rw [if_pos c2] at H
  have c2b0 : decide ((l0.length : Int) ≤ 8) = true := decide_eq_true c2
  have c2b1 : decide (l0.length ≤ 8) = true := decide_eq_true (by omega)
  clear c2; replace H := bS H; obtain ⟨t163, A3, H⟩ := H
  replace H : (some t163) = some r := H
  obtain rfl := Option.some.inj H
  go_enter Tryz.func154, Tryz.ntmps154
  go_wp2_with (first | (go_at_call 81; (with_reducible refine (spec_l1All.calls k _ _ l0 0 65535 t163 _ ?side1 ?side2 A3.out).mono ?_); (case side1 => exact cd HR0.out); (case side2 => exact HC0.out); rintro e w' ⟨rfl, ⟨nd, rfl⟩⟩))
  go_ret
  exact ⟨er, drw⟩
 ·rw [if_neg c2] at H
  have c2b0 : decide ((l0.length : Int) ≤ 8) = false := decide_eq_false c2
  have c2b1 : decide (l0.length ≤ 8) = false := decide_eq_false (by omega)
  clear c2
  obtain rfl := Option.some.inj H
  go_enter Tryz.func154, Tryz.ntmps154
  go_wp2
  go_ret
  exact ⟨er, drw⟩

/-! ### spec_l4Text: function 137 -/
def spec_l4Text.f (k : Nat) (l0 : List Int) (a1 : Int) (a2 : ByteArray) : Option (Bool) := (spec_l4Keys.f k l0).bind fun t164 => (if t164 = true then ((spec_l4Key.f a1).bind fun t165 => (if t165 = true then (if (a2.size : Int) ≤ 40 then (some (((a2.size : Int) % 2) == 0)) else (some false)) else (some false))) else (some false))
theorem spec_l4Text.mono : ∀ a0 a1 a2 k, LeO (spec_l4Text.f k a0 a1 a2) (spec_l4Text.f (k + 1) a0 a1 a2) := by
 intro a0 a1 a2 k
 unfold spec_l4Text.f
 repeat' (first | (with_reducible first | exact spec_l4Keys.mono _ _ | exact LeO.refl _ | exact LeO.none _ | refine LeO.ite ?_ ?_ | refine LeO.bind ?_ (fun _ => ?_)) | exact spec_l4Keys.mono _ _ | exact LeO.none _ | refine LeO.ite ?_ ?_ | refine LeO.bind ?_ (fun _ => ?_))
set_option maxHeartbeats 8000000 in
set_option maxRecDepth 100000 in
theorem spec_l4Text.calls (k : Nat) (A0 : Option Addr) (c0 : Nat) (l0 : List Int) (a1 : Int) (a2 : ByteArray) (r : Bool) (w : World) (hr0 : Kd.C (Kd.int .i64) w A0 l0.length l0) (hc0 : l0.length ≤ c0) (h : spec_l4Text.f k l0 a1 a2 = some r) :
  Calls Tryz.prog 137 #[.slice A0 l0.length c0, .int .i64 a1, .string a2] w fun e w' => e = .returned (.bool r) ∧ Drawn0 w w' := by
 have HR0 := Aside0.mk hr0; have HC0 := Aside0.mk hc0; clear hr0 hc0
 have H : ((spec_l4Keys.f k l0).bind fun t164 => (if t164 = true then ((spec_l4Key.f a1).bind fun t165 => (if t165 = true then (if (a2.size : Int) ≤ 40 then (some (((a2.size : Int) % 2) == 0)) else (some false)) else (some false))) else (some false))) = some r := h
 clear h; replace H := bS H; obtain ⟨t164, A4, H⟩ := H
 replace H : (if t164 = true then ((spec_l4Key.f a1).bind fun t165 => (if t165 = true then (if (a2.size : Int) ≤ 40 then (some (((a2.size : Int) % 2) == 0)) else (some false)) else (some false))) else (some false)) = some r := H
 by_cases c5 : t164 = true
 ·subst c5
  have H1 : ((spec_l4Key.f a1).bind fun t165 => (if t165 = true then (if (a2.size : Int) ≤ 40 then (some (((a2.size : Int) % 2) == 0)) else (some false)) else (some false))) = some r := by rw [if_pos rfl] at H; exact H
  clear H
  have H := H1
  clear H1; replace H := bS H; obtain ⟨t165, A6, H⟩ := H
  replace H : (if t165 = true then (if (a2.size : Int) ≤ 40 then (some (((a2.size : Int) % 2) == 0)) else (some false)) else (some false)) = some r := H
  by_cases c7 : t165 = true
  ·subst c7
   have H1 : (if (a2.size : Int) ≤ 40 then (some (((a2.size : Int) % 2) == 0)) else (some false)) = some r := by rw [if_pos rfl] at H; exact H
   clear H
   have H := H1
   clear H1
   by_cases c8 : (a2.size : Int) ≤ 40
   ·rw [if_pos c8] at H
    have c8b0 : decide ((a2.size : Int) ≤ 40) = true := decide_eq_true c8
    have c8b1 : decide (a2.size ≤ 40) = true := decide_eq_true (by omega)
    clear c8
    obtain rfl := Option.some.inj H
    go_enter Tryz.func137, Tryz.ntmps137
    go_wp2_with (first | ((with_reducible refine gate_callee (f := 154) rfl ?_); refine goesLa (some 8) rfl Tryz.func154 #[.slice A0 l0.length c0] rfl ?_; (with_reducible refine (spec_l4Keys.calls k _ _ l0 true _ ?side1 ?side2 A4.out).mono ?_); (case side1 => exact cd HR0.out); (case side2 => exact HC0.out); rintro e w' ⟨rfl, ⟨nd, rfl⟩⟩; refine ⟨_, rfl, ?_⟩) | (go_at_call 109; (with_reducible refine (spec_l4Key.calls a1 true _ A6.out).mono ?_); rintro e w' ⟨rfl, ⟨nd, rfl⟩⟩))
    go_ret
    exact ⟨er, drw⟩
   ·rw [if_neg c8] at H
    have c8b0 : decide ((a2.size : Int) ≤ 40) = false := decide_eq_false c8
    have c8b1 : decide (a2.size ≤ 40) = false := decide_eq_false (by omega)
    clear c8
    obtain rfl := Option.some.inj H
    go_enter Tryz.func137, Tryz.ntmps137
    go_wp2_with (first | ((with_reducible refine gate_callee (f := 154) rfl ?_); refine goesLa (some 8) rfl Tryz.func154 #[.slice A0 l0.length c0] rfl ?_; (with_reducible refine (spec_l4Keys.calls k _ _ l0 true _ ?side1 ?side2 A4.out).mono ?_); (case side1 => exact cd HR0.out); (case side2 => exact HC0.out); rintro e w' ⟨rfl, ⟨nd, rfl⟩⟩; refine ⟨_, rfl, ?_⟩) | (go_at_call 109; (with_reducible refine (spec_l4Key.calls a1 true _ A6.out).mono ?_); rintro e w' ⟨rfl, ⟨nd, rfl⟩⟩))
    go_ret
    exact ⟨er, drw⟩
  ·replace c7 := Bool.eq_false_iff.mpr c7
   subst c7
   have H1 : (some false) = some r := by rw [if_neg (show ¬ (false = true) by decide)] at H; exact H
   clear H
   have H := H1
   clear H1
   obtain rfl := Option.some.inj H
   go_enter Tryz.func137, Tryz.ntmps137
   go_wp2_with (first | ((with_reducible refine gate_callee (f := 154) rfl ?_); refine goesLa (some 8) rfl Tryz.func154 #[.slice A0 l0.length c0] rfl ?_; (with_reducible refine (spec_l4Keys.calls k _ _ l0 true _ ?side1 ?side2 A4.out).mono ?_); (case side1 => exact cd HR0.out); (case side2 => exact HC0.out); rintro e w' ⟨rfl, ⟨nd, rfl⟩⟩; refine ⟨_, rfl, ?_⟩) | (go_at_call 109; (with_reducible refine (spec_l4Key.calls a1 false _ A6.out).mono ?_); rintro e w' ⟨rfl, ⟨nd, rfl⟩⟩))
   go_ret
   exact ⟨er, drw⟩
 ·replace c5 := Bool.eq_false_iff.mpr c5
  subst c5
  have H1 : (some false) = some r := by rw [if_neg (show ¬ (false = true) by decide)] at H; exact H
  clear H
  have H := H1
  clear H1
  obtain rfl := Option.some.inj H
  go_enter Tryz.func137, Tryz.ntmps137
  go_wp2_with (first | ((with_reducible refine gate_callee (f := 154) rfl ?_); refine goesLa (some 8) rfl Tryz.func154 #[.slice A0 l0.length c0] rfl ?_; (with_reducible refine (spec_l4Keys.calls k _ _ l0 false _ ?side1 ?side2 A4.out).mono ?_); (case side1 => exact cd HR0.out); (case side2 => exact HC0.out); rintro e w' ⟨rfl, ⟨nd, rfl⟩⟩; refine ⟨_, rfl, ?_⟩))
  go_ret
  exact ⟨er, drw⟩

/-! ### spec_l4Round: function 155 -/
def spec_l4Round.f (a0 : Int) (a1 : Int) : Option (Int) := some (Int.tmod (Int.tmod (wrap64 ((wrap64 ((wrap64 ((Int.tmod (wrap64 (a1 + (Int.tmod a0 256))) 256) * (Int.tmod (wrap64 (a1 + (Int.tmod a0 256))) 256))) + (wrap64 ((Int.tmod (wrap64 (a1 + (Int.tmod a0 256))) 256) * (wrap64 (Int.tdiv a0 256)))))) + 29)) 65521) 256)
set_option maxHeartbeats 8000000 in
set_option maxRecDepth 100000 in
theorem spec_l4Round.calls (a0 : Int) (a1 : Int) (r : Int) (w : World) (h : spec_l4Round.f a0 a1 = some r) :
  Calls Tryz.prog 155 #[.int .i64 a0, .int .i64 a1] w fun e w' => e = .returned (.int .i64 r) ∧ Drawn0 w w' := by
 have H : (some (Int.tmod (Int.tmod (wrap64 ((wrap64 ((wrap64 ((Int.tmod (wrap64 (a1 + (Int.tmod a0 256))) 256) * (Int.tmod (wrap64 (a1 + (Int.tmod a0 256))) 256))) + (wrap64 ((Int.tmod (wrap64 (a1 + (Int.tmod a0 256))) 256) * (wrap64 (Int.tdiv a0 256)))))) + 29)) 65521) 256)) = some r := h
 clear h
 obtain rfl := Option.some.inj H
 go_enter Tryz.func155, Tryz.ntmps155
 go_wp2
 go_ret
 exact ⟨er, drw⟩

/-! ### spec_l4Mix: function 138 -/
def spec_l4Mix.l0 : Nat → Int → Int → List Int → Int → Int → Option (Int)
  | 0, _, _, _, _, _ => none
  | k + 1, x5, x6, x14, x15, x16 => if x16 < x15 then (if 0 ≤ x16 then (if x16 < (x14.length : Int) then ((spec_l4Round.f (rd x14 x16) x6).bind fun t167 => (spec_l4Mix.l0 k x6 (Go.bits .xor .i64 x5 t167) x14 x15 (wrap64 (x16 + 1)))) else (none)) else (none)) else (some (wrap64 ((wrap64 (256 * x5)) + x6)))
def spec_l4Mix.f (k : Nat) (l0 : List Int) (a1 : Int) : Option (Int) := spec_l4Mix.l0 k (wrap64 (Int.tdiv a1 256)) (Int.tmod a1 256) l0 (l0.length : Int) 0
theorem spec_l4Mix.mono_l : ∀ k, (∀ y0 y1 y2 y3 y4, LeO (spec_l4Mix.l0 k y0 y1 y2 y3 y4) (spec_l4Mix.l0 (k + 1) y0 y1 y2 y3 y4))
 | 0 => fun _ _ _ _ _ r h => by simp [spec_l4Mix.l0] at h
 | k + 1 => by
  have ih0 := spec_l4Mix.mono_l k
  ·intro y0 y1 y2 y3 y4
   unfold spec_l4Mix.l0
   repeat' (first | (with_reducible first | exact ih0 _ _ _ _ _ | exact LeO.refl _ | exact LeO.none _ | refine LeO.ite ?_ ?_ | refine LeO.bind ?_ (fun _ => ?_)) | exact ih0 _ _ _ _ _ | exact LeO.none _ | refine LeO.ite ?_ ?_ | refine LeO.bind ?_ (fun _ => ?_))
theorem spec_l4Mix.mono : ∀ a0 a1 k, LeO (spec_l4Mix.f k a0 a1) (spec_l4Mix.f (k + 1) a0 a1) := by
 intro a0 a1 k
 have ih0 := spec_l4Mix.mono_l k
 unfold spec_l4Mix.f
 repeat' (first | (with_reducible first | exact ih0 _ _ _ _ _ | exact LeO.refl _ | exact LeO.none _ | refine LeO.ite ?_ ?_ | refine LeO.bind ?_ (fun _ => ?_)) | exact ih0 _ _ _ _ _ | exact LeO.none _ | refine LeO.ite ?_ ?_ | refine LeO.bind ?_ (fun _ => ?_))
set_option maxHeartbeats 8000000 in
set_option maxRecDepth 100000 in
theorem spec_l4Mix.calls (k : Nat) (A0 : Option Addr) (c0 : Nat) (l0 : List Int) (a1 : Int) (r : Int) (w : World) (hr0 : Kd.C (Kd.int .i64) w A0 l0.length l0) (hc0 : l0.length ≤ c0) (h : spec_l4Mix.f k l0 a1 = some r) :
  Calls Tryz.prog 138 #[.slice A0 l0.length c0, .int .i64 a1] w fun e w' => e = .returned (.int .i64 r) ∧ Drawn0 w w' := by
 have HR0 := Aside0.mk hr0; have HC0 := Aside0.mk hc0; clear hr0 hc0
 have H : (spec_l4Mix.l0 k (wrap64 (Int.tdiv a1 256)) (Int.tmod a1 256) l0 (l0.length : Int) 0) = some r := h
 clear h
 have H' := Aside0.mk H
 clear H
 go_enter Tryz.func138, Tryz.ntmps138
 go_wp2
 go_loopg [5, 6, 16] k (fun kq v5 v6 v16 w' => ∃ (x5_1 : Int) (x6_1 : Int) (x16_1 : Int), v5 = .int .i64 x5_1 ∧ v6 = .int .i64 x6_1 ∧ v16 = .int .i64 x16_1 ∧ Aside0 (spec_l4Mix.l0 kq x5_1 x6_1 l0 (l0.length : Int) x16_1 = some r) ∧ Aside0 (kq ≤ k) ∧ Drawn0 w w')
 case atStart => exact ⟨(wrap64 (Int.tdiv a1 256)), (Int.tmod a1 256), (0), er, er, er, H', ⟨Nat.le_refl _⟩, drw⟩
 case round =>
  clear H'
  obtain ⟨x5_1, x6_1, x16_1, rfl, rfl, rfl, HA, HK1, ⟨m1, rfl⟩⟩ := hrel
  cases gk with
  | zero => exact absurd HA.out (by simp [spec_l4Mix.l0])
  | succ k1 =>
   have H := HA.out; clear HA
   simp only [spec_l4Mix.l0] at H
   by_cases c3 : x16_1 < (l0.length : Int)
   ·rw [if_pos c3] at H
    have c3b0 : decide (x16_1 < (l0.length : Int)) = true := decide_eq_true c3
    clear c3; replace H := ifS H; obtain ⟨c4, H⟩ := H; have c4b0 := decide_eq_true c4; clear c4; replace H := ifS H; obtain ⟨c5, H⟩ := H; have c5b0 := decide_eq_true c5; clear c5; replace H := bS H; obtain ⟨t167, A6, H⟩ := H
    replace H : (spec_l4Mix.l0 k1 x6_1 (Go.bits .xor .i64 x5_1 t167) l0 (l0.length : Int) (wrap64 (x16_1 + 1))) = some r := H
    have H' := Aside0.mk H
    clear H
    have p166 : 0 ≤ (x16_1 : Int) := da
    have q166 : x16_1 < (l0.length : Int) := da
    obtain ⟨ad166, e166, hx166_0⟩ := Kd.at_int HR0.out x16_1 p166 q166
    cases e166
    replace p166 := eq_true p166; replace q166 := eq_true q166
    go_wp2_with (first | ((with_reducible refine gate_callee (f := 155) rfl ?_); refine goesLa (some 23) rfl Tryz.func155 #[.int .i64 (rd l0 x16_1), .int .i64 x6_1] rfl ?_; (with_reducible refine (spec_l4Round.calls (rd l0 x16_1) x6_1 t167 _ A6.out).mono ?_); rintro e w' ⟨rfl, ⟨nd, rfl⟩⟩; refine ⟨_, rfl, ?_⟩))
    go_roundg k1
    case measure => have := HK1.out; omega
    case rel => exact ⟨(x6_1), (Go.bits .xor .i64 x5_1 t167), (wrap64 (x16_1 + 1)), er, er, er, H', ⟨by have := HK1.out; omega⟩, drw⟩
   ·rw [if_neg c3] at H
    have c3b0 : decide (x16_1 < (l0.length : Int)) = false := decide_eq_false c3
    clear c3
    obtain rfl := Option.some.inj H
    go_wp2
    go_ret
    exact ⟨er, drw⟩

/-! ### spec_MixText: function 121 -/
def spec_MixText.l0 : Nat → List Int → Int → ByteArray → List Int → Int → Option (ByteArray × Bool)
  | 0, _, _, _, _, _ => none
  | k + 1, x0, x1, x2, x8, x9 => if x9 < (x2.size : Int) then (if 0 ≤ x9 then (if 0 ≤ (wrap64 (x9 + 1)) then (if (wrap64 (x9 + 1)) < (x2.size : Int) then ((spec_l4Mix.f k x0 (Go.bits .xor .i64 (wrap64 ((wrap64 (256 * (wrap64 (bt x2 x9)))) + (wrap64 (bt x2 (wrap64 (x9 + 1)))))) x1)).bind fun t169 => ((some (([(wrap64 (Int.tdiv t169 256)) % 256, (Int.tmod t169 256) % 256] : List Int) : List Int)).bind fun y170 => (if x8.length + y170.length < 140737488355328 then (spec_MixText.l0 k x0 t169 x2 (x8 ++ y170) (wrap64 (x9 + 2))) else (none)))) else (none)) else (none)) else (none)) else (some (strOfNums x8, true))
def spec_MixText.f (k : Nat) (l0 : List Int) (a1 : Int) (a2 : ByteArray) : Option (ByteArray × Bool) := (spec_l4Text.f k l0 a1 a2).bind fun t168 => (if t168 = true then (spec_MixText.l0 k l0 a1 a2 ([] : List Int) 0) else (some ((⟨#[]⟩ : ByteArray), false)))
theorem spec_MixText.mono_l : ∀ k, (∀ y0 y1 y2 y3 y4, LeO (spec_MixText.l0 k y0 y1 y2 y3 y4) (spec_MixText.l0 (k + 1) y0 y1 y2 y3 y4))
 | 0 => fun _ _ _ _ _ r h => by simp [spec_MixText.l0] at h
 | k + 1 => by
  have ih0 := spec_MixText.mono_l k
  ·intro y0 y1 y2 y3 y4
   unfold spec_MixText.l0
   repeat' (first | (with_reducible first | exact ih0 _ _ _ _ _ | exact spec_l4Mix.mono _ _ _ | exact spec_l4Text.mono _ _ _ _ | exact LeO.refl _ | exact LeO.none _ | refine LeO.ite ?_ ?_ | refine LeO.bind ?_ (fun _ => ?_)) | exact ih0 _ _ _ _ _ | exact spec_l4Mix.mono _ _ _ | exact spec_l4Text.mono _ _ _ _ | exact LeO.none _ | refine LeO.ite ?_ ?_ | refine LeO.bind ?_ (fun _ => ?_))
theorem spec_MixText.mono : ∀ a0 a1 a2 k, LeO (spec_MixText.f k a0 a1 a2) (spec_MixText.f (k + 1) a0 a1 a2) := by
 intro a0 a1 a2 k
 have ih0 := spec_MixText.mono_l k
 unfold spec_MixText.f
 repeat' (first | (with_reducible first | exact ih0 _ _ _ _ _ | exact spec_l4Mix.mono _ _ _ | exact spec_l4Text.mono _ _ _ _ | exact LeO.refl _ | exact LeO.none _ | refine LeO.ite ?_ ?_ | refine LeO.bind ?_ (fun _ => ?_)) | exact ih0 _ _ _ _ _ | exact spec_l4Mix.mono _ _ _ | exact spec_l4Text.mono _ _ _ _ | exact LeO.none _ | refine LeO.ite ?_ ?_ | refine LeO.bind ?_ (fun _ => ?_))
set_option maxHeartbeats 8000000 in
set_option maxRecDepth 100000 in
theorem spec_MixText.calls (k : Nat) (A0 : Option Addr) (c0 : Nat) (l0 : List Int) (a1 : Int) (a2 : ByteArray) (r1 : ByteArray) (r2 : Bool) (w : World) (hr0 : Kd.C (Kd.int .i64) w A0 l0.length l0) (hc0 : l0.length ≤ c0) (h : spec_MixText.f k l0 a1 a2 = some (r1, r2)) :
  Calls Tryz.prog 121 #[.slice A0 l0.length c0, .int .i64 a1, .string a2] w fun e w' => e = .returned (.tuple #[.string r1, .bool r2]) ∧ Below w.heap.size w w' := by
 have HR0 := Aside0.mk hr0; have HC0 := Aside0.mk hc0; clear hr0 hc0
 have HB := Aside0.mk (Below.refl w.heap.size w)
 have H : ((spec_l4Text.f k l0 a1 a2).bind fun t168 => (if t168 = true then (spec_MixText.l0 k l0 a1 a2 ([] : List Int) 0) else (some ((⟨#[]⟩ : ByteArray), false)))) = some (r1, r2) := h
 clear h; replace H := bS H; obtain ⟨t168, A4, H⟩ := H
 replace H : (if t168 = true then (spec_MixText.l0 k l0 a1 a2 ([] : List Int) 0) else (some ((⟨#[]⟩ : ByteArray), false))) = some (r1, r2) := H
 by_cases c5 : t168 = true
 ·subst c5
  have H1 : (spec_MixText.l0 k l0 a1 a2 ([] : List Int) 0) = some (r1, r2) := by rw [if_pos rfl] at H; exact H
  clear H
  have H := H1
  clear H1
  have H' := Aside0.mk H
  clear H
  go_enter Tryz.func121, Tryz.ntmps121
  go_wp2_with (first | (go_at_call 137; (with_reducible refine (spec_l4Text.calls k _ _ l0 a1 a2 true _ ?side1 ?side2 A4.out).mono ?_); (case side1 => exact cd HR0.out); (case side2 => exact HC0.out); rintro e w' ⟨rfl, ⟨nd, rfl⟩⟩; (try first | exact ⟨rfl, _, World.drewN_drewN _ _ _⟩ | exact ⟨rfl, _, Eq.trans (World.drewN_drewN _ _ _) (congrArg (World.drewN _) (Nat.add_assoc _ _ _))⟩)))
  repeat (go_quiet (first | (go_at_call 137; (with_reducible refine (spec_l4Text.calls k _ _ l0 a1 a2 true _ ?side1 ?side2 A4.out).mono ?_); (case side1 => exact cd HR0.out); (case side2 => exact HC0.out); rintro e w' ⟨rfl, ⟨nd, rfl⟩⟩; (try first | exact ⟨rfl, _, World.drewN_drewN _ _ _⟩ | exact ⟨rfl, _, Eq.trans (World.drewN_drewN _ _ _) (congrArg (World.drewN _) (Nat.add_assoc _ _ _))⟩))); try go_wp2_with (first | (go_at_call 137; (with_reducible refine (spec_l4Text.calls k _ _ l0 a1 a2 true _ ?side1 ?side2 A4.out).mono ?_); (case side1 => exact cd HR0.out); (case side2 => exact HC0.out); rintro e w' ⟨rfl, ⟨nd, rfl⟩⟩; (try first | exact ⟨rfl, _, World.drewN_drewN _ _ _⟩ | exact ⟨rfl, _, Eq.trans (World.drewN_drewN _ _ _) (congrArg (World.drewN _) (Nat.add_assoc _ _ _))⟩))))
  go_loopg [1, 8, 9] k (fun kq v1 v8 v9 w' => ∃ (x1_1 : Int) (x8_1 : List Int) (x9_1 : Int), v1 = .int .i64 x1_1 ∧ v9 = .int .i64 x9_1 ∧ Aside0 (spec_MixText.l0 kq l0 x1_1 a2 x8_1 x9_1 = some (r1, r2)) ∧ Aside0 (kq ≤ k) ∧ Aside0 (Kd.R (Kd.int .u8) 5 w' w.heap.size (fun _ => True) v8 x8_1) ∧ Aside0 (Below w.heap.size w w'))
  case atStart => exact ⟨(a1), (([] : List Int)), (0), er, er, H', ⟨Nat.le_refl _⟩, ⟨by first | exact Kd.R_nil _ _ _ _ _ | exact Kd.N_nil _ _ _ _ _ | exact Kd.V_nil _ _ _ _ _ | exact Kd.Q_nil _ _ _ _ _ | exact Kd.S_nil _ _ _ _ _⟩, ⟨belowd HB⟩⟩
  case round =>
   clear H'
   (try clear c5)
   obtain ⟨x1_1, x8_1, x9_1, rfl, rfl, HA, HK1, HO_8, HB⟩ := hrel
   cases gk with
   | zero => exact absurd HA.out (by simp [spec_MixText.l0])
   | succ k1 =>
    have H := HA.out; clear HA
    simp only [spec_MixText.l0] at H
    by_cases c6 : x9_1 < (a2.size : Int)
    ·rw [if_pos c6] at H
     have c6b0 : decide (x9_1 < (a2.size : Int)) = true := decide_eq_true c6
     clear c6; replace H := ifS H; obtain ⟨c7, H⟩ := H; have c7b0 := decide_eq_true c7; clear c7
     obtain ⟨ji9, hji9⟩ : ∃ j_ : Int, (wrap64 (x9_1 + 1)) = j_ := ⟨_, rfl⟩
     replace H : (if 0 ≤ (ji9) then (if (ji9) < (a2.size : Int) then ((spec_l4Mix.f k1 l0 (Go.bits .xor .i64 (wrap64 ((wrap64 (256 * (wrap64 (bt a2 x9_1)))) + (wrap64 (bt a2 (ji9))))) x1_1)).bind fun t169 => ((some (([(wrap64 (Int.tdiv t169 256)) % 256, (Int.tmod t169 256) % 256] : List Int) : List Int)).bind fun y170 => (if x8_1.length + y170.length < 140737488355328 then (spec_MixText.l0 k1 l0 t169 a2 (x8_1 ++ y170) (wrap64 (x9_1 + 2))) else (none)))) else (none)) else (none)) = some (r1, r2) := by first | (rw [hji9] at H; exact H) | (simp only [hji9] at H ⊢; exact H)
     have hji9w : (IntKind.i64.wrap (x9_1 + 1)) = ji9 := (i64_w _).trans hji9
     replace H := ifS H; obtain ⟨c10, H⟩ := H; have c10b0 := decide_eq_true c10; clear c10; replace H := ifS H; obtain ⟨c11, H⟩ := H; have c11b0 := decide_eq_true c11; clear c11; replace H := bS H; obtain ⟨t169, A13, H⟩ := H
     replace H : ((some (([(wrap64 (Int.tdiv t169 256)) % 256, (Int.tmod t169 256) % 256] : List Int) : List Int)).bind fun y170 => (if x8_1.length + y170.length < 140737488355328 then (spec_MixText.l0 k1 l0 t169 a2 (x8_1 ++ y170) (wrap64 (x9_1 + 2))) else (none))) = some (r1, r2) := H
     obtain ⟨y170, hy_⟩ : ∃ y_ : List Int, y_ = (([(wrap64 (Int.tdiv t169 256)) % 256, (Int.tmod t169 256) % 256] : List Int)) := ⟨_, rfl⟩
     replace H : (if x8_1.length + y170.length < 140737488355328 then (spec_MixText.l0 k1 l0 t169 a2 (x8_1 ++ y170) (wrap64 (x9_1 + 2))) else (none)) = some (r1, r2) := yH
     have Ny170 := ak hy_; clear hy_; replace H := ifS H; obtain ⟨c14, H⟩ := H; have LMc14 := Aside0.mk c14; clear c14
     obtain ⟨y173, hy_⟩ : ∃ y_ : List Int, y_ = (x8_1 ++ y170) := ⟨_, rfl⟩
     replace H : (spec_MixText.l0 k1 l0 t169 a2 y173 (wrap64 (x9_1 + 2))) = some (r1, r2) := yH
     have Ny173 := ak hy_; clear hy_
     have H' := Aside0.mk H
     clear H
     have p8 : 0 ≤ (x9_1 : Int) := da
     have q8 : x9_1 < (a2.size : Int) := da
     have hx8 := bt_at a2 x9_1
     replace p8 := eq_true p8; replace q8 := eq_true q8
     have p12 : 0 ≤ ((ji9) : Int) := da
     have q12 : (ji9) < (a2.size : Int) := da
     have hx12 := bt_at a2 (ji9)
     replace p12 := eq_true p12; replace q12 := eq_true q12
     go_wp2_with (first | (go_at_call 138; (with_reducible refine (spec_l4Mix.calls k1 _ _ l0 (Go.bits .xor .i64 (wrap64 ((wrap64 (256 * (wrap64 (bt a2 x9_1)))) + (wrap64 (bt a2 (ji9))))) x1_1) t169 _ ?side1 ?side2 A13.out).mono ?_); (case side1 => exact cd (Kd.C_below HR0.out HB.out)); (case side2 => exact HC0.out); rintro e w' ⟨rfl, ⟨nd, rfl⟩⟩; (try first | exact ⟨rfl, _, World.drewN_drewN _ _ _⟩ | exact ⟨rfl, _, Eq.trans (World.drewN_drewN _ _ _) (congrArg (World.drewN _) (Nat.add_assoc _ _ _))⟩)) | ((with_reducible refine gate_dst (N := 43) rfl ?_); refine Kd.R_lit (Kd.int .u8) _ 5 ?hg (N := 43) ?hd (xs := ([(wrap64 (Int.tdiv t169 256)) % 256, (Int.tmod t169 256) % 256] : List Int)) (inner := [.int .u8 ((wrap64 (Int.tdiv t169 256)) % 256), .int .u8 ((Int.tmod t169 256) % 256)]) (ok := fun _ => True) (okp := fun _ => True) ?hr ?hp (fun _ hk => hk) trivial (Below.refl _ _) (Nat.le_refl _) (by simp) ?_; (case hd => rfl); (case hg => rfl); (case hr => first | (go_simp; done) | (go_simp; rfl)); (case hp => exact (Reps.one (show Kd.M (Kd.int .u8) _ _ _ ((wrap64 (Int.tdiv t169 256)) % 256) [.int .u8 ((wrap64 (Int.tdiv t169 256)) % 256)] from rfl) (Reps.one (show Kd.M (Kd.int .u8) _ _ _ ((Int.tmod t169 256) % 256) [.int .u8 ((Int.tmod t169 256) % 256)] from rfl) (Reps.none _ _)))); intro v171 w15 ho16 hb hg_ hnew_; clear hg_ hnew_; (first | rw [← Ny170.out] at ho16 | (simp only [Int.reduceToNat] at ho16; rw [← Ny170.out] at ho16)); have HO172 := ak (Kd.R_lower (Kd.R_new' ho16 (Kd.R_lt (rdl HO_8))) (below_size (belowd HB))); replace HO_8 := ak (Kd.R_elder' (rdl HO_8) (Kd.R_base ho16) hb); replace HB := ak (below_step (belowd HB) hb); clear hb ho16; obtain ⟨Ao18, co18, eo18⟩ := Kd.R_slice HO172.out; subst eo18) | ((with_reducible refine gate_builtin (b := .append) (xs := #[.tmp 36, .tmp 43]) rfl ?_); at_builtin; refine Kd.R_append_rows (Kd.int .u8) (w0 := w) w.heap.size rfl (.tmp 36) (.tmp 43) 56 5 (.int .u8 0) 1 rfl Tryz.underlying56 info5 rfl (by decide) (by omega) u8 x8_1 y170 _ _ _ (fun k_ => some k_ ≠ (.slice Ao18 y170.length co18 : Value).ownBlock) (fun _ => False) rfl rfl ?aO ?aR (fun _ _ h => h) (fun _ h => h.elim) ?aF ?aB ?aS ?aL ?_; (case aR => exact cd (Kd.R_reads' HO172.out).2.2); (case aB => exact (belowd HB)); (case aF => exact (fun k_ hk => Kd.fresh' (Kd.R_lt (rdl HO172)) k_ hk)); (case aO => exact (by (with_reducible repeat (first | apply Kd.R_alloc | apply Kd.R_drewN | apply Kd.R_drew)); exact Kd.R_mono HO_8.out (fun _ hk => hk.2))); (case aS => exact (below_size (belowd HB))); (case aL => have := LMc14.out; omega); intro v174 w17 ho hb hg hat; rw [← Ny173.out] at ho; replace HO172 := ak (Kd.R_after (ok := (fun _ => True)) (rdl HO172) hg hat); replace HB := ak (hb); have HO175 := ak (ho); clear HO_8; clear ho hb hg hat))
     repeat (go_quiet (first | (go_at_call 138; (with_reducible refine (spec_l4Mix.calls k1 _ _ l0 (Go.bits .xor .i64 (wrap64 ((wrap64 (256 * (wrap64 (bt a2 x9_1)))) + (wrap64 (bt a2 (ji9))))) x1_1) t169 _ ?side1 ?side2 A13.out).mono ?_); (case side1 => exact cd (Kd.C_below HR0.out HB.out)); (case side2 => exact HC0.out); rintro e w' ⟨rfl, ⟨nd, rfl⟩⟩; (try first | exact ⟨rfl, _, World.drewN_drewN _ _ _⟩ | exact ⟨rfl, _, Eq.trans (World.drewN_drewN _ _ _) (congrArg (World.drewN _) (Nat.add_assoc _ _ _))⟩)) | ((with_reducible refine gate_dst (N := 43) rfl ?_); refine Kd.R_lit (Kd.int .u8) _ 5 ?hg (N := 43) ?hd (xs := ([(wrap64 (Int.tdiv t169 256)) % 256, (Int.tmod t169 256) % 256] : List Int)) (inner := [.int .u8 ((wrap64 (Int.tdiv t169 256)) % 256), .int .u8 ((Int.tmod t169 256) % 256)]) (ok := fun _ => True) (okp := fun _ => True) ?hr ?hp (fun _ hk => hk) trivial (Below.refl _ _) (Nat.le_refl _) (by simp) ?_; (case hd => rfl); (case hg => rfl); (case hr => first | (go_simp; done) | (go_simp; rfl)); (case hp => exact (Reps.one (show Kd.M (Kd.int .u8) _ _ _ ((wrap64 (Int.tdiv t169 256)) % 256) [.int .u8 ((wrap64 (Int.tdiv t169 256)) % 256)] from rfl) (Reps.one (show Kd.M (Kd.int .u8) _ _ _ ((Int.tmod t169 256) % 256) [.int .u8 ((Int.tmod t169 256) % 256)] from rfl) (Reps.none _ _)))); intro v171 w15 ho16 hb hg_ hnew_; clear hg_ hnew_; (first | rw [← Ny170.out] at ho16 | (simp only [Int.reduceToNat] at ho16; rw [← Ny170.out] at ho16)); have HO172 := ak (Kd.R_lower (Kd.R_new' ho16 (Kd.R_lt (rdl HO_8))) (below_size (belowd HB))); replace HO_8 := ak (Kd.R_elder' (rdl HO_8) (Kd.R_base ho16) hb); replace HB := ak (below_step (belowd HB) hb); clear hb ho16; obtain ⟨Ao18, co18, eo18⟩ := Kd.R_slice HO172.out; subst eo18) | ((with_reducible refine gate_builtin (b := .append) (xs := #[.tmp 36, .tmp 43]) rfl ?_); at_builtin; refine Kd.R_append_rows (Kd.int .u8) (w0 := w) w.heap.size rfl (.tmp 36) (.tmp 43) 56 5 (.int .u8 0) 1 rfl Tryz.underlying56 info5 rfl (by decide) (by omega) u8 x8_1 y170 _ _ _ (fun k_ => some k_ ≠ (.slice Ao18 y170.length co18 : Value).ownBlock) (fun _ => False) rfl rfl ?aO ?aR (fun _ _ h => h) (fun _ h => h.elim) ?aF ?aB ?aS ?aL ?_; (case aR => exact cd (Kd.R_reads' HO172.out).2.2); (case aB => exact (belowd HB)); (case aF => exact (fun k_ hk => Kd.fresh' (Kd.R_lt (rdl HO172)) k_ hk)); (case aO => exact (by (with_reducible repeat (first | apply Kd.R_alloc | apply Kd.R_drewN | apply Kd.R_drew)); exact Kd.R_mono HO_8.out (fun _ hk => hk.2))); (case aS => exact (below_size (belowd HB))); (case aL => have := LMc14.out; omega); intro v174 w17 ho hb hg hat; rw [← Ny173.out] at ho; replace HO172 := ak (Kd.R_after (ok := (fun _ => True)) (rdl HO172) hg hat); replace HB := ak (hb); have HO175 := ak (ho); clear HO_8; clear ho hb hg hat)); try go_wp2_with (first | (go_at_call 138; (with_reducible refine (spec_l4Mix.calls k1 _ _ l0 (Go.bits .xor .i64 (wrap64 ((wrap64 (256 * (wrap64 (bt a2 x9_1)))) + (wrap64 (bt a2 (ji9))))) x1_1) t169 _ ?side1 ?side2 A13.out).mono ?_); (case side1 => exact cd (Kd.C_below HR0.out HB.out)); (case side2 => exact HC0.out); rintro e w' ⟨rfl, ⟨nd, rfl⟩⟩; (try first | exact ⟨rfl, _, World.drewN_drewN _ _ _⟩ | exact ⟨rfl, _, Eq.trans (World.drewN_drewN _ _ _) (congrArg (World.drewN _) (Nat.add_assoc _ _ _))⟩)) | ((with_reducible refine gate_dst (N := 43) rfl ?_); refine Kd.R_lit (Kd.int .u8) _ 5 ?hg (N := 43) ?hd (xs := ([(wrap64 (Int.tdiv t169 256)) % 256, (Int.tmod t169 256) % 256] : List Int)) (inner := [.int .u8 ((wrap64 (Int.tdiv t169 256)) % 256), .int .u8 ((Int.tmod t169 256) % 256)]) (ok := fun _ => True) (okp := fun _ => True) ?hr ?hp (fun _ hk => hk) trivial (Below.refl _ _) (Nat.le_refl _) (by simp) ?_; (case hd => rfl); (case hg => rfl); (case hr => first | (go_simp; done) | (go_simp; rfl)); (case hp => exact (Reps.one (show Kd.M (Kd.int .u8) _ _ _ ((wrap64 (Int.tdiv t169 256)) % 256) [.int .u8 ((wrap64 (Int.tdiv t169 256)) % 256)] from rfl) (Reps.one (show Kd.M (Kd.int .u8) _ _ _ ((Int.tmod t169 256) % 256) [.int .u8 ((Int.tmod t169 256) % 256)] from rfl) (Reps.none _ _)))); intro v171 w15 ho16 hb hg_ hnew_; clear hg_ hnew_; (first | rw [← Ny170.out] at ho16 | (simp only [Int.reduceToNat] at ho16; rw [← Ny170.out] at ho16)); have HO172 := ak (Kd.R_lower (Kd.R_new' ho16 (Kd.R_lt (rdl HO_8))) (below_size (belowd HB))); replace HO_8 := ak (Kd.R_elder' (rdl HO_8) (Kd.R_base ho16) hb); replace HB := ak (below_step (belowd HB) hb); clear hb ho16; obtain ⟨Ao18, co18, eo18⟩ := Kd.R_slice HO172.out; subst eo18) | ((with_reducible refine gate_builtin (b := .append) (xs := #[.tmp 36, .tmp 43]) rfl ?_); at_builtin; refine Kd.R_append_rows (Kd.int .u8) (w0 := w) w.heap.size rfl (.tmp 36) (.tmp 43) 56 5 (.int .u8 0) 1 rfl Tryz.underlying56 info5 rfl (by decide) (by omega) u8 x8_1 y170 _ _ _ (fun k_ => some k_ ≠ (.slice Ao18 y170.length co18 : Value).ownBlock) (fun _ => False) rfl rfl ?aO ?aR (fun _ _ h => h) (fun _ h => h.elim) ?aF ?aB ?aS ?aL ?_; (case aR => exact cd (Kd.R_reads' HO172.out).2.2); (case aB => exact (belowd HB)); (case aF => exact (fun k_ hk => Kd.fresh' (Kd.R_lt (rdl HO172)) k_ hk)); (case aO => exact (by (with_reducible repeat (first | apply Kd.R_alloc | apply Kd.R_drewN | apply Kd.R_drew)); exact Kd.R_mono HO_8.out (fun _ hk => hk.2))); (case aS => exact (below_size (belowd HB))); (case aL => have := LMc14.out; omega); intro v174 w17 ho hb hg hat; rw [← Ny173.out] at ho; replace HO172 := ak (Kd.R_after (ok := (fun _ => True)) (rdl HO172) hg hat); replace HB := ak (hb); have HO175 := ak (ho); clear HO_8; clear ho hb hg hat)))
     go_roundg k1
     case measure => have := HK1.out; omega
     case rel => exact ⟨(t169), (y173), (wrap64 (x9_1 + 2)), er, er, H', ⟨by have := HK1.out; omega⟩, ⟨by (with_reducible repeat (first | apply Kd.R_alloc | apply Kd.R_drewN | apply Kd.R_drew)); exact Kd.R_mono HO175.out (fun _ hk => trivial)⟩, ⟨belowd HB⟩⟩
    ·rw [if_neg c6] at H
     have c6b0 : decide (x9_1 < (a2.size : Int)) = false := decide_eq_false c6
     clear c6
     simp only [Option.some.injEq, Prod.mk.injEq] at H
     obtain ⟨rfl, rfl⟩ := H
     have hcv19 := own_string (P := Tryz.prog) Tryz.underlying56 Tryz.underlying5 Tryz.underlying9 (Kd.own_of_R HO_8.out)
     go_wp2
     repeat (go_quiet (fail); try go_wp2)
     go_ret2
     exact ⟨er2, belowd HB⟩
 ·replace c5 := Bool.eq_false_iff.mpr c5
  subst c5
  have H1 : (some ((⟨#[]⟩ : ByteArray), false)) = some (r1, r2) := by rw [if_neg (show ¬ (false = true) by decide)] at H; exact H
  clear H
  have H := H1
  clear H1
  simp only [Option.some.injEq, Prod.mk.injEq] at H
  obtain ⟨rfl, rfl⟩ := H
  go_enter Tryz.func121, Tryz.ntmps121
  go_wp2_with (first | (go_at_call 137; (with_reducible refine (spec_l4Text.calls k _ _ l0 a1 a2 false _ ?side1 ?side2 A4.out).mono ?_); (case side1 => exact cd HR0.out); (case side2 => exact HC0.out); rintro e w' ⟨rfl, ⟨nd, rfl⟩⟩; (try first | exact ⟨rfl, _, World.drewN_drewN _ _ _⟩ | exact ⟨rfl, _, Eq.trans (World.drewN_drewN _ _ _) (congrArg (World.drewN _) (Nat.add_assoc _ _ _))⟩)))
  repeat (go_quiet (first | (go_at_call 137; (with_reducible refine (spec_l4Text.calls k _ _ l0 a1 a2 false _ ?side1 ?side2 A4.out).mono ?_); (case side1 => exact cd HR0.out); (case side2 => exact HC0.out); rintro e w' ⟨rfl, ⟨nd, rfl⟩⟩; (try first | exact ⟨rfl, _, World.drewN_drewN _ _ _⟩ | exact ⟨rfl, _, Eq.trans (World.drewN_drewN _ _ _) (congrArg (World.drewN _) (Nat.add_assoc _ _ _))⟩))); try go_wp2_with (first | (go_at_call 137; (with_reducible refine (spec_l4Text.calls k _ _ l0 a1 a2 false _ ?side1 ?side2 A4.out).mono ?_); (case side1 => exact cd HR0.out); (case side2 => exact HC0.out); rintro e w' ⟨rfl, ⟨nd, rfl⟩⟩; (try first | exact ⟨rfl, _, World.drewN_drewN _ _ _⟩ | exact ⟨rfl, _, Eq.trans (World.drewN_drewN _ _ _) (congrArg (World.drewN _) (Nat.add_assoc _ _ _))⟩))))
  go_ret2
  exact ⟨er2, belowd HB⟩

/-! ### spec_l7Pad: function 111 -/
def spec_l7Pad.f (k : Nat) (a0 : Int) (a1 : Int) : Option (ByteArray) := if 0 ≤ a1 then (if (a1 : Int).toNat ≤ 281474976710656 then ((spec_MixText.f k (([a0, a0, a0] : List Int)) a0 (strOfNums (List.replicate (a1 : Int).toNat 0))).bind fun bt182 => (some bt182.1)) else (none)) else (none)
theorem spec_l7Pad.mono : ∀ a0 a1 k, LeO (spec_l7Pad.f k a0 a1) (spec_l7Pad.f (k + 1) a0 a1) := by
 intro a0 a1 k
 unfold spec_l7Pad.f
 repeat' (first | (with_reducible first | exact spec_MixText.mono _ _ _ _ | exact LeO.refl _ | exact LeO.none _ | refine LeO.ite ?_ ?_ | refine LeO.bind ?_ (fun _ => ?_)) | exact spec_MixText.mono _ _ _ _ | exact LeO.none _ | refine LeO.ite ?_ ?_ | refine LeO.bind ?_ (fun _ => ?_))
set_option maxHeartbeats 8000000 in
set_option maxRecDepth 100000 in
theorem spec_l7Pad.calls (k : Nat) (a0 : Int) (a1 : Int) (r : ByteArray) (w : World) (h : spec_l7Pad.f k a0 a1 = some r) :
  Calls Tryz.prog 111 #[.int .i64 a0, .int .i64 a1] w fun e w' => e = .returned (.string r) ∧ Below w.heap.size w w' := by
 have HB := Aside0.mk (Below.refl w.heap.size w)
 have H : (if 0 ≤ a1 then (if (a1 : Int).toNat ≤ 281474976710656 then ((spec_MixText.f k (([a0, a0, a0] : List Int)) a0 (strOfNums (List.replicate (a1 : Int).toNat 0))).bind fun bt182 => (some bt182.1)) else (none)) else (none)) = some r := h
 clear h
 obtain ⟨y176, hy_⟩ : ∃ y_ : List Int, y_ = (([a0, a0, a0] : List Int)) := ⟨_, rfl⟩
 replace H : (if 0 ≤ a1 then (if (a1 : Int).toNat ≤ 281474976710656 then ((spec_MixText.f k y176 a0 (strOfNums (List.replicate (a1 : Int).toNat 0))).bind fun bt182 => (some bt182.1)) else (none)) else (none)) = some r := yH
 have Ny176 := ak hy_; clear hy_; replace H := ifS H; obtain ⟨c3, H⟩ := H; have c3b0 := eq_true c3
 have c3b1 : decide (0 ≤ a1) = true := decide_eq_true c3
 clear c3; replace H := ifS H; obtain ⟨c4, H⟩ := H; have c4b0 := eq_true c4
 have c4b1 : decide ((a1 : Int).toNat ≤ 281474976710656) = true := decide_eq_true c4
 clear c4
 obtain ⟨y179, hy_⟩ : ∃ y_ : List Int, y_ = (List.replicate (a1 : Int).toNat 0) := ⟨_, rfl⟩
 replace H : ((spec_MixText.f k y176 a0 (strOfNums y179)).bind fun bt182 => (some bt182.1)) = some r := yH
 have Ny179 := ak hy_; clear hy_; replace H := bS H; obtain ⟨⟨t182, t183⟩, A5, H⟩ := H
 replace H : (some t182) = some r := H
 obtain rfl := Option.some.inj H
 go_enter Tryz.func111, Tryz.ntmps111
 go_wp2_with (first | ((with_reducible refine gate_dst (N := 11) rfl ?_); refine Kd.R_lit (Kd.int .i64) _ 3 ?hg (N := 11) ?hd (xs := ([a0, a0, a0] : List Int)) (inner := [.int .i64 a0, .int .i64 a0, .int .i64 a0]) (ok := fun _ => True) (okp := fun _ => True) ?hr ?hp (fun _ hk => hk) trivial (Below.refl _ _) (Nat.le_refl _) (by simp) ?_; (case hd => rfl); (case hg => rfl); (case hr => first | (go_simp; done) | (go_simp; rfl)); (case hp => exact (Reps.one (show Kd.M (Kd.int .i64) _ _ _ a0 [.int .i64 a0] from rfl) (Reps.one (show Kd.M (Kd.int .i64) _ _ _ a0 [.int .i64 a0] from rfl) (Reps.one (show Kd.M (Kd.int .i64) _ _ _ a0 [.int .i64 a0] from rfl) (Reps.none _ _))))); intro v177 w6 ho7 hb hg_ hnew_; clear hg_ hnew_; (first | rw [← Ny176.out] at ho7 | (simp only [Int.reduceToNat] at ho7; rw [← Ny176.out] at ho7)); have HO178 := ak (Kd.R_lower ho7 (below_size (belowd HB))); replace HB := ak (below_step (belowd HB) hb); clear hb ho7) | ((with_reducible refine gate_dst (N := 14) rfl ?_); refine Kd.R_make (Kd.int .u8) _ 5 rfl (N := 14) rfl 56 _ _ rfl a1 rfl rfl Tryz.underlying56 (.int .u8 0) 1 info5 rfl (by decide) (by omega) 0 (ok := fun _ => True) (okp := fun _ => True) rfl (fun _ hk => hk) trivial (da) (Nat.le_trans (Nat.mul_le_mul_right _ (da : a1.toNat ≤ 281474976710656)) (by omega)) (Below.refl _ _) (Nat.le_refl _) ?_; intro v180 w8 ho9 hb hg_ hnew_; clear hg_ hnew_; (first | rw [← Ny179.out] at ho9 | (simp only [Int.reduceToNat] at ho9; rw [← Ny179.out] at ho9)); replace HO178 := ak (Kd.R_below (rdl HO178) hb); have HO181 := ak (Kd.R_lower ho9 (below_size (belowd HB))); replace HB := ak (below_step (belowd HB) hb); clear hb ho9; have hcv10 := own_string (P := Tryz.prog) Tryz.underlying56 Tryz.underlying5 Tryz.underlying9 (Kd.own_of_R HO181.out); obtain ⟨Ao11, co11, eo11⟩ := Kd.R_slice HO178.out; subst eo11) | ((with_reducible refine gate_callee (f := 121) rfl ?_); refine goesLa (some 16) rfl Tryz.func121 #[.slice Ao11 y176.length co11, .int .i64 a0, .string (strOfNums y179)] rfl ?_; (with_reducible refine (spec_MixText.calls k _ _ y176 a0 (strOfNums y179) t182 t183 _ ?side1 ?side2 A5.out).mono ?_); (case side1 => exact cd (Kd.R_reads' HO178.out).2.2); (case side2 => exact (Kd.R_reads' HO178.out).2.1); rintro e w12 ⟨rfl, hb⟩; refine ⟨_, rfl, ?_⟩; replace HO178 := ak (Kd.R_below (rdl HO178) hb); replace HO181 := ak (Kd.R_below (rdl HO181) hb); replace HB := ak (below_step (belowd HB) hb); (try clear hb)))
 go_ret
 exact ⟨er2, belowd HB⟩

/-! ### spec_l7Check: function 112 -/
def spec_l7Check.l0 : Nat → ByteArray → Int → Int → Option (Int)
  | 0, _, _, _ => none
  | k + 1, x0, x3, x4 => if x4 < (x0.size : Int) then (if 0 ≤ x4 then (spec_l7Check.l0 k x0 (wrap64 (x3 + (wrap64 ((wrap64 (bt x0 x4)) * (wrap64 (x4 + 1)))))) (wrap64 (x4 + 1))) else (none)) else (some (Int.tmod x3 251))
def spec_l7Check.f (k : Nat) (a0 : ByteArray) : Option (Int) := spec_l7Check.l0 k a0 0 0
theorem spec_l7Check.mono_l : ∀ k, (∀ y0 y1 y2, LeO (spec_l7Check.l0 k y0 y1 y2) (spec_l7Check.l0 (k + 1) y0 y1 y2))
 | 0 => fun _ _ _ r h => by simp [spec_l7Check.l0] at h
 | k + 1 => by
  have ih0 := spec_l7Check.mono_l k
  ·intro y0 y1 y2
   unfold spec_l7Check.l0
   repeat' (first | (with_reducible first | exact ih0 _ _ _ | exact LeO.refl _ | exact LeO.none _ | refine LeO.ite ?_ ?_ | refine LeO.bind ?_ (fun _ => ?_)) | exact ih0 _ _ _ | exact LeO.none _ | refine LeO.ite ?_ ?_ | refine LeO.bind ?_ (fun _ => ?_))
theorem spec_l7Check.mono : ∀ a0 k, LeO (spec_l7Check.f k a0) (spec_l7Check.f (k + 1) a0) := by
 intro a0 k
 have ih0 := spec_l7Check.mono_l k
 unfold spec_l7Check.f
 repeat' (first | (with_reducible first | exact ih0 _ _ _ | exact LeO.refl _ | exact LeO.none _ | refine LeO.ite ?_ ?_ | refine LeO.bind ?_ (fun _ => ?_)) | exact ih0 _ _ _ | exact LeO.none _ | refine LeO.ite ?_ ?_ | refine LeO.bind ?_ (fun _ => ?_))
set_option maxHeartbeats 8000000 in
set_option maxRecDepth 100000 in
theorem spec_l7Check.calls (k : Nat) (a0 : ByteArray) (r : Int) (w : World) (h : spec_l7Check.f k a0 = some r) :
  Calls Tryz.prog 112 #[.string a0] w fun e w' => e = .returned (.int .i64 r) ∧ Drawn0 w w' := by
 have H : (spec_l7Check.l0 k a0 0 0) = some r := h
 clear h
 have H' := Aside0.mk H
 clear H
 go_enter Tryz.func112, Tryz.ntmps112
 go_wp2
 go_loopg [3, 4] k (fun kq v3 v4 w' => ∃ (x3_1 : Int) (x4_1 : Int), v3 = .int .i64 x3_1 ∧ v4 = .int .i64 x4_1 ∧ Aside0 (spec_l7Check.l0 kq a0 x3_1 x4_1 = some r) ∧ Aside0 (kq ≤ k) ∧ Drawn0 w w')
 case atStart => exact ⟨(0), (0), er, er, H', ⟨Nat.le_refl _⟩, drw⟩
 case round =>
  clear H'
  obtain ⟨x3_1, x4_1, rfl, rfl, HA, HK1, ⟨m1, rfl⟩⟩ := hrel
  cases gk with
  | zero => exact absurd HA.out (by simp [spec_l7Check.l0])
  | succ k1 =>
   have H := HA.out; clear HA
   simp only [spec_l7Check.l0] at H
   by_cases c2 : x4_1 < (a0.size : Int)
   ·rw [if_pos c2] at H
    have c2b0 : decide (x4_1 < (a0.size : Int)) = true := decide_eq_true c2
    clear c2; replace H := ifS H; obtain ⟨c3, H⟩ := H; have c3b0 := decide_eq_true c3; clear c3
    have H' := Aside0.mk H
    clear H
    have p4 : 0 ≤ (x4_1 : Int) := da
    have q4 : x4_1 < (a0.size : Int) := da
    have hx4 := bt_at a0 x4_1
    replace p4 := eq_true p4; replace q4 := eq_true q4; go_wp2
    go_roundg k1
    case measure => have := HK1.out; omega
    case rel => exact ⟨(wrap64 (x3_1 + (wrap64 ((wrap64 (bt a0 x4_1)) * (wrap64 (x4_1 + 1)))))), (wrap64 (x4_1 + 1)), er, er, H', ⟨by have := HK1.out; omega⟩, drw⟩
   ·rw [if_neg c2] at H
    have c2b0 : decide (x4_1 < (a0.size : Int)) = false := decide_eq_false c2
    clear c2
    obtain rfl := Option.some.inj H
    go_wp2
    go_ret
    exact ⟨er, drw⟩

/-! ### spec_UnpadBody: function 113 -/
def spec_UnpadBody.l0 : Nat → ByteArray → Int → Option (ByteArray × Bool)
  | 0, _, _ => none
  | k + 1, x0, x4 => if x4 > 0 then (if 0 ≤ x4 then (if x4 < (x0.size : Int) then (if (bt x0 x4) = 0 then (spec_UnpadBody.l0 k x0 (wrap64 (x4 - 1))) else (if (bt x0 x4) = 128 then (if x4 ≤ (x0.size : Int) then (some (x0.extract 0 (x4 : Int).toNat, true)) else (none)) else (some ((⟨#[]⟩ : ByteArray), false)))) else (none)) else (none)) else (if 0 ≤ x4 then (if x4 < (x0.size : Int) then (if (bt x0 x4) = 128 then (if x4 ≤ (x0.size : Int) then (some (x0.extract 0 (x4 : Int).toNat, true)) else (none)) else (some ((⟨#[]⟩ : ByteArray), false))) else (none)) else (none))
def spec_UnpadBody.f (k : Nat) (a0 : ByteArray) : Option (ByteArray × Bool) := if (a0.size : Int) = 16 then (spec_UnpadBody.l0 k a0 (wrap64 ((a0.size : Int) - 1))) else (some ((⟨#[]⟩ : ByteArray), false))
theorem spec_UnpadBody.mono_l : ∀ k, (∀ y0 y1, LeO (spec_UnpadBody.l0 k y0 y1) (spec_UnpadBody.l0 (k + 1) y0 y1))
 | 0 => fun _ _ r h => by simp [spec_UnpadBody.l0] at h
 | k + 1 => by
  have ih0 := spec_UnpadBody.mono_l k
  ·intro y0 y1
   unfold spec_UnpadBody.l0
   repeat' (first | (with_reducible first | exact ih0 _ _ | exact LeO.refl _ | exact LeO.none _ | refine LeO.ite ?_ ?_ | refine LeO.bind ?_ (fun _ => ?_)) | exact ih0 _ _ | exact LeO.none _ | refine LeO.ite ?_ ?_ | refine LeO.bind ?_ (fun _ => ?_))
theorem spec_UnpadBody.mono : ∀ a0 k, LeO (spec_UnpadBody.f k a0) (spec_UnpadBody.f (k + 1) a0) := by
 intro a0 k
 have ih0 := spec_UnpadBody.mono_l k
 unfold spec_UnpadBody.f
 repeat' (first | (with_reducible first | exact ih0 _ _ | exact LeO.refl _ | exact LeO.none _ | refine LeO.ite ?_ ?_ | refine LeO.bind ?_ (fun _ => ?_)) | exact ih0 _ _ | exact LeO.none _ | refine LeO.ite ?_ ?_ | refine LeO.bind ?_ (fun _ => ?_))
set_option maxHeartbeats 8000000 in
set_option maxRecDepth 100000 in
theorem spec_UnpadBody.calls (k : Nat) (a0 : ByteArray) (r1 : ByteArray) (r2 : Bool) (w : World) (h : spec_UnpadBody.f k a0 = some (r1, r2)) :
  Calls Tryz.prog 113 #[.string a0] w fun e w' => e = .returned (.tuple #[.string r1, .bool r2]) ∧ Drawn0 w w' := by
 have H : (if (a0.size : Int) = 16 then (spec_UnpadBody.l0 k a0 (wrap64 ((a0.size : Int) - 1))) else (some ((⟨#[]⟩ : ByteArray), false))) = some (r1, r2) := h
 clear h
 by_cases c2 : (a0.size : Int) = 16
 ·rw [if_pos c2] at H
  have c2b0 : ((a0.size : Int) == 16) = true := beq_iff_eq.mpr c2
  have c2b1 : ((a0.size : Int) != 16) = false := bne_eq_false_iff_eq.mpr c2
  clear c2
  have H' := Aside0.mk H
  clear H
  go_enter Tryz.func113, Tryz.ntmps113
  go_wp2
  go_loopg [4] k (fun kq v4 w' => ∃ (x4_1 : Int), v4 = .int .i64 x4_1 ∧ Aside0 (spec_UnpadBody.l0 kq a0 x4_1 = some (r1, r2)) ∧ Aside0 (kq ≤ k) ∧ Drawn0 w w')
  case atStart => exact ⟨(wrap64 ((a0.size : Int) - 1)), er, H', ⟨Nat.le_refl _⟩, drw⟩
  case round =>
   clear H'
   (try clear c2b0); (try clear c2b1)
   obtain ⟨x4_1, rfl, HA, HK1, ⟨m1, rfl⟩⟩ := hrel
   cases gk with
   | zero => exact absurd HA.out (by simp [spec_UnpadBody.l0])
   | succ k1 =>
    have H := HA.out; clear HA
    simp only [spec_UnpadBody.l0] at H
    by_cases c3 : x4_1 > 0
    ·rw [if_pos c3] at H
     have c3b0 : decide (0 < x4_1) = true := decide_eq_true c3
     clear c3; replace H := ifS H; obtain ⟨c4, H⟩ := H; have c4b0 := decide_eq_true c4; clear c4; replace H := ifS H; obtain ⟨c5, H⟩ := H; have c5b0 := decide_eq_true c5; clear c5
     by_cases c7 : (bt a0 x4_1) = 0
     ·rw [if_pos c7] at H
      have c7b0 : ((bt a0 x4_1) == 0) = true := beq_iff_eq.mpr c7
      have c7b1 : ((bt a0 x4_1) != 0) = false := bne_eq_false_iff_eq.mpr c7
      clear c7
      have H' := Aside0.mk H
      clear H
      have p6 : 0 ≤ (x4_1 : Int) := da
      have q6 : x4_1 < (a0.size : Int) := da
      have hx6 := bt_at a0 x4_1
      replace p6 := eq_true p6; replace q6 := eq_true q6; go_wp2
      go_roundg k1
      case measure => have := HK1.out; omega
      case rel => exact ⟨(wrap64 (x4_1 - 1)), er, H', ⟨by have := HK1.out; omega⟩, drw⟩
     ·rw [if_neg c7] at H
      have c7b0 : ((bt a0 x4_1) == 0) = false := beq_eq_false_iff_ne.mpr c7
      have c7b1 : ((bt a0 x4_1) != 0) = true := bne_iff_ne.mpr c7
      by_cases c9 : (bt a0 x4_1) = 128
      ·rw [if_pos c9] at H
       have c9b0 : ((bt a0 x4_1) == 128) = true := beq_iff_eq.mpr c9
       have c9b1 : ((bt a0 x4_1) != 128) = false := bne_eq_false_iff_eq.mpr c9
       clear c9
       have c10b0 := eq_true (da : 0 ≤ x4_1)
       replace H := ifS H; obtain ⟨c11, H⟩ := H; have c11b0 := eq_true c11
       have c11b1 : decide (x4_1 ≤ (a0.size : Int)) = true := decide_eq_true c11
       clear c11
       simp only [Option.some.injEq, Prod.mk.injEq] at H
       obtain ⟨rfl, rfl⟩ := H
       have p6 : 0 ≤ (x4_1 : Int) := da
       have q6 : x4_1 < (a0.size : Int) := da
       have hx6 := bt_at a0 x4_1
       replace p6 := eq_true p6; replace q6 := eq_true q6
       have p8 : 0 ≤ (x4_1 : Int) := da
       have q8 : x4_1 < (a0.size : Int) := da
       have hx8 := bt_at a0 x4_1
       replace p8 := eq_true p8; replace q8 := eq_true q8; go_wp2
       go_ret2
       exact ⟨er, drw⟩
      ·rw [if_neg c9] at H
       have c9b0 : ((bt a0 x4_1) == 128) = false := beq_eq_false_iff_ne.mpr c9
       have c9b1 : ((bt a0 x4_1) != 128) = true := bne_iff_ne.mpr c9
       simp only [Option.some.injEq, Prod.mk.injEq] at H
       obtain ⟨rfl, rfl⟩ := H
       have p6 : 0 ≤ (x4_1 : Int) := da
       have q6 : x4_1 < (a0.size : Int) := da
       have hx6 := bt_at a0 x4_1
       replace p6 := eq_true p6; replace q6 := eq_true q6
       have p8 : 0 ≤ (x4_1 : Int) := da
       have q8 : x4_1 < (a0.size : Int) := da
       have hx8 := bt_at a0 x4_1
       replace p8 := eq_true p8; replace q8 := eq_true q8; go_wp2
       go_ret2
       exact ⟨er, drw⟩
    ·rw [if_neg c3] at H
     have c3b0 : decide (0 < x4_1) = false := decide_eq_false c3
     clear c3; replace H := ifS H; obtain ⟨c12, H⟩ := H; have c12b0 := decide_eq_true c12; clear c12; replace H := ifS H; obtain ⟨c13, H⟩ := H; have c13b0 := decide_eq_true c13; clear c13
     by_cases c15 : (bt a0 x4_1) = 128
     ·rw [if_pos c15] at H
      have c15b0 : ((bt a0 x4_1) == 128) = true := beq_iff_eq.mpr c15
      have c15b1 : ((bt a0 x4_1) != 128) = false := bne_eq_false_iff_eq.mpr c15
      clear c15
      have c16b0 := eq_true (da : 0 ≤ x4_1)
      replace H := ifS H; obtain ⟨c17, H⟩ := H; have c17b0 := eq_true c17
      have c17b1 : decide (x4_1 ≤ (a0.size : Int)) = true := decide_eq_true c17
      clear c17
      simp only [Option.some.injEq, Prod.mk.injEq] at H
      obtain ⟨rfl, rfl⟩ := H
      have p14 : 0 ≤ (x4_1 : Int) := da
      have q14 : x4_1 < (a0.size : Int) := da
      have hx14 := bt_at a0 x4_1
      replace p14 := eq_true p14; replace q14 := eq_true q14; go_wp2
      go_ret2
      exact ⟨er, drw⟩
     ·rw [if_neg c15] at H
      have c15b0 : ((bt a0 x4_1) == 128) = false := beq_eq_false_iff_ne.mpr c15
      have c15b1 : ((bt a0 x4_1) != 128) = true := bne_iff_ne.mpr c15
      simp only [Option.some.injEq, Prod.mk.injEq] at H
      obtain ⟨rfl, rfl⟩ := H
      have p14 : 0 ≤ (x4_1 : Int) := da
      have q14 : x4_1 < (a0.size : Int) := da
      have hx14 := bt_at a0 x4_1
      replace p14 := eq_true p14; replace q14 := eq_true q14; go_wp2
      go_ret2
      exact ⟨er, drw⟩
 ·rw [if_neg c2] at H
  have c2b0 : ((a0.size : Int) == 16) = false := beq_eq_false_iff_ne.mpr c2
  have c2b1 : ((a0.size : Int) != 16) = true := bne_iff_ne.mpr c2
  simp only [Option.some.injEq, Prod.mk.injEq] at H
  obtain ⟨rfl, rfl⟩ := H
  go_enter Tryz.func113, Tryz.ntmps113
  go_wp2
  go_ret2
  exact ⟨er, drw⟩

end Go.Proofs.YtihekdlcfohkkaaGreatDoor.QFnExactPlayNet
