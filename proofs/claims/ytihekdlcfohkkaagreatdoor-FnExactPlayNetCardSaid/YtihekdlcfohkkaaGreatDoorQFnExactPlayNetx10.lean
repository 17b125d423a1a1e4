-- printed by this session's own program (wip/tools/pp.py: the kit's print.py with changes); Lean checks it
import Derived.Test.YtihekdlcfohkkaaGreatDoorQFnExactPlayNetx0
import Derived.Test.YtihekdlcfohkkaaGreatDoorQFnExactPlayNetx4
import Derived.Test.YtihekdlcfohkkaaGreatDoorQFnExactPlayNetx8
import Derived.Test.YtihekdlcfohkkaaGreatDoorQFnExactPlayNetx9
namespace Go.Proofs.YtihekdlcfohkkaaGreatDoor.QFnExactPlayNet
open Go.RowKit Go.Proofs.YtihekdlcfohkkaaGreatDoorW.PrintWords Go.Proofs.YtihekdlcfohkkaaGreatDoorW.PrintLast Go.Proofs.YtihekdlcfohkkaaGreatDoorW.PrintMore
attribute [local go_sem] max2_int min2_int max_two min_two max_three min_three max_four min_four strLss strGtr strLeq strGeq   -- for this text's walks alone
set_option linter.unusedVariables false
set_option linter.unusedSimpArgs false

/-! ### impl_Net_goOn: function 92 -/
def impl_Net_goOn.T0 : Bool × List (List Nat × List Nat) := (true, [([], []), ([0], [0]), ([1], [1]), ([2], [2]), ([], []), ([3, 4], [3, 4]), ([5], [5]), ([], []), ([], []), ([8], [8]), ([9], [9]), ([10], [10]), ([11], [11]), ([12], [12]), ([7, 13], [7, 13]), ([6, 0, 1, 2, 3, 4, 5, 6], [6]), ([14, 15, 0, 1, 2, 3, 4, 5, 6, 7, 8, 9, 10, 11, 12, 13, 14, 15], [14])])
def impl_Net_goOn.B0 : List Nat := [0, 1, 3, 7, 0, 31, 63, 0, 0, 256, 768, 1792, 3840, 7936, 16256, 127, 65535]
theorem impl_Net_goOn.tab0 : rtab .any (opsOf Tryz.f92 0) = impl_Net_goOn.T0 := by kernel_rfl
theorem impl_Net_goOn.bits0 : waitsOk impl_Net_goOn.T0.2 impl_Net_goOn.B0 = true := by kernel_rfl
def impl_Net_goOn.T11 : Bool × List (List Nat × List Nat) := (true, [([], []), ([0], [0]), ([1], [1]), ([2], [2]), ([], []), ([], []), ([5], [5]), ([6], [6]), ([7], [7]), ([], []), ([8, 9], [8, 9]), ([10], [10]), ([], []), ([12], [12]), ([13], [13]), ([11, 14], [11, 14]), ([3, 4, 0, 1, 2, 3, 4, 5, 6, 7, 8, 9, 10, 11, 12, 13, 14, 15], [3, 4]), ([16, 15, 15, 0, 1, 2, 3, 4, 5, 6, 7, 8, 9, 10, 11, 12, 13, 14, 15], [15, 16])])
def impl_Net_goOn.B11 : List Nat := [0, 1, 3, 7, 0, 0, 32, 96, 224, 0, 992, 2016, 0, 4096, 12288, 32736, 65535, 131071]
theorem impl_Net_goOn.tab11 : rtab .any (opsOf Tryz.f92 11) = impl_Net_goOn.T11 := by kernel_rfl
theorem impl_Net_goOn.bits11 : waitsOk impl_Net_goOn.T11.2 impl_Net_goOn.B11 = true := by kernel_rfl
def impl_Net_goOn.l0 (k : Nat) (i : Int) (z : Bool) : List ByteArray → Nt → Option Nt
  | [], n => some n
  | s :: r, n => if i < (n.ks.length : Int) then (impl_PeelOnion.f k (rd n.ks i) s).bind fun (x, y, b, o) => if o = false then impl_Net_goOn.l0 k i z r n else if z = false then (if x = 1 then (impl_Net_come.f k n (wrap64 (i + 1)) y).bind fun n' => impl_Net_goOn.l0 k i z r n' else impl_Net_goOn.l0 k i z r n) else (impl_within.f (wrap64 (x - 2)) 0 3).bind fun c => if c = false then impl_Net_goOn.l0 k i z r n else if b = (⟨#[]⟩ : ByteArray) then impl_Net_goOn.l0 k i z r n else if 0 ≤ wrap64 (x - 2) ∧ wrap64 (x - 2) < (n.ib.length : Int) then (if (n.ib.getD (wrap64 (x - 2)).toNat []).length < 60 then impl_Net_goOn.l0 k i z r ⟨n.ks, n.ps, n.ss, n.ib.set (wrap64 (x - 2)).toNat (n.ib.getD (wrap64 (x - 2)).toNat [] ++ [b]), n.sd⟩ else impl_Net_goOn.l0 k i z r n) else none else none
def impl_Net_goOn.f (k : Nat) (n : Nt) (i : Int) : Option Nt := if 0 ≤ i ∧ i < (n.ps.length : Int) ∧ i < (n.ks.length : Int) ∧ 0 < n.ib.length ∧ (n.ps.getD i.toNat []).length ≤ 1048576 then impl_Net_goOn.l0 k i (i == wrap64 ((n.ks.length : Int) - 1)) (n.ps.getD i.toNat []) ⟨n.ks, n.ps.set i.toNat [], n.ss, n.ib, n.sd⟩ else none
set_option maxHeartbeats 16000000 in
set_option maxRecDepth 100000 in
theorem impl_Net_goOn.calls {k : Nat} {v0 v1 v2 v3 : Value} {n m : Nt} {i : Int} {L : List SA} {w0 w : World} {b0 : Nat} (hs : Sep w0 w (bA b0 #[v0, v1, v2, v3, .int .i64 n.sd] 27 :: netA v0 v1 v2 v3 n ++ L)) (h : impl_Net_goOn.f k n i = some m) :
    Calls Tryz.prog 92 #[.pointer (some ⟨b0, 0, none⟩), .int .i64 i] w fun e w' => e = .returned (.tuple #[]) ∧ Sep w0 w' (bA b0 #[v0, v1, v2, v3, .int .i64 n.sd] 27 :: netA v0 v1 v2 v3 m ++ L) := by
 have hu27 := Tryz.underlying27
 obtain ⟨ks, ps, ss, ib, sd⟩ := n
 have HS : Sep w0 w (bA b0 #[v0, v1, v2, v3, .int .i64 sd] 27 :: rA KI 3 v0 ks :: sA KT 62 v1 ps :: sA KT 62 v2 ss :: sA KT 62 v3 ib :: L) := hs
 clear hs
 unfold impl_Net_goOn.f at h
 dsimp only at h ⊢
 replace h := ifS h; obtain ⟨⟨i0, i1, i2, i3, i4⟩, h⟩ := h
 obtain ⟨A2, c2, rfl⟩ := HS.slS 3
 obtain ⟨g0, q0, rfl⟩ := HS.addrR 1 (hx := by omega)
 obtain ⟨g1, q1, rfl⟩ := HS.addr 2 (hx := by omega)
 obtain ⟨g3, q3, rfl⟩ := HS.addr 4 (hx := by omega)
 have p0 : (0 ≤ i) = True := eq_true i0
 have p1 : (i < (ps.length : Int)) = True := eq_true i1
 have p2 : (i < (ks.length : Int)) = True := eq_true i2
 obtain ⟨AP, qP, HS, -, -⟩ := HS.fr2.lend i i0 i1
 generalize ps.getD i.toNat [] = P at HS h i4
 have I4 := ak i4; have H' := ak h; clear i4 h
 have hz_ : ∃ z, (i == wrap64 ((ks.length : Int) - 1)) = z := ⟨_, rfl⟩
 obtain ⟨z, hz⟩ := hz_
 rw [hz] at H'
 go_enter Tryz.func92, Tryz.ntmps92
 go_upto_region 0 with fail
 obtain ⟨z00, z01, z02, z03, z04, f00, f01, f02, f03, f04⟩ := box5 (HS.blk 2)
 obtain ⟨hcgp, hfgp⟩ := HS.hole i0 i1
 refine start_ (n := 17) (S := fun w' => w'.cell? ⟨b0, 0, none⟩ = some (.slice (some ⟨g0, 0, none⟩) ks.length q0) ∧ w'.cell? ⟨b0, 1, none⟩ = some (.slice (some ⟨g1, 0, none⟩) ps.length q1) ∧ w'.cell? ⟨b0, 2, none⟩ = some (.slice A2 ss.length c2) ∧ w'.cell? ⟨b0, 3, none⟩ = some (.slice (some ⟨g3, 0, none⟩) ib.length q3) ∧ w'.cell? ⟨b0, 4, none⟩ = some (.int .i64 sd) ∧ w'.cell? ⟨g1, i.toNat, none⟩ = some (.slice AP P.length qP)) (ds := []) (bl 17 0) (by kernel_rfl) rfl rfl ⟨z00, z01, z02, z03, z04, hcgp⟩ (fun hHeld => ?_); refine with_tabW impl_Net_goOn.tab0 impl_Net_goOn.bits0 (fun HT_ HW_ => ?_)
 clear z00 z01 z02 z03 z04 f00 f01 f02 f03 f04 hcgp hfgp
 replace HS := HS.drew
 generalize World.drew _ = W9_ at HS hHeld ⊢
 refine pureA 0 (some 11) 17 1 HT_ ?_
 refine pureA 1 (some 12) 17 3 HT_ ?_
 refine pureA 2 (some 13) 17 7 HT_ ?_
 refine takeA 3 (some 14) 17 15 HT_ HW_ hHeld ?_ (hy := by rintro w' ⟨s0, s1, s2, s3, s4, s5⟩; go_simp; with_reducible rfl)
 refine pureA 4 (some 15) 17 31 HT_ ?_
 refine pureA 5 (some 16) 17 63 HT_ ?_
 refine takeA 6 (some 17) 17 127 HT_ HW_ hHeld ?_ (hy := by rintro w' ⟨s0, s1, s2, s3, s4, s5⟩; go_simp; with_reducible rfl)
 refine pureA 7 (some 18) 17 255 HT_ ?_
 refine pureA 8 (some 19) 17 511 HT_ ?_
 refine pureA 9 (some 20) 17 1023 HT_ ?_
 refine pureA 10 (some 21) 17 2047 HT_ ?_
 refine takeA 11 (some 22) 17 4095 HT_ HW_ hHeld ?_ (hy := by rintro w' ⟨s0, s1, s2, s3, s4, s5⟩; go_simp; with_reducible rfl)
 refine pureA 12 (some 23) 17 8191 HT_ ?_
 refine pureA 13 (some 24) 17 16383 HT_ ?_
 refine pureA 14 (some 25) 17 32767 HT_ ?_
 refine pureA 15 (some 4) 17 65535 HT_ ?_
 refine pureA 16 (some 5) 17 131071 HT_ ?_
 refine done_ (done_of HT_.out (by kernel_rfl)) ?_
 clear HT_ HW_ hHeld
 obtain ⟨z00, z01, z02, z03, z04, f00, f01, f02, f03, f04⟩ := box5 (HS.blk 2)
 obtain ⟨hcgp, hfgp⟩ := HS.hole i0 i1
 go_upto_region 2 with fail
 clear z00 z01 z02 z03 z04 f00 f01 f02 f03 f04 hcgp hfgp
 replace HS := HS.hput i0 i1 (.slice none 0 0) rfl
 obtain ⟨W5_, e5_, H5_⟩ := HS.gen
 rw [e5_]
 clear HS e5_
 have HS := H5_
 clear H5_
 replace HS := HS.nilrow Kd.string 9
 replace HS := HS.fr1.back
 replace HS := HS.fr1.fr5.fr5.fr3.fr5.fr5
 try go_wp2
 go_loopg [34] P.length (fun kq v34 w' => ∃ (j : Nat) (ps' ss' ib' : List (List ByteArray)), v34 = .int .i64 (j : Int) ∧ Aside0 (impl_Net_goOn.l0 k i z (P.drop j) ⟨ks, ps', ss', ib', sd⟩ = some m) ∧ j ≤ P.length ∧ P.length - j ≤ kq ∧ ib'.length = ib.length ∧ Sep w0 w' (bA b0 #[.slice (some ⟨g0, 0, none⟩) ks.length q0, .slice (some ⟨g1, 0, none⟩) ps.length q1, .slice A2 ss.length c2, .slice (some ⟨g3, 0, none⟩) ib.length q3, .int .i64 sd] 27 :: rA KI 3 (.slice (some ⟨g0, 0, none⟩) ks.length q0) ks :: sA KT 62 (.slice (some ⟨g1, 0, none⟩) ps.length q1) ps' :: sA KT 62 (.slice A2 ss.length c2) ss' :: sA KT 62 (.slice (some ⟨g3, 0, none⟩) ib.length q3) ib' :: rA Kd.string 9 (.slice AP P.length qP) P :: L))
 case atStart => exact ⟨0, _, _, _, rfl, H', Nat.zero_le _, Nat.le_refl _, rfl, HS⟩
 case round =>
  clear HS H'
  obtain ⟨j, ps', ss', ib', rfl, HA, j1, j2, hib, HS⟩ := hrel
  have h := HA.out; clear HA
  by_cases hj : j < P.length
  ·obtain ⟨s, hsj⟩ : ∃ s, rdOf ByteArray.empty P (j : Int) = s := ⟨_, rfl⟩
   have hd : P.drop j = s :: P.drop (j + 1) := by rw [← hsj, List.drop_eq_getElem_cons hj]; simp [rdOf, List.getD_eq_getElem?_getD, List.getElem?_eq_getElem hj]
   rw [hd] at h
   simp only [impl_Net_goOn.l0] at h
   rw [if_pos i2] at h
   replace h := bS h; obtain ⟨⟨x, y, b, o⟩, T1, h⟩ := h
   obtain ⟨gP, qP', e⟩ := HS.addrR 5 (hx := by omega)
   obtain rfl : AP = some ⟨gP, 0, none⟩ := by injection e
   clear e
   have hjb : decide ((j : Int) < (P.length : Int)) = true := decide_eq_true (by omega)
   have pj0 : (0 ≤ (j : Int)) = True := eq_true (by omega)
   have pj1 : ((j : Int) < (P.length : Int)) = True := eq_true (by omega)
   have hp0 := HS.cellS 5 (n := P.length) (j : Int) (by omega) (by omega)
   rw [hsj] at hp0
   rw [Int.toNat_natCast] at hp0
   have hk0 := HS.cellI 1 i i0 i2
   obtain ⟨z00, z01, z02, z03, z04, f00, f01, f02, f03, f04⟩ := box5 (HS.blk 0)
   go_upto_region 6 with (first | (go_at_call 115; refine (impl_PeelOnion.calls k _ _ x y b o _ T1.out).mono ?_; rintro e W_ ⟨rfl, hb_⟩; replace HS := HS.below hb_; clear hb_ hp0 hk0; clear z00 z01 z02 z03 z04 f00 f01 f02 f03 f04; obtain ⟨z00, z01, z02, z03, z04, f00, f01, f02, f03, f04⟩ := box5 (HS.blk 0); have hk0 := HS.cellI 1 i i0 i2) | ((with_reducible refine gate_dst (N := 8) rfl ?_); refine boxev 8 #[.int .i64 0, .string (⟨#[]⟩ : ByteArray), .string (⟨#[]⟩ : ByteArray)] 105 ?_; intro b8 hg_ W_ ho_ hb_; replace HS := HS.box hg_ ho_ hb_; clear hg_ ho_ hb_; clear z00 z01 z02 z03 z04 f00 f01 f02 f03 f04; obtain ⟨z80, z81, z82, f80, f81, f82⟩ := box3 (HS.blk 0); clear hk0; clear z80 z81 z82 f80 f81 f82; obtain ⟨z00, z01, z02, z03, z04, f00, f01, f02, f03, f04⟩ := box5 (HS.blk 1); obtain ⟨z80, z81, z82, f80, f81, f82⟩ := box3 (HS.blk 0)))
   clear z00 z01 z02 z03 z04 f00 f01 f02 f03 f04 z80 z81 z82 f80 f81 f82
   obtain ⟨W5_, e5_, H5_⟩ := (((HS.putI 0 0 (.int .i64 x) #[.int .i64 x, .string (⟨#[]⟩ : ByteArray), .string (⟨#[]⟩ : ByteArray)]).putI 0 1 (.string y) #[.int .i64 x, .string y, .string (⟨#[]⟩ : ByteArray)]).putI 0 2 (.string b) #[.int .i64 x, .string y, .string b]).gen
   rw [e5_]
   clear HS e5_
   have HS := H5_
   clear H5_
   obtain ⟨z00, z01, z02, z03, z04, f00, f01, f02, f03, f04⟩ := box5 (HS.blk 1)
   obtain ⟨z80, z81, z82, f80, f81, f82⟩ := box3 (HS.blk 0)
   go_upto_region 7 with fail
   generalize wrap64 (x - 2) = u at h ⊢
   cases o with
   | false =>
    rw [if_pos rfl] at h
    go_wp2
    replace HS := HS.tail
    go_roundg (P.length - (j + 1))
    case measure => omega
    case rel => exact ⟨j + 1, ps', ss', ib', nw_next hj I4.out, ⟨h⟩, hj, Nat.le_refl _, hib, HS⟩
   | true =>
    rw [if_neg (by decide)] at h
    cases z with
    | false =>
     rw [if_pos rfl] at h
     by_cases hx : x = 1
     ·rw [if_pos hx] at h
      have hxb : (x == 1) = true := beq_iff_eq.2 hx
      clear hx
      replace h := bS h; obtain ⟨⟨ks1, ps1, ss1, ib1, sd1⟩, T3, h⟩ := h
      obtain ⟨e1, e2, e3⟩ := impl_Net_come.keeps T3.out
      dsimp only at e1 e2 e3
      replace e1 := e1.symm; replace e2 := e2.symm; replace e3 := e3.symm
      subst e1 e2 e3
      go_wp2_with (first | (go_at_call 98; have HC_ := impl_Net_come.calls (n := ⟨ks, ps', ss', ib', sd⟩) (HS.fr5.fr5.fr5.fr5.fr5) T3.out; refine HC_.mono ?_; clear HC_; rintro e W_ ⟨rfl, HS'_⟩; clear HS; have HS := HS'_; clear HS'_; dsimp only [netA, List.cons_append, List.nil_append] at HS; clear z00 z01 z02 z03 z04 f00 f01 f02 f03 f04 z80 z81 z82 f80 f81 f82; obtain ⟨z00, z01, z02, z03, z04, f00, f01, f02, f03, f04⟩ := box5 (HS.blk 0); obtain ⟨z80, z81, z82, f80, f81, f82⟩ := box3 (HS.blk 5)))
      replace HS := HS.fr5.tail
      go_roundg (P.length - (j + 1))
      case measure => omega
      case rel => exact ⟨j + 1, ps1, ss1, ib', nw_next hj I4.out, ⟨h⟩, hj, Nat.le_refl _, hib, HS⟩
     ·rw [if_neg hx] at h
      have hxb : (x == 1) = false := beq_eq_false_iff_ne.2 hx
      clear hx
      go_wp2
      replace HS := HS.tail
      go_roundg (P.length - (j + 1))
      case measure => omega
      case rel => exact ⟨j + 1, ps', ss', ib', nw_next hj I4.out, ⟨h⟩, hj, Nat.le_refl _, hib, HS⟩
    | true =>
     rw [if_neg (by decide)] at h
     replace h := bS h; obtain ⟨c, T2, h⟩ := h
     rcases Bool.eq_false_or_eq_true (x == 1) with hxb | hxb
     all_goals
      cases c with
      | false =>
       rw [if_pos rfl] at h
       go_wp2_with (first | (go_at_call 70; refine (impl_within.calls _ _ _ _ _ T2.out).mono ?_; rintro e W_ ⟨rfl, nd_, rfl⟩; replace HS := HS.drewN nd_; generalize World.drewN _ nd_ = W_ at HS ⊢; clear z00 z01 z02 z03 z04 f00 f01 f02 f03 f04 z80 z81 z82 f80 f81 f82; obtain ⟨z00, z01, z02, z03, z04, f00, f01, f02, f03, f04⟩ := box5 (HS.blk 1); obtain ⟨z80, z81, z82, f80, f81, f82⟩ := box3 (HS.blk 0)))
       replace HS := HS.tail
       go_roundg (P.length - (j + 1))
       case measure => omega
       case rel => exact ⟨j + 1, ps', ss', ib', nw_next hj I4.out, ⟨h⟩, hj, Nat.le_refl _, hib, HS⟩
      | true =>
       rw [if_neg (by decide)] at h
       by_cases hb : b = (⟨#[]⟩ : ByteArray)
       ·rw [if_pos hb] at h
        subst hb
        go_wp2_with (first | (go_at_call 70; refine (impl_within.calls _ _ _ _ _ T2.out).mono ?_; rintro e W_ ⟨rfl, nd_, rfl⟩; replace HS := HS.drewN nd_; generalize World.drewN _ nd_ = W_ at HS ⊢; clear z00 z01 z02 z03 z04 f00 f01 f02 f03 f04 z80 z81 z82 f80 f81 f82; obtain ⟨z00, z01, z02, z03, z04, f00, f01, f02, f03, f04⟩ := box5 (HS.blk 1); obtain ⟨z80, z81, z82, f80, f81, f82⟩ := box3 (HS.blk 0)))
        replace HS := HS.tail
        go_roundg (P.length - (j + 1))
        case measure => omega
        case rel => exact ⟨j + 1, ps', ss', ib', nw_next hj I4.out, ⟨h⟩, hj, Nat.le_refl _, hib, HS⟩
       ·rw [if_neg hb] at h
        have hbb := nw_nonempty hb
        clear hb
        replace h := ifS h; obtain ⟨⟨u0, u1⟩, h⟩ := h
        rw [hib] at u1
        have pu0 : (0 ≤ u) = True := eq_true u0
        have pu1 : (u < (ib.length : Int)) = True := eq_true u1
        obtain ⟨AI, qI, HS, -, -⟩ := HS.fr5.lend u u0 u1
        generalize hI : ib'.getD u.toNat [] = I at HS h
        have GI := ak hI; clear hI
        clear z00 z01 z02 z03 z04 f00 f01 f02 f03 f04 z80 z81 z82 f80 f81 f82
        obtain ⟨z00, z01, z02, z03, z04, f00, f01, f02, f03, f04⟩ := box5 (HS.blk 3)
        obtain ⟨z80, z81, z82, f80, f81, f82⟩ := box3 (HS.blk 2)
        obtain ⟨hcgi, hfgi⟩ := HS.hole u0 u1
        by_cases hn : I.length < 60
        ·rw [if_pos hn] at h
         have hnb : decide ((I.length : Int) < 60) = true := decide_eq_true (by omega)
         generalize hIb : I ++ [b] = I' at h
         go_upto_region 11 with (first | (go_at_call 70; refine (impl_within.calls _ _ _ _ _ T2.out).mono ?_; rintro e W_ ⟨rfl, nd_, rfl⟩; replace HS := HS.drewN nd_; generalize World.drewN _ nd_ = W_ at HS ⊢; clear z00 z01 z02 z03 z04 f00 f01 f02 f03 f04 z80 z81 z82 f80 f81 f82 hcgi hfgi; obtain ⟨z00, z01, z02, z03, z04, f00, f01, f02, f03, f04⟩ := box5 (HS.blk 3); obtain ⟨z80, z81, z82, f80, f81, f82⟩ := box3 (HS.blk 2); obtain ⟨hcgi, hfgi⟩ := HS.hole u0 u1))
         clear z00 z01 z02 z03 z04 f00 f01 f02 f03 f04 z80 z81 z82 f80 f81 f82 hcgi hfgi
         obtain ⟨z00, z01, z02, z03, z04, f00, f01, f02, f03, f04⟩ := box5 (HS.blk 3)
         obtain ⟨z80, z81, z82, f80, f81, f82⟩ := box3 (HS.blk 2)
         obtain ⟨hcgi, hfgi⟩ := HS.hole u0 u1
         refine start_ (n := 18) (S := fun w' => w'.cell? ⟨b0, 0, none⟩ = some (.slice (some ⟨g0, 0, none⟩) ks.length q0) ∧ w'.cell? ⟨b0, 1, none⟩ = some (.slice (some ⟨g1, 0, none⟩) ps.length q1) ∧ w'.cell? ⟨b0, 2, none⟩ = some (.slice A2 ss.length c2) ∧ w'.cell? ⟨b0, 3, none⟩ = some (.slice (some ⟨g3, 0, none⟩) ib.length q3) ∧ w'.cell? ⟨b0, 4, none⟩ = some (.int .i64 sd) ∧ w'.cell? ⟨b8, 0, none⟩ = some (.int .i64 x) ∧ w'.cell? ⟨b8, 1, none⟩ = some (.string y) ∧ w'.cell? ⟨b8, 2, none⟩ = some (.string b) ∧ w'.cell? ⟨g3, u.toNat, none⟩ = some (.slice AI I.length qI)) (ds := [17]) (bl 18 0) (by kernel_rfl) rfl rfl ⟨z00, z01, z02, z03, z04, z80, z81, z82, hcgi⟩ (fun hHeld => ?_); refine with_tabW impl_Net_goOn.tab11 impl_Net_goOn.bits11 (fun HT_ HW_ => ?_)
         clear z00 z01 z02 z03 z04 f00 f01 f02 f03 f04 z80 z81 z82 f80 f81 f82 hcgi hfgi
         replace HS := HS.drew
         generalize World.drew _ = W9_ at HS hHeld ⊢
         refine pureA 0 (some 92) 18 1 HT_ ?_
         refine pureA 1 (some 93) 18 3 HT_ ?_
         refine pureA 2 (some 94) 18 7 HT_ ?_
         refine takeA 3 (some 95) 18 15 HT_ HW_ hHeld ?_ (hy := by rintro w' ⟨s0, s1, s2, s3, s4, s5, s6, s7, s8⟩; go_simp; with_reducible rfl)
         refine pureA 4 (some 96) 18 31 HT_ ?_
         refine pureA 5 (some 97) 18 63 HT_ ?_
         refine pureA 6 (some 98) 18 127 HT_ ?_
         refine pureA 7 (some 99) 18 255 HT_ ?_
         refine takeA 8 (some 100) 18 511 HT_ HW_ hHeld ?_ (hy := by rintro w' ⟨s0, s1, s2, s3, s4, s5, s6, s7, s8⟩; go_simp; with_reducible rfl)
         refine pureA 9 (some 101) 18 1023 HT_ ?_
         refine pureA 10 (some 102) 18 2047 HT_ ?_
         refine takeA 11 (some 103) 18 4095 HT_ HW_ hHeld ?_ (hy := by rintro w' ⟨s0, s1, s2, s3, s4, s5, s6, s7, s8⟩; go_simp; with_reducible rfl)
         refine pureA 12 (some 104) 18 8191 HT_ ?_
         refine takeA 13 (some 105) 18 16383 HT_ HW_ hHeld ?_ (hy := by rintro w' ⟨s0, s1, s2, s3, s4, s5, s6, s7, s8⟩; go_simp; with_reducible rfl)
         refine oneA 14 (some 106) 18 32767 HT_ (fun K hK => ?_)
         clear hHeld
         refine Kd.R_lit_step Kd.string _ 9 ?hg (N := 106) ?hd (xs := ([b] : List ByteArray)) (inner := [.string b]) (ok := fun _ => True) (okp := fun _ => True) ?hr ?hp (fun _ hk => hk) trivial (Below.refl _ _) (Nat.le_refl _) (by simp) ?_
         (case hd => rfl)
         (case hg => rfl)
         (case hr => first | (go_simp; done) | (go_simp; rfl))
         (case hp => exact Reps.one (show Kd.M Kd.string _ _ _ b [.string b] from rfl) (Reps.none _ _))
         intro vU W_ ho_ hb_ _ _
         replace HS := HS.new (A := rA Kd.string 9 vU [b]) hb_ ho_
         clear ho_ hb_
         obtain ⟨AU, qU, rfl⟩ := HS.slR 0
         obtain ⟨z00, z01, z02, z03, z04, f00, f01, f02, f03, f04⟩ := box5 (HS.blk 4)
         obtain ⟨z80, z81, z82, f80, f81, f82⟩ := box3 (HS.blk 3)
         obtain ⟨hcgi, hfgi⟩ := HS.fr1.hole u0 u1
         refine hK.out _ _ ⟨z00, z01, z02, z03, z04, z80, z81, z82, hcgi⟩ (fun hHeld => ?_)
         clear hK K z00 z01 z02 z03 z04 f00 f01 f02 f03 f04 z80 z81 z82 f80 f81 f82 hcgi hfgi
         refine norm_ (a' := ?_) ?_ ?_
         rotate_left
         ·show Act.put _ (some 106) _ = _
          simp only [Act.put, List.setIfInBounds_toArray, List.set_cons_zero, List.set_cons_succ, i64_w, i32_w]
          rfl
         refine oneA 15 (some 107) 18 65535 HT_ (fun K hK => ?_)
         clear hHeld
         have HU := (HS.rdR 0).2.2
         replace HS := HS.fr2
         refine Sep.append Kd.string (by rfl) (.tmp 103) (.tmp 106) 62 9 (.string ⟨#[]⟩) 16 rfl Tryz.underlying62 info9 rfl (by decide) (by omega) (.slice AI I.length qI) I [b] AU 1 qU rfl rfl HS HU (fun _ _ _ _ h => h) (by omega) ?_
         clear HS HU
         intro vI W_ HS
         rw [hIb] at HS
         obtain ⟨AI1, qI1, rfl⟩ := HS.slR 0
         obtain ⟨z00, z01, z02, z03, z04, f00, f01, f02, f03, f04⟩ := box5 (HS.blk 4)
         obtain ⟨z80, z81, z82, f80, f81, f82⟩ := box3 (HS.blk 3)
         obtain ⟨hcgi, hfgi⟩ := HS.fr2.hole u0 u1
         refine hK.out _ _ ⟨z00, z01, z02, z03, z04, z80, z81, z82, hcgi⟩ (fun hHeld => ?_)
         clear hK K z00 z01 z02 z03 z04 f00 f01 f02 f03 f04 z80 z81 z82 f80 f81 f82 hcgi hfgi
         refine norm_ (a' := ?_) ?_ ?_
         rotate_left
         ·show Act.put _ (some 107) _ = _
          simp only [Act.put, List.setIfInBounds_toArray, List.set_cons_zero, List.set_cons_succ, i64_w, i32_w]
          rfl
         refine pureA 16 (some 108) 18 131071 HT_ ?_
         refine last_ (i := 17) (N := none) (bl 18 262143) rfl rfl (one_of HT_.out (by kernel_rfl)) (by decide) (fun K hK => ?_)
         clear hHeld
         obtain ⟨hcgi, hfgi⟩ := HS.fr2.hole u0 u1
         refine skip_ (w1 := ?_) (by rfl) rfl ?_ ?_
         rotate_left
         ·go_simp
          rfl
         clear hcgi hfgi
         replace HS := HS.fr2.hput u0 u1 (.slice AI1 I'.length qI1) rfl
         refine hK.out _ _ ?_
         clear hK K
         refine done_ (done_of HT_.out (by kernel_rfl)) ?_
         clear HT_ HW_
         obtain ⟨W5_, e5_, H5_⟩ := HS.gen
         rw [e5_]
         clear HS e5_
         have HS := H5_
         clear H5_
         replace HS := HS.back
         have hib1 : (ib'.set u.toNat I').length = ib.length := by rw [List.length_set]; exact hib
         go_wp2
         replace HS := HS.fr2.tail
         replace HS := HS.fr1.tail
         go_roundg (P.length - (j + 1))
         case measure => omega
         case rel => exact ⟨j + 1, ps', ss', ib'.set u.toNat I', nw_next hj I4.out, ⟨h⟩, hj, Nat.le_refl _, hib1, HS.fr5.fr1.fr5.fr5.fr5.fr5⟩
        ·rw [if_neg hn] at h
         have hnb : decide ((I.length : Int) < 60) = false := decide_eq_false (by omega)
         go_wp2_with (first | (go_at_call 70; refine (impl_within.calls _ _ _ _ _ T2.out).mono ?_; rintro e W_ ⟨rfl, nd_, rfl⟩; replace HS := HS.drewN nd_; generalize World.drewN _ nd_ = W_ at HS ⊢; clear z00 z01 z02 z03 z04 f00 f01 f02 f03 f04 z80 z81 z82 f80 f81 f82 hcgi hfgi; obtain ⟨z00, z01, z02, z03, z04, f00, f01, f02, f03, f04⟩ := box5 (HS.blk 3); obtain ⟨z80, z81, z82, f80, f81, f82⟩ := box3 (HS.blk 2); obtain ⟨hcgi, hfgi⟩ := HS.hole u0 u1))
         replace HS := HS.back0 GI
         replace HS := HS.fr1.tail
         go_roundg (P.length - (j + 1))
         case measure => omega
         case rel => exact ⟨j + 1, ps', ss', ib', nw_next hj I4.out, ⟨h⟩, hj, Nat.le_refl _, hib, HS.fr5.fr1.fr5.fr5.fr5.fr5⟩
  ·have hd : P.drop j = [] := List.drop_eq_nil_of_le (by omega)
   rw [hd] at h
   simp only [impl_Net_goOn.l0] at h
   obtain rfl := Option.some.inj h
   have hjb : decide ((j : Int) < (P.length : Int)) = false := decide_eq_false (by omega)
   obtain ⟨z00, z01, z02, z03, z04, f00, f01, f02, f03, f04⟩ := box5 (HS.blk 0)
   go_wp2
   refine bodyPost_end (results_none rfl _ _ _) rfl ?_
   replace HS := HS.fr5.tail
   exact ⟨rfl, HS⟩
theorem impl_Net_goOn.keeps_l {k : Nat} {i : Int} {z : Bool} : ∀ {P : List ByteArray} {n m : Nt}, impl_Net_goOn.l0 k i z P n = some m → m.ks = n.ks ∧ m.sd = n.sd
 | [], n, m, h => by
  simp only [impl_Net_goOn.l0] at h
  obtain rfl := Option.some.inj h
  exact ⟨rfl, rfl⟩
 | s :: r, n, m, h => by
  have ih : ∀ n' : Nt, impl_Net_goOn.l0 k i z r n' = some m → m.ks = n'.ks ∧ m.sd = n'.sd := fun n' h' => impl_Net_goOn.keeps_l h'
  simp only [impl_Net_goOn.l0] at h
  replace h := ifS h; obtain ⟨-, h⟩ := h
  replace h := bS h; obtain ⟨⟨x, y, b, o⟩, -, h⟩ := h
  dsimp only at h
  repeat' split at h
  all_goals
   first
   | exact ih _ h
   | (replace h := bS h; obtain ⟨n', T, h⟩ := h; obtain ⟨e1, e2, e3⟩ := impl_Net_come.keeps T.out; have := ih _ h; exact ⟨this.1.trans e1, this.2.trans e3⟩)
   | (replace h := bS h; obtain ⟨c, -, h⟩ := h; (repeat' split at h); (all_goals first | exact ih _ h | (have h2 := ih _ h; exact h2) | cases h))
theorem impl_Net_goOn.keeps {k : Nat} {n m : Nt} {i : Int} (h : impl_Net_goOn.f k n i = some m) : m.ks = n.ks ∧ m.sd = n.sd := by
 unfold impl_Net_goOn.f at h
 replace h := ifS h; obtain ⟨-, h⟩ := h
 exact impl_Net_goOn.keeps_l (n := ⟨n.ks, n.ps.set i.toNat [], n.ss, n.ib, n.sd⟩) h

/-! ### bits_Mul32: function 142 -/
def bits_Mul32.f (a0 : Int) (a1 : Int) : Option (Int × Int) := some (((IntKind.u64.wrap ((IntKind.u64.wrap (a0)) * (IntKind.u64.wrap (a1)))) / 4294967296) % 4294967296, (IntKind.u64.wrap ((IntKind.u64.wrap (a0)) * (IntKind.u64.wrap (a1)))) % 4294967296)
set_option maxHeartbeats 8000000 in
set_option maxRecDepth 100000 in
theorem bits_Mul32.calls (a0 : Int) (a1 : Int) (r1 : Int) (r2 : Int) (w : World) (h : bits_Mul32.f a0 a1 = some (r1, r2)) :
  Calls Tryz.prog 142 #[.int .u32 a0, .int .u32 a1] w fun e w' => e = .returned (.tuple #[.int .u32 r1, .int .u32 r2]) ∧ Drawn0 w w' := by
 have H : (some (((IntKind.u64.wrap ((IntKind.u64.wrap (a0)) * (IntKind.u64.wrap (a1)))) / 4294967296) % 4294967296, (IntKind.u64.wrap ((IntKind.u64.wrap (a0)) * (IntKind.u64.wrap (a1)))) % 4294967296)) = some (r1, r2) := h
 clear h
 simp only [Option.some.injEq, Prod.mk.injEq] at H
 obtain ⟨rfl, rfl⟩ := H
 go_enter Tryz.func142, Tryz.ntmps142
 go_wp2
 go_ret2
 exact ⟨er, drw⟩

/-! ### bits_Mul64: function 143 -/
def bits_Mul64.f (a0 : Int) (a1 : Int) : Option (Int × Int) := some (IntKind.u64.wrap ((IntKind.u64.wrap ((IntKind.u64.wrap ((a0 / 4294967296) * (a1 / 4294967296))) + ((IntKind.u64.wrap ((IntKind.u64.wrap ((a0 / 4294967296) * (Go.bits .and .u64 a1 4294967295))) + ((IntKind.u64.wrap ((Go.bits .and .u64 a0 4294967295) * (Go.bits .and .u64 a1 4294967295))) / 4294967296))) / 4294967296))) + ((IntKind.u64.wrap ((Go.bits .and .u64 (IntKind.u64.wrap ((IntKind.u64.wrap ((a0 / 4294967296) * (Go.bits .and .u64 a1 4294967295))) + ((IntKind.u64.wrap ((Go.bits .and .u64 a0 4294967295) * (Go.bits .and .u64 a1 4294967295))) / 4294967296))) 4294967295) + (IntKind.u64.wrap ((Go.bits .and .u64 a0 4294967295) * (a1 / 4294967296))))) / 4294967296)), IntKind.u64.wrap (a0 * a1))
set_option maxHeartbeats 8000000 in
set_option maxRecDepth 100000 in
theorem bits_Mul64.calls (a0 : Int) (a1 : Int) (r1 : Int) (r2 : Int) (w : World) (h : bits_Mul64.f a0 a1 = some (r1, r2)) :
  Calls Tryz.prog 143 #[.int .u64 a0, .int .u64 a1] w fun e w' => e = .returned (.tuple #[.int .u64 r1, .int .u64 r2]) ∧ Drawn0 w w' := by
 have H : (some (IntKind.u64.wrap ((IntKind.u64.wrap ((IntKind.u64.wrap ((a0 / 4294967296) * (a1 / 4294967296))) + ((IntKind.u64.wrap ((IntKind.u64.wrap ((a0 / 4294967296) * (Go.bits .and .u64 a1 4294967295))) + ((IntKind.u64.wrap ((Go.bits .and .u64 a0 4294967295) * (Go.bits .and .u64 a1 4294967295))) / 4294967296))) / 4294967296))) + ((IntKind.u64.wrap ((Go.bits .and .u64 (IntKind.u64.wrap ((IntKind.u64.wrap ((a0 / 4294967296) * (Go.bits .and .u64 a1 4294967295))) + ((IntKind.u64.wrap ((Go.bits .and .u64 a0 4294967295) * (Go.bits .and .u64 a1 4294967295))) / 4294967296))) 4294967295) + (IntKind.u64.wrap ((Go.bits .and .u64 a0 4294967295) * (a1 / 4294967296))))) / 4294967296)), IntKind.u64.wrap (a0 * a1))) = some (r1, r2) := h
 clear h
 simp only [Option.some.injEq, Prod.mk.injEq] at H
 obtain ⟨rfl, rfl⟩ := H
 go_enter Tryz.func143, Tryz.ntmps143
 go_wp2
 go_ret2
 exact ⟨er, drw⟩

/-! ### bits_Mul: function 130 -/
def bits_Mul.f (a0 : Int) (a1 : Int) : Option (Int × Int) := (bits_Mul64.f a0 a1).bind fun bt301 => (some (bt301.1, bt301.2))
set_option maxHeartbeats 8000000 in
set_option maxRecDepth 100000 in
theorem bits_Mul.calls (a0 : Int) (a1 : Int) (r1 : Int) (r2 : Int) (w : World) (h : bits_Mul.f a0 a1 = some (r1, r2)) :
  Calls Tryz.prog 130 #[.int .u64 a0, .int .u64 a1] w fun e w' => e = .returned (.tuple #[.int .u64 r1, .int .u64 r2]) ∧ Drawn0 w w' := by
 have H : ((bits_Mul64.f a0 a1).bind fun bt301 => (some (bt301.1, bt301.2))) = some (r1, r2) := h
 clear h; replace H := bS H; obtain ⟨⟨t301, t302⟩, A3, H⟩ := H
 replace H : (some (t301, t302)) = some (r1, r2) := H
 simp only [Option.some.injEq, Prod.mk.injEq] at H
 obtain ⟨rfl, rfl⟩ := H
 go_enter Tryz.func130, Tryz.ntmps130
 go_wp2_with (first | ((with_reducible refine gate_callee (f := 143) rfl ?_); refine goesLa (some 25) rfl Tryz.func143 #[.int .u64 a0, .int .u64 a1] rfl ?_; (with_reducible refine (bits_Mul64.calls a0 a1 t301 t302 _ A3.out).mono ?_); rintro e w' ⟨rfl, ⟨nd, rfl⟩⟩; refine ⟨_, rfl, ?_⟩))
 go_ret2
 exact ⟨er, drw⟩

/-! ### slices_Repeat_int_int: function 117 -/
def slices_Repeat_int_int.f (l0 : List Int) (a1 : Int) : Option (List Int) := if 0 ≤ a1 then (if a1 ≤ 1048576 then (if (l0.length : Int) = 1 then ((bits_Mul.f 1 a1).bind fun m => (if m.1 = 0 then (if m.2 = a1 then (some (List.replicate a1.toNat (rd l0 0))) else (none)) else (none))) else (none)) else (none)) else (none)
set_option maxHeartbeats 8000000 in
set_option maxRecDepth 100000 in
theorem slices_Repeat_int_int.calls (A0 : Option Addr) (c0 : Nat) (l0 : List Int) (a1 : Int) (r : List Int) (w : World) (hr0 : Kd.C (Kd.int .i64) w A0 l0.length l0) (hc0 : l0.length ≤ c0) (h : slices_Repeat_int_int.f l0 a1 = some r) :
  Calls Tryz.prog 117 #[.slice A0 l0.length c0, .int .i64 a1] w fun e w' => ∃ v0_ : Value, e = .returned (v0_) ∧ Kd.R (Kd.int .i64) 3 w' w.heap.size (fun _ => True) v0_ r ∧ Below w.heap.size w w' := by
 unfold slices_Repeat_int_int.f at h
 by_cases h0 : 0 ≤ a1
 ·rw [if_pos h0] at h
  by_cases h1 : a1 ≤ 1048576
  ·rw [if_pos h1] at h
   by_cases hl : (l0.length : Int) = 1
   ·rw [if_pos hl] at h
    obtain ⟨⟨m1, m2⟩, hm, h⟩ := Option.bind_eq_some_iff.mp h
    by_cases e1 : m1 = 0
    ·by_cases e2 : m2 = a1
     ·subst e1; subst e2
      simp only [if_true, Option.some.injEq] at h
      subst h
      obtain ⟨x, rfl⟩ : ∃ x, l0 = [x] := List.length_eq_one_iff.1 (by omega)
      obtain ⟨ad, rfl, hx⟩ := Kd.at_int hr0 0 (by omega) (by simp)
      obtain ⟨N, rfl⟩ := Int.eq_ofNat_of_zero_le h0
      have HM := Aside0.mk hm; clear hm hr0 hl
      have wu : IntKind.u64.wrap (N : Int) = (N : Int) := by simp [IntKind.wrap, IntKind.bits, IntKind.signed]; omega
      have wi : IntKind.i64.wrap (N : Int) = (N : Int) := by rw [IntKind.wrap_i64]; omega
      have n0 : decide ((N : Int) < 0) = false := decide_eq_false (by omega)
      have n1 : decide ((9223372036854775807 : Int) < (N : Int)) = false := decide_eq_false (by omega)
      go_enter Tryz.func117, Tryz.ntmps117
      go_wp2_with (first | ((with_reducible refine gate_callee (f := 130) rfl ?_); refine goesL_ (some 18) rfl rfl Tryz.func130 (by kernel_rfl) rfl #[.int .u64 1, .int .u64 (N : Int)] rfl (by (try simp only [List.map_toArray, List.map_cons, List.map_nil]); first | done | rfl | (simp; done)) ?_; (with_reducible refine (bits_Mul.calls 1 (N : Int) 0 (N : Int) _ HM.out).mono ?_); rintro e w2 ⟨rfl, ⟨nd, rfl⟩⟩; refine ⟨_, rfl, ?_⟩) | ((with_reducible refine gate_dst (N := 30) rfl ?_); refine make_raw rfl 22 3 _ _ rfl N rfl rfl Tryz.underlying22 (.int .i64 0) 8 info3 rfl (by decide) (by omega) ?_; intro w3 hw3; have HG3 := Aside0.mk (show w3.heap[(w.drewN nd).heap.size]? = some (.cells (List.replicate N (Value.int .i64 0)).toArray 3 (0, 0)) by rw [hw3]; exact heap_alloc_new _ _); have HB3 := Aside0.mk (show Below w.heap.size w w3 by rw [hw3]; exact below_alloc (pw_below_drewN (Below.refl _ _) nd) _); have GE := Aside0.mk (show w.heap.size ≤ (w.drewN nd).heap.size from Nat.le_refl _); clear hw3; generalize (w.drewN nd).heap.size = g at HG3 GE ⊢) | ((with_reducible refine gate_builtin (b := .copy) (xs := #[.tmp 31, .tmp 32]) (ts := #[22, 22]) rfl ?_); go_loud (refine wpList_copy_splice rfl (.tmp 31) (.tmp 32) 22 22 rfl 3 Tryz.underlying22 (by kernel_rfl) (some ⟨g, 0, none⟩) (some ad) N N 1 c0 rfl rfl g 0 (List.replicate N (Value.int .i64 0)) 3 HG3.out (List.replicate (min 1 N) (Value.int .i64 x)) List.length_replicate (fun _ => ⟨rfl, ad, rfl, rep_src hx HB3.out⟩) (by simp; omega) (rep_one _ _) w.heap.size w HB3.out GE.out ?_); intro w4 hg4 hb4))
      rw [repl_start] at hg4
      (try simp only [Act.put, List.setIfInBounds_toArray, List.set_cons_zero, List.set_cons_succ])
      go_loopg [8] N (fun kq v8 w' => ∃ n : Nat, v8 = .int .i64 (n : Int) ∧ Aside0 (n ≤ N) ∧ Aside0 (0 < N → 0 < n) ∧ Aside0 (N ≤ n + kq) ∧ Aside0 (w'.heap[g]? = some (.cells (repl x N n).toArray 3 (0, 0))) ∧ Aside0 (Below w.heap.size w w'))
      case atStart => exact ⟨min 1 N, by simp [goInt], ⟨by omega⟩, ⟨by omega⟩, ⟨by omega⟩, ⟨hg4.out⟩, ⟨hb4⟩⟩
      case round =>
       obtain ⟨n, rfl, Hn, Hp, HK, HG, HB⟩ := hrel
       by_cases hn : n < N
       ·obtain ⟨k1, rfl⟩ : ∃ k1, gk = k1 + 1 := ⟨gk - 1, by have := HK.out; omega⟩
        have c0 : decide ((n : Int) < (N : Int)) = true := decide_eq_true (by omega)
        have q0 : (0 : Int) ≤ (n : Int) := by omega
        have q1 : (n : Int) ≤ (N : Int) := by omega
        have q2 : (n : Int) < (N : Int) := by omega
        go_wp2_with fail
        go_region_law (refine step_copy_splice rfl (.tmp 41) (.tmp 44) 22 22 rfl 3 Tryz.underlying22 (by kernel_rfl) (some ⟨g, n, none⟩) (some ⟨g, 0, none⟩) (N - n) (N - n) n N (by simp [Act.eval, Act.put]; omega) (by simp [Act.eval, Act.put]) g n (repl x N n) 3 HG.out (List.replicate (min n (N - n)) (Value.int .i64 x)) List.length_replicate (fun _ => ⟨rfl, _, rfl, repl_src HG.out _ (Nat.min_le_left _ _)⟩) (by rw [repl_len _ _ _ Hn.out, List.length_replicate]; omega) (rep_one _ _) w.heap.size w (below_drew1 HB.out) GE.out ?_; intro w5 hg5 hb5)
        rw [repl_splice x N n _ (by omega)] at hg5
        go_wp2
        go_roundg k1
        case measure => omega
        case rel => exact ⟨n + min n (N - n), by (try simp only [goInt, List.length_replicate, IntKind.wrap_i64]); exact congrArg (Value.int .i64) (by first | omega | (unfold wrap64; omega)), ⟨by omega⟩, ⟨fun _ => by have := Hp.out (by omega); omega⟩, ⟨by have := HK.out; have := Hp.out (by omega); omega⟩, ⟨hg5.out⟩, ⟨hb5⟩⟩
       ·have c0 : decide ((n : Int) < (N : Int)) = false := decide_eq_false (by omega)
        go_wp2
        go_ret
        have e : n = N := by have := Hn.out; omega
        subst e; have hg := HG.out
        rw [repl_full] at hg
        exact ⟨_, rfl, R_ofcells hg GE.out (by unfold maxLen; omega), HB.out⟩
     ·simp [e2] at h
    ·simp [e1] at h
   ·rw [if_neg hl] at h; exact absurd h (by simp)
  ·rw [if_neg h1] at h; exact absurd h (by simp)
 ·rw [if_neg h0] at h; exact absurd h (by simp)

/-! ### impl_padded: function 131 -/
def impl_padded.f (k : Nat) (a0 : ByteArray) : Option (ByteArray) := if a0.size + 1 ≤ 9223372036854775807 then ((strings_Repeat.f k (⟨#[0]⟩ : ByteArray) (15 - (a0.size : Int))).bind fun t303 => (if (a0 ++ (⟨#[128]⟩ : ByteArray)).size + t303.size ≤ 9223372036854775807 then (some ((a0 ++ (⟨#[128]⟩ : ByteArray)) ++ t303)) else (none))) else (none)
theorem impl_padded.mono : ∀ a0 k, LeO (impl_padded.f k a0) (impl_padded.f (k + 1) a0) := by
 intro a0 k
 unfold impl_padded.f
 repeat' (first | (with_reducible first | exact strings_Repeat.mono _ _ _ | exact LeO.refl _ | exact LeO.none _ | refine LeO.ite ?_ ?_ | refine LeO.bind ?_ (fun _ => ?_)) | exact strings_Repeat.mono _ _ _ | exact LeO.none _ | refine LeO.ite ?_ ?_ | refine LeO.bind ?_ (fun _ => ?_))
set_option maxHeartbeats 8000000 in
set_option maxRecDepth 100000 in
theorem impl_padded.calls (k : Nat) (a0 : ByteArray) (r : ByteArray) (w : World) (h : impl_padded.f k a0 = some r) :
  Calls Tryz.prog 131 #[.string a0] w fun e w' => e = .returned (.string r) ∧ Below w.heap.size w w' := by
 have HB := Aside0.mk (Below.refl w.heap.size w)
 have H : (if a0.size + 1 ≤ 9223372036854775807 then ((strings_Repeat.f k (⟨#[0]⟩ : ByteArray) (15 - (a0.size : Int))).bind fun t303 => (if (a0 ++ (⟨#[128]⟩ : ByteArray)).size + t303.size ≤ 9223372036854775807 then (some ((a0 ++ (⟨#[128]⟩ : ByteArray)) ++ t303)) else (none))) else (none)) = some r := h
 clear h; replace H := ifS H; obtain ⟨c2, H⟩ := H; have c2b0 := eq_true c2
 have c2b1 : decide (a0.size + 1 ≤ 9223372036854775807) = true := decide_eq_true c2
 try have c2b2 : (9223372036854775807 < a0.size + 1) = False := eq_false (Nat.not_lt.2 c2)
 replace H := bS H; obtain ⟨t303, A3, H⟩ := H
 replace H : (if (a0 ++ (⟨#[128]⟩ : ByteArray)).size + t303.size ≤ 9223372036854775807 then (some ((a0 ++ (⟨#[128]⟩ : ByteArray)) ++ t303)) else (none)) = some r := H
 replace H := ifS H; obtain ⟨c4, H⟩ := H; have c4b0 := eq_true c4
 have c4b1 : decide ((a0 ++ (⟨#[128]⟩ : ByteArray)).size + t303.size ≤ 9223372036854775807) = true := decide_eq_true c4
 try have c4b2 : (9223372036854775807 < (a0 ++ (⟨#[128]⟩ : ByteArray)).size + t303.size) = False := eq_false (Nat.not_lt.2 c4)
 have c4x2 := c4b2; simp only [ByteArray.size_append] at c4x2; change (9223372036854775807 < a0.size + 1 + t303.size) = False at c4x2
 obtain rfl := Option.some.inj H
 go_enter Tryz.func131, Tryz.ntmps131
 go_wp2_with (first | ((with_reducible refine gate_callee (f := 132) rfl ?_); refine goesLa (some 8) rfl Tryz.func132 #[.string (⟨#[0]⟩ : ByteArray), .int .i64 (15 - (a0.size : Int))] rfl ?_; (with_reducible refine (strings_Repeat.calls k (⟨#[0]⟩ : ByteArray) (15 - (a0.size : Int)) t303 _ A3.out).mono ?_); rintro e w5 ⟨rfl, hb⟩; refine ⟨_, rfl, ?_⟩; replace HB := ak (below_step (belowd HB) hb); (try clear hb)))
 go_ret
 exact ⟨er2, belowd HB⟩

/-! ### impl_onion: function 118 -/
def impl_onion.l0 : Nat → List Int → List Int → ByteArray → Int → Option (ByteArray)
  | 0, _, _, _, _ => none
  | k + 1, x0, x1, x7, x8 => if x8 ≥ 0 then (if 0 ≤ x8 then (if x8 < (x1.length : Int) then (if 0 ≤ 16 then (if 16 ≤ (x7.size : Int) then ((impl_check.f k (x7.extract 0 16)).bind fun t307 => ((some (([(rd x1 x8) % 256, (t307) % 256] : List Int) : List Int)).bind fun y308 => (if 0 ≤ 22 then (if 22 ≤ (x7.size : Int) then (if (strOfNums y308).size + (x7.extract 0 22).size ≤ 9223372036854775807 then (if x8 < (x0.length : Int) then ((impl_pad.f k (rd x0 x8) 24).bind fun t312 => ((impl_xor.f k ((strOfNums y308) ++ (x7.extract 0 22)) t312).bind fun t313 => (impl_onion.l0 k x0 x1 t313 (wrap64 (x8 - 1))))) else (none)) else (none)) else (none)) else (none)))) else (none)) else (none)) else (none)) else (none)) else (some x7)
def impl_onion.f (k : Nat) (l0 : List Int) (l1 : List Int) (a2 : ByteArray) : Option (ByteArray) := (impl_padded.f k a2).bind fun t304 => ((strings_Repeat.f k (⟨#[0]⟩ : ByteArray) 8).bind fun t305 => (if t304.size + t305.size ≤ 9223372036854775807 then (impl_onion.l0 k l0 l1 (t304 ++ t305) (wrap64 ((l0.length : Int) - 1))) else (none)))
theorem impl_onion.mono_l : ∀ k, (∀ y0 y1 y2 y3, LeO (impl_onion.l0 k y0 y1 y2 y3) (impl_onion.l0 (k + 1) y0 y1 y2 y3))
 | 0 => fun _ _ _ _ r h => by simp [impl_onion.l0] at h
 | k + 1 => by
  have ih0 := impl_onion.mono_l k
  ·intro y0 y1 y2 y3
   unfold impl_onion.l0
   repeat' (first | (with_reducible first | exact ih0 _ _ _ _ | exact impl_check.mono _ _ | exact impl_pad.mono _ _ _ | exact impl_padded.mono _ _ | exact impl_xor.mono _ _ _ | exact strings_Repeat.mono _ _ _ | exact LeO.refl _ | exact LeO.none _ | refine LeO.ite ?_ ?_ | refine LeO.bind ?_ (fun _ => ?_)) | exact ih0 _ _ _ _ | exact impl_check.mono _ _ | exact impl_pad.mono _ _ _ | exact impl_padded.mono _ _ | exact impl_xor.mono _ _ _ | exact strings_Repeat.mono _ _ _ | exact LeO.none _ | refine LeO.ite ?_ ?_ | refine LeO.bind ?_ (fun _ => ?_))
theorem impl_onion.mono : ∀ a0 a1 a2 k, LeO (impl_onion.f k a0 a1 a2) (impl_onion.f (k + 1) a0 a1 a2) := by
 intro a0 a1 a2 k
 have ih0 := impl_onion.mono_l k
 unfold impl_onion.f
 repeat' (first | (with_reducible first | exact ih0 _ _ _ _ | exact impl_check.mono _ _ | exact impl_pad.mono _ _ _ | exact impl_padded.mono _ _ | exact impl_xor.mono _ _ _ | exact strings_Repeat.mono _ _ _ | exact LeO.refl _ | exact LeO.none _ | refine LeO.ite ?_ ?_ | refine LeO.bind ?_ (fun _ => ?_)) | exact ih0 _ _ _ _ | exact impl_check.mono _ _ | exact impl_pad.mono _ _ _ | exact impl_padded.mono _ _ | exact impl_xor.mono _ _ _ | exact strings_Repeat.mono _ _ _ | exact LeO.none _ | refine LeO.ite ?_ ?_ | refine LeO.bind ?_ (fun _ => ?_))
def impl_onion.T5 : Bool × List (List Nat × List Nat) := (true, [([], []), ([], []), ([0, 1], [0, 1]), ([2], [2]), ([3], [3]), ([], []), ([5], [5]), ([6], [6]), ([7], [7]), ([4, 8], [4, 8]), ([9], [9]), ([], []), ([11], [11]), ([10, 12], [10, 12]), ([13, 7, 0, 1, 2, 3, 4, 5, 6, 7, 8, 9, 10, 11, 12, 13], [5, 11, 13])])
def impl_onion.B5 : List Nat := [0, 0, 3, 7, 15, 0, 32, 96, 224, 511, 1023, 0, 2048, 8191, 16383]
theorem impl_onion.tab5 : rtab .any (opsOf Tryz.f118 5) = impl_onion.T5 := by kernel_rfl
theorem impl_onion.bits5 : waitsOk impl_onion.T5.2 impl_onion.B5 = true := by kernel_rfl
set_option maxHeartbeats 8000000 in
set_option maxRecDepth 100000 in
theorem impl_onion.calls (k : Nat) (A0 : Option Addr) (c0 : Nat) (l0 : List Int) (A1 : Option Addr) (c1 : Nat) (l1 : List Int) (a2 : ByteArray) (r : ByteArray) (w : World) (hr0 : Kd.C (Kd.int .i64) w A0 l0.length l0) (hc0 : l0.length ≤ c0) (hr1 : Kd.C (Kd.int .i64) w A1 l1.length l1) (hc1 : l1.length ≤ c1) (h : impl_onion.f k l0 l1 a2 = some r) :
  Calls Tryz.prog 118 #[.slice A0 l0.length c0, .slice A1 l1.length c1, .string a2] w fun e w' => e = .returned (.string r) ∧ Below w.heap.size w w' := by
 have HR0 := Aside0.mk hr0; have HC0 := Aside0.mk hc0; clear hr0 hc0; have HR1 := Aside0.mk hr1; have HC1 := Aside0.mk hc1; clear hr1 hc1
 have HB := Aside0.mk (Below.refl w.heap.size w)
 have H : ((impl_padded.f k a2).bind fun t304 => ((strings_Repeat.f k (⟨#[0]⟩ : ByteArray) 8).bind fun t305 => (if t304.size + t305.size ≤ 9223372036854775807 then (impl_onion.l0 k l0 l1 (t304 ++ t305) (wrap64 ((l0.length : Int) - 1))) else (none)))) = some r := h
 clear h; replace H := bS H; obtain ⟨t304, A4, H⟩ := H
 replace H : ((strings_Repeat.f k (⟨#[0]⟩ : ByteArray) 8).bind fun t305 => (if t304.size + t305.size ≤ 9223372036854775807 then (impl_onion.l0 k l0 l1 (t304 ++ t305) (wrap64 ((l0.length : Int) - 1))) else (none))) = some r := H
 replace H := bS H; obtain ⟨t305, A5, H⟩ := H
 replace H : (if t304.size + t305.size ≤ 9223372036854775807 then (impl_onion.l0 k l0 l1 (t304 ++ t305) (wrap64 ((l0.length : Int) - 1))) else (none)) = some r := H
 replace H := ifS H; obtain ⟨c6, H⟩ := H; have c6b0 := eq_true c6
 have c6b1 : decide (t304.size + t305.size ≤ 9223372036854775807) = true := decide_eq_true c6
 try have c6b2 : (9223372036854775807 < t304.size + t305.size) = False := eq_false (Nat.not_lt.2 c6)
 have H' := Aside0.mk H
 clear H
 go_enter Tryz.func118, Tryz.ntmps118
 go_wp2_with (first | ((with_reducible refine gate_callee (f := 131) rfl ?_); refine goesLa (some 10) rfl Tryz.func131 #[.string a2] rfl ?_; (with_reducible refine (impl_padded.calls k a2 t304 _ A4.out).mono ?_); rintro e w7 ⟨rfl, hb⟩; refine ⟨_, rfl, ?_⟩; replace HB := ak (below_step (belowd HB) hb); (try clear hb)) | ((with_reducible refine gate_callee (f := 132) rfl ?_); refine goesLa (some 11) rfl Tryz.func132 #[.string (⟨#[0]⟩ : ByteArray), .int .i64 8] rfl ?_; (with_reducible refine (strings_Repeat.calls k (⟨#[0]⟩ : ByteArray) 8 t305 _ A5.out).mono ?_); rintro e w8 ⟨rfl, hb⟩; refine ⟨_, rfl, ?_⟩; replace HB := ak (below_step (belowd HB) hb); (try clear hb)))
 go_loopg [7, 8] k (fun kq v7 v8 w' => ∃ (x7_1 : ByteArray) (x8_1 : Int), v7 = .string x7_1 ∧ v8 = .int .i64 x8_1 ∧ Aside0 (impl_onion.l0 kq l0 l1 x7_1 x8_1 = some r) ∧ Aside0 (kq ≤ k) ∧ Aside0 (Below w.heap.size w w'))
 case atStart => exact ⟨(t304 ++ t305), (wrap64 ((l0.length : Int) - 1)), er, er, H', ⟨Nat.le_refl _⟩, ⟨belowd HB⟩⟩
 case round =>
  clear H'
  (try clear c1); (try clear c6); (try clear c6b0); (try clear c6b1); (try clear c6b2)
  obtain ⟨x7_1, x8_1, rfl, rfl, HA, HK1, HB⟩ := hrel
  cases gk with
  | zero => exact absurd HA.out (by simp [impl_onion.l0])
  | succ k1 =>
   have H := HA.out; clear HA
   simp only [impl_onion.l0] at H
   by_cases c9 : x8_1 ≥ 0
   ·rw [if_pos c9] at H
    have c9b0 : decide (0 ≤ x8_1) = true := decide_eq_true c9
    clear c9; replace H := ifS H; obtain ⟨c10, H⟩ := H; have c10b0 := decide_eq_true c10; clear c10; replace H := ifS H; obtain ⟨c11, H⟩ := H; have c11b0 := decide_eq_true c11; clear c11; replace H := ifS H; obtain ⟨c12, H⟩ := H; have c12b0 := eq_true c12
    have c12b1 : decide (0 ≤ 16) = true := decide_eq_true c12
    clear c12; replace H := ifS H; obtain ⟨c13, H⟩ := H; have c13b0 := eq_true c13
    have c13b1 : decide (16 ≤ (x7_1.size : Int)) = true := decide_eq_true c13
    clear c13; replace H := bS H; obtain ⟨t307, A14, H⟩ := H
    replace H : ((some (([(rd l1 x8_1) % 256, (t307) % 256] : List Int) : List Int)).bind fun y308 => (if 0 ≤ 22 then (if 22 ≤ (x7_1.size : Int) then (if (strOfNums y308).size + (x7_1.extract 0 22).size ≤ 9223372036854775807 then (if x8_1 < (l0.length : Int) then ((impl_pad.f k1 (rd l0 x8_1) 24).bind fun t312 => ((impl_xor.f k1 ((strOfNums y308) ++ (x7_1.extract 0 22)) t312).bind fun t313 => (impl_onion.l0 k1 l0 l1 t313 (wrap64 (x8_1 - 1))))) else (none)) else (none)) else (none)) else (none))) = some r := H
    obtain ⟨y308, hy_⟩ : ∃ y_ : List Int, y_ = (([(rd l1 x8_1) % 256, (t307) % 256] : List Int)) := ⟨_, rfl⟩
    replace H : (if 0 ≤ 22 then (if 22 ≤ (x7_1.size : Int) then (if (strOfNums y308).size + (x7_1.extract 0 22).size ≤ 9223372036854775807 then (if x8_1 < (l0.length : Int) then ((impl_pad.f k1 (rd l0 x8_1) 24).bind fun t312 => ((impl_xor.f k1 ((strOfNums y308) ++ (x7_1.extract 0 22)) t312).bind fun t313 => (impl_onion.l0 k1 l0 l1 t313 (wrap64 (x8_1 - 1))))) else (none)) else (none)) else (none)) else (none)) = some r := yH
    have Ny308 := ak hy_; clear hy_; replace H := ifS H; obtain ⟨c15, H⟩ := H; have c15b0 := eq_true c15
    have c15b1 : decide (0 ≤ 22) = true := decide_eq_true c15
    clear c15; replace H := ifS H; obtain ⟨c16, H⟩ := H; have c16b0 := eq_true c16
    have c16b1 : decide (22 ≤ (x7_1.size : Int)) = true := decide_eq_true c16
    clear c16; replace H := ifS H; obtain ⟨c17, H⟩ := H; have c17b0 := eq_true c17
    have c17b1 : decide ((strOfNums y308).size + (x7_1.extract 0 22).size ≤ 9223372036854775807) = true := decide_eq_true c17
    try have c17b2 : (9223372036854775807 < (strOfNums y308).size + (x7_1.extract 0 22).size) = False := eq_false (Nat.not_lt.2 c17)
    (try have c17x0 := c17b0; simp only [ByteArray.size_extract, Nat.sub_zero, Nat.min_self] at c17x0)
    (try have c17x2 := c17b2; simp only [ByteArray.size_extract, Nat.sub_zero, Nat.min_self] at c17x2)
    replace H := ifS H; obtain ⟨c18, H⟩ := H; have c18b0 := decide_eq_true c18; clear c18; replace H := bS H; obtain ⟨t312, A19, H⟩ := H
    replace H : ((impl_xor.f k1 ((strOfNums y308) ++ (x7_1.extract 0 22)) t312).bind fun t313 => (impl_onion.l0 k1 l0 l1 t313 (wrap64 (x8_1 - 1)))) = some r := H
    replace H := bS H; obtain ⟨t313, A20, H⟩ := H
    replace H : (impl_onion.l0 k1 l0 l1 t313 (wrap64 (x8_1 - 1))) = some r := H
    have H' := Aside0.mk H
    clear H
    try go_wp2
    replace HB := ak (below_drew1 HB.out)
    have p306 : 0 ≤ (x8_1 : Int) := da
    have q306 : x8_1 < (l1.length : Int) := da
    obtain ⟨ad306, e306, hx306_0⟩ := Kd.at_int HR1.out x8_1 p306 q306
    have hw306_0 := hx306_0
    cases e306
    replace hx306_0 := (HB.out.cell (World.block_lt_of_cell? w _ hx306_0)).trans hx306_0
    replace p306 := eq_true p306; replace q306 := eq_true q306
    refine start_ (n := 15) (S := fun w' => w'.cell? (ad306.add (x8_1).toNat) = some (.int .i64 (rd l1 x8_1))) (ds := []) (bl 15 0) (by kernel_rfl) rfl rfl (((HB.out.cell (World.block_lt_of_cell? w _ hw306_0)).trans hw306_0)) (fun hHeld => ?_); refine with_tabW impl_onion.tab5 impl_onion.bits5 (fun HT_ HW_ => ?_)
    generalize wr.drew = w21 at HB hx306_0 hHeld ⊢
    refine pureA 0 (some 20) 15 1 HT_ ?_
    refine pureA 1 (some 21) 15 3 HT_ ?_
    refine pureA 2 (some 22) 15 7 HT_ ?_
    refine pureA 5 (some 25) 15 39 HT_ ?_
    refine pureA 6 (some 26) 15 103 HT_ ?_
    refine pureA 11 (some 31) 15 2151 HT_ ?_
    refine pureA 12 (some 32) 15 6247 HT_ ?_
    refine takeA 3 (some 23) 15 6255 HT_ HW_ hHeld ?_ (hy := by intro w' s0; go_simp; with_reducible rfl)
    refine pureA 4 (some 24) 15 6271 HT_ ?_
    refine oneA 7 (some 27) 15 6399 HT_ (fun K hK => ?_)
    refine goes_ Tryz.func126 (by kernel_rfl) rfl #[.string (x7_1.extract 0 16)] (by rfl) rfl rfl (by (try simp only [List.map_toArray, List.map_cons, List.map_nil]); first | done | rfl | (simp only [List.length_drop, List.length_take]; rfl)) ?_
    with_reducible refine (impl_check.calls k1 (x7_1.extract 0 16) t307 _ A14.out).mono ?_
    rintro e w' ⟨rfl, ⟨nd, rfl⟩⟩
    refine ⟨_, rfl, ?_⟩
    refine hK.out _ _ (((HB.out.cell (World.block_lt_of_cell? w _ hw306_0)).trans hw306_0)) (fun hHeld => ?_)
    clear hK K
    refine norm_ (a' := ?_) ?_ ?_
    rotate_left
    ·show Act.put _ (some 27) _ = _
     simp only [Act.put, List.setIfInBounds_toArray, List.set_cons_zero, List.set_cons_succ, i64_w, i32_w]
     rfl
    refine pureA 8 (some 28) 15 6655 HT_ ?_
    refine oneA 9 (some 29) 15 7167 HT_ (fun K hK => ?_)
    refine Kd.R_lit_step (Kd.int .u8) _ 5 ?hg (N := 29) ?hd (xs := ([(rd l1 x8_1) % 256, (t307) % 256] : List Int)) (inner := [.int .u8 ((rd l1 x8_1) % 256), .int .u8 ((t307) % 256)]) (ok := fun _ => True) (okp := fun _ => True) ?hr ?hp (fun _ hk => hk) trivial (Below.refl _ _) (Nat.le_refl _) (by simp) ?_; (case hd => rfl); (case hg => rfl); (case hr => first | (go_simp; done) | (go_simp; rfl)); (case hp => exact (Reps.one (show Kd.M (Kd.int .u8) _ _ _ ((rd l1 x8_1) % 256) [.int .u8 ((rd l1 x8_1) % 256)] from rfl) (Reps.one (show Kd.M (Kd.int .u8) _ _ _ ((t307) % 256) [.int .u8 ((t307) % 256)] from rfl) (Reps.none _ _))))
    intro v309 w22 ho23 hb hg_ hnew_
    clear hg_ hnew_
    (first | rw [← Ny308.out] at ho23 | (simp only [Int.reduceToNat] at ho23; rw [← Ny308.out] at ho23))
    have HO310 := ak (Kd.R_lower ho23 (below_size (belowd HB)))
    replace HB := ak (below_step (belowd HB) hb)
    clear hb ho23
    refine hK.out _ _ (((HB.out.cell (World.block_lt_of_cell? w _ hw306_0)).trans hw306_0)) (fun hHeld => ?_)
    clear hK K
    refine norm_ (a' := ?_) ?_ ?_
    rotate_left
    ·show Act.put _ (some 29) _ = _
     simp only [Act.put, List.setIfInBounds_toArray, List.set_cons_zero, List.set_cons_succ, i64_w, i32_w]
     rfl
    refine oneA 10 (some 30) 15 8191 HT_ (fun K hK => ?_)
    have hcv24 := own_string (P := Tryz.prog) Tryz.underlying56 Tryz.underlying5 Tryz.underlying9 (Kd.own_of_R HO310.out)
    refine value_ (w1 := ?_) (v := ?_) (by rfl) rfl ?_ ?_
    rotate_left 2
    ·go_simp
     constructor
     ·rfl
     ·rfl
    clear hcv24
    refine hK.out _ _ (((HB.out.cell (World.block_lt_of_cell? w _ hw306_0)).trans hw306_0)) (fun hHeld => ?_)
    clear hK K
    refine norm_ (a' := ?_) ?_ ?_
    rotate_left
    ·show Act.put _ (some 30) _ = _
     simp only [Act.put, List.setIfInBounds_toArray, List.set_cons_zero, List.set_cons_succ, i64_w, i32_w]
     rfl
    refine pureA 13 (some 33) 15 16383 HT_ ?_
    refine pureA 14 (some 7) 15 32767 HT_ ?_
    refine done_ (done_of HT_.out (by kernel_rfl)) ?_
    have p311 : 0 ≤ (x8_1 : Int) := da
    have q311 : x8_1 < (l0.length : Int) := da
    obtain ⟨ad311, e311, hx311_0⟩ := Kd.at_int HR0.out x8_1 p311 q311
    cases e311
    replace hx311_0 := (HB.out.cell (World.block_lt_of_cell? w _ hx311_0)).trans hx311_0
    replace p311 := eq_true p311; replace q311 := eq_true q311
    try go_wp2_with (first | ((with_reducible refine gate_callee (f := 124) rfl ?_); refine goesLa (some 39) rfl Tryz.func124 #[.int .i64 (rd l0 x8_1), .int .i64 24] rfl ?_; (with_reducible refine (impl_pad.calls k1 (rd l0 x8_1) 24 t312 _ A19.out).mono ?_); rintro e w25 ⟨rfl, hb⟩; refine ⟨_, rfl, ?_⟩; replace HO310 := ak (Kd.R_below (rdl HO310) hb); replace HB := ak (below_step (belowd HB) hb); (try clear hb)) | ((with_reducible refine gate_callee (f := 123) rfl ?_); refine goesLa (some 40) rfl Tryz.func123 #[.string ((strOfNums y308) ++ (x7_1.extract 0 22)), .string t312] rfl ?_; (with_reducible refine (impl_xor.calls k1 ((strOfNums y308) ++ (x7_1.extract 0 22)) t312 t313 _ A20.out).mono ?_); rintro e w26 ⟨rfl, hb⟩; refine ⟨_, rfl, ?_⟩; replace HO310 := ak (Kd.R_below (rdl HO310) hb); replace HB := ak (below_step (belowd HB) hb); (try clear hb)))
    go_roundg k1
    case measure => have := HK1.out; omega
    case rel => exact ⟨(t313), (wrap64 (x8_1 - 1)), er, er, H', ⟨by have := HK1.out; omega⟩, ⟨belowd HB⟩⟩
   ·rw [if_neg c9] at H
    have c9b0 : decide (0 ≤ x8_1) = false := decide_eq_false c9
    clear c9
    obtain rfl := Option.some.inj H
    go_wp2
    go_ret
    exact ⟨er2, belowd HB⟩

/-! ### impl_Net_say: function 97 -/
def impl_Net_say.T6 : Bool × List (List Nat × List Nat) := (true, [([], []), ([], []), ([1], [1]), ([2], [2]), ([3], [3]), ([], []), ([], []), ([6], [6]), ([7], [7]), ([8], [8]), ([9], [9]), ([10], [10]), ([11], [11]), ([], []), ([12, 13], [12, 13]), ([4, 5, 14], [4, 5, 14]), ([0, 15, 15], [0, 15])])
def impl_Net_say.B6 : List Nat := [0, 0, 2, 6, 14, 0, 0, 64, 192, 448, 960, 1984, 4032, 0, 16320, 32766, 65535]
theorem impl_Net_say.tab6 : rtab .any (opsOf Tryz.f97 6) = impl_Net_say.T6 := by kernel_rfl
theorem impl_Net_say.bits6 : waitsOk impl_Net_say.T6.2 impl_Net_say.B6 = true := by kernel_rfl
def impl_Net_say.g (k : Nat) (n : Nt) (u : Int) (t : ByteArray) (H : List Int) : Option (Nt × Bool) := (if 0 ≤ wrap64 ((H.length : Int) - 1) ∧ wrap64 ((H.length : Int) - 1) < (H.length : Int) then (impl_onion.f k n.ks (H.set (wrap64 ((H.length : Int) - 1)).toNat (wrap64 (u + 2))) (strOfNums [wrap64 (n.sd + 1) % 256] ++ t)).bind fun s => (impl_Net_come.f k ⟨n.ks, n.ps, n.ss, n.ib, wrap64 (n.sd + 1)⟩ 0 s).bind fun m => some (m, true) else none)
def impl_Net_say.f (k : Nat) (n : Nt) (u : Int) (t : ByteArray) : Option (Nt × Bool) := (impl_within.f u 0 3).bind fun c => if c = false then some (n, false) else if 14 < (t.size : Int) then some (n, false) else if n.sd = 60 then some (n, false) else (slices_Repeat_int_int.f [1] (n.ks.length : Int)).bind fun H => impl_Net_say.g k n u t H
set_option maxHeartbeats 16000000 in
set_option maxRecDepth 100000 in
theorem impl_Net_say.calls {k : Nat} {v0 v1 v2 v3 : Value} {n m : Nt} {u : Int} {t : ByteArray} {r : Bool} {L : List SA} {w0 w : World} {b0 : Nat} (hs : Sep w0 w (bA b0 #[v0, v1, v2, v3, .int .i64 n.sd] 27 :: netA v0 v1 v2 v3 n ++ L)) (h : impl_Net_say.f k n u t = some (m, r)) :
    Calls Tryz.prog 97 #[.pointer (some ⟨b0, 0, none⟩), .int .i64 u, .string t] w fun e w' => e = .returned (.bool r) ∧ Sep w0 w' (bA b0 #[v0, v1, v2, v3, .int .i64 m.sd] 27 :: netA v0 v1 v2 v3 m ++ L) := by
 have hu27 := Tryz.underlying27
 obtain ⟨ks, ps, ss, ib, sd⟩ := n
 have HS : Sep w0 w (bA b0 #[v0, v1, v2, v3, .int .i64 sd] 27 :: rA KI 3 v0 ks :: sA KT 62 v1 ps :: sA KT 62 v2 ss :: sA KT 62 v3 ib :: L) := hs
 clear hs
 unfold impl_Net_say.f at h
 dsimp only at h ⊢
 obtain ⟨A0, c0, rfl⟩ := HS.slR 1
 obtain ⟨A1, c1, rfl⟩ := HS.slS 2
 obtain ⟨A2, c2, rfl⟩ := HS.slS 3
 obtain ⟨A3, c3, rfl⟩ := HS.slS 4
 replace h := bS h; obtain ⟨c, T1, h⟩ := h
 cases c with
 | false =>
  rw [if_pos rfl] at h
  skip
  obtain ⟨rfl, rfl⟩ := (Prod.mk.injEq _ _ _ _).mp (Option.some.inj h)
  clear h
  go_enter Tryz.func97, Tryz.ntmps97
  obtain ⟨z00, z01, z02, z03, z04, f00, f01, f02, f03, f04⟩ := box5 (HS.blk 0)
  go_wp2_with (first | (go_at_call 70; refine (impl_within.calls _ _ _ _ _ T1.out).mono ?_; rintro e W_ ⟨rfl, nd_, rfl⟩; replace HS := HS.drewN nd_; generalize World.drewN _ nd_ = W_ at HS ⊢; clear z00 z01 z02 z03 z04 f00 f01 f02 f03 f04; obtain ⟨z00, z01, z02, z03, z04, f00, f01, f02, f03, f04⟩ := box5 (HS.blk 0)))
  go_ret
  exact ⟨er, HS⟩
 | true =>
  rw [if_neg (by decide)] at h
  by_cases c1_ : 14 < (t.size : Int)
  ·rw [if_pos c1_] at h
   have cb1 : decide (14 < (t.size : Int)) = true := decide_eq_true c1_
   clear c1_
   obtain ⟨rfl, rfl⟩ := (Prod.mk.injEq _ _ _ _).mp (Option.some.inj h)
   clear h
   go_enter Tryz.func97, Tryz.ntmps97
   obtain ⟨z00, z01, z02, z03, z04, f00, f01, f02, f03, f04⟩ := box5 (HS.blk 0)
   go_wp2_with (first | (go_at_call 70; refine (impl_within.calls _ _ _ _ _ T1.out).mono ?_; rintro e W_ ⟨rfl, nd_, rfl⟩; replace HS := HS.drewN nd_; generalize World.drewN _ nd_ = W_ at HS ⊢; clear z00 z01 z02 z03 z04 f00 f01 f02 f03 f04; obtain ⟨z00, z01, z02, z03, z04, f00, f01, f02, f03, f04⟩ := box5 (HS.blk 0)))
   go_ret
   exact ⟨er, HS⟩
  ·rw [if_neg c1_] at h
   have cb1 : decide (14 < (t.size : Int)) = false := decide_eq_false c1_
   have hts : t.size ≤ 14 := by omega
   clear c1_
   by_cases c2_ : sd = 60
   ·rw [if_pos c2_] at h
    have cb2 : (sd == 60) = true := beq_iff_eq.2 c2_
    clear c2_
    obtain ⟨rfl, rfl⟩ := (Prod.mk.injEq _ _ _ _).mp (Option.some.inj h)
    clear h
    go_enter Tryz.func97, Tryz.ntmps97
    obtain ⟨z00, z01, z02, z03, z04, f00, f01, f02, f03, f04⟩ := box5 (HS.blk 0)
    go_wp2_with (first | (go_at_call 70; refine (impl_within.calls _ _ _ _ _ T1.out).mono ?_; rintro e W_ ⟨rfl, nd_, rfl⟩; replace HS := HS.drewN nd_; generalize World.drewN _ nd_ = W_ at HS ⊢; clear z00 z01 z02 z03 z04 f00 f01 f02 f03 f04; obtain ⟨z00, z01, z02, z03, z04, f00, f01, f02, f03, f04⟩ := box5 (HS.blk 0)))
    go_ret
    exact ⟨er, HS⟩
   ·rw [if_neg c2_] at h
    have cb2 : (sd == 60) = false := beq_eq_false_iff_ne.2 c2_
    clear c2_
    replace h := bS h; obtain ⟨H, TH, h⟩ := h
    have H' := ak h; clear h
    go_enter Tryz.func97, Tryz.ntmps97
    obtain ⟨z00, z01, z02, z03, z04, f00, f01, f02, f03, f04⟩ := box5 (HS.blk 0)
    go_upto_region 4 with (first | (go_at_call 70; refine (impl_within.calls _ _ _ _ _ T1.out).mono ?_; rintro e W_ ⟨rfl, nd_, rfl⟩; replace HS := HS.drewN nd_; generalize World.drewN _ nd_ = W_ at HS ⊢; clear z00 z01 z02 z03 z04 f00 f01 f02 f03 f04; obtain ⟨z00, z01, z02, z03, z04, f00, f01, f02, f03, f04⟩ := box5 (HS.blk 0)))
    clear z00 z01 z02 z03 z04 f00 f01 f02 f03 f04
    obtain ⟨W5_, e5_, H5_⟩ := (HS.putI 0 4 (.int .i64 (wrap64 (sd + 1))) #[.slice A0 ks.length c0, .slice A1 ps.length c1, .slice A2 ss.length c2, .slice A3 ib.length c3, .int .i64 (wrap64 (sd + 1))]).gen
    rw [e5_]
    clear HS e5_
    have HS := H5_
    clear H5_
    obtain ⟨z00, z01, z02, z03, z04, f00, f01, f02, f03, f04⟩ := box5 (HS.blk 0)
    go_upto_region 5 with (first | ((with_reducible refine gate_dst (N := 30) rfl ?_); refine Kd.R_lit KI _ 3 ?hg (N := 30) ?hd (xs := ([1] : List Int)) (inner := [.int .i64 1]) (ok := fun _ => True) (okp := fun _ => True) ?hr ?hp (fun _ hk => hk) trivial (Below.refl _ _) (Nat.le_refl _) (by simp) ?_; (case hd => rfl); (case hg => rfl); (case hr => first | (go_simp; done) | (go_simp; rfl)); (case hp => exact (Reps.one (show Kd.M KI _ _ _ 1 [.int .i64 1] from rfl) (Reps.none _ _))); intro vone W_ ho_ hb_ _ _; replace HS := HS.new (A := rA KI 3 vone ([1])) hb_ ho_; clear ho_ hb_; obtain ⟨A9, c9, rfl⟩ := HS.slR 0; clear z00 z01 z02 z03 z04 f00 f01 f02 f03 f04; obtain ⟨z00, z01, z02, z03, z04, f00, f01, f02, f03, f04⟩ := box5 (HS.blk 1)) | (go_at_call 117; have HC_ := slices_Repeat_int_int.calls A9 c9 [1] (ks.length : Int) H _ (HS.rdR 0).2.2 (HS.rdR 0).2.1 TH.out; refine HC_.mono ?_; clear HC_; rintro e W_ ⟨vH, rfl, ho_, hb_⟩; replace HS := HS.new (A := rA KI 3 vH H) hb_ ho_; clear ho_ hb_; clear z00 z01 z02 z03 z04 f00 f01 f02 f03 f04; obtain ⟨z00, z01, z02, z03, z04, f00, f01, f02, f03, f04⟩ := box5 (HS.blk 2)))
    have h := H'.out; clear H'
    unfold impl_Net_say.g at h
    dsimp only at h
    replace h := ifS h; obtain ⟨⟨hi0, hi1⟩, h⟩ := h
    obtain ⟨gH, qH, rfl⟩ := HS.addrR 0 (hx := by omega)
    obtain ⟨hHc, hHf⟩ := HS.rfree 0 (wrap64 ((H.length : Int) - 1)) hi0 hi1
    generalize hi_ : wrap64 ((H.length : Int) - 1) = i at h hi0 hi1 hHc hHf
    have pi0 : (0 ≤ i) = True := eq_true hi0
    have pi1 : (i < (H.length : Int)) = True := eq_true hi1
    clear z00 z01 z02 z03 z04 f00 f01 f02 f03 f04
    obtain ⟨z00, z01, z02, z03, z04, f00, f01, f02, f03, f04⟩ := box5 (HS.blk 2)
    go_upto_region 6 with fail
    clear z00 z01 z02 z03 z04 f00 f01 f02 f03 f04
    clear hHc hHf pi0 pi1
    replace HS := HS.rput i (wrap64 (u + 2))
    obtain ⟨W5_, e5_, H5_⟩ := HS.gen
    rw [e5_]
    clear HS e5_
    have HS := H5_
    clear H5_
    generalize hG : H.set i.toNat (wrap64 (u + 2)) = G at HS h
    have hGl : G.length = H.length := by rw [← hG, List.length_set]
    rw [← hGl] at HS
    simp only [← hGl]
    clear hi_ hi0 hi1 hG hGl
    obtain ⟨B, hB⟩ : ∃ B, strOfNums [wrap64 (sd + 1) % 256] = B := ⟨_, rfl⟩
    rw [hB] at h
    have hBs : B.size = 1 := by rw [← hB]; rfl
    have hs1 : decide (B.size + t.size ≤ 9223372036854775807) = true := decide_eq_true (by omega)
    have hs2 : (9223372036854775807 < B.size + t.size) = False := eq_false (by omega)
    clear hBs
    replace h := bS h; obtain ⟨s, T2, h⟩ := h
    replace h := bS h; obtain ⟨⟨ks1, ps1, ss1, ib1, sd1⟩, T3, h⟩ := h
    obtain ⟨e1, e2, e3⟩ := impl_Net_come.keeps T3.out
    dsimp only at e1 e2 e3
    replace e1 := e1.symm; replace e2 := e2.symm; replace e3 := e3.symm
    subst e1 e2 e3
    obtain ⟨rfl, rfl⟩ := (Prod.mk.injEq _ _ _ _).mp (Option.some.inj h)
    clear h
    go_upto_region 6 with fail
    obtain ⟨z00, z01, z02, z03, z04, f00, f01, f02, f03, f04⟩ := box5 (HS.blk 2)
    refine start_ (n := 17) (S := fun w' => w'.cell? ⟨b0, 0, none⟩ = some (.slice A0 ks.length c0) ∧ w'.cell? ⟨b0, 1, none⟩ = some (.slice A1 ps.length c1) ∧ w'.cell? ⟨b0, 2, none⟩ = some (.slice A2 ss.length c2) ∧ w'.cell? ⟨b0, 3, none⟩ = some (.slice A3 ib.length c3) ∧ w'.cell? ⟨b0, 4, none⟩ = some (.int .i64 (wrap64 (sd + 1)))) (ds := []) (bl 17 0) (by kernel_rfl) rfl rfl ⟨z00, z01, z02, z03, z04⟩ (fun hHeld => ?_); refine with_tabW impl_Net_say.tab6 impl_Net_say.bits6 (fun HT_ HW_ => ?_)
    clear z00 z01 z02 z03 z04 f00 f01 f02 f03 f04
    replace HS := HS.drew
    generalize World.drew _ = W9_ at HS hHeld ⊢
    refine pureA 0 (some 44) 17 1 HT_ ?_
    refine pureA 1 (some 45) 17 3 HT_ ?_
    refine pureA 2 (some 46) 17 7 HT_ ?_
    refine pureA 3 (some 47) 17 15 HT_ ?_
    refine takeA 4 (some 48) 17 31 HT_ HW_ hHeld ?_ (hy := by rintro w' ⟨s0, s1, s2, s3, s4⟩; go_simp; with_reducible rfl)
    refine pureA 5 (some 49) 17 63 HT_ ?_
    refine pureA 6 (some 50) 17 127 HT_ ?_
    refine pureA 7 (some 51) 17 255 HT_ ?_
    refine pureA 8 (some 52) 17 511 HT_ ?_
    refine takeA 9 (some 53) 17 1023 HT_ HW_ hHeld ?_ (hy := by rintro w' ⟨s0, s1, s2, s3, s4⟩; go_simp; with_reducible rfl)
    refine pureA 10 (some 54) 17 2047 HT_ ?_
    refine pureA 13 (some 57) 17 10239 HT_ ?_
    refine oneA 11 (some 55) 17 12287 HT_ (fun K hK => ?_)
    clear hHeld
    refine Kd.R_lit_step (Kd.int .u8) _ 5 ?hg (N := 55) ?hd (xs := ([wrap64 (sd + 1) % 256] : List Int)) (inner := [.int .u8 (wrap64 (sd + 1) % 256)]) (ok := fun _ => True) (okp := fun _ => True) ?hr ?hp (fun _ hk => hk) trivial (Below.refl _ _) (Nat.le_refl _) (by simp) ?_
    (case hd => rfl)
    (case hg => rfl)
    (case hr => first | (go_simp; done) | (go_simp; rfl))
    (case hp => exact (Reps.one (show Kd.M (Kd.int .u8) _ _ _ (wrap64 (sd + 1) % 256) [.int .u8 (wrap64 (sd + 1) % 256)] from rfl) (Reps.none _ _)))
    intro vby W_ ho_ hb_ _ _
    replace HS := HS.new (A := rA (Kd.int .u8) 5 vby ([wrap64 (sd + 1) % 256])) hb_ ho_
    clear ho_ hb_
    obtain ⟨z00, z01, z02, z03, z04, f00, f01, f02, f03, f04⟩ := box5 (HS.blk 3)
    refine hK.out _ _ ⟨z00, z01, z02, z03, z04⟩ (fun hHeld => ?_)
    clear hK K z00 z01 z02 z03 z04 f00 f01 f02 f03 f04
    refine norm_ (a' := ?_) ?_ ?_
    rotate_left
    ·show Act.put _ (some 55) _ = _
     simp only [Act.put, List.setIfInBounds_toArray, List.set_cons_zero, List.set_cons_succ, i64_w, i32_w]
     rfl
    refine oneA 12 (some 56) 17 16383 HT_ (fun K hK => ?_)
    clear hHeld
    have hcv := HS.text 0 (P := Tryz.prog) Tryz.underlying56 Tryz.underlying5 Tryz.underlying9
    rw [hB] at hcv
    refine value_ (w1 := ?_) (v := ?_) (by rfl) rfl ?_ ?_
    rotate_left 2
    ·go_simp
     constructor
     ·rfl
     ·rfl
    clear hcv
    obtain ⟨z00, z01, z02, z03, z04, f00, f01, f02, f03, f04⟩ := box5 (HS.blk 3)
    refine hK.out _ _ ⟨z00, z01, z02, z03, z04⟩ (fun hHeld => ?_)
    clear hK K z00 z01 z02 z03 z04 f00 f01 f02 f03 f04
    refine norm_ (a' := ?_) ?_ ?_
    rotate_left
    ·show Act.put _ (some 56) _ = _
     simp only [Act.put, List.setIfInBounds_toArray, List.set_cons_zero, List.set_cons_succ, i64_w, i32_w]
     rfl
    refine pureA 14 (some 58) 17 32767 HT_ ?_
    refine oneA 15 (some 59) 17 65535 HT_ (fun K hK => ?_)
    refine goes_ Tryz.func118 (by kernel_rfl) rfl #[.slice A0 ks.length c0, .slice (some ⟨gH, 0, none⟩) G.length qH, .string (B ++ t)] (by rfl) rfl rfl (by (try simp only [List.map_toArray, List.map_cons, List.map_nil]); first | done | rfl) ?_
    have HC_ := impl_onion.calls k _ _ ks _ _ G (B ++ t) s _ (HS.rdR 4).2.2 (HS.rdR 4).2.1 (HS.rdR 1).2.2 (HS.rdR 1).2.1 T2.out
    refine HC_.mono ?_
    clear HC_ hHeld
    rintro e W_ ⟨rfl, hb_⟩
    refine ⟨_, rfl, ?_⟩
    replace HS := HS.below hb_
    clear hb_
    obtain ⟨z00, z01, z02, z03, z04, f00, f01, f02, f03, f04⟩ := box5 (HS.blk 3)
    refine hK.out _ _ ⟨z00, z01, z02, z03, z04⟩ (fun hHeld => ?_)
    clear hK K z00 z01 z02 z03 z04 f00 f01 f02 f03 f04
    refine norm_ (a' := ?_) ?_ ?_
    rotate_left
    ·show Act.put _ (some 59) _ = _
     simp only [Act.put, List.setIfInBounds_toArray, List.set_cons_zero, List.set_cons_succ, i64_w, i32_w]
     rfl
    refine oneA 16 (some 60) 17 131071 HT_ (fun K hK => ?_)
    refine goes_ Tryz.func98 (by kernel_rfl) rfl #[.pointer (some ⟨b0, 0, none⟩), .int .i64 0, .string s] (by rfl) rfl rfl (by (try simp only [List.map_toArray, List.map_cons, List.map_nil]); first | done | rfl) ?_
    have HC_ := impl_Net_come.calls (n := ⟨ks, ps, ss, ib, wrap64 (sd + 1)⟩) (HS.fr7.fr7.fr7.fr7.fr7) T3.out
    refine HC_.mono ?_
    clear HC_ hHeld
    rintro e W_ ⟨rfl, HS'_⟩
    refine ⟨_, rfl, ?_⟩
    clear HS
    have HS := HS'_
    clear HS'_
    dsimp only [netA, List.cons_append, List.nil_append] at HS
    obtain ⟨z00, z01, z02, z03, z04, f00, f01, f02, f03, f04⟩ := box5 (HS.blk 0)
    refine hK.out _ _ ⟨z00, z01, z02, z03, z04⟩ (fun hHeld => ?_)
    clear hK K z00 z01 z02 z03 z04 f00 f01 f02 f03 f04
    refine norm_ (a' := ?_) ?_ ?_
    rotate_left
    ·show Act.put _ (some 60) _ = _
     simp only [Act.put, List.setIfInBounds_toArray, List.set_cons_zero, List.set_cons_succ, i64_w, i32_w]
     rfl
    refine done_ (done_of HT_.out (by kernel_rfl)) ?_
    clear HT_ HW_ hHeld
    go_wp2
    go_ret
    replace HS := HS.fr5.tail
    replace HS := HS.fr5.tail
    replace HS := HS.fr5.tail
    exact ⟨er, HS⟩

end Go.Proofs.YtihekdlcfohkkaaGreatDoor.QFnExactPlayNet
