-- printed by this session's own program (wip/tools/pp.py: the kit's print.py with changes); Lean checks it
import Derived.Test.YtihekdlcfohkkaaGreatDoorQFnExactStepNetx0
import Derived.Test.YtihekdlcfohkkaaGreatDoorQFnExactStepNetx1
import Derived.Test.YtihekdlcfohkkaaGreatDoorQFnExactStepNetx3
import Derived.Test.YtihekdlcfohkkaaGreatDoorQFnExactStepNetx4
import Derived.Test.YtihekdlcfohkkaaGreatDoorQFnExactStepNetx5
namespace Go.Proofs.YtihekdlcfohkkaaGreatDoor.QFnExactStepNet
open Go.RowKit Go.Proofs.YtihekdlcfohkkaaGreatDoorW.PrintWords Go.Proofs.YtihekdlcfohkkaaGreatDoorW.PrintLast Go.Proofs.YtihekdlcfohkkaaGreatDoorW.PrintMore
attribute [local go_sem] max2_int min2_int max_two min_two max_three min_three max_four min_four strLss strGtr strLeq strGeq   -- for this text's walks alone
set_option linter.unusedVariables false
set_option linter.unusedSimpArgs false

/-! ### spec_l17Tick: function 53 -/
def spec_l17Tick.T12 : Bool × List (List Nat × List Nat) := (true, [([], []), ([0], [0]), ([], []), ([], []), ([3], [3]), ([], []), ([4, 5], [4, 5]), ([6], [6]), ([], []), ([8], [8]), ([9], [9]), ([7, 10], [7, 10]), ([1, 2, 0, 1, 2, 3, 4, 5, 6, 7, 8, 9, 10, 11], [1, 2]), ([12, 11, 11, 0, 1, 2, 3, 4, 5, 6, 7, 8, 9, 10, 11], [11, 12])])
def spec_l17Tick.B12 : List Nat := [0, 1, 0, 0, 8, 0, 56, 120, 0, 256, 768, 2040, 4095, 8191]
theorem spec_l17Tick.tab12 : rtab .any (opsOf Tryz.f53 12) = spec_l17Tick.T12 := by kernel_rfl
theorem spec_l17Tick.bits12 : waitsOk spec_l17Tick.T12.2 spec_l17Tick.B12 = true := by kernel_rfl
def spec_l17Tick.l0 (k : Nat) (i : Int) (z : Bool) : List ByteArray → Nt → Option Nt
  | [], n => some n
  | s :: r, n => if i < (n.ks.length : Int) then (spec_PeelOnion.f k (rd n.ks i) s).bind fun (x, y, b, o) => if o = false then spec_l17Tick.l0 k i z r n else if z = false then (if x = 1 then (spec_l17Come.f k n (wrap64 (i + 1)) y).bind fun n' => spec_l17Tick.l0 k i z r n' else spec_l17Tick.l0 k i z r n) else (spec_l1In.f (wrap64 (x - 2)) 0 3).bind fun c => if c = false then spec_l17Tick.l0 k i z r n else if b = (⟨#[]⟩ : ByteArray) then spec_l17Tick.l0 k i z r n else if 0 ≤ wrap64 (x - 2) ∧ wrap64 (x - 2) < (n.ib.length : Int) then (if (n.ib.getD (wrap64 (x - 2)).toNat []).length < 60 then spec_l17Tick.l0 k i z r ⟨n.ks, n.ps, n.ss, n.ib.set (wrap64 (x - 2)).toNat (n.ib.getD (wrap64 (x - 2)).toNat [] ++ [b]), n.sd⟩ else spec_l17Tick.l0 k i z r n) else none else none
def spec_l17Tick.f (k : Nat) (n : Nt) (i : Int) : Option Nt := if 0 ≤ i ∧ i < (n.ps.length : Int) ∧ i < (n.ks.length : Int) ∧ 0 < n.ib.length ∧ (n.ps.getD i.toNat []).length ≤ 1048576 then spec_l17Tick.l0 k i (i == wrap64 ((n.ks.length : Int) - 1)) (n.ps.getD i.toNat []) ⟨n.ks, n.ps.set i.toNat [], n.ss, n.ib, n.sd⟩ else none
set_option maxHeartbeats 16000000 in
set_option maxRecDepth 100000 in
theorem spec_l17Tick.calls {k : Nat} {v0 v1 v2 v3 : Value} {n m : Nt} {i : Int} {L : List SA} {w0 w : World} (hs : Sep w0 w (netA v0 v1 v2 v3 n ++ L)) (h : spec_l17Tick.f k n i = some m) :
    Calls Tryz.prog 53 #[.agg #[v0, v1, v2, v3, .int .i64 n.sd], .int .i64 i] w fun e w' => e = .returned (.agg #[v0, v1, v2, v3, .int .i64 n.sd]) ∧ Sep w0 w' (netA v0 v1 v2 v3 m ++ L) := by
 have hu27 := Tryz.underlying27
 obtain ⟨ks, ps, ss, ib, sd⟩ := n
 have HS : Sep w0 w (rA KI 3 v0 ks :: sA KT 62 v1 ps :: sA KT 62 v2 ss :: sA KT 62 v3 ib :: L) := hs
 clear hs
 unfold spec_l17Tick.f at h
 dsimp only at h ⊢
 replace h := ifS h; obtain ⟨⟨i0, i1, i2, i3, i4⟩, h⟩ := h
 obtain ⟨A2, c2, rfl⟩ := HS.slS 2
 obtain ⟨g0, q0, rfl⟩ := HS.addrR 0 (hx := by omega)
 obtain ⟨g1, q1, rfl⟩ := HS.addr 1 (hx := by omega)
 obtain ⟨g3, q3, rfl⟩ := HS.addr 3 (hx := by omega)
 have p0 : (0 ≤ i) = True := eq_true i0
 have p1 : (i < (ps.length : Int)) = True := eq_true i1
 have p2 : (i < (ks.length : Int)) = True := eq_true i2
 obtain ⟨AP, qP, HS, -, -⟩ := HS.fr1.lend i i0 i1
 generalize ps.getD i.toNat [] = P at HS h i4
 have I4 := ak i4; have H' := ak h; clear i4 h
 have hz_ : ∃ z, (i == wrap64 ((ks.length : Int) - 1)) = z := ⟨_, rfl⟩
 obtain ⟨z, hz⟩ := hz_
 rw [hz] at H'
 go_enter Tryz.func53, Tryz.ntmps53
 go_upto_region 3 with (first | ((with_reducible refine gate_dst (N := 2) rfl ?_); refine boxev 2 #[.slice (some ⟨g0, 0, none⟩) ks.length q0, .slice (some ⟨g1, 0, none⟩) ps.length q1, .slice A2 ss.length c2, .slice (some ⟨g3, 0, none⟩) ib.length q3, .int .i64 sd] 27 ?_; intro b2 hg_ W_ ho_ hb_; replace HS := HS.box hg_ ho_ hb_; clear hg_ ho_ hb_; obtain ⟨z20, z21, z22, z23, z24, f20, f21, f22, f23, f24⟩ := box5 (HS.blk 0)) | ((with_reducible refine gate_dst (N := 4) rfl ?_); refine boxev 4 #[.slice none 0 0, .slice none 0 0, .slice none 0 0, .slice none 0 0, .int .i64 0] 27 ?_; intro b4 hg_ W_ ho_ hb_; replace HS := HS.box hg_ ho_ hb_; clear hg_ ho_ hb_; clear z20 z21 z22 z23 z24 f20 f21 f22 f23 f24; obtain ⟨z40, z41, z42, z43, z44, f40, f41, f42, f43, f44⟩ := box5 (HS.blk 0); clear z40 z41 z42 z43 z44 f40 f41 f42 f43 f44; obtain ⟨z40, z41, z42, z43, z44, f40, f41, f42, f43, f44⟩ := box5 (HS.blk 0); obtain ⟨z20, z21, z22, z23, z24, f20, f21, f22, f23, f24⟩ := box5 (HS.blk 1); obtain ⟨hcgp, hfgp⟩ := HS.fr2.hole i0 i1))
 clear z40 z41 z42 z43 z44 f40 f41 f42 f43 f44 z20 z21 z22 z23 z24 f20 f21 f22 f23 f24 hcgp hfgp
 replace HS := HS.fr2.hput i0 i1 (.slice none 0 0) rfl
 obtain ⟨W5_, e5_, H5_⟩ := HS.gen
 rw [e5_]
 clear HS e5_
 have HS := H5_
 clear H5_
 replace HS := HS.nilrow Kd.string 9
 replace HS := HS.fr1.back
 replace HS := HS.fr3.fr6.fr6.fr3.fr6.fr5.fr6
 try go_wp2
 go_loopg [23] P.length (fun kq v23 w' => ∃ (j : Nat) (ps' ss' ib' : List (List ByteArray)), v23 = .int .i64 (j : Int) ∧ Aside0 (spec_l17Tick.l0 k i z (P.drop j) ⟨ks, ps', ss', ib', sd⟩ = some m) ∧ j ≤ P.length ∧ P.length - j ≤ kq ∧ ib'.length = ib.length ∧ Sep w0 w' (bA b2 #[.slice (some ⟨g0, 0, none⟩) ks.length q0, .slice (some ⟨g1, 0, none⟩) ps.length q1, .slice A2 ss.length c2, .slice (some ⟨g3, 0, none⟩) ib.length q3, .int .i64 sd] 27 :: bA b4 #[.slice none 0 0, .slice none 0 0, .slice none 0 0, .slice none 0 0, .int .i64 0] 27 :: rA KI 3 (.slice (some ⟨g0, 0, none⟩) ks.length q0) ks :: sA KT 62 (.slice (some ⟨g1, 0, none⟩) ps.length q1) ps' :: sA KT 62 (.slice A2 ss.length c2) ss' :: sA KT 62 (.slice (some ⟨g3, 0, none⟩) ib.length q3) ib' :: rA Kd.string 9 (.slice AP P.length qP) P :: L))
 case atStart => exact ⟨0, _, _, _, rfl, H', Nat.zero_le _, Nat.le_refl _, rfl, HS⟩
 case round =>
  clear HS H'
  obtain ⟨j, ps', ss', ib', rfl, HA, j1, j2, hib, HS⟩ := hrel
  have h := HA.out; clear HA
  by_cases hj : j < P.length
  ·obtain ⟨s, hsj⟩ : ∃ s, rdOf ByteArray.empty P (j : Int) = s := ⟨_, rfl⟩
   have hd : P.drop j = s :: P.drop (j + 1) := by rw [← hsj, List.drop_eq_getElem_cons hj]; simp [rdOf, List.getD_eq_getElem?_getD, List.getElem?_eq_getElem hj]
   rw [hd] at h
   simp only [spec_l17Tick.l0] at h
   rw [if_pos i2] at h
   replace h := bS h; obtain ⟨⟨x, y, b, o⟩, T1, h⟩ := h
   obtain ⟨gP, qP', e⟩ := HS.addrR 6 (hx := by omega)
   obtain rfl : AP = some ⟨gP, 0, none⟩ := by injection e
   clear e
   have hjb : decide ((j : Int) < (P.length : Int)) = true := decide_eq_true (by omega)
   have pj0 : (0 ≤ (j : Int)) = True := eq_true (by omega)
   have pj1 : ((j : Int) < (P.length : Int)) = True := eq_true (by omega)
   have hp0 := HS.cellS 6 (n := P.length) (j : Int) (by omega) (by omega)
   rw [hsj] at hp0
   rw [Int.toNat_natCast] at hp0
   have hk0 := HS.cellI 2 i i0 i2
   obtain ⟨z20, z21, z22, z23, z24, f20, f21, f22, f23, f24⟩ := box5 (HS.blk 0)
   go_upto_region 7 with (first | (go_at_call 88; refine (spec_PeelOnion.calls k _ _ x y b o _ T1.out).mono ?_; rintro e W_ ⟨rfl, hb_⟩; replace HS := HS.below hb_; clear hb_ hp0 hk0; clear z20 z21 z22 z23 z24 f20 f21 f22 f23 f24; obtain ⟨z20, z21, z22, z23, z24, f20, f21, f22, f23, f24⟩ := box5 (HS.blk 0); have hk0 := HS.cellI 2 i i0 i2) | ((with_reducible refine gate_dst (N := 8) rfl ?_); refine boxev 8 #[.int .i64 0, .string (⟨#[]⟩ : ByteArray), .string (⟨#[]⟩ : ByteArray)] 105 ?_; intro b8 hg_ W_ ho_ hb_; replace HS := HS.box hg_ ho_ hb_; clear hg_ ho_ hb_; clear z20 z21 z22 z23 z24 f20 f21 f22 f23 f24; obtain ⟨z80, z81, z82, f80, f81, f82⟩ := box3 (HS.blk 0); clear hk0; clear z80 z81 z82 f80 f81 f82; obtain ⟨z20, z21, z22, z23, z24, f20, f21, f22, f23, f24⟩ := box5 (HS.blk 1); obtain ⟨z80, z81, z82, f80, f81, f82⟩ := box3 (HS.blk 0)))
   clear z20 z21 z22 z23 z24 f20 f21 f22 f23 f24 z80 z81 z82 f80 f81 f82
   obtain ⟨W5_, e5_, H5_⟩ := (((HS.putI 0 0 (.int .i64 x) #[.int .i64 x, .string (⟨#[]⟩ : ByteArray), .string (⟨#[]⟩ : ByteArray)]).putI 0 1 (.string y) #[.int .i64 x, .string y, .string (⟨#[]⟩ : ByteArray)]).putI 0 2 (.string b) #[.int .i64 x, .string y, .string b]).gen
   rw [e5_]
   clear HS e5_
   have HS := H5_
   clear H5_
   obtain ⟨z20, z21, z22, z23, z24, f20, f21, f22, f23, f24⟩ := box5 (HS.blk 1)
   obtain ⟨z80, z81, z82, f80, f81, f82⟩ := box3 (HS.blk 0)
   go_upto_region 9 with fail
   generalize wrap64 (x - 2) = u at h ⊢
   cases o with
   | false =>
    rw [if_pos rfl] at h
    go_wp2
    replace HS := HS.tail
    go_roundg (P.length - (j + 1))
    case measure => omega
    case rel => exact ⟨j + 1, ps', ss', ib', nw_next hj I4.out, ⟨h⟩, hj, Nat.le_refl _, hib, HS⟩
   | true =>
    rw [if_neg (by decide)] at h
    cases z with
    | false =>
     rw [if_pos rfl] at h
     by_cases hx : x = 1
     ·rw [if_pos hx] at h
      have hxb : (x == 1) = true := beq_iff_eq.2 hx
      clear hx
      replace h := bS h; obtain ⟨⟨ks1, ps1, ss1, ib1, sd1⟩, T3, h⟩ := h
      obtain ⟨e1, e2, e3⟩ := spec_l17Come.keeps T3.out
      dsimp only at e1 e2 e3
      replace e1 := e1.symm; replace e2 := e2.symm; replace e3 := e3.symm
      subst e1 e2 e3
      go_wp2_with (first | (go_at_call 89; have HC_ := spec_l17Come.calls (n := ⟨ks, ps', ss', ib', sd⟩) (HS.fr6.fr6.fr6.fr6) T3.out; refine HC_.mono ?_; clear HC_; rintro e W_ ⟨rfl, HS'_⟩; clear HS; have HS := HS'_; clear HS'_; dsimp only [netA, List.cons_append, List.nil_append] at HS; clear z20 z21 z22 z23 z24 f20 f21 f22 f23 f24 z80 z81 z82 f80 f81 f82; obtain ⟨z20, z21, z22, z23, z24, f20, f21, f22, f23, f24⟩ := box5 (HS.blk 5); obtain ⟨z80, z81, z82, f80, f81, f82⟩ := box3 (HS.blk 4)))
      replace HS := HS.fr5.put5 (.slice (some ⟨g0, 0, none⟩) ks.length q0) (.slice (some ⟨g1, 0, none⟩) ps.length q1) (.slice A2 ss.length c2) (.slice (some ⟨g3, 0, none⟩) ib.length q3) (.int .i64 sd)
      replace HS := HS.fr5.tail
      go_roundg (P.length - (j + 1))
      case measure => omega
      case rel => exact ⟨j + 1, ps1, ss1, ib', nw_next hj I4.out, ⟨h⟩, hj, Nat.le_refl _, hib, HS.fr6.fr5.fr5.fr5.fr5.fr6.fr6⟩
     ·rw [if_neg hx] at h
      have hxb : (x == 1) = false := beq_eq_false_iff_ne.2 hx
      clear hx
      go_wp2
      replace HS := HS.tail
      go_roundg (P.length - (j + 1))
      case measure => omega
      case rel => exact ⟨j + 1, ps', ss', ib', nw_next hj I4.out, ⟨h⟩, hj, Nat.le_refl _, hib, HS⟩
    | true =>
     rw [if_neg (by decide)] at h
     replace h := bS h; obtain ⟨c, T2, h⟩ := h
     rcases Bool.eq_false_or_eq_true (x == 1) with hxb | hxb
     all_goals
      cases c with
      | false =>
       rw [if_pos rfl] at h
       go_wp2_with (first | (go_at_call 79; refine (spec_l1In.calls _ _ _ _ _ T2.out).mono ?_; rintro e W_ ⟨rfl, nd_, rfl⟩; replace HS := HS.drewN nd_; generalize World.drewN _ nd_ = W_ at HS ⊢; clear z20 z21 z22 z23 z24 f20 f21 f22 f23 f24 z80 z81 z82 f80 f81 f82; obtain ⟨z20, z21, z22, z23, z24, f20, f21, f22, f23, f24⟩ := box5 (HS.blk 1); obtain ⟨z80, z81, z82, f80, f81, f82⟩ := box3 (HS.blk 0)))
       replace HS := HS.tail
       go_roundg (P.length - (j + 1))
       case measure => omega
       case rel => exact ⟨j + 1, ps', ss', ib', nw_next hj I4.out, ⟨h⟩, hj, Nat.le_refl _, hib, HS⟩
      | true =>
       rw [if_neg (by decide)] at h
       by_cases hb : b = (⟨#[]⟩ : ByteArray)
       ·rw [if_pos hb] at h
        subst hb
        go_wp2_with (first | (go_at_call 79; refine (spec_l1In.calls _ _ _ _ _ T2.out).mono ?_; rintro e W_ ⟨rfl, nd_, rfl⟩; replace HS := HS.drewN nd_; generalize World.drewN _ nd_ = W_ at HS ⊢; clear z20 z21 z22 z23 z24 f20 f21 f22 f23 f24 z80 z81 z82 f80 f81 f82; obtain ⟨z20, z21, z22, z23, z24, f20, f21, f22, f23, f24⟩ := box5 (HS.blk 1); obtain ⟨z80, z81, z82, f80, f81, f82⟩ := box3 (HS.blk 0)))
        replace HS := HS.tail
        go_roundg (P.length - (j + 1))
        case measure => omega
        case rel => exact ⟨j + 1, ps', ss', ib', nw_next hj I4.out, ⟨h⟩, hj, Nat.le_refl _, hib, HS⟩
       ·rw [if_neg hb] at h
        have hbb := nw_nonempty hb
        clear hb
        replace h := ifS h; obtain ⟨⟨u0, u1⟩, h⟩ := h
        rw [hib] at u1
        have pu0 : (0 ≤ u) = True := eq_true u0
        have pu1 : (u < (ib.length : Int)) = True := eq_true u1
        obtain ⟨AI, qI, HS, -, -⟩ := HS.fr6.lend u u0 u1
        generalize hI : ib'.getD u.toNat [] = I at HS h
        have GI := ak hI; clear hI
        clear z20 z21 z22 z23 z24 f20 f21 f22 f23 f24 z80 z81 z82 f80 f81 f82
        obtain ⟨z20, z21, z22, z23, z24, f20, f21, f22, f23, f24⟩ := box5 (HS.blk 3)
        obtain ⟨z80, z81, z82, f80, f81, f82⟩ := box3 (HS.blk 2)
        obtain ⟨hcgi, hfgi⟩ := HS.hole u0 u1
        by_cases hn : I.length < 60
        ·rw [if_pos hn] at h
         have hnb : decide ((I.length : Int) < 60) = true := decide_eq_true (by omega)
         generalize hIb : I ++ [b] = I' at h
         go_upto_region 12 with (first | (go_at_call 79; refine (spec_l1In.calls _ _ _ _ _ T2.out).mono ?_; rintro e W_ ⟨rfl, nd_, rfl⟩; replace HS := HS.drewN nd_; generalize World.drewN _ nd_ = W_ at HS ⊢; clear z20 z21 z22 z23 z24 f20 f21 f22 f23 f24 z80 z81 z82 f80 f81 f82 hcgi hfgi; obtain ⟨z20, z21, z22, z23, z24, f20, f21, f22, f23, f24⟩ := box5 (HS.blk 3); obtain ⟨z80, z81, z82, f80, f81, f82⟩ := box3 (HS.blk 2); obtain ⟨hcgi, hfgi⟩ := HS.hole u0 u1))
         clear z20 z21 z22 z23 z24 f20 f21 f22 f23 f24 z80 z81 z82 f80 f81 f82 hcgi hfgi
         obtain ⟨z20, z21, z22, z23, z24, f20, f21, f22, f23, f24⟩ := box5 (HS.blk 3)
         obtain ⟨z80, z81, z82, f80, f81, f82⟩ := box3 (HS.blk 2)
         obtain ⟨hcgi, hfgi⟩ := HS.hole u0 u1
         refine start_ (n := 14) (S := fun w' => w'.cell? ⟨b2, 0, none⟩ = some (.slice (some ⟨g0, 0, none⟩) ks.length q0) ∧ w'.cell? ⟨b2, 1, none⟩ = some (.slice (some ⟨g1, 0, none⟩) ps.length q1) ∧ w'.cell? ⟨b2, 2, none⟩ = some (.slice A2 ss.length c2) ∧ w'.cell? ⟨b2, 3, none⟩ = some (.slice (some ⟨g3, 0, none⟩) ib.length q3) ∧ w'.cell? ⟨b2, 4, none⟩ = some (.int .i64 sd) ∧ w'.cell? ⟨b8, 0, none⟩ = some (.int .i64 x) ∧ w'.cell? ⟨b8, 1, none⟩ = some (.string y) ∧ w'.cell? ⟨b8, 2, none⟩ = some (.string b) ∧ w'.cell? ⟨g3, u.toNat, none⟩ = some (.slice AI I.length qI)) (ds := [13]) (bl 14 0) (by kernel_rfl) rfl rfl ⟨z20, z21, z22, z23, z24, z80, z81, z82, hcgi⟩ (fun hHeld => ?_); refine with_tabW spec_l17Tick.tab12 spec_l17Tick.bits12 (fun HT_ HW_ => ?_)
         clear z20 z21 z22 z23 z24 f20 f21 f22 f23 f24 z80 z81 z82 f80 f81 f82 hcgi hfgi
         replace HS := HS.drew
         generalize World.drew _ = W9_ at HS hHeld ⊢
         refine pureA 0 (some 86) 14 1 HT_ ?_
         refine takeA 1 (some 87) 14 3 HT_ HW_ hHeld ?_ (hy := by rintro w' ⟨s0, s1, s2, s3, s4, s5, s6, s7, s8⟩; go_simp; with_reducible rfl)
         refine pureA 2 (some 88) 14 7 HT_ ?_
         refine pureA 3 (some 89) 14 15 HT_ ?_
         refine takeA 4 (some 90) 14 31 HT_ HW_ hHeld ?_ (hy := by rintro w' ⟨s0, s1, s2, s3, s4, s5, s6, s7, s8⟩; go_simp; with_reducible rfl)
         refine pureA 5 (some 91) 14 63 HT_ ?_
         refine pureA 6 (some 92) 14 127 HT_ ?_
         refine takeA 7 (some 93) 14 255 HT_ HW_ hHeld ?_ (hy := by rintro w' ⟨s0, s1, s2, s3, s4, s5, s6, s7, s8⟩; go_simp; with_reducible rfl)
         refine pureA 8 (some 94) 14 511 HT_ ?_
         refine takeA 9 (some 95) 14 1023 HT_ HW_ hHeld ?_ (hy := by rintro w' ⟨s0, s1, s2, s3, s4, s5, s6, s7, s8⟩; go_simp; with_reducible rfl)
         refine oneA 10 (some 96) 14 2047 HT_ (fun K hK => ?_)
         clear hHeld
         refine Kd.R_lit_step Kd.string _ 9 ?hg (N := 96) ?hd (xs := ([b] : List ByteArray)) (inner := [.string b]) (ok := fun _ => True) (okp := fun _ => True) ?hr ?hp (fun _ hk => hk) trivial (Below.refl _ _) (Nat.le_refl _) (by simp) ?_
         (case hd => rfl)
         (case hg => rfl)
         (case hr => first | (go_simp; done) | (go_simp; rfl))
         (case hp => exact Reps.one (show Kd.M Kd.string _ _ _ b [.string b] from rfl) (Reps.none _ _))
         intro vU W_ ho_ hb_ _ _
         replace HS := HS.new (A := rA Kd.string 9 vU [b]) hb_ ho_
         clear ho_ hb_
         obtain ⟨AU, qU, rfl⟩ := HS.slR 0
         obtain ⟨z20, z21, z22, z23, z24, f20, f21, f22, f23, f24⟩ := box5 (HS.blk 4)
         obtain ⟨z80, z81, z82, f80, f81, f82⟩ := box3 (HS.blk 3)
         obtain ⟨hcgi, hfgi⟩ := HS.fr1.hole u0 u1
         refine hK.out _ _ ⟨z20, z21, z22, z23, z24, z80, z81, z82, hcgi⟩ (fun hHeld => ?_)
         clear hK K z20 z21 z22 z23 z24 f20 f21 f22 f23 f24 z80 z81 z82 f80 f81 f82 hcgi hfgi
         refine norm_ (a' := ?_) ?_ ?_
         rotate_left
         ·show Act.put _ (some 96) _ = _
          simp only [Act.put, List.setIfInBounds_toArray, List.set_cons_zero, List.set_cons_succ, i64_w, i32_w]
          rfl
         refine oneA 11 (some 97) 14 4095 HT_ (fun K hK => ?_)
         clear hHeld
         have HU := (HS.rdR 0).2.2
         replace HS := HS.fr2
         refine Sep.append Kd.string (by rfl) (.tmp 93) (.tmp 96) 62 9 (.string ⟨#[]⟩) 16 rfl Tryz.underlying62 info9 rfl (by decide) (by omega) (.slice AI I.length qI) I [b] AU 1 qU rfl rfl HS HU (fun _ _ _ _ h => h) (by omega) ?_
         clear HS HU
         intro vI W_ HS
         rw [hIb] at HS
         obtain ⟨AI1, qI1, rfl⟩ := HS.slR 0
         obtain ⟨z20, z21, z22, z23, z24, f20, f21, f22, f23, f24⟩ := box5 (HS.blk 4)
         obtain ⟨z80, z81, z82, f80, f81, f82⟩ := box3 (HS.blk 3)
         obtain ⟨hcgi, hfgi⟩ := HS.fr2.hole u0 u1
         refine hK.out _ _ ⟨z20, z21, z22, z23, z24, z80, z81, z82, hcgi⟩ (fun hHeld => ?_)
         clear hK K z20 z21 z22 z23 z24 f20 f21 f22 f23 f24 z80 z81 z82 f80 f81 f82 hcgi hfgi
         refine norm_ (a' := ?_) ?_ ?_
         rotate_left
         ·show Act.put _ (some 97) _ = _
          simp only [Act.put, List.setIfInBounds_toArray, List.set_cons_zero, List.set_cons_succ, i64_w, i32_w]
          rfl
         refine pureA 12 (some 98) 14 8191 HT_ ?_
         refine last_ (i := 13) (N := none) (bl 14 16383) rfl rfl (one_of HT_.out (by kernel_rfl)) (by decide) (fun K hK => ?_)
         clear hHeld
         obtain ⟨hcgi, hfgi⟩ := HS.fr2.hole u0 u1
         refine skip_ (w1 := ?_) (by rfl) rfl ?_ ?_
         rotate_left
         ·go_simp
          rfl
         clear hcgi hfgi
         replace HS := HS.fr2.hput u0 u1 (.slice AI1 I'.length qI1) rfl
         refine hK.out _ _ ?_
         clear hK K
         refine done_ (done_of HT_.out (by kernel_rfl)) ?_
         clear HT_ HW_
         obtain ⟨W5_, e5_, H5_⟩ := HS.gen
         rw [e5_]
         clear HS e5_
         have HS := H5_
         clear H5_
         replace HS := HS.back
         have hib1 : (ib'.set u.toNat I').length = ib.length := by rw [List.length_set]; exact hib
         go_wp2
         replace HS := HS.fr2.tail
         replace HS := HS.fr1.tail
         go_roundg (P.length - (j + 1))
         case measure => omega
         case rel => exact ⟨j + 1, ps', ss', ib'.set u.toNat I', nw_next hj I4.out, ⟨h⟩, hj, Nat.le_refl _, hib1, HS.fr6.fr1.fr6.fr6.fr6.fr6.fr6⟩
        ·rw [if_neg hn] at h
         have hnb : decide ((I.length : Int) < 60) = false := decide_eq_false (by omega)
         go_wp2_with (first | (go_at_call 79; refine (spec_l1In.calls _ _ _ _ _ T2.out).mono ?_; rintro e W_ ⟨rfl, nd_, rfl⟩; replace HS := HS.drewN nd_; generalize World.drewN _ nd_ = W_ at HS ⊢; clear z20 z21 z22 z23 z24 f20 f21 f22 f23 f24 z80 z81 z82 f80 f81 f82 hcgi hfgi; obtain ⟨z20, z21, z22, z23, z24, f20, f21, f22, f23, f24⟩ := box5 (HS.blk 3); obtain ⟨z80, z81, z82, f80, f81, f82⟩ := box3 (HS.blk 2); obtain ⟨hcgi, hfgi⟩ := HS.hole u0 u1))
         replace HS := HS.back0 GI
         replace HS := HS.fr1.tail
         go_roundg (P.length - (j + 1))
         case measure => omega
         case rel => exact ⟨j + 1, ps', ss', ib', nw_next hj I4.out, ⟨h⟩, hj, Nat.le_refl _, hib, HS.fr6.fr1.fr6.fr6.fr6.fr6.fr6⟩
  ·have hd : P.drop j = [] := List.drop_eq_nil_of_le (by omega)
   rw [hd] at h
   simp only [spec_l17Tick.l0] at h
   obtain rfl := Option.some.inj h
   have hjb : decide ((j : Int) < (P.length : Int)) = false := decide_eq_false (by omega)
   obtain ⟨z20, z21, z22, z23, z24, f20, f21, f22, f23, f24⟩ := box5 (HS.blk 0)
   obtain ⟨z40, z41, z42, z43, z44, f40, f41, f42, f43, f44⟩ := box5 (HS.blk 1)
   go_wp2
   have HF := HS.fr1.put5 (.slice (some ⟨g0, 0, none⟩) ks.length q0) (.slice (some ⟨g1, 0, none⟩) ps.length q1) (.slice A2 ss.length c2) (.slice (some ⟨g3, 0, none⟩) ib.length q3) (.int .i64 sd)
   refine bodyPost_ret (results_cell_row rfl _ _ b4 27 #[.slice (some ⟨g0, 0, none⟩) ks.length q0, .slice (some ⟨g1, 0, none⟩) ps.length q1, .slice A2 ss.length c2, .slice (some ⟨g3, 0, none⟩) ib.length q3, .int .i64 sd] (0, 0) _ rfl (by exact (HF.blk 0).out) Tryz.underlying27 rfl (by kernel_rfl)) rfl ?_
   replace HS := HF
   replace HS := HS.tail
   replace HS := HS.tail
   replace HS := HS.fr4.tail
   exact ⟨rfl, HS⟩
theorem spec_l17Tick.keeps_l {k : Nat} {i : Int} {z : Bool} : ∀ {P : List ByteArray} {n m : Nt}, spec_l17Tick.l0 k i z P n = some m → m.ks = n.ks ∧ m.sd = n.sd
 | [], n, m, h => by
  simp only [spec_l17Tick.l0] at h
  obtain rfl := Option.some.inj h
  exact ⟨rfl, rfl⟩
 | s :: r, n, m, h => by
  have ih : ∀ n' : Nt, spec_l17Tick.l0 k i z r n' = some m → m.ks = n'.ks ∧ m.sd = n'.sd := fun n' h' => spec_l17Tick.keeps_l h'
  simp only [spec_l17Tick.l0] at h
  replace h := ifS h; obtain ⟨-, h⟩ := h
  replace h := bS h; obtain ⟨⟨x, y, b, o⟩, -, h⟩ := h
  dsimp only at h
  repeat' split at h
  all_goals
   first
   | exact ih _ h
   | (replace h := bS h; obtain ⟨n', T, h⟩ := h; obtain ⟨e1, e2, e3⟩ := spec_l17Come.keeps T.out; have := ih _ h; exact ⟨this.1.trans e1, this.2.trans e3⟩)
   | (replace h := bS h; obtain ⟨c, -, h⟩ := h; (repeat' split at h); (all_goals first | exact ih _ h | (have h2 := ih _ h; exact h2) | cases h))
theorem spec_l17Tick.keeps {k : Nat} {n m : Nt} {i : Int} (h : spec_l17Tick.f k n i = some m) : m.ks = n.ks ∧ m.sd = n.sd := by
 unfold spec_l17Tick.f at h
 replace h := ifS h; obtain ⟨-, h⟩ := h
 exact spec_l17Tick.keeps_l (n := ⟨n.ks, n.ps.set i.toNat [], n.ss, n.ib, n.sd⟩) h

/-! ### spec_l7Body: function 128 -/
def spec_l7Body.f (a0 : ByteArray) : Option (Bool) := some (decide ((a0.size : Int) < 16))
set_option maxHeartbeats 8000000 in
set_option maxRecDepth 100000 in
theorem spec_l7Body.calls (a0 : ByteArray) (r : Bool) (w : World) (h : spec_l7Body.f a0 = some r) :
  Calls Tryz.prog 128 #[.string a0] w fun e w' => e = .returned (.bool r) ∧ Drawn0 w w' := by
 have H : (some (decide ((a0.size : Int) < 16))) = some r := h
 clear h
 obtain rfl := Option.some.inj H
 go_enter Tryz.func128, Tryz.ntmps128
 go_wp2
 go_ret
 exact ⟨er, drw⟩

/-! ### spec_l7PadBody: function 129 -/
def spec_l7PadBody.f (a0 : ByteArray) : Option (ByteArray) := if a0.size + 1 ≤ 9223372036854775807 then (if 0 ≤ (wrap64 (15 - (a0.size : Int))) then (if (wrap64 (15 - (a0.size : Int)) : Int).toNat ≤ 281474976710656 then ((some (List.replicate (wrap64 (15 - (a0.size : Int)) : Int).toNat 0 : List Int)).bind fun y237 => (if (a0 ++ (⟨#[128]⟩ : ByteArray)).size + (strOfNums y237).size ≤ 9223372036854775807 then (some ((a0 ++ (⟨#[128]⟩ : ByteArray)) ++ (strOfNums y237))) else (none))) else (none)) else (none)) else (none)
set_option maxHeartbeats 8000000 in
set_option maxRecDepth 100000 in
theorem spec_l7PadBody.calls (a0 : ByteArray) (r : ByteArray) (w : World) (h : spec_l7PadBody.f a0 = some r) :
  Calls Tryz.prog 129 #[.string a0] w fun e w' => e = .returned (.string r) ∧ Below w.heap.size w w' := by
 have HB := Aside0.mk (Below.refl w.heap.size w)
 have H : (if a0.size + 1 ≤ 9223372036854775807 then (if 0 ≤ (wrap64 (15 - (a0.size : Int))) then (if (wrap64 (15 - (a0.size : Int)) : Int).toNat ≤ 281474976710656 then ((some (List.replicate (wrap64 (15 - (a0.size : Int)) : Int).toNat 0 : List Int)).bind fun y237 => (if (a0 ++ (⟨#[128]⟩ : ByteArray)).size + (strOfNums y237).size ≤ 9223372036854775807 then (some ((a0 ++ (⟨#[128]⟩ : ByteArray)) ++ (strOfNums y237))) else (none))) else (none)) else (none)) else (none)) = some r := h
 clear h; replace H := ifS H; obtain ⟨c2, H⟩ := H; have c2b0 := eq_true c2
 have c2b1 : decide (a0.size + 1 ≤ 9223372036854775807) = true := decide_eq_true c2
 try have c2b2 : (9223372036854775807 < a0.size + 1) = False := eq_false (Nat.not_lt.2 c2)
 obtain ⟨ji3, hji3⟩ : ∃ j_ : Int, (wrap64 (15 - (a0.size : Int))) = j_ := ⟨_, rfl⟩
 replace H : (if 0 ≤ (ji3) then (if (ji3 : Int).toNat ≤ 281474976710656 then ((some (List.replicate (ji3 : Int).toNat 0 : List Int)).bind fun y237 => (if (a0 ++ (⟨#[128]⟩ : ByteArray)).size + (strOfNums y237).size ≤ 9223372036854775807 then (some ((a0 ++ (⟨#[128]⟩ : ByteArray)) ++ (strOfNums y237))) else (none))) else (none)) else (none)) = some r := by first | (rw [hji3] at H; exact H) | (simp only [hji3] at H ⊢; exact H)
 have hji3w : (IntKind.i64.wrap (15 - (a0.size : Int))) = ji3 := (i64_w _).trans hji3
 replace H := ifS H; obtain ⟨c4, H⟩ := H; have c4b0 := eq_true c4
 have c4b1 : decide (0 ≤ (ji3)) = true := decide_eq_true c4
 clear c4; replace H := ifS H; obtain ⟨c5, H⟩ := H; have c5b0 := eq_true c5
 have c5b1 : decide ((ji3 : Int).toNat ≤ 281474976710656) = true := decide_eq_true c5
 clear c5
 obtain ⟨y237, hy_⟩ : ∃ y_ : List Int, y_ = (List.replicate (ji3 : Int).toNat 0) := ⟨_, rfl⟩
 replace H : (if (a0 ++ (⟨#[128]⟩ : ByteArray)).size + (strOfNums y237).size ≤ 9223372036854775807 then (some ((a0 ++ (⟨#[128]⟩ : ByteArray)) ++ (strOfNums y237))) else (none)) = some r := yH
 have Ny237 := ak hy_; clear hy_; replace H := ifS H; obtain ⟨c6, H⟩ := H; have c6b0 := eq_true c6
 have c6b1 : decide ((a0 ++ (⟨#[128]⟩ : ByteArray)).size + (strOfNums y237).size ≤ 9223372036854775807) = true := decide_eq_true c6
 try have c6b2 : (9223372036854775807 < (a0 ++ (⟨#[128]⟩ : ByteArray)).size + (strOfNums y237).size) = False := eq_false (Nat.not_lt.2 c6)
 obtain rfl := Option.some.inj H
 go_enter Tryz.func129, Tryz.ntmps129
 go_wp2_with (first | ((with_reducible refine gate_dst (N := 8) rfl ?_); refine Kd.R_make (Kd.int .u8) _ 5 rfl (N := 8) rfl 56 _ _ rfl ji3 rfl rfl Tryz.underlying56 (.int .u8 0) 1 info5 rfl (by decide) (by omega) 0 (ok := fun _ => True) (okp := fun _ => True) rfl (fun _ hk => hk) trivial (da) (Nat.le_trans (Nat.mul_le_mul_right _ (da : ji3.toNat ≤ 281474976710656)) (by omega)) (Below.refl _ _) (Nat.le_refl _) ?_; intro v238 w7 ho8 hb hg_ hnew_; clear hg_ hnew_; (first | rw [← Ny237.out] at ho8 | (simp only [Int.reduceToNat] at ho8; rw [← Ny237.out] at ho8)); have HO239 := ak (Kd.R_lower ho8 (below_size (belowd HB))); replace HB := ak (below_step (belowd HB) hb); clear hb ho8; have hcv9 := own_string (P := Tryz.prog) Tryz.underlying56 Tryz.underlying5 Tryz.underlying9 (Kd.own_of_R HO239.out)))
 go_ret
 exact ⟨by first | rfl | (simp [errW_none, errW_some] <;> rfl) | (simp only [← hji3]; first | rfl | (simp [errW_none, errW_some] <;> rfl)) | (simp [*, errW_none, errW_some] <;> rfl), belowd HB⟩

/-! ### spec_BuildOnion: function 116 -/
mutual
def spec_BuildOnion.j0 : Nat → List Int → List Int → ByteArray → Bool → Option (ByteArray × Bool)
  | 0, _, _, _, _ => none
  | k + 1, x0, x1, x2, x35 => if x35 = true then (some ((⟨#[]⟩ : ByteArray), false)) else ((spec_l7PadBody.f x2).bind fun t244 => (if 8 ≤ 281474976710656 then ((some (List.replicate 8 0 : List Int)).bind fun y245 => (if t244.size + (strOfNums y245).size ≤ 9223372036854775807 then (spec_BuildOnion.l0 k x0 x1 (t244 ++ (strOfNums y245)) (wrap64 ((x0.length : Int) - 1))) else (none))) else (none)))
def spec_BuildOnion.l0 : Nat → List Int → List Int → ByteArray → Int → Option (ByteArray × Bool)
  | 0, _, _, _, _ => none
  | k + 1, x0, x1, x8, x9 => if x9 ≥ 0 then (if 0 ≤ 22 then (if 22 ≤ (x8.size : Int) then (if 0 ≤ x9 then (if x9 < (x1.length : Int) then (if 0 ≤ 16 then (if 16 ≤ ((x8.extract 0 22).size : Int) then ((spec_l7Check.f k ((x8.extract 0 22).extract 0 16)).bind fun t249 => ((some (([(rd x1 x9) % 256, (t249) % 256] : List Int) : List Int)).bind fun y250 => (if (strOfNums y250).size + (x8.extract 0 22).size ≤ 9223372036854775807 then (if x9 < (x0.length : Int) then ((spec_l7Pad.f k (rd x0 x9) 24).bind fun t254 => ((spec_l7Xor.f k ((strOfNums y250) ++ (x8.extract 0 22)) t254).bind fun t255 => (spec_BuildOnion.l0 k x0 x1 t255 (wrap64 (x9 - 1))))) else (none)) else (none)))) else (none)) else (none)) else (none)) else (none)) else (none)) else (none)) else (some (x8, true))
end
def spec_BuildOnion.f (k : Nat) (l0 : List Int) (l1 : List Int) (a2 : ByteArray) : Option (ByteArray × Bool) := (spec_l1In.f (l0.length : Int) 1 4).bind fun t240 => (if t240 = true then ((spec_l1All.f k l0 0 65535).bind fun t241 => (if t241 = true then (if (l1.length : Int) = (l0.length : Int) then ((spec_l1All.f k l1 1 250).bind fun t242 => (if t242 = true then ((spec_l7Body.f a2).bind fun t243 => (spec_BuildOnion.j0 k l0 l1 a2 (!t243))) else (spec_BuildOnion.j0 k l0 l1 a2 true))) else (spec_BuildOnion.j0 k l0 l1 a2 true)) else (spec_BuildOnion.j0 k l0 l1 a2 true))) else (spec_BuildOnion.j0 k l0 l1 a2 true))
theorem spec_BuildOnion.mono_l : ∀ k, (∀ y0 y1 y2 y3, LeO (spec_BuildOnion.j0 k y0 y1 y2 y3) (spec_BuildOnion.j0 (k + 1) y0 y1 y2 y3)) ∧ (∀ y0 y1 y2 y3, LeO (spec_BuildOnion.l0 k y0 y1 y2 y3) (spec_BuildOnion.l0 (k + 1) y0 y1 y2 y3))
 | 0 => ⟨fun _ _ _ _ r h => by simp [spec_BuildOnion.j0] at h, fun _ _ _ _ r h => by simp [spec_BuildOnion.l0] at h⟩
 | k + 1 => by
  obtain ⟨ih0, ih1⟩ := spec_BuildOnion.mono_l k
  refine ⟨?_, ?_⟩
  ·intro y0 y1 y2 y3
   unfold spec_BuildOnion.j0
   repeat' (first | (with_reducible first | exact ih0 _ _ _ _ | exact ih1 _ _ _ _ | exact spec_l1All.mono _ _ _ _ | exact spec_l7Check.mono _ _ | exact spec_l7Pad.mono _ _ _ | exact spec_l7Xor.mono _ _ _ | exact LeO.refl _ | exact LeO.none _ | refine LeO.ite ?_ ?_ | refine LeO.bind ?_ (fun _ => ?_)) | exact ih0 _ _ _ _ | exact ih1 _ _ _ _ | exact spec_l1All.mono _ _ _ _ | exact spec_l7Check.mono _ _ | exact spec_l7Pad.mono _ _ _ | exact spec_l7Xor.mono _ _ _ | exact LeO.none _ | refine LeO.ite ?_ ?_ | refine LeO.bind ?_ (fun _ => ?_))
  ·intro y0 y1 y2 y3
   unfold spec_BuildOnion.l0
   repeat' (first | (with_reducible first | exact ih0 _ _ _ _ | exact ih1 _ _ _ _ | exact spec_l1All.mono _ _ _ _ | exact spec_l7Check.mono _ _ | exact spec_l7Pad.mono _ _ _ | exact spec_l7Xor.mono _ _ _ | exact LeO.refl _ | exact LeO.none _ | refine LeO.ite ?_ ?_ | refine LeO.bind ?_ (fun _ => ?_)) | exact ih0 _ _ _ _ | exact ih1 _ _ _ _ | exact spec_l1All.mono _ _ _ _ | exact spec_l7Check.mono _ _ | exact spec_l7Pad.mono _ _ _ | exact spec_l7Xor.mono _ _ _ | exact LeO.none _ | refine LeO.ite ?_ ?_ | refine LeO.bind ?_ (fun _ => ?_))
theorem spec_BuildOnion.mono : ∀ a0 a1 a2 k, LeO (spec_BuildOnion.f k a0 a1 a2) (spec_BuildOnion.f (k + 1) a0 a1 a2) := by
 intro a0 a1 a2 k
 obtain ⟨ih0, ih1⟩ := spec_BuildOnion.mono_l k
 unfold spec_BuildOnion.f
 repeat' (first | (with_reducible first | exact ih0 _ _ _ _ | exact ih1 _ _ _ _ | exact spec_l1All.mono _ _ _ _ | exact spec_l7Check.mono _ _ | exact spec_l7Pad.mono _ _ _ | exact spec_l7Xor.mono _ _ _ | exact LeO.refl _ | exact LeO.none _ | refine LeO.ite ?_ ?_ | refine LeO.bind ?_ (fun _ => ?_)) | exact ih0 _ _ _ _ | exact ih1 _ _ _ _ | exact spec_l1All.mono _ _ _ _ | exact spec_l7Check.mono _ _ | exact spec_l7Pad.mono _ _ _ | exact spec_l7Xor.mono _ _ _ | exact LeO.none _ | refine LeO.ite ?_ ?_ | refine LeO.bind ?_ (fun _ => ?_))
def spec_BuildOnion.T8 : Bool × List (List Nat × List Nat) := (true, [([], []), ([], []), ([0, 1], [0, 1]), ([2], [2]), ([3], [3]), ([], []), ([5], [5]), ([6], [6]), ([7], [7]), ([4, 8], [4, 8]), ([9], [9]), ([], []), ([10, 11], [10, 11]), ([12, 7, 0, 1, 2, 3, 4, 5, 6, 7, 8, 9, 10, 11, 12], [5, 11, 12])])
def spec_BuildOnion.B8 : List Nat := [0, 0, 3, 7, 15, 0, 32, 96, 224, 511, 1023, 0, 4095, 8191]
theorem spec_BuildOnion.tab8 : rtab .any (opsOf Tryz.f116 8) = spec_BuildOnion.T8 := by kernel_rfl
theorem spec_BuildOnion.bits8 : waitsOk spec_BuildOnion.T8.2 spec_BuildOnion.B8 = true := by kernel_rfl
set_option maxHeartbeats 8000000 in
set_option maxRecDepth 100000 in
theorem spec_BuildOnion.calls (k : Nat) (A0 : Option Addr) (c0 : Nat) (l0 : List Int) (A1 : Option Addr) (c1 : Nat) (l1 : List Int) (a2 : ByteArray) (r1 : ByteArray) (r2 : Bool) (w : World) (hr0 : Kd.C (Kd.int .i64) w A0 l0.length l0) (hc0 : l0.length ≤ c0) (hr1 : Kd.C (Kd.int .i64) w A1 l1.length l1) (hc1 : l1.length ≤ c1) (h : spec_BuildOnion.f k l0 l1 a2 = some (r1, r2)) :
  Calls Tryz.prog 116 #[.slice A0 l0.length c0, .slice A1 l1.length c1, .string a2] w fun e w' => e = .returned (.tuple #[.string r1, .bool r2]) ∧ Below w.heap.size w w' := by
 have HR0 := Aside0.mk hr0; have HC0 := Aside0.mk hc0; clear hr0 hc0; have HR1 := Aside0.mk hr1; have HC1 := Aside0.mk hc1; clear hr1 hc1
 have HB := Aside0.mk (Below.refl w.heap.size w)
 have H : ((spec_l1In.f (l0.length : Int) 1 4).bind fun t240 => (if t240 = true then ((spec_l1All.f k l0 0 65535).bind fun t241 => (if t241 = true then (if (l1.length : Int) = (l0.length : Int) then ((spec_l1All.f k l1 1 250).bind fun t242 => (if t242 = true then ((spec_l7Body.f a2).bind fun t243 => (spec_BuildOnion.j0 k l0 l1 a2 (!t243))) else (spec_BuildOnion.j0 k l0 l1 a2 true))) else (spec_BuildOnion.j0 k l0 l1 a2 true)) else (spec_BuildOnion.j0 k l0 l1 a2 true))) else (spec_BuildOnion.j0 k l0 l1 a2 true))) = some (r1, r2) := h
 clear h; have HC4 := Aside0.mk H; clear H
 go_enter Tryz.func116, Tryz.ntmps116
 go_upto_region 1 with (fail)
 go_cut [35] (fun v35 wc => ∃ (kq : Nat) (x35_3 : Bool), v35 = .bool x35_3 ∧ Aside0 (spec_BuildOnion.j0 kq l0 l1 a2 x35_3 = some (r1, r2)) ∧ Aside0 (kq ≤ k) ∧ Aside0 (Below w.heap.size w wc))
 case first =>
  have H := HC4.out; clear HC4; replace H := bS H; obtain ⟨t240, A5, H⟩ := H
  replace H : (if t240 = true then ((spec_l1All.f k l0 0 65535).bind fun t241 => (if t241 = true then (if (l1.length : Int) = (l0.length : Int) then ((spec_l1All.f k l1 1 250).bind fun t242 => (if t242 = true then ((spec_l7Body.f a2).bind fun t243 => (spec_BuildOnion.j0 k l0 l1 a2 (!t243))) else (spec_BuildOnion.j0 k l0 l1 a2 true))) else (spec_BuildOnion.j0 k l0 l1 a2 true)) else (spec_BuildOnion.j0 k l0 l1 a2 true))) else (spec_BuildOnion.j0 k l0 l1 a2 true)) = some (r1, r2) := H
  by_cases c6 : t240 = true
  ·subst c6
   have H1 : ((spec_l1All.f k l0 0 65535).bind fun t241 => (if t241 = true then (if (l1.length : Int) = (l0.length : Int) then ((spec_l1All.f k l1 1 250).bind fun t242 => (if t242 = true then ((spec_l7Body.f a2).bind fun t243 => (spec_BuildOnion.j0 k l0 l1 a2 (!t243))) else (spec_BuildOnion.j0 k l0 l1 a2 true))) else (spec_BuildOnion.j0 k l0 l1 a2 true)) else (spec_BuildOnion.j0 k l0 l1 a2 true))) = some (r1, r2) := by rw [if_pos rfl] at H; exact H
   clear H
   have H := H1
   clear H1; replace H := bS H; obtain ⟨t241, A7, H⟩ := H
   replace H : (if t241 = true then (if (l1.length : Int) = (l0.length : Int) then ((spec_l1All.f k l1 1 250).bind fun t242 => (if t242 = true then ((spec_l7Body.f a2).bind fun t243 => (spec_BuildOnion.j0 k l0 l1 a2 (!t243))) else (spec_BuildOnion.j0 k l0 l1 a2 true))) else (spec_BuildOnion.j0 k l0 l1 a2 true)) else (spec_BuildOnion.j0 k l0 l1 a2 true)) = some (r1, r2) := H
   by_cases c8 : t241 = true
   ·subst c8
    have H1 : (if (l1.length : Int) = (l0.length : Int) then ((spec_l1All.f k l1 1 250).bind fun t242 => (if t242 = true then ((spec_l7Body.f a2).bind fun t243 => (spec_BuildOnion.j0 k l0 l1 a2 (!t243))) else (spec_BuildOnion.j0 k l0 l1 a2 true))) else (spec_BuildOnion.j0 k l0 l1 a2 true)) = some (r1, r2) := by rw [if_pos rfl] at H; exact H
    clear H
    have H := H1
    clear H1
    by_cases c9 : (l1.length : Int) = (l0.length : Int)
    ·rw [if_pos c9] at H
     have c9b0 : ((l1.length : Int) == (l0.length : Int)) = true := beq_iff_eq.mpr c9
     have c9b1 : ((l1.length : Int) != (l0.length : Int)) = false := bne_eq_false_iff_eq.mpr c9
     have c9b2 : (l1.length == l0.length) = true := by first | simpa using c9 | (simp at c9 ⊢; omega)
     clear c9
     (first | rw [c9b0] | (simp only [i64_w, i32_w]; rw [c9b0]) | skip)
     replace H := bS H; obtain ⟨t242, A10, H⟩ := H
     replace H : (if t242 = true then ((spec_l7Body.f a2).bind fun t243 => (spec_BuildOnion.j0 k l0 l1 a2 (!t243))) else (spec_BuildOnion.j0 k l0 l1 a2 true)) = some (r1, r2) := H
     by_cases c11 : t242 = true
     ·subst c11
      have H1 : ((spec_l7Body.f a2).bind fun t243 => (spec_BuildOnion.j0 k l0 l1 a2 (!t243))) = some (r1, r2) := by rw [if_pos rfl] at H; exact H
      clear H
      have H := H1
      clear H1; replace H := bS H; obtain ⟨t243, A12, H⟩ := H
      replace H : (spec_BuildOnion.j0 k l0 l1 a2 (!t243)) = some (r1, r2) := H
      have H' := Aside0.mk H
      clear H
      go_wp2_with (first | ((with_reducible refine gate_callee (f := 79) rfl ?_); refine goesLa (some 12) rfl Tryz.func79 #[.int .i64 (l0.length : Int), .int .i64 1, .int .i64 4] rfl ?_; (with_reducible refine (spec_l1In.calls (l0.length : Int) 1 4 true _ A5.out).mono ?_); rintro e w' ⟨rfl, ⟨nd, rfl⟩⟩; refine ⟨_, rfl, ?_⟩) | (go_at_call 81; (with_reducible refine (spec_l1All.calls k _ _ l0 0 65535 true _ ?side1 ?side2 A7.out).mono ?_); (case side1 => exact cd (Kd.C_below HR0.out (belowd HB))); (case side2 => exact HC0.out); rintro e w' ⟨rfl, ⟨nd, rfl⟩⟩) | (go_at_call 81; (with_reducible refine (spec_l1All.calls k _ _ l1 1 250 true _ ?side1 ?side2 A10.out).mono ?_); (case side1 => exact cd (Kd.C_below HR1.out (belowd HB))); (case side2 => exact HC1.out); rintro e w' ⟨rfl, ⟨nd, rfl⟩⟩) | (go_at_call 128; (with_reducible refine (spec_l7Body.calls a2 t243 _ A12.out).mono ?_); rintro e w' ⟨rfl, ⟨nd, rfl⟩⟩))
      go_meet
      case rel => exact ⟨_, (!t243), er, H', ⟨by first | omega | exact Nat.le_refl _⟩, ⟨belowd HB⟩⟩
     ·replace c11 := Bool.eq_false_iff.mpr c11
      subst c11
      have H1 : (spec_BuildOnion.j0 k l0 l1 a2 true) = some (r1, r2) := by rw [if_neg (show ¬ (false = true) by decide)] at H; exact H
      clear H
      have H := H1
      clear H1
      have H' := Aside0.mk H
      clear H
      go_wp2_with (first | ((with_reducible refine gate_callee (f := 79) rfl ?_); refine goesLa (some 12) rfl Tryz.func79 #[.int .i64 (l0.length : Int), .int .i64 1, .int .i64 4] rfl ?_; (with_reducible refine (spec_l1In.calls (l0.length : Int) 1 4 true _ A5.out).mono ?_); rintro e w' ⟨rfl, ⟨nd, rfl⟩⟩; refine ⟨_, rfl, ?_⟩) | (go_at_call 81; (with_reducible refine (spec_l1All.calls k _ _ l0 0 65535 true _ ?side1 ?side2 A7.out).mono ?_); (case side1 => exact cd (Kd.C_below HR0.out (belowd HB))); (case side2 => exact HC0.out); rintro e w' ⟨rfl, ⟨nd, rfl⟩⟩) | (go_at_call 81; (with_reducible refine (spec_l1All.calls k _ _ l1 1 250 false _ ?side1 ?side2 A10.out).mono ?_); (case side1 => exact cd (Kd.C_below HR1.out (belowd HB))); (case side2 => exact HC1.out); rintro e w' ⟨rfl, ⟨nd, rfl⟩⟩))
      go_meet
      case rel => exact ⟨_, (true), er, H', ⟨by first | omega | exact Nat.le_refl _⟩, ⟨belowd HB⟩⟩
    ·rw [if_neg c9] at H
     have c9b0 : ((l1.length : Int) == (l0.length : Int)) = false := beq_eq_false_iff_ne.mpr c9
     have c9b1 : ((l1.length : Int) != (l0.length : Int)) = true := bne_iff_ne.mpr c9
     have c9b2 : (l1.length == l0.length) = false := by first | simpa using c9 | (simp at c9 ⊢; omega)
     (first | rw [c9b0] | (simp only [i64_w, i32_w]; rw [c9b0]) | skip)
     have H' := Aside0.mk H
     clear H
     go_wp2_with (first | ((with_reducible refine gate_callee (f := 79) rfl ?_); refine goesLa (some 12) rfl Tryz.func79 #[.int .i64 (l0.length : Int), .int .i64 1, .int .i64 4] rfl ?_; (with_reducible refine (spec_l1In.calls (l0.length : Int) 1 4 true _ A5.out).mono ?_); rintro e w' ⟨rfl, ⟨nd, rfl⟩⟩; refine ⟨_, rfl, ?_⟩) | (go_at_call 81; (with_reducible refine (spec_l1All.calls k _ _ l0 0 65535 true _ ?side1 ?side2 A7.out).mono ?_); (case side1 => exact cd (Kd.C_below HR0.out (belowd HB))); (case side2 => exact HC0.out); rintro e w' ⟨rfl, ⟨nd, rfl⟩⟩))
     go_meet
     case rel => exact ⟨_, (true), er, H', ⟨by first | omega | exact Nat.le_refl _⟩, ⟨belowd HB⟩⟩
   ·replace c8 := Bool.eq_false_iff.mpr c8
    subst c8
    have H1 : (spec_BuildOnion.j0 k l0 l1 a2 true) = some (r1, r2) := by rw [if_neg (show ¬ (false = true) by decide)] at H; exact H
    clear H
    have H := H1
    clear H1
    have H' := Aside0.mk H
    clear H
    go_wp2_with (first | ((with_reducible refine gate_callee (f := 79) rfl ?_); refine goesLa (some 12) rfl Tryz.func79 #[.int .i64 (l0.length : Int), .int .i64 1, .int .i64 4] rfl ?_; (with_reducible refine (spec_l1In.calls (l0.length : Int) 1 4 true _ A5.out).mono ?_); rintro e w' ⟨rfl, ⟨nd, rfl⟩⟩; refine ⟨_, rfl, ?_⟩) | (go_at_call 81; (with_reducible refine (spec_l1All.calls k _ _ l0 0 65535 false _ ?side1 ?side2 A7.out).mono ?_); (case side1 => exact cd (Kd.C_below HR0.out (belowd HB))); (case side2 => exact HC0.out); rintro e w' ⟨rfl, ⟨nd, rfl⟩⟩))
    go_meet
    case rel => exact ⟨_, (true), er, H', ⟨by first | omega | exact Nat.le_refl _⟩, ⟨belowd HB⟩⟩
  ·replace c6 := Bool.eq_false_iff.mpr c6
   subst c6
   have H1 : (spec_BuildOnion.j0 k l0 l1 a2 true) = some (r1, r2) := by rw [if_neg (show ¬ (false = true) by decide)] at H; exact H
   clear H
   have H := H1
   clear H1
   have H' := Aside0.mk H
   clear H
   go_wp2_with (first | ((with_reducible refine gate_callee (f := 79) rfl ?_); refine goesLa (some 12) rfl Tryz.func79 #[.int .i64 (l0.length : Int), .int .i64 1, .int .i64 4] rfl ?_; (with_reducible refine (spec_l1In.calls (l0.length : Int) 1 4 false _ A5.out).mono ?_); rintro e w' ⟨rfl, ⟨nd, rfl⟩⟩; refine ⟨_, rfl, ?_⟩))
   go_meet
   case rel => exact ⟨_, (true), er, H', ⟨by first | omega | exact Nat.le_refl _⟩, ⟨belowd HB⟩⟩
 case rest =>
  clear HC4; (try clear c1)
  obtain ⟨kq, x35_3, rfl, HA, HJ3, HB⟩ := hcut
  cases kq with
  | zero => exact absurd HA.out (by simp [spec_BuildOnion.j0])
  | succ kj3 =>
   have H := HA.out; clear HA
   simp only [spec_BuildOnion.j0] at H
   by_cases c13 : x35_3 = true
   ·subst c13
    have H1 : (some ((⟨#[]⟩ : ByteArray), false)) = some (r1, r2) := by rw [if_pos rfl] at H; exact H
    clear H
    have H := H1
    clear H1
    simp only [Option.some.injEq, Prod.mk.injEq] at H
    obtain ⟨rfl, rfl⟩ := H; go_wp2
    go_ret2
    exact ⟨er2, belowd HB⟩
   ·replace c13 := Bool.eq_false_iff.mpr c13
    subst c13
    have H1 : ((spec_l7PadBody.f a2).bind fun t244 => (if 8 ≤ 281474976710656 then ((some (List.replicate 8 0 : List Int)).bind fun y245 => (if t244.size + (strOfNums y245).size ≤ 9223372036854775807 then (spec_BuildOnion.l0 kj3 l0 l1 (t244 ++ (strOfNums y245)) (wrap64 ((l0.length : Int) - 1))) else (none))) else (none))) = some (r1, r2) := by rw [if_neg (show ¬ (false = true) by decide)] at H; exact H
    clear H
    have H := H1
    clear H1; replace H := bS H; obtain ⟨t244, A14, H⟩ := H
    replace H : (if 8 ≤ 281474976710656 then ((some (List.replicate 8 0 : List Int)).bind fun y245 => (if t244.size + (strOfNums y245).size ≤ 9223372036854775807 then (spec_BuildOnion.l0 kj3 l0 l1 (t244 ++ (strOfNums y245)) (wrap64 ((l0.length : Int) - 1))) else (none))) else (none)) = some (r1, r2) := H
    replace H := ifS H; obtain ⟨c15, H⟩ := H; have c15b0 := eq_true c15
    have c15b1 : decide (8 ≤ 281474976710656) = true := decide_eq_true c15
    clear c15
    obtain ⟨y245, hy_⟩ : ∃ y_ : List Int, y_ = (List.replicate 8 0) := ⟨_, rfl⟩
    replace H : (if t244.size + (strOfNums y245).size ≤ 9223372036854775807 then (spec_BuildOnion.l0 kj3 l0 l1 (t244 ++ (strOfNums y245)) (wrap64 ((l0.length : Int) - 1))) else (none)) = some (r1, r2) := yH
    have Ny245 := ak hy_; clear hy_; replace H := ifS H; obtain ⟨c16, H⟩ := H; have c16b0 := eq_true c16
    have c16b1 : decide (t244.size + (strOfNums y245).size ≤ 9223372036854775807) = true := decide_eq_true c16
    try have c16b2 : (9223372036854775807 < t244.size + (strOfNums y245).size) = False := eq_false (Nat.not_lt.2 c16)
    have H' := Aside0.mk H
    clear H
    try go_wp2
    replace HB := ak (below_drew1 HB.out)
    refine start_ (n := 6) (S := fun w' => True) (ds := []) (bl 6 0) (by kernel_rfl) rfl rfl trivial (fun hHeld => ?_)
    generalize wc.drew = w17 at HB hHeld ⊢
    refine pure_ (i := 0) (N := some 36) (v := ?_) (a' := ?_) (bl 6 1) rfl rfl (by kernel_rfl) (fun _ _ _ h => h) (Or.inl ⟨by rfl, ?_⟩) ?_ ?_
    rotate_left
    ·intro w'
     go_simp
     with_reducible rfl
    rotate_left
    ·simp only [Act.put, List.setIfInBounds_toArray, List.set_cons_zero, List.set_cons_succ, i64_w, i32_w]
     rfl
    refine join_ (σ := Value) 2 (bl 6 15) (fun s_ => [(37, .string t244), (38, s_), (39, .string (strOfNums y245))]) (fun s_ w' => (Kd.R (Kd.int .u8) 5 w' w.heap.size (fun _ => True) s_ y245) ∧ (Below w.heap.size w w')) ?_ ?_
    rotate_left
    ·intro hCont
     refine two_ (i := 1) (j := 2) (Ni := some 37) (Nj := some 38) (bl 6 3) (bl 6 5) rfl rfl rfl rfl (by kernel_rfl) (by decide) (by decide) (fun K hK => ?_) (fun K hK => ?_)
     ·skip
      refine goes_ Tryz.func129 (by kernel_rfl) rfl #[.string a2] (by rfl) rfl rfl (by (try simp only [List.map_toArray, List.map_cons, List.map_nil]); first | done | rfl | (simp only [List.length_drop, List.length_take]; rfl)) ?_
      with_reducible refine (spec_l7PadBody.calls a2 t244 _ A14.out).mono ?_
      rintro e w18 ⟨rfl, hb⟩
      refine ⟨_, rfl, ?_⟩
      replace HB := ak (below_step (belowd HB) hb)
      (try clear hb); (try clear hb2); (try clear hk); (try clear hi)
      refine hK.out _ _ trivial (fun hHeld => ?_)
      clear hK K
      refine norm_ (a' := ?_) ?_ ?_
      rotate_left
      ·show Act.put _ (some 37) _ = _
       simp only [Act.put, List.setIfInBounds_toArray, List.set_cons_zero, List.set_cons_succ, i64_w, i32_w]
       rfl
      refine one_ (i := 2) (N := some 38) (bl 6 7) rfl rfl (by kernel_rfl) (by decide) (fun K hK => ?_)
      refine Kd.R_make_step (Kd.int .u8) _ 5 (by rfl) (N := 38) rfl 56 _ _ rfl 8 rfl rfl Tryz.underlying56 (.int .u8 0) 1 info5 rfl (by decide) (by omega) 0 (ok := fun _ => True) (okp := fun _ => True) rfl (fun _ hk => hk) trivial (by omega) (by omega) (Below.refl _ _) (Nat.le_refl _) ?_
      intro v246 w19 ho20 hb hg_ hnew_
      clear hg_ hnew_
      (first | rw [← Ny245.out] at ho20 | (simp only [Int.reduceToNat] at ho20; rw [← Ny245.out] at ho20))
      have HO247 := ak (Kd.R_lower ho20 (below_size (belowd HB)))
      replace HB := ak (below_step (belowd HB) hb)
      clear hb ho20
      refine hK.out _ _ trivial (fun hHeld => ?_)
      clear hK K
      refine norm_ (a' := ?_) ?_ ?_
      rotate_left
      ·show Act.put _ (some 38) _ = _
       simp only [Act.put, List.setIfInBounds_toArray, List.set_cons_zero, List.set_cons_succ, i64_w, i32_w]
       rfl
      refine one_ (i := 3) (N := some 39) (bl 6 15) rfl rfl (by kernel_rfl) (by decide) (fun K hK => ?_)
      have hcv21 := own_string (P := Tryz.prog) Tryz.underlying56 Tryz.underlying5 Tryz.underlying9 (Kd.own_of_R HO247.out)
      refine value_ (w1 := ?_) (v := ?_) (by rfl) rfl ?_ ?_
      rotate_left 2
      ·go_simp
       constructor
       ·rfl
       ·rfl
      clear hcv21
      refine hK.out _ _ trivial (fun hHeld => ?_)
      clear hK K
      refine norm_ (a' := ?_) ?_ ?_
      rotate_left
      ·show Act.put _ (some 39) _ = _
       simp only [Act.put, List.setIfInBounds_toArray, List.set_cons_zero, List.set_cons_succ, i64_w, i32_w]
       rfl
      exact norm_ (by simp only [putAll, Act.put, List.setIfInBounds_toArray, List.set_cons_zero, List.set_cons_succ]) (hCont (v246) _ ⟨(rdl HO247), (belowd HB)⟩)
     ·skip
      refine Kd.R_make_step (Kd.int .u8) _ 5 (by rfl) (N := 38) rfl 56 _ _ rfl 8 rfl rfl Tryz.underlying56 (.int .u8 0) 1 info5 rfl (by decide) (by omega) 0 (ok := fun _ => True) (okp := fun _ => True) rfl (fun _ hk => hk) trivial (by omega) (by omega) (Below.refl _ _) (Nat.le_refl _) ?_
      intro v246 w18 ho19 hb hg_ hnew_
      clear hg_ hnew_
      (first | rw [← Ny245.out] at ho19 | (simp only [Int.reduceToNat] at ho19; rw [← Ny245.out] at ho19))
      have HO247 := ak (Kd.R_lower ho19 (below_size (belowd HB)))
      replace HB := ak (below_step (belowd HB) hb)
      clear hb ho19
      refine hK.out _ _ trivial (fun hHeld => ?_)
      clear hK K
      refine norm_ (a' := ?_) ?_ ?_
      rotate_left
      ·show Act.put _ (some 38) _ = _
       simp only [Act.put, List.setIfInBounds_toArray, List.set_cons_zero, List.set_cons_succ, i64_w, i32_w]
       rfl
      refine two_ (i := 1) (j := 3) (Ni := some 37) (Nj := some 39) (bl 6 7) (bl 6 13) rfl rfl rfl rfl (by kernel_rfl) (by decide) (by decide) (fun K hK => ?_) (fun K hK => ?_)
      ·skip
       refine goes_ Tryz.func129 (by kernel_rfl) rfl #[.string a2] (by rfl) rfl rfl (by (try simp only [List.map_toArray, List.map_cons, List.map_nil]); first | done | rfl | (simp only [List.length_drop, List.length_take]; rfl)) ?_
       with_reducible refine (spec_l7PadBody.calls a2 t244 _ A14.out).mono ?_
       rintro e w20 ⟨rfl, hb⟩
       refine ⟨_, rfl, ?_⟩
       replace HO247 := ak (Kd.R_below (rdl HO247) hb)
       replace HB := ak (below_step (belowd HB) hb)
       (try clear hb); (try clear hb2); (try clear hk); (try clear hi)
       refine hK.out _ _ trivial (fun hHeld => ?_)
       clear hK K
       refine norm_ (a' := ?_) ?_ ?_
       rotate_left
       ·show Act.put _ (some 37) _ = _
        simp only [Act.put, List.setIfInBounds_toArray, List.set_cons_zero, List.set_cons_succ, i64_w, i32_w]
        rfl
       refine one_ (i := 3) (N := some 39) (bl 6 15) rfl rfl (by kernel_rfl) (by decide) (fun K hK => ?_)
       have hcv21 := own_string (P := Tryz.prog) Tryz.underlying56 Tryz.underlying5 Tryz.underlying9 (Kd.own_of_R HO247.out)
       refine value_ (w1 := ?_) (v := ?_) (by rfl) rfl ?_ ?_
       rotate_left 2
       ·go_simp
        constructor
        ·rfl
        ·rfl
       clear hcv21
       refine hK.out _ _ trivial (fun hHeld => ?_)
       clear hK K
       refine norm_ (a' := ?_) ?_ ?_
       rotate_left
       ·show Act.put _ (some 39) _ = _
        simp only [Act.put, List.setIfInBounds_toArray, List.set_cons_zero, List.set_cons_succ, i64_w, i32_w]
        rfl
       exact norm_ (by simp only [putAll, Act.put, List.setIfInBounds_toArray, List.set_cons_zero, List.set_cons_succ]) (hCont (v246) _ ⟨(rdl HO247), (belowd HB)⟩)
      ·skip
       have hcv20 := own_string (P := Tryz.prog) Tryz.underlying56 Tryz.underlying5 Tryz.underlying9 (Kd.own_of_R HO247.out)
       refine value_ (w1 := ?_) (v := ?_) (by rfl) rfl ?_ ?_
       rotate_left 2
       ·go_simp
        constructor
        ·rfl
        ·rfl
       clear hcv20
       refine hK.out _ _ trivial (fun hHeld => ?_)
       clear hK K
       refine norm_ (a' := ?_) ?_ ?_
       rotate_left
       ·show Act.put _ (some 39) _ = _
        simp only [Act.put, List.setIfInBounds_toArray, List.set_cons_zero, List.set_cons_succ, i64_w, i32_w]
        rfl
       refine one_ (i := 1) (N := some 37) (bl 6 15) rfl rfl (by kernel_rfl) (by decide) (fun K hK => ?_)
       refine goes_ Tryz.func129 (by kernel_rfl) rfl #[.string a2] (by rfl) rfl rfl (by (try simp only [List.map_toArray, List.map_cons, List.map_nil]); first | done | rfl | (simp only [List.length_drop, List.length_take]; rfl)) ?_
       with_reducible refine (spec_l7PadBody.calls a2 t244 _ A14.out).mono ?_
       rintro e w21 ⟨rfl, hb⟩
       refine ⟨_, rfl, ?_⟩
       replace HO247 := ak (Kd.R_below (rdl HO247) hb)
       replace HB := ak (below_step (belowd HB) hb)
       (try clear hb); (try clear hb2); (try clear hk); (try clear hi)
       refine hK.out _ _ trivial (fun hHeld => ?_)
       clear hK K
       refine norm_ (a' := ?_) ?_ ?_
       rotate_left
       ·show Act.put _ (some 37) _ = _
        simp only [Act.put, List.setIfInBounds_toArray, List.set_cons_zero, List.set_cons_succ, i64_w, i32_w]
        rfl
       exact norm_ (by simp only [putAll, Act.put, List.setIfInBounds_toArray, List.set_cons_zero, List.set_cons_succ]) (hCont (v246) _ ⟨(rdl HO247), (belowd HB)⟩)
    rintro v246 w22 ⟨h0_, h1_⟩
    have n0_ : Aside0 (Kd.R (Kd.int .u8) 5 w22 w.heap.size (fun _ => True) v246 y245) := ⟨h0_⟩
    have n1_ : Aside0 (Below w.heap.size w w22) := ⟨h1_⟩
    clear HB; clear h0_ h1_
    have HO247 := n0_
    have HB := n1_
    clear n0_ n1_
    have hHeld := trivial
    refine norm_ (a' := ?_) ?_ ?_
    rotate_left
    ·simp only [putAll, Act.put, List.setIfInBounds_toArray, List.set_cons_zero, List.set_cons_succ]
     rfl
    refine pure_ (i := 4) (N := some 40) (v := ?_) (a' := ?_) (bl 6 31) rfl rfl (by kernel_rfl) (fun _ _ _ h => h) (Or.inl ⟨by rfl, ?_⟩) ?_ ?_
    rotate_left
    ·intro w'
     go_simp
     with_reducible rfl
    rotate_left
    ·simp only [Act.put, List.setIfInBounds_toArray, List.set_cons_zero, List.set_cons_succ, i64_w, i32_w]
     rfl
    refine pure_ (i := 5) (N := some 8) (v := ?_) (a' := ?_) (bl 6 63) rfl rfl (by kernel_rfl) (fun _ _ _ h => h) (Or.inl ⟨by rfl, ?_⟩) ?_ ?_
    rotate_left
    ·intro w'
     go_simp
     with_reducible rfl
    rotate_left
    ·simp only [Act.put, List.setIfInBounds_toArray, List.set_cons_zero, List.set_cons_succ, i64_w, i32_w]
     rfl
    refine done_ (by kernel_rfl) ?_
    try go_wp2
    go_loopg [8, 9] kj3 (fun kq v8 v9 w' => ∃ (x8_2 : ByteArray) (x9_2 : Int), v8 = .string x8_2 ∧ v9 = .int .i64 x9_2 ∧ Aside0 (spec_BuildOnion.l0 kq l0 l1 x8_2 x9_2 = some (r1, r2)) ∧ Aside0 (kq ≤ kj3) ∧ Aside0 (Below w.heap.size w w'))
    case atStart => exact ⟨(t244 ++ (strOfNums y245)), (wrap64 ((l0.length : Int) - 1)), er, er, H', ⟨Nat.le_refl _⟩, ⟨belowd HB⟩⟩
    case round =>
     clear H'
     (try clear c13); (try clear c15b0); (try clear c15b1); (try clear c16); (try clear c16b0); (try clear c16b1); (try clear c16b2)
     obtain ⟨x8_2, x9_2, rfl, rfl, HA, HK2, HB⟩ := hrel
     cases gk with
     | zero => exact absurd HA.out (by simp [spec_BuildOnion.l0])
     | succ k2 =>
      have H := HA.out; clear HA
      simp only [spec_BuildOnion.l0] at H
      by_cases c23 : x9_2 ≥ 0
      ·rw [if_pos c23] at H
       have c23b0 : decide (0 ≤ x9_2) = true := decide_eq_true c23
       clear c23; replace H := ifS H; obtain ⟨c24, H⟩ := H; have c24b0 := eq_true c24
       have c24b1 : decide (0 ≤ 22) = true := decide_eq_true c24
       clear c24; replace H := ifS H; obtain ⟨c25, H⟩ := H; have c25b0 := eq_true c25
       have c25b1 : decide (22 ≤ (x8_2.size : Int)) = true := decide_eq_true c25
       clear c25; replace H := ifS H; obtain ⟨c26, H⟩ := H; have c26b0 := decide_eq_true c26; clear c26; replace H := ifS H; obtain ⟨c27, H⟩ := H; have c27b0 := decide_eq_true c27; clear c27; replace H := ifS H; obtain ⟨c28, H⟩ := H; have c28b0 := eq_true c28
       have c28b1 : decide (0 ≤ 16) = true := decide_eq_true c28
       clear c28; replace H := ifS H; obtain ⟨c29, H⟩ := H; have c29b0 := eq_true c29
       have c29b1 : decide (16 ≤ ((x8_2.extract 0 22).size : Int)) = true := decide_eq_true c29
       (try have c29x0 := c29b0; simp only [ByteArray.size_extract, Nat.sub_zero, Nat.min_self] at c29x0)
       clear c29; replace H := bS H; obtain ⟨t249, A30, H⟩ := H
       replace H : ((some (([(rd l1 x9_2) % 256, (t249) % 256] : List Int) : List Int)).bind fun y250 => (if (strOfNums y250).size + (x8_2.extract 0 22).size ≤ 9223372036854775807 then (if x9_2 < (l0.length : Int) then ((spec_l7Pad.f k2 (rd l0 x9_2) 24).bind fun t254 => ((spec_l7Xor.f k2 ((strOfNums y250) ++ (x8_2.extract 0 22)) t254).bind fun t255 => (spec_BuildOnion.l0 k2 l0 l1 t255 (wrap64 (x9_2 - 1))))) else (none)) else (none))) = some (r1, r2) := H
       obtain ⟨y250, hy_⟩ : ∃ y_ : List Int, y_ = (([(rd l1 x9_2) % 256, (t249) % 256] : List Int)) := ⟨_, rfl⟩
       replace H : (if (strOfNums y250).size + (x8_2.extract 0 22).size ≤ 9223372036854775807 then (if x9_2 < (l0.length : Int) then ((spec_l7Pad.f k2 (rd l0 x9_2) 24).bind fun t254 => ((spec_l7Xor.f k2 ((strOfNums y250) ++ (x8_2.extract 0 22)) t254).bind fun t255 => (spec_BuildOnion.l0 k2 l0 l1 t255 (wrap64 (x9_2 - 1))))) else (none)) else (none)) = some (r1, r2) := yH
       have Ny250 := ak hy_; clear hy_; replace H := ifS H; obtain ⟨c31, H⟩ := H; have c31b0 := eq_true c31
       have c31b1 : decide ((strOfNums y250).size + (x8_2.extract 0 22).size ≤ 9223372036854775807) = true := decide_eq_true c31
       try have c31b2 : (9223372036854775807 < (strOfNums y250).size + (x8_2.extract 0 22).size) = False := eq_false (Nat.not_lt.2 c31)
       (try have c31x0 := c31b0; simp only [ByteArray.size_extract, Nat.sub_zero, Nat.min_self] at c31x0)
       (try have c31x2 := c31b2; simp only [ByteArray.size_extract, Nat.sub_zero, Nat.min_self] at c31x2)
       replace H := ifS H; obtain ⟨c32, H⟩ := H; have c32b0 := decide_eq_true c32; clear c32; replace H := bS H; obtain ⟨t254, A33, H⟩ := H
       replace H : ((spec_l7Xor.f k2 ((strOfNums y250) ++ (x8_2.extract 0 22)) t254).bind fun t255 => (spec_BuildOnion.l0 k2 l0 l1 t255 (wrap64 (x9_2 - 1)))) = some (r1, r2) := H
       replace H := bS H; obtain ⟨t255, A34, H⟩ := H
       replace H : (spec_BuildOnion.l0 k2 l0 l1 t255 (wrap64 (x9_2 - 1))) = some (r1, r2) := H
       have H' := Aside0.mk H
       clear H
       try go_wp2
       replace HB := ak (below_drew1 HB.out)
       have p248 : 0 ≤ (x9_2 : Int) := da
       have q248 : x9_2 < (l1.length : Int) := da
       obtain ⟨ad248, e248, hx248_0⟩ := Kd.at_int HR1.out x9_2 p248 q248
       have hw248_0 := hx248_0
       cases e248
       replace hx248_0 := (HB.out.cell (World.block_lt_of_cell? w _ hx248_0)).trans hx248_0
       replace p248 := eq_true p248; replace q248 := eq_true q248
       refine start_ (n := 14) (S := fun w' => w'.cell? (ad248.add (x9_2).toNat) = some (.int .i64 (rd l1 x9_2))) (ds := []) (bl 14 0) (by kernel_rfl) rfl rfl (((HB.out.cell (World.block_lt_of_cell? w _ hw248_0)).trans hw248_0)) (fun hHeld => ?_); refine with_tabW spec_BuildOnion.tab8 spec_BuildOnion.bits8 (fun HT_ HW_ => ?_)
       generalize wr.drew = w35 at HB hx248_0 hHeld ⊢
       refine pureA 0 (some 50) 14 1 HT_ ?_
       refine pureA 1 (some 51) 14 3 HT_ ?_
       refine pureA 2 (some 52) 14 7 HT_ ?_
       refine pureA 5 (some 55) 14 39 HT_ ?_
       refine pureA 6 (some 56) 14 103 HT_ ?_
       refine pureA 11 (some 61) 14 2151 HT_ ?_
       refine takeA 3 (some 53) 14 2159 HT_ HW_ hHeld ?_ (hy := by intro w' s0; go_simp; with_reducible rfl)
       refine pureA 4 (some 54) 14 2175 HT_ ?_
       refine oneA 7 (some 57) 14 2303 HT_ (fun K hK => ?_)
       refine goes_ Tryz.func112 (by kernel_rfl) rfl #[.string ((x8_2.extract 0 22).extract 0 16)] (by rfl) rfl rfl (by (try simp only [List.map_toArray, List.map_cons, List.map_nil]); first | done | rfl | (simp only [List.length_drop, List.length_take]; rfl)) ?_
       with_reducible refine (spec_l7Check.calls k2 ((x8_2.extract 0 22).extract 0 16) t249 _ A30.out).mono ?_
       rintro e w' ⟨rfl, ⟨nd, rfl⟩⟩
       refine ⟨_, rfl, ?_⟩
       refine hK.out _ _ (((HB.out.cell (World.block_lt_of_cell? w _ hw248_0)).trans hw248_0)) (fun hHeld => ?_)
       clear hK K
       refine norm_ (a' := ?_) ?_ ?_
       rotate_left
       ·show Act.put _ (some 57) _ = _
        simp only [Act.put, List.setIfInBounds_toArray, List.set_cons_zero, List.set_cons_succ, i64_w, i32_w]
        rfl
       refine pureA 8 (some 58) 14 2559 HT_ ?_
       refine oneA 9 (some 59) 14 3071 HT_ (fun K hK => ?_)
       refine Kd.R_lit_step (Kd.int .u8) _ 5 ?hg (N := 59) ?hd (xs := ([(rd l1 x9_2) % 256, (t249) % 256] : List Int)) (inner := [.int .u8 ((rd l1 x9_2) % 256), .int .u8 ((t249) % 256)]) (ok := fun _ => True) (okp := fun _ => True) ?hr ?hp (fun _ hk => hk) trivial (Below.refl _ _) (Nat.le_refl _) (by simp) ?_; (case hd => rfl); (case hg => rfl); (case hr => first | (go_simp; done) | (go_simp; rfl)); (case hp => exact (Reps.one (show Kd.M (Kd.int .u8) _ _ _ ((rd l1 x9_2) % 256) [.int .u8 ((rd l1 x9_2) % 256)] from rfl) (Reps.one (show Kd.M (Kd.int .u8) _ _ _ ((t249) % 256) [.int .u8 ((t249) % 256)] from rfl) (Reps.none _ _))))
       intro v251 w36 ho37 hb hg_ hnew_
       clear hg_ hnew_
       (first | rw [← Ny250.out] at ho37 | (simp only [Int.reduceToNat] at ho37; rw [← Ny250.out] at ho37))
       have HO252 := ak (Kd.R_lower ho37 (below_size (belowd HB)))
       replace HB := ak (below_step (belowd HB) hb)
       clear hb ho37
       refine hK.out _ _ (((HB.out.cell (World.block_lt_of_cell? w _ hw248_0)).trans hw248_0)) (fun hHeld => ?_)
       clear hK K
       refine norm_ (a' := ?_) ?_ ?_
       rotate_left
       ·show Act.put _ (some 59) _ = _
        simp only [Act.put, List.setIfInBounds_toArray, List.set_cons_zero, List.set_cons_succ, i64_w, i32_w]
        rfl
       refine oneA 10 (some 60) 14 4095 HT_ (fun K hK => ?_)
       have hcv38 := own_string (P := Tryz.prog) Tryz.underlying56 Tryz.underlying5 Tryz.underlying9 (Kd.own_of_R HO252.out)
       refine value_ (w1 := ?_) (v := ?_) (by rfl) rfl ?_ ?_
       rotate_left 2
       ·go_simp
        constructor
        ·rfl
        ·rfl
       clear hcv38
       refine hK.out _ _ (((HB.out.cell (World.block_lt_of_cell? w _ hw248_0)).trans hw248_0)) (fun hHeld => ?_)
       clear hK K
       refine norm_ (a' := ?_) ?_ ?_
       rotate_left
       ·show Act.put _ (some 60) _ = _
        simp only [Act.put, List.setIfInBounds_toArray, List.set_cons_zero, List.set_cons_succ, i64_w, i32_w]
        rfl
       refine pureA 12 (some 62) 14 8191 HT_ ?_
       refine pureA 13 (some 8) 14 16383 HT_ ?_
       refine done_ (done_of HT_.out (by kernel_rfl)) ?_
       have p253 : 0 ≤ (x9_2 : Int) := da
       have q253 : x9_2 < (l0.length : Int) := da
       obtain ⟨ad253, e253, hx253_0⟩ := Kd.at_int HR0.out x9_2 p253 q253
       cases e253
       replace hx253_0 := (HB.out.cell (World.block_lt_of_cell? w _ hx253_0)).trans hx253_0
       replace p253 := eq_true p253; replace q253 := eq_true q253
       try go_wp2_with (first | ((with_reducible refine gate_callee (f := 111) rfl ?_); refine goesLa (some 68) rfl Tryz.func111 #[.int .i64 (rd l0 x9_2), .int .i64 24] rfl ?_; (with_reducible refine (spec_l7Pad.calls k2 (rd l0 x9_2) 24 t254 _ A33.out).mono ?_); rintro e w39 ⟨rfl, hb⟩; refine ⟨_, rfl, ?_⟩; replace HO252 := ak (Kd.R_below (rdl HO252) hb); replace HB := ak (below_step (belowd HB) hb); (try clear hb)) | ((with_reducible refine gate_callee (f := 110) rfl ?_); refine goesLa (some 69) rfl Tryz.func110 #[.string ((strOfNums y250) ++ (x8_2.extract 0 22)), .string t254] rfl ?_; (with_reducible refine (spec_l7Xor.calls k2 ((strOfNums y250) ++ (x8_2.extract 0 22)) t254 t255 _ A34.out).mono ?_); rintro e w40 ⟨rfl, hb⟩; refine ⟨_, rfl, ?_⟩; replace HO252 := ak (Kd.R_below (rdl HO252) hb); replace HB := ak (below_step (belowd HB) hb); (try clear hb)))
       go_roundg k2
       case measure => have := HJ3.out; have := HK2.out; omega
       case rel => exact ⟨(t255), (wrap64 (x9_2 - 1)), er, er, H', ⟨by have := HJ3.out; have := HK2.out; omega⟩, ⟨belowd HB⟩⟩
      ·rw [if_neg c23] at H
       have c23b0 : decide (0 ≤ x9_2) = false := decide_eq_false c23
       clear c23
       simp only [Option.some.injEq, Prod.mk.injEq] at H
       obtain ⟨rfl, rfl⟩ := H; go_wp2
       go_ret2
       exact ⟨er2, belowd HB⟩

end Go.Proofs.YtihekdlcfohkkaaGreatDoor.QFnExactStepNet
