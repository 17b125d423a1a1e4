-- printed by this session's own program (wip/tools/pp.py: the kit's print.py with changes); Lean checks it
import Derived.Test.YtmapmbgjjnlggaaQFnExactPlayAllx0
import Derived.Test.YtmapmbgjjnlggaaQFnExactPlayAllx1
namespace Go.Proofs.Ytmapmbgjjnlggaa.QFnExactPlayAll
open Go.RowKit Go.Proofs.YtmapmbgjjnlggaaW.PrintWords Go.Proofs.YtmapmbgjjnlggaaW.PrintLast Go.Proofs.YtmapmbgjjnlggaaW.PrintMore
attribute [local go_sem] max2_int min2_int max_two min_two max_three min_three max_four min_four strLss strGtr strLeq strGeq   -- for this text's walks alone
set_option linter.unusedVariables false
set_option linter.unusedSimpArgs false

/-! ### impl_PlayAll: function 42 -/
theorem impl_PlayAll.keyed : Go.Maps.Keyed Try.prog 3 := Go.Maps.int_keyed Try.underlying3
theorem impl_PlayAll.zero (w : World) : (zeroValue 4).run Try.prog w = .ok (.bool false) w := by kernel_rfl
theorem impl_PlayAll.bool_inv {v : Value} {z : DataW Unit × List MemPlace} (h : plainElem (H := Unit) Try.prog 4 v = some z) : ∃ b, v = .bool b ∧ z = (.lit (.bool b), []) := by
 unfold plainElem at h
 rw [Try.underlying4] at h
 cases v <;> simp_all
/-- The numbers that a map tells as taken. -/
def impl_PlayAll.Mp (w : World) (mb : Nat) (xt : List Int) : Prop := ∃ D : DataW Unit, w.ownsMap Try.prog 3 (plainElem Try.prog 4) mb xt.length D ∧ ∀ n : Int, D.atKey (.int .i64 n) (.lit (.bool false)) = .lit (.bool (xt.contains n))
theorem impl_PlayAll.look {w : World} {ops : Array Oper} {rest : List Oper} {o : Oper} {a : Act} {Q : Exit → Act → World → Prop} (hg : o.guard = none) (m x : Operand) (hop : o.op = Op.lookup 88 m x false) (mb : Nat) (xt : List Int) (hm : a.eval m = .map (some mb)) (H : impl_PlayAll.Mp w mb xt) (n : Int) (hn : (Lit.int .i64 n).wf = true) (hx : a.eval x = .int .i64 n) (b : Bool) (hb : xt.contains n = b) (hK : wpList Try.prog ops Q rest (a.put o.dst (.bool b)) w) : wpList Try.prog ops Q (o :: rest) a w := by
 obtain ⟨D, h, hD⟩ := H
 refine wpList_plain hg fun K' hK' => ?_
 obtain ⟨v, ps, hrun, hv⟩ := h.lookup impl_PlayAll.keyed Try.underlying88 (impl_PlayAll.zero w) (plainElem_bool Try.underlying4 false) (Go.Maps.keyOf_int_mk Try.underlying3 hn)
 obtain ⟨c, rfl, hc⟩ := impl_PlayAll.bool_inv hv
 rw [hD n] at hc
 simp only [Prod.mk.injEq] at hc
 have e : xt.contains n = c := by
  have := hc.1
  injection this with this
  injection this
 rw [hb] at e
 subst e
 unfold Oper.wp
 simp [execOp, hop, hm, hx, hrun, Result.andThen]
 exact hK' _ _ hK
theorem impl_PlayAll.upd {w : World} {ops : Array Oper} {rest : List Oper} {o : Oper} {a : Act} {Q : Exit → Act → World → Prop} (hg : o.guard = none) (m x v : Operand) (hop : o.op = Op.mapUpdate 88 m x v) (mb : Nat) (xt : List Int) (hm : a.eval m = .map (some mb)) (H : impl_PlayAll.Mp w mb xt) (hl : xt.length < 1000) (n : Int) (hn : (Lit.int .i64 n).wf = true) (hx : a.eval x = .int .i64 n) (hv : a.eval v = .bool true) (hK : ∀ w', impl_PlayAll.Mp w' mb (xt ++ [n]) → w.grownBy w' (some mb) → wpList Try.prog ops Q rest (a.put o.dst undef) w') : wpList Try.prog ops Q (o :: rest) a w := by
 obtain ⟨D, h, hD⟩ := H
 refine wpList_mapUpdate_own w hg m x v 88 hop 3 4 impl_PlayAll.keyed Try.underlying88 (plainElem Try.prog 4) mb xt.length D hm h (by unfold maxLen; omega) _ _ _ hx hv (Go.Maps.keyOf_int_mk Try.underlying3 hn) _ [] (plainElem_bool Try.underlying4 true) ?_
 intro w' h' hg'
 refine hK w' ⟨_, by rw [List.length_append]; exact h', fun m => ?_⟩ hg'
 by_cases e : m = n
 ·subst e
  rw [Go.Maps.atKey_put_same h.isMap (by trivial)]
  simp
 ·rw [Go.Maps.atKey_put_other (by simpa using e), hD m]
  simp [e]
theorem impl_PlayAll.mp_kept {w w' : World} {row : Option Nat} {mb : Nat} {xt : List Int} (H : impl_PlayAll.Mp w mb xt) (hg : w.grownBy w' row) (hne : some mb ≠ row) : impl_PlayAll.Mp w' mb xt := by
 obtain ⟨D, h, hD⟩ := H
 exact ⟨D, h.kept hg hne, hD⟩
theorem impl_PlayAll.mp_ne {e : Nat} {w : World} {base : Nat} {ok : Nat → Prop} {v : Value} {xs : List Int} (h : Kd.R (Kd.int .i64) e w base ok v xs) {mb : Nat} {xt : List Int} (H : impl_PlayAll.Mp w mb xt) : Kd.R (Kd.int .i64) e w base (fun k => k ≠ mb) v xs := by
 obtain ⟨D, ⟨es, cl, hm, _⟩, _⟩ := H
 refine Kd.R_mono (Kd.R_bound h) (fun k hk e => ?_)
 subst e
 obtain ⟨_, _, _, q, _, c, hc⟩ := hk
 rw [hm] at hc
 cases hc
theorem impl_PlayAll.mp_made0 (w : World) : impl_PlayAll.Mp (w.alloc (.map #[] 0)) w.heap.size [] := ⟨_, World.ownsMap_made _ _ _ _, fun n => WideAt.atKey_none _ (by simp)⟩
theorem impl_PlayAll.mp_made (w : World) (m : Nat) : impl_PlayAll.Mp ((w.drewN m).alloc (.map #[] 0)) w.heap.size [] := by
 have := impl_PlayAll.mp_made0 (w.drewN m)
 have e : (w.drewN m).heap.size = w.heap.size := by simp
 rw [e] at this
 exact this
theorem impl_PlayAll.mp_below {w w' : World} {mb : Nat} {xt : List Int} (H : impl_PlayAll.Mp w mb xt) (hb : Below w.heap.size w w') : impl_PlayAll.Mp w' mb xt := by
 obtain ⟨D, h, hD⟩ := H
 have hlt := h.lt
 obtain ⟨es, cl, hm, r⟩ := h
 exact ⟨D, ⟨es, cl, (hb.block mb hlt).trans hm, r⟩, hD⟩
theorem impl_PlayAll.mp_alloc {w : World} {mb : Nat} {xt : List Int} (H : impl_PlayAll.Mp w mb xt) (o : Obj) : impl_PlayAll.Mp (w.alloc o) mb xt := impl_PlayAll.mp_below H (below_alloc (Below.refl _ _) o)
theorem impl_PlayAll.wf {n : Int} (h : 1 ≤ n ∧ n ≤ 100000) : (Lit.int .i64 n).wf = true := by
 have h1 : IntKind.i64.min = -9223372036854775808 := by decide
 have h2 : IntKind.i64.max = 9223372036854775807 := by decide
 simp [Lit.wf, h1, h2]; omega
def impl_PlayAll.g : List Int → List Int → Int → List Int → Option (List Int)
  | [], _, _, out => some out
  | n :: ns, xt, top, out => if 1 ≤ n ∧ n ≤ 100000 then (if xt.contains n = true then impl_PlayAll.g ns xt top (out ++ [1]) else (if 16 ≤ wrap64 (top - n) then impl_PlayAll.g ns xt top (out ++ [2]) else impl_PlayAll.g ns (xt ++ [n]) (if top < n then n else top) (out ++ [0]))) else none
def impl_PlayAll.f (k : Nat) (l0 : List Int) : Option (List Int × Bool) := (impl_areTaken.f k l0).bind fun t => (if t = true then (if l0.length ≤ 100 then ((impl_PlayAll.g l0 [] 0 []).bind fun r => some (r, true)) else (none)) else (some (([] : List Int), false)))
theorem impl_PlayAll.mono : ∀ a0 k, LeO (impl_PlayAll.f k a0) (impl_PlayAll.f (k + 1) a0) := by
 intro a0 k r h
 unfold impl_PlayAll.f at h ⊢
 obtain ⟨t, h1, h2⟩ := Option.bind_eq_some_iff.mp h
 exact Option.bind_eq_some_iff.mpr ⟨t, impl_areTaken.mono a0 k t h1, h2⟩
set_option maxHeartbeats 8000000 in
set_option maxRecDepth 100000 in
theorem impl_PlayAll.calls (k : Nat) (A0 : Option Addr) (c0 : Nat) (l0 : List Int) (r1 : List Int) (r2 : Bool) (w : World) (hr0 : Kd.C (Kd.int .i64) w A0 l0.length l0) (hc0 : l0.length ≤ c0) (h : impl_PlayAll.f k l0 = some (r1, r2)) :
  Calls Try.prog 42 #[.slice A0 l0.length c0] w fun e w' => ∃ v0_ : Value, e = .returned (.tuple #[v0_, .bool r2]) ∧ Kd.R (Kd.int .i64) 3 w' w.heap.size (fun _ => True) v0_ r1 ∧ Below w.heap.size w w' := by
 have HR0 := Aside0.mk hr0; have HC0 := Aside0.mk hc0; clear hr0 hc0
 have HB := Aside0.mk (Below.refl w.heap.size w)
 unfold impl_PlayAll.f at h
 obtain ⟨t, A20, h⟩ := Option.bind_eq_some_iff.mp h
 have A2 := Aside0.mk A20; clear A20
 cases t with
 | false =>
  rw [if_neg (by decide)] at h
  simp only [Option.some.injEq, Prod.mk.injEq] at h
  obtain ⟨rfl, rfl⟩ := h
  go_enter Try.func42, Try.ntmps42
  go_wp2_with (first | ((with_reducible refine gate_callee (f := 71) rfl ?_); refine goesLa (some 11) rfl Try.func71 #[.slice A0 l0.length c0] rfl ?_; (with_reducible refine (impl_areTaken.calls k _ _ l0 false _ ?side1 ?side2 A2.out).mono ?_); (case side1 => exact HR0.out); (case side2 => exact HC0.out); rintro e w' ⟨rfl, ⟨nd, rfl⟩⟩; refine ⟨_, rfl, ?_⟩))
  go_ret2
  exact ⟨_, rfl, Kd.R_nil _ _ _ _ _, by repeat (first | exact HB.out | apply below_alloc | apply pw_below_drewN | apply below_drew1)⟩
 | true =>
  rw [if_pos rfl] at h
  by_cases hl : l0.length ≤ 100
  case neg => rw [if_neg hl] at h; exact absurd h (by simp)
  rw [if_pos hl] at h
  obtain ⟨rr, hg0, h⟩ := Option.bind_eq_some_iff.mp h
  simp only [Option.some.injEq, Prod.mk.injEq] at h
  obtain ⟨rfl, rfl⟩ := h
  have HG0 := Aside0.mk hg0; clear hg0
  have hmm := @run_makeMap Try.prog
  go_enter Try.func42, Try.ntmps42
  go_wp2_with (first | ((with_reducible refine gate_callee (f := 71) rfl ?_); refine goesLa (some 11) rfl Try.func71 #[.slice A0 l0.length c0] rfl ?_; (with_reducible refine (impl_areTaken.calls k _ _ l0 true _ ?side1 ?side2 A2.out).mono ?_); (case side1 => exact HR0.out); (case side2 => exact HC0.out); rintro e w' ⟨rfl, ⟨nd, rfl⟩⟩; refine ⟨_, rfl, ?_⟩) | ((with_reducible refine gate_dst (N := 14) rfl ?_); refine Kd.R_lit (Kd.int .i64) _ 3 ?hg (N := 14) ?hd (xs := ([] : List Int)) (inner := []) (ok := fun _ => True) (okp := fun _ => True) ?hr ?hp (fun _ hk => hk) trivial (Below.refl _ _) (Nat.le_refl _) (by simp) ?_; (case hd => rfl); (case hg => rfl); (case hr => first | (go_simp; done) | (go_simp; rfl)); (case hp => exact (Reps.none _ _)); intro v14 w5 ho6 hb hg_ hnew_; clear hg_ hnew_; have HM := Aside0.mk (impl_PlayAll.mp_below (impl_PlayAll.mp_made _ _) hb); have HO := Aside0.mk (Kd.R_lower ho6 (below_size (by repeat (first | exact HB.out | apply below_alloc | apply pw_below_drewN | apply below_drew1)))); have n2_ := Aside0.mk (below_step (by repeat (first | exact HB.out | apply below_alloc | apply pw_below_drewN | apply below_drew1)) hb); clear HB; have HB := n2_; clear n2_ hb ho6))
  go_loopg [5, 6, 17] (l0.length + 1) (fun kq v5 v6 v17 w' => ∃ (xt : List Int) (top : Int) (out : List Int) (i : Nat), v5 = .int .i64 top ∧ v17 = .int .i64 (i : Int) ∧ Aside0 (impl_PlayAll.g (l0.drop i) xt top out = some rr) ∧ Aside0 (l0.length + 1 ≤ i + kq) ∧ Aside0 (i ≤ l0.length) ∧ Aside0 (xt.length ≤ i) ∧ Aside0 (out.length ≤ i) ∧ Aside0 (impl_PlayAll.Mp w' w.heap.size xt) ∧ Aside0 (Kd.R (Kd.int .i64) 3 w' w.heap.size (fun _ => True) v6 out) ∧ Aside0 (Below w.heap.size w w'))
  case atStart => exact ⟨[], 0, [], 0, rfl, rfl, ⟨by simpa using HG0.out⟩, ⟨by omega⟩, ⟨by omega⟩, ⟨by simp⟩, ⟨by simp⟩, ⟨HM.out⟩, ⟨HO.out⟩, ⟨HB.out⟩⟩
  case round =>
   obtain ⟨xt, top, out, i, rfl, rfl, HG, HK, Hi, Hx, Ho, HM, HO, HB⟩ := hrel
   by_cases c : i < l0.length
   ·obtain ⟨k1, rfl⟩ : ∃ k1, gk = k1 + 1 := ⟨gk - 1, by have := HK.out; omega⟩
    have cb : decide ((i : Int) < (l0.length : Int)) = true := decide_eq_true (by omega)
    have HG1 := HG.out
    rw [List.drop_eq_getElem_cons c] at HG1
    have en : l0[i] = rd l0 (i : Int) := by simp [rd, c]
    rw [en] at HG1
    obtain ⟨ad, e1, hx⟩ := Kd.at_int HR0.out (i : Int) (by omega) (by omega)
    cases e1
    replace hx := (HB.out.cell (World.block_lt_of_cell? w _ hx)).trans hx
    simp only [Int.toNat_natCast] at hx
    have p0 : (0 ≤ (i : Int)) = True := eq_true (by omega)
    have q0 : ((i : Int) < (l0.length : Int)) = True := eq_true (by omega)
    simp only [impl_PlayAll.g] at HG1
    clear en
    generalize rd l0 (i : Int) = n at HG1 hx
    by_cases cr : 1 ≤ n ∧ n ≤ 100000
    ·rw [if_pos cr] at HG1
     have hn : (Lit.int .i64 n).wf = true := impl_PlayAll.wf cr
     clear cr
     by_cases c1 : xt.contains n = true
     ·rw [if_pos c1] at HG1
      go_wp2_with (first | (at_lookup; refine impl_PlayAll.look rfl _ _ rfl w.heap.size xt rfl HM.out n hn rfl true c1 ?_) | ((with_reducible refine gate_builtin (b := .append) (xs := #[.tmp 35, .tmp 37]) rfl ?_); at_builtin; refine Kd.R_append (Kd.int .i64) (w0 := w) w.heap.size rfl (.tmp 35) (.tmp 37) 39 3 (.int .i64 0) 8 rfl Try.underlying39 info3 rfl (by decide) (by omega) u6 out 1 [.int .i64 1] (fun _ => True) (fun _ => False) rfl rfl ?aP (fun _ hk => hk.elim) ?aF ?aO ?aB ?aS ?aL ?_; (case aP => exact rfl); (case aB => exact (by repeat (first | exact HB.out | apply below_alloc | apply pw_below_drewN | apply below_drew1))); (case aF => exact (fun _ _ => trivial)); (case aO => exact (rdl HO)); (case aS => exact (below_size (by repeat (first | exact HB.out | apply below_alloc | apply pw_below_drewN | apply below_drew1)))); (case aL => have := Ho.out; have := Hi.out; omega); intro v15 w15 ho hb hg hat; have n0_ := Aside0.mk (impl_PlayAll.mp_kept (by repeat (first | exact HM.out | apply impl_PlayAll.mp_alloc)) hg (Kd.R_away (impl_PlayAll.mp_ne HO.out HM.out) (fun _ hk => hk))); have n1_ := Aside0.mk ho; have n2_ := Aside0.mk hb; clear HM HO HB; have HM := n0_; have HO := n1_; have HB := n2_; clear n0_ n1_ n2_; clear ho hb hg hat))
      go_roundg k1
      case measure => omega
      case rel => exact ⟨xt, top, out ++ [1], i + 1, rfl, (by (try simp only [goInt, IntKind.wrap_i64]); exact congrArg (Value.int .i64) (by first | omega | (unfold wrap64; omega))), ⟨HG1⟩, ⟨by have := HK.out; omega⟩, ⟨by omega⟩, ⟨by have := Hx.out; simp; omega⟩, ⟨by have := Ho.out; simp; omega⟩, ⟨HM.out⟩, ⟨HO.out⟩, ⟨HB.out⟩⟩
     ·rw [if_neg c1] at HG1
      replace c1 := Bool.eq_false_iff.mpr c1
      by_cases c2 : 16 ≤ wrap64 (top - n)
      ·rw [if_pos c2] at HG1
       have c2b : decide (16 ≤ wrap64 (top - n)) = true := decide_eq_true c2
       go_wp2_with (first | (at_lookup; refine impl_PlayAll.look rfl _ _ rfl w.heap.size xt rfl HM.out n hn rfl false c1 ?_) | ((with_reducible refine gate_builtin (b := .append) (xs := #[.tmp 35, .tmp 37]) rfl ?_); at_builtin; refine Kd.R_append (Kd.int .i64) (w0 := w) w.heap.size rfl (.tmp 35) (.tmp 37) 39 3 (.int .i64 0) 8 rfl Try.underlying39 info3 rfl (by decide) (by omega) u6 out 2 [.int .i64 2] (fun _ => True) (fun _ => False) rfl rfl ?aP (fun _ hk => hk.elim) ?aF ?aO ?aB ?aS ?aL ?_; (case aP => exact rfl); (case aB => exact (by repeat (first | exact HB.out | apply below_alloc | apply pw_below_drewN | apply below_drew1))); (case aF => exact (fun _ _ => trivial)); (case aO => exact (rdl HO)); (case aS => exact (below_size (by repeat (first | exact HB.out | apply below_alloc | apply pw_below_drewN | apply below_drew1)))); (case aL => have := Ho.out; have := Hi.out; omega); intro v15 w15 ho hb hg hat; have n0_ := Aside0.mk (impl_PlayAll.mp_kept (by repeat (first | exact HM.out | apply impl_PlayAll.mp_alloc)) hg (Kd.R_away (impl_PlayAll.mp_ne HO.out HM.out) (fun _ hk => hk))); have n1_ := Aside0.mk ho; have n2_ := Aside0.mk hb; clear HM HO HB; have HM := n0_; have HO := n1_; have HB := n2_; clear n0_ n1_ n2_; clear ho hb hg hat))
       go_roundg k1
       case measure => omega
       case rel => exact ⟨xt, top, out ++ [2], i + 1, rfl, (by (try simp only [goInt, IntKind.wrap_i64]); exact congrArg (Value.int .i64) (by first | omega | (unfold wrap64; omega))), ⟨HG1⟩, ⟨by have := HK.out; omega⟩, ⟨by omega⟩, ⟨by have := Hx.out; simp; omega⟩, ⟨by have := Ho.out; simp; omega⟩, ⟨HM.out⟩, ⟨HO.out⟩, ⟨HB.out⟩⟩
      ·rw [if_neg c2] at HG1
       have c2b : decide (16 ≤ wrap64 (top - n)) = false := decide_eq_false c2
       obtain ⟨mm, hmx⟩ : ∃ mm, (if top < n then n else top) = mm := ⟨_, rfl⟩
       rw [hmx] at HG1
       go_wp2_with (first | (at_lookup; refine impl_PlayAll.look rfl _ _ rfl w.heap.size xt rfl HM.out n hn rfl false c1 ?_) | (at_mapUpdate; refine impl_PlayAll.upd rfl _ _ _ rfl w.heap.size xt rfl HM.out (by have := Hx.out; have := Hi.out; omega) n hn rfl rfl ?_; intro w1 HM1 hg1; have n0_ := Aside0.mk HM1; have n1_ := Aside0.mk (Kd.R_mono (Kd.R_grown (impl_PlayAll.mp_ne HO.out HM.out) hg1 (fun k hk e => hk (Option.some.inj e))) (fun _ _ => trivial : ∀ k, k ≠ w.heap.size → True)); have n2_ := Aside0.mk (HB.out.grown hg1 (below_size HB.out) (fun j hj => by cases hj; exact Nat.le_refl _)); clear HM HO HB HM1 hg1; have HM := n0_; have HO := n1_; have HB := n2_; clear n0_ n1_ n2_) | ((with_reducible refine gate_builtin (b := .append) (xs := #[.tmp 35, .tmp 37]) rfl ?_); at_builtin; refine Kd.R_append (Kd.int .i64) (w0 := w) w.heap.size rfl (.tmp 35) (.tmp 37) 39 3 (.int .i64 0) 8 rfl Try.underlying39 info3 rfl (by decide) (by omega) u6 out 0 [.int .i64 0] (fun _ => True) (fun _ => False) rfl rfl ?aP (fun _ hk => hk.elim) ?aF ?aO ?aB ?aS ?aL ?_; (case aP => exact rfl); (case aB => exact (by repeat (first | exact HB.out | apply below_alloc | apply pw_below_drewN | apply below_drew1))); (case aF => exact (fun _ _ => trivial)); (case aO => exact (rdl HO)); (case aS => exact (below_size (by repeat (first | exact HB.out | apply below_alloc | apply pw_below_drewN | apply below_drew1)))); (case aL => have := Ho.out; have := Hi.out; omega); intro v15 w15 ho hb hg hat; have n0_ := Aside0.mk (impl_PlayAll.mp_kept (by repeat (first | exact HM.out | apply impl_PlayAll.mp_alloc)) hg (Kd.R_away (impl_PlayAll.mp_ne HO.out HM.out) (fun _ hk => hk))); have n1_ := Aside0.mk ho; have n2_ := Aside0.mk hb; clear HM HO HB; have HM := n0_; have HO := n1_; have HB := n2_; clear n0_ n1_ n2_; clear ho hb hg hat))
       go_roundg k1
       case measure => omega
       case rel => exact ⟨xt ++ [n], mm, out ++ [0], i + 1, rfl, (by (try simp only [goInt, IntKind.wrap_i64]); exact congrArg (Value.int .i64) (by first | omega | (unfold wrap64; omega))), ⟨HG1⟩, ⟨by have := HK.out; omega⟩, ⟨by omega⟩, ⟨by have := Hx.out; simp; omega⟩, ⟨by have := Ho.out; simp; omega⟩, ⟨HM.out⟩, ⟨HO.out⟩, ⟨HB.out⟩⟩
    ·rw [if_neg cr] at HG1
     exact absurd HG1 (by simp)
   ·have cb : decide ((i : Int) < (l0.length : Int)) = false := decide_eq_false (by omega)
    have HG1 := HG.out
    rw [List.drop_eq_nil_of_le (by omega)] at HG1
    simp only [impl_PlayAll.g, Option.some.injEq] at HG1
    subst HG1; go_wp2
    go_ret2
    exact ⟨_, rfl, by (with_reducible repeat (first | apply Kd.R_alloc | apply Kd.R_drewN | apply Kd.R_drew)); exact HO.out, by repeat (first | exact HB.out | apply below_alloc | apply pw_below_drewN | apply below_drew1)⟩

/-! ### laws_FnExactPlayAll: function 11 -/
mutual
def laws_FnExactPlayAll.j0 : Nat → List Int → List Int → Bool → List Int → List Int → Bool → Bool → Option (Bool)
  | 0, _, _, _, _, _, _, _ => none
  | k + 1, x0, x3, x4, x5, x6, x7, x37 => if x37 = true then (some false) else ((laws_toIntS.f k x0).bind fun t147 => ((laws_eqIntS.f k x5 t147).bind fun t150 => (if t150 = true then ((laws_markIntS.f k x5 1).bind fun bt151 => (if bt151.1 < 0 then (laws_FnExactPlayAll.j1 k x0 x3 x4 x6 true) else ((laws_eqIntS.f k x6 x3).bind fun t153 => (if t153 = true then (laws_FnExactPlayAll.j1 k x0 x3 x4 x6 (x7 != x4)) else (laws_FnExactPlayAll.j1 k x0 x3 x4 x6 true))))) else (some false))))
def laws_FnExactPlayAll.j1 : Nat → List Int → List Int → Bool → List Int → Bool → Option (Bool)
  | 0, _, _, _, _, _ => none
  | k + 1, x0, x3, x4, x6, x58 => if x58 = true then (some false) else ((laws_markIntS.f k x6 1).bind fun bt154 => ((laws_heldIntS.f k bt154.2 1).bind fun t156 => (if t156 < 0 then (some false) else (if t156 = bt154.1 then ((laws_toIntS.f k x0).bind fun t157 => ((impl_PlayAll.f k t157).bind fun bt160 => ((laws_eqIntS.f k bt160.1 x3).bind fun t164 => (if t164 = true then (laws_FnExactPlayAll.j2 k bt154.2 bt154.1 (bt160.2 != x4)) else (laws_FnExactPlayAll.j2 k bt154.2 bt154.1 true))))) else (some false)))))
def laws_FnExactPlayAll.j2 : Nat → List Int → Int → Bool → Option (Bool)
  | 0, _, _, _ => none
  | k + 1, x6, x9, x84 => if x84 = true then (some false) else ((laws_heldIntS.f k x6 1).bind fun t165 => (if t165 < 0 then (some false) else (if t165 = x9 then (some true) else (some false))))
end
def laws_FnExactPlayAll.f (k : Nat) (l0 : List Int) : Option (Bool) := if (l0.length : Int) > 1048576 then (some true) else ((laws_toIntS.f k l0).bind fun t132 => ((spec_PlayAll.f k t132).bind fun bt135 => ((laws_toIntS.f k l0).bind fun t139 => ((impl_PlayAll.f k t139).bind fun bt142 => ((laws_eqIntS.f k bt142.1 bt135.1).bind fun t146 => (if t146 = true then (laws_FnExactPlayAll.j0 k l0 bt135.1 bt135.2 t139 bt142.1 bt142.2 (bt142.2 != bt135.2)) else (laws_FnExactPlayAll.j0 k l0 bt135.1 bt135.2 t139 bt142.1 bt142.2 true)))))))
theorem laws_FnExactPlayAll.mono_l : ∀ k, (∀ y0 y1 y2 y3 y4 y5 y6, LeO (laws_FnExactPlayAll.j0 k y0 y1 y2 y3 y4 y5 y6) (laws_FnExactPlayAll.j0 (k + 1) y0 y1 y2 y3 y4 y5 y6)) ∧ (∀ y0 y1 y2 y3 y4, LeO (laws_FnExactPlayAll.j1 k y0 y1 y2 y3 y4) (laws_FnExactPlayAll.j1 (k + 1) y0 y1 y2 y3 y4)) ∧ (∀ y0 y1 y2, LeO (laws_FnExactPlayAll.j2 k y0 y1 y2) (laws_FnExactPlayAll.j2 (k + 1) y0 y1 y2))
 | 0 => ⟨fun _ _ _ _ _ _ _ r h => by simp [laws_FnExactPlayAll.j0] at h, fun _ _ _ _ _ r h => by simp [laws_FnExactPlayAll.j1] at h, fun _ _ _ r h => by simp [laws_FnExactPlayAll.j2] at h⟩
 | k + 1 => by
  obtain ⟨ih0, ih1, ih2⟩ := laws_FnExactPlayAll.mono_l k
  refine ⟨?_, ?_, ?_⟩
  ·intro y0 y1 y2 y3 y4 y5 y6
   unfold laws_FnExactPlayAll.j0
   repeat' (first | (with_reducible first | exact ih0 _ _ _ _ _ _ _ | exact ih1 _ _ _ _ _ | exact ih2 _ _ _ | exact impl_PlayAll.mono _ _ | exact laws_eqIntS.mono _ _ _ | exact laws_heldIntS.mono _ _ _ | exact laws_markIntS.mono _ _ _ | exact laws_toIntS.mono _ _ | exact spec_PlayAll.mono _ _ | exact LeO.refl _ | exact LeO.none _ | refine LeO.ite ?_ ?_ | refine LeO.bind ?_ (fun _ => ?_)) | exact ih0 _ _ _ _ _ _ _ | exact ih1 _ _ _ _ _ | exact ih2 _ _ _ | exact impl_PlayAll.mono _ _ | exact laws_eqIntS.mono _ _ _ | exact laws_heldIntS.mono _ _ _ | exact laws_markIntS.mono _ _ _ | exact laws_toIntS.mono _ _ | exact spec_PlayAll.mono _ _ | exact LeO.none _ | refine LeO.ite ?_ ?_ | refine LeO.bind ?_ (fun _ => ?_))
  ·intro y0 y1 y2 y3 y4
   unfold laws_FnExactPlayAll.j1
   repeat' (first | (with_reducible first | exact ih0 _ _ _ _ _ _ _ | exact ih1 _ _ _ _ _ | exact ih2 _ _ _ | exact impl_PlayAll.mono _ _ | exact laws_eqIntS.mono _ _ _ | exact laws_heldIntS.mono _ _ _ | exact laws_markIntS.mono _ _ _ | exact laws_toIntS.mono _ _ | exact spec_PlayAll.mono _ _ | exact LeO.refl _ | exact LeO.none _ | refine LeO.ite ?_ ?_ | refine LeO.bind ?_ (fun _ => ?_)) | exact ih0 _ _ _ _ _ _ _ | exact ih1 _ _ _ _ _ | exact ih2 _ _ _ | exact impl_PlayAll.mono _ _ | exact laws_eqIntS.mono _ _ _ | exact laws_heldIntS.mono _ _ _ | exact laws_markIntS.mono _ _ _ | exact laws_toIntS.mono _ _ | exact spec_PlayAll.mono _ _ | exact LeO.none _ | refine LeO.ite ?_ ?_ | refine LeO.bind ?_ (fun _ => ?_))
  ·intro y0 y1 y2
   unfold laws_FnExactPlayAll.j2
   repeat' (first | (with_reducible first | exact ih0 _ _ _ _ _ _ _ | exact ih1 _ _ _ _ _ | exact ih2 _ _ _ | exact impl_PlayAll.mono _ _ | exact laws_eqIntS.mono _ _ _ | exact laws_heldIntS.mono _ _ _ | exact laws_markIntS.mono _ _ _ | exact laws_toIntS.mono _ _ | exact spec_PlayAll.mono _ _ | exact LeO.refl _ | exact LeO.none _ | refine LeO.ite ?_ ?_ | refine LeO.bind ?_ (fun _ => ?_)) | exact ih0 _ _ _ _ _ _ _ | exact ih1 _ _ _ _ _ | exact ih2 _ _ _ | exact impl_PlayAll.mono _ _ | exact laws_eqIntS.mono _ _ _ | exact laws_heldIntS.mono _ _ _ | exact laws_markIntS.mono _ _ _ | exact laws_toIntS.mono _ _ | exact spec_PlayAll.mono _ _ | exact LeO.none _ | refine LeO.ite ?_ ?_ | refine LeO.bind ?_ (fun _ => ?_))
theorem laws_FnExactPlayAll.mono : ∀ a0 k, LeO (laws_FnExactPlayAll.f k a0) (laws_FnExactPlayAll.f (k + 1) a0) := by
 intro a0 k
 obtain ⟨ih0, ih1, ih2⟩ := laws_FnExactPlayAll.mono_l k
 unfold laws_FnExactPlayAll.f
 repeat' (first | (with_reducible first | exact ih0 _ _ _ _ _ _ _ | exact ih1 _ _ _ _ _ | exact ih2 _ _ _ | exact impl_PlayAll.mono _ _ | exact laws_eqIntS.mono _ _ _ | exact laws_heldIntS.mono _ _ _ | exact laws_markIntS.mono _ _ _ | exact laws_toIntS.mono _ _ | exact spec_PlayAll.mono _ _ | exact LeO.refl _ | exact LeO.none _ | refine LeO.ite ?_ ?_ | refine LeO.bind ?_ (fun _ => ?_)) | exact ih0 _ _ _ _ _ _ _ | exact ih1 _ _ _ _ _ | exact ih2 _ _ _ | exact impl_PlayAll.mono _ _ | exact laws_eqIntS.mono _ _ _ | exact laws_heldIntS.mono _ _ _ | exact laws_markIntS.mono _ _ _ | exact laws_toIntS.mono _ _ | exact spec_PlayAll.mono _ _ | exact LeO.none _ | refine LeO.ite ?_ ?_ | refine LeO.bind ?_ (fun _ => ?_))
set_option maxHeartbeats 8000000 in
set_option maxRecDepth 100000 in
theorem laws_FnExactPlayAll.calls (k : Nat) (A0 : Option Addr) (c0 : Nat) (l0 : List Int) (r : Bool) (w : World) (hr0 : Kd.C (Kd.int .i64) w A0 l0.length l0) (hc0 : l0.length ≤ c0) (h : laws_FnExactPlayAll.f k l0 = some r) (hr_ : r = true) :
  Calls Try.prog 11 #[.slice A0 l0.length c0] w fun e w' => e = .returned (.bool r) ∧ Below w.heap.size w w' := by
 have HR0 := Aside0.mk hr0; have HC0 := Aside0.mk hc0; clear hr0 hc0
 have HB := Aside0.mk (Below.refl w.heap.size w)
 have H : (if (l0.length : Int) > 1048576 then (some true) else ((laws_toIntS.f k l0).bind fun t132 => ((spec_PlayAll.f k t132).bind fun bt135 => ((laws_toIntS.f k l0).bind fun t139 => ((impl_PlayAll.f k t139).bind fun bt142 => ((laws_eqIntS.f k bt142.1 bt135.1).bind fun t146 => (if t146 = true then (laws_FnExactPlayAll.j0 k l0 bt135.1 bt135.2 t139 bt142.1 bt142.2 (bt142.2 != bt135.2)) else (laws_FnExactPlayAll.j0 k l0 bt135.1 bt135.2 t139 bt142.1 bt142.2 true)))))))) = some r := h
 clear h
 by_cases c2 : (l0.length : Int) > 1048576
 ·rw [if_pos c2] at H
  have c2b0 : decide (1048576 < (l0.length : Int)) = true := decide_eq_true c2
  have c2b1 : decide (1048576 < l0.length) = true := decide_eq_true (by omega)
  clear c2
  obtain rfl := Option.some.inj H
  go_enter Try.func11, Try.ntmps11
  go_wp2
  go_ret
  exact ⟨er2, belowd HB⟩
 ·rw [if_neg c2] at H
  have c2b0 : decide (1048576 < (l0.length : Int)) = false := decide_eq_false c2
  have c2b1 : decide (1048576 < l0.length) = false := decide_eq_false (by omega)
  clear c2; replace H := bS H; obtain ⟨t132, A3, H⟩ := H
  replace H : ((spec_PlayAll.f k t132).bind fun bt135 => ((laws_toIntS.f k l0).bind fun t139 => ((impl_PlayAll.f k t139).bind fun bt142 => ((laws_eqIntS.f k bt142.1 bt135.1).bind fun t146 => (if t146 = true then (laws_FnExactPlayAll.j0 k l0 bt135.1 bt135.2 t139 bt142.1 bt142.2 (bt142.2 != bt135.2)) else (laws_FnExactPlayAll.j0 k l0 bt135.1 bt135.2 t139 bt142.1 bt142.2 true)))))) = some r := H
  replace H := bS H; obtain ⟨⟨t135, t136⟩, A4, H⟩ := H
  replace H : ((laws_toIntS.f k l0).bind fun t139 => ((impl_PlayAll.f k t139).bind fun bt142 => ((laws_eqIntS.f k bt142.1 t135).bind fun t146 => (if t146 = true then (laws_FnExactPlayAll.j0 k l0 t135 t136 t139 bt142.1 bt142.2 (bt142.2 != t136)) else (laws_FnExactPlayAll.j0 k l0 t135 t136 t139 bt142.1 bt142.2 true))))) = some r := H
  replace H := bS H; obtain ⟨t139, A5, H⟩ := H
  replace H : ((impl_PlayAll.f k t139).bind fun bt142 => ((laws_eqIntS.f k bt142.1 t135).bind fun t146 => (if t146 = true then (laws_FnExactPlayAll.j0 k l0 t135 t136 t139 bt142.1 bt142.2 (bt142.2 != t136)) else (laws_FnExactPlayAll.j0 k l0 t135 t136 t139 bt142.1 bt142.2 true)))) = some r := H
  replace H := bS H; obtain ⟨⟨t142, t143⟩, A6, H⟩ := H
  replace H : ((laws_eqIntS.f k t142 t135).bind fun t146 => (if t146 = true then (laws_FnExactPlayAll.j0 k l0 t135 t136 t139 t142 t143 (t143 != t136)) else (laws_FnExactPlayAll.j0 k l0 t135 t136 t139 t142 t143 true))) = some r := H
  have HC7 := Aside0.mk H; clear H
  go_enter Try.func11, Try.ntmps11
  go_upto_region 6 with (first | ((with_reducible refine gate_callee (f := 26) rfl ?_); refine goesLa (some 18) rfl Try.func26 #[.slice A0 l0.length c0] rfl ?_; (with_reducible refine (laws_toIntS.calls k _ _ l0 t132 _ ?side1 ?side2 A3.out).mono ?_); (case side1 => exact cd HR0.out); (case side2 => exact HC0.out); rintro e w8 ⟨v133, rfl, ho0, hb⟩; refine ⟨_, rfl, ?_⟩; have HO134 := ak (Kd.R_lower ho0 (below_size (belowd HB))); replace HB := ak (below_step (belowd HB) hb); (try clear hb); (try clear ho0); obtain ⟨Ao9, co9, eo9⟩ := Kd.R_slice HO134.out; subst eo9) | ((with_reducible refine gate_callee (f := 41) rfl ?_); refine goesLa (some 19) rfl Try.func41 #[.slice Ao9 t132.length co9] rfl ?_; (with_reducible refine (spec_PlayAll.calls k _ _ t132 t135 t136 _ ?side1 ?side2 A4.out).mono ?_); (case side1 => exact cd (Kd.R_reads' HO134.out).2.2); (case side2 => exact (Kd.R_reads' HO134.out).2.1); rintro e w10 ⟨v137, rfl, ho0, hb⟩; refine ⟨_, rfl, ?_⟩; have HO138 := ak (Kd.R_lower (Kd.R_new' ho0 (Kd.R_lt (rdl HO134))) (below_size (belowd HB))); replace HO134 := ak (Kd.R_elder' (rdl HO134) (Kd.R_base ho0) hb); replace HB := ak (below_step (belowd HB) hb); (try clear hb); (try clear ho0)) | ((with_reducible refine gate_callee (f := 26) rfl ?_); refine goesLa (some 23) rfl Try.func26 #[.slice A0 l0.length c0] rfl ?_; (with_reducible refine (laws_toIntS.calls k _ _ l0 t139 _ ?side1 ?side2 A5.out).mono ?_); (case side1 => exact cd (Kd.C_below HR0.out HB.out)); (case side2 => exact HC0.out); rintro e w11 ⟨v140, rfl, ho0, hb⟩; refine ⟨_, rfl, ?_⟩; have HO141 := ak (Kd.R_lower (Kd.R_new' (Kd.R_new' ho0 (Kd.R_lt (rdl HO134))) (Kd.R_lt (rdl HO138))) (below_size (belowd HB))); replace HO134 := ak (Kd.R_elder' (rdl HO134) (Kd.R_base ho0) hb); replace HO138 := ak (Kd.R_elder' (rdl HO138) (Kd.R_base ho0) hb); replace HB := ak (below_step (belowd HB) hb); (try clear hb); (try clear ho0); obtain ⟨Ao12, co12, eo12⟩ := Kd.R_slice HO141.out; subst eo12) | ((with_reducible refine gate_callee (f := 42) rfl ?_); refine goesLa (some 26) rfl Try.func42 #[.slice Ao12 t139.length co12] rfl ?_; (with_reducible refine (impl_PlayAll.calls k _ _ t139 t142 t143 _ ?side1 ?side2 A6.out).mono ?_); (case side1 => exact cd (Kd.R_reads' HO141.out).2.2); (case side2 => exact (Kd.R_reads' HO141.out).2.1); rintro e w13 ⟨v144, rfl, ho0, hb⟩; refine ⟨_, rfl, ?_⟩; have HO145 := ak (Kd.R_lower (Kd.R_new' (Kd.R_new' (Kd.R_new' ho0 (Kd.R_lt (rdl HO134))) (Kd.R_lt (rdl HO138))) (Kd.R_lt (rdl HO141))) (below_size (belowd HB))); replace HO134 := ak (Kd.R_elder' (rdl HO134) (Kd.R_base ho0) hb); replace HO138 := ak (Kd.R_elder' (rdl HO138) (Kd.R_base ho0) hb); replace HO141 := ak (Kd.R_elder' (rdl HO141) (Kd.R_base ho0) hb); replace HB := ak (below_step (belowd HB) hb); (try clear hb); (try clear ho0)))
  (try simp only [Act.put, List.setIfInBounds_toArray, List.set_cons_zero, List.set_cons_succ])
  go_cut [37] (fun v37 wc => ∃ (kq : Nat) (x37_6 : Bool), v37 = .bool x37_6 ∧ Aside0 (laws_FnExactPlayAll.j0 kq l0 t135 t136 t139 t142 t143 x37_6 = some r) ∧ Aside0 (kq ≤ k) ∧ Aside0 (Kd.R (Kd.int .i64) 3 wc w.heap.size (fun k_ => some k_ ≠ ((.slice Ao12 t139.length co12) : Value).ownBlock ∧ some k_ ≠ (v144 : Value).ownBlock) v137 t135) ∧ Aside0 (Kd.R (Kd.int .i64) 3 wc w.heap.size (fun k_ => some k_ ≠ (v137 : Value).ownBlock ∧ some k_ ≠ (v144 : Value).ownBlock) (.slice Ao12 t139.length co12) t139) ∧ Aside0 (Kd.R (Kd.int .i64) 3 wc w.heap.size (fun k_ => some k_ ≠ (v137 : Value).ownBlock ∧ some k_ ≠ ((.slice Ao12 t139.length co12) : Value).ownBlock) v144 t142) ∧ Aside0 (Below w.heap.size w wc))
  case first =>
   have H := HC7.out; clear HC7; replace H := bS H; obtain ⟨t146, A14, H⟩ := H
   replace H : (if t146 = true then (laws_FnExactPlayAll.j0 k l0 t135 t136 t139 t142 t143 (t143 != t136)) else (laws_FnExactPlayAll.j0 k l0 t135 t136 t139 t142 t143 true)) = some r := H
   by_cases c15 : t146 = true
   ·subst c15
    have H1 : (laws_FnExactPlayAll.j0 k l0 t135 t136 t139 t142 t143 (t143 != t136)) = some r := by rw [if_pos rfl] at H; exact H
    clear H
    have H := H1
    clear H1
    have H' := Aside0.mk H
    clear H
    obtain ⟨Ao16, co16, eo16⟩ := Kd.R_slice HO145.out
    subst eo16
    obtain ⟨Ao17, co17, eo17⟩ := Kd.R_slice HO138.out
    subst eo17
    go_wp2_with (first | ((with_reducible refine gate_callee (f := 28) rfl ?_); refine goesLa (some 31) rfl Try.func28 #[.slice Ao16 t142.length co16, .slice Ao17 t135.length co17] rfl ?_; (with_reducible refine (laws_eqIntS.calls k _ _ t142 _ _ t135 true _ ?side1 ?side2 ?side3 ?side4 A14.out).mono ?_); (case side1 => exact cd (Kd.R_reads' HO145.out).2.2); (case side2 => exact (Kd.R_reads' HO145.out).2.1); (case side3 => exact cd (Kd.R_reads' HO138.out).2.2); (case side4 => exact (Kd.R_reads' HO138.out).2.1); rintro e w' ⟨rfl, ⟨nd, rfl⟩⟩; refine ⟨_, rfl, ?_⟩))
    go_meet
    case rel => exact ⟨_, ((t143 != t136)), er, H', ⟨by first | omega | exact Nat.le_refl _⟩, ⟨by (with_reducible repeat (first | apply Kd.R_alloc | apply Kd.R_drewN | apply Kd.R_drew)); exact Kd.R_mono HO138.out (fun _ hk => ⟨hk.1.2, hk.2⟩)⟩, ⟨by (with_reducible repeat (first | apply Kd.R_alloc | apply Kd.R_drewN | apply Kd.R_drew)); exact Kd.R_mono HO141.out (fun _ hk => ⟨hk.1.2, hk.2⟩)⟩, ⟨by (with_reducible repeat (first | apply Kd.R_alloc | apply Kd.R_drewN | apply Kd.R_drew)); exact Kd.R_mono HO145.out (fun _ hk => ⟨hk.1.2, hk.2⟩)⟩, ⟨belowd HB⟩⟩
   ·replace c15 := Bool.eq_false_iff.mpr c15
    subst c15
    have H1 : (laws_FnExactPlayAll.j0 k l0 t135 t136 t139 t142 t143 true) = some r := by rw [if_neg (show ¬ (false = true) by decide)] at H; exact H
    clear H
    have H := H1
    clear H1
    have H' := Aside0.mk H
    clear H
    obtain ⟨Ao18, co18, eo18⟩ := Kd.R_slice HO145.out
    subst eo18
    obtain ⟨Ao19, co19, eo19⟩ := Kd.R_slice HO138.out
    subst eo19
    go_wp2_with (first | ((with_reducible refine gate_callee (f := 28) rfl ?_); refine goesLa (some 31) rfl Try.func28 #[.slice Ao18 t142.length co18, .slice Ao19 t135.length co19] rfl ?_; (with_reducible refine (laws_eqIntS.calls k _ _ t142 _ _ t135 false _ ?side1 ?side2 ?side3 ?side4 A14.out).mono ?_); (case side1 => exact cd (Kd.R_reads' HO145.out).2.2); (case side2 => exact (Kd.R_reads' HO145.out).2.1); (case side3 => exact cd (Kd.R_reads' HO138.out).2.2); (case side4 => exact (Kd.R_reads' HO138.out).2.1); rintro e w' ⟨rfl, ⟨nd, rfl⟩⟩; refine ⟨_, rfl, ?_⟩))
    go_meet
    case rel => exact ⟨_, (true), er, H', ⟨by first | omega | exact Nat.le_refl _⟩, ⟨by (with_reducible repeat (first | apply Kd.R_alloc | apply Kd.R_drewN | apply Kd.R_drew)); exact Kd.R_mono HO138.out (fun _ hk => ⟨hk.1.2, hk.2⟩)⟩, ⟨by (with_reducible repeat (first | apply Kd.R_alloc | apply Kd.R_drewN | apply Kd.R_drew)); exact Kd.R_mono HO141.out (fun _ hk => ⟨hk.1.2, hk.2⟩)⟩, ⟨by (with_reducible repeat (first | apply Kd.R_alloc | apply Kd.R_drewN | apply Kd.R_drew)); exact Kd.R_mono HO145.out (fun _ hk => ⟨hk.1.2, hk.2⟩)⟩, ⟨belowd HB⟩⟩
  case rest =>
   clear HC7; (try clear c2b0); (try clear c2b1)
   obtain ⟨kq, x37_6, rfl, HA, HJ6, HO_3, HO_5, HO_6, HB⟩ := hcut
   cases kq with
   | zero => exact absurd HA.out (by simp [laws_FnExactPlayAll.j0])
   | succ kj6 =>
    have H := HA.out; clear HA
    simp only [laws_FnExactPlayAll.j0] at H
    by_cases c20 : x37_6 = true
    ·subst c20
     have H1 : (some false) = some r := by rw [if_pos rfl] at H; exact H
     clear H
     have H := H1
     clear H1
     exact absurd (H.trans (congrArg some hr_)) (by simp)
    ·replace c20 := Bool.eq_false_iff.mpr c20
     subst c20
     have H1 : ((laws_toIntS.f kj6 l0).bind fun t147 => ((laws_eqIntS.f kj6 t139 t147).bind fun t150 => (if t150 = true then ((laws_markIntS.f kj6 t139 1).bind fun bt151 => (if bt151.1 < 0 then (laws_FnExactPlayAll.j1 kj6 l0 t135 t136 t142 true) else ((laws_eqIntS.f kj6 t142 t135).bind fun t153 => (if t153 = true then (laws_FnExactPlayAll.j1 kj6 l0 t135 t136 t142 (t143 != t136)) else (laws_FnExactPlayAll.j1 kj6 l0 t135 t136 t142 true))))) else (some false)))) = some r := by rw [if_neg (show ¬ (false = true) by decide)] at H; exact H
     clear H
     have H := H1
     clear H1; replace H := bS H; obtain ⟨t147, A21, H⟩ := H
     replace H : ((laws_eqIntS.f kj6 t139 t147).bind fun t150 => (if t150 = true then ((laws_markIntS.f kj6 t139 1).bind fun bt151 => (if bt151.1 < 0 then (laws_FnExactPlayAll.j1 kj6 l0 t135 t136 t142 true) else ((laws_eqIntS.f kj6 t142 t135).bind fun t153 => (if t153 = true then (laws_FnExactPlayAll.j1 kj6 l0 t135 t136 t142 (t143 != t136)) else (laws_FnExactPlayAll.j1 kj6 l0 t135 t136 t142 true))))) else (some false))) = some r := H
     replace H := bS H; obtain ⟨t150, A22, H⟩ := H
     replace H : (if t150 = true then ((laws_markIntS.f kj6 t139 1).bind fun bt151 => (if bt151.1 < 0 then (laws_FnExactPlayAll.j1 kj6 l0 t135 t136 t142 true) else ((laws_eqIntS.f kj6 t142 t135).bind fun t153 => (if t153 = true then (laws_FnExactPlayAll.j1 kj6 l0 t135 t136 t142 (t143 != t136)) else (laws_FnExactPlayAll.j1 kj6 l0 t135 t136 t142 true))))) else (some false)) = some r := H
     by_cases c23 : t150 = true
     ·subst c23
      have H1 : ((laws_markIntS.f kj6 t139 1).bind fun bt151 => (if bt151.1 < 0 then (laws_FnExactPlayAll.j1 kj6 l0 t135 t136 t142 true) else ((laws_eqIntS.f kj6 t142 t135).bind fun t153 => (if t153 = true then (laws_FnExactPlayAll.j1 kj6 l0 t135 t136 t142 (t143 != t136)) else (laws_FnExactPlayAll.j1 kj6 l0 t135 t136 t142 true))))) = some r := by rw [if_pos rfl] at H; exact H
      clear H
      have H := H1
      clear H1; replace H := bS H; obtain ⟨⟨t151, t152⟩, A24, H⟩ := H
      replace H : (if t151 < 0 then (laws_FnExactPlayAll.j1 kj6 l0 t135 t136 t142 true) else ((laws_eqIntS.f kj6 t142 t135).bind fun t153 => (if t153 = true then (laws_FnExactPlayAll.j1 kj6 l0 t135 t136 t142 (t143 != t136)) else (laws_FnExactPlayAll.j1 kj6 l0 t135 t136 t142 true)))) = some r := H
      have HC25 := Aside0.mk H; clear H
      go_upto_region 12 with (first | ((with_reducible refine gate_callee (f := 26) rfl ?_); refine goesLa (some 40) rfl Try.func26 #[.slice A0 l0.length c0] rfl ?_; (with_reducible refine (laws_toIntS.calls kj6 _ _ l0 t147 _ ?side1 ?side2 A21.out).mono ?_); (case side1 => exact cd (Kd.C_below HR0.out HB.out)); (case side2 => exact HC0.out); rintro e w26 ⟨v148, rfl, ho0, hb⟩; refine ⟨_, rfl, ?_⟩; have HO149 := ak (Kd.R_lower (Kd.R_new' (Kd.R_new' (Kd.R_new' ho0 (Kd.R_lt (rdl HO_3))) (Kd.R_lt (rdl HO_5))) (Kd.R_lt (rdl HO_6))) (below_size (belowd HB))); replace HO_3 := ak (Kd.R_elder' (rdl HO_3) (Kd.R_base ho0) hb); replace HO_5 := ak (Kd.R_elder' (rdl HO_5) (Kd.R_base ho0) hb); replace HO_6 := ak (Kd.R_elder' (rdl HO_6) (Kd.R_base ho0) hb); replace HB := ak (below_step (belowd HB) hb); (try clear hb); (try clear ho0); obtain ⟨Ao27, co27, eo27⟩ := Kd.R_slice HO149.out; subst eo27) | ((with_reducible refine gate_callee (f := 28) rfl ?_); refine goesLa (some 41) rfl Try.func28 #[.slice Ao12 t139.length co12, .slice Ao27 t147.length co27] rfl ?_; (with_reducible refine (laws_eqIntS.calls kj6 _ _ t139 _ _ t147 true _ ?side1 ?side2 ?side3 ?side4 A22.out).mono ?_); (case side1 => exact cd (Kd.R_reads' HO_5.out).2.2); (case side2 => exact (Kd.R_reads' HO_5.out).2.1); (case side3 => exact cd (Kd.R_reads' HO149.out).2.2); (case side4 => exact (Kd.R_reads' HO149.out).2.1); rintro e w' ⟨rfl, ⟨nd, rfl⟩⟩; refine ⟨_, rfl, ?_⟩) | ((with_reducible refine gate_callee (f := 39) rfl ?_); refine goesLa (some 45) rfl Try.func39 #[.slice Ao12 t139.length co12, .int .i64 1] rfl ?_; (with_reducible refine (laws_markIntS.calls kj6 (fun k_ => some k_ = (.slice Ao12 t139.length co12 : Value).ownBlock) (.slice Ao12 t139.length co12) t139 1 t151 t152 w _ ?side1 ?side2 A24.out).mono ?_); (case side1 => repeat (first | (with_reducible first | exact HB.out | apply below_alloc | apply pw_below_drewN | apply below_drew1) | exact HB.out)); (case side2 => exact Kd.R_tight rfl HO_5.out); rintro e w28 ⟨rfl, hy0, hb, hkp⟩; refine ⟨_, rfl, ?_⟩; replace HO_3 := ak (Kd.R_mono (ok' := fun k_ => some k_ ≠ (.slice Ao12 t139.length co12 : Value).ownBlock ∧ some k_ ≠ (v144 : Value).ownBlock ∧ some k_ ≠ (.slice Ao27 t147.length co27 : Value).ownBlock) (Kd.R_keptB (HO_3.out) hkp (fun k_ hk_ hs_ => (hk_.1.1) hs_)) (fun k_ hk_ => ⟨hk_.1.1.1, hk_.1.1.2, hk_.1.2⟩)); replace HO_5 := ak (Kd.R_reok rfl hy0 (fun k_ e_ => HO_5.out.1 k_ e_)); replace HO_6 := ak (Kd.R_mono (ok' := fun k_ => some k_ ≠ (v137 : Value).ownBlock ∧ some k_ ≠ (.slice Ao12 t139.length co12 : Value).ownBlock ∧ some k_ ≠ (.slice Ao27 t147.length co27 : Value).ownBlock) (Kd.R_keptB (HO_6.out) hkp (fun k_ hk_ hs_ => (hk_.1.2) hs_)) (fun k_ hk_ => ⟨hk_.1.1.1, hk_.1.1.2, hk_.1.2⟩)); replace HO149 := ak (Kd.R_mono (ok' := fun k_ => some k_ ≠ (v137 : Value).ownBlock ∧ some k_ ≠ (.slice Ao12 t139.length co12 : Value).ownBlock ∧ some k_ ≠ (v144 : Value).ownBlock) (Kd.R_keptB (HO149.out) hkp (fun k_ hk_ hs_ => (hk_.1.2) hs_)) (fun k_ hk_ => ⟨hk_.1.1.1.2, hk_.1.1.2, hk_.1.2⟩)); replace HB := ak (hb); (try clear hb); (try clear hkp); (try clear hy0)))
      (try simp only [Act.put, List.setIfInBounds_toArray, List.set_cons_zero, List.set_cons_succ])
      go_cut [58] (fun v58 wc => ∃ (kq : Nat) (x58_24 : Bool), v58 = .bool x58_24 ∧ Aside0 (laws_FnExactPlayAll.j1 kq l0 t135 t136 t142 x58_24 = some r) ∧ Aside0 (kq ≤ kj6) ∧ Aside0 (Kd.R (Kd.int .i64) 3 wc w.heap.size (fun k_ => some k_ ≠ (v144 : Value).ownBlock) v137 t135) ∧ Aside0 (Kd.R (Kd.int .i64) 3 wc w.heap.size (fun k_ => some k_ ≠ (v137 : Value).ownBlock) v144 t142) ∧ Aside0 (Below w.heap.size w wc))
      case first =>
       have H := HC25.out; clear HC25
       by_cases c29 : t151 < 0
       ·rw [if_pos c29] at H
        have c29b0 : decide (t151 < 0) = true := decide_eq_true c29
        clear c29
        (first | rw [c29b0] | (simp only [i64_w, i32_w]; rw [c29b0]) | skip)
        have H' := Aside0.mk H
        clear H; go_wp2
        go_meet
        case rel => exact ⟨_, (true), er, H', ⟨by have := HJ6.out; first | omega | exact Nat.le_refl _⟩, ⟨by (with_reducible repeat (first | apply Kd.R_alloc | apply Kd.R_drewN | apply Kd.R_drew)); exact Kd.R_mono HO_3.out (fun _ hk => hk.2.1)⟩, ⟨by (with_reducible repeat (first | apply Kd.R_alloc | apply Kd.R_drewN | apply Kd.R_drew)); exact Kd.R_mono HO_6.out (fun _ hk => hk.1)⟩, ⟨belowd HB⟩⟩
       ·rw [if_neg c29] at H
        have c29b0 : decide (t151 < 0) = false := decide_eq_false c29
        clear c29
        (first | rw [c29b0] | (simp only [i64_w, i32_w]; rw [c29b0]) | skip)
        replace H := bS H; obtain ⟨t153, A30, H⟩ := H
        replace H : (if t153 = true then (laws_FnExactPlayAll.j1 kj6 l0 t135 t136 t142 (t143 != t136)) else (laws_FnExactPlayAll.j1 kj6 l0 t135 t136 t142 true)) = some r := H
        by_cases c31 : t153 = true
        ·subst c31
         have H1 : (laws_FnExactPlayAll.j1 kj6 l0 t135 t136 t142 (t143 != t136)) = some r := by rw [if_pos rfl] at H; exact H
         clear H
         have H := H1
         clear H1
         have H' := Aside0.mk H
         clear H
         obtain ⟨Ao32, co32, eo32⟩ := Kd.R_slice HO_6.out
         subst eo32
         obtain ⟨Ao33, co33, eo33⟩ := Kd.R_slice HO_3.out
         subst eo33
         go_wp2_with (first | (go_at_call 28; (with_reducible refine (laws_eqIntS.calls kj6 _ _ t142 _ _ t135 true _ ?side1 ?side2 ?side3 ?side4 A30.out).mono ?_); (case side1 => exact cd (Kd.R_reads' HO_6.out).2.2); (case side2 => exact (Kd.R_reads' HO_6.out).2.1); (case side3 => exact cd (Kd.R_reads' HO_3.out).2.2); (case side4 => exact (Kd.R_reads' HO_3.out).2.1); rintro e w' ⟨rfl, ⟨nd, rfl⟩⟩))
         go_meet
         case rel => exact ⟨_, ((t143 != t136)), er, H', ⟨by have := HJ6.out; first | omega | exact Nat.le_refl _⟩, ⟨by (with_reducible repeat (first | apply Kd.R_alloc | apply Kd.R_drewN | apply Kd.R_drew)); exact Kd.R_mono HO_3.out (fun _ hk => hk.2.1)⟩, ⟨by (with_reducible repeat (first | apply Kd.R_alloc | apply Kd.R_drewN | apply Kd.R_drew)); exact Kd.R_mono HO_6.out (fun _ hk => hk.1)⟩, ⟨belowd HB⟩⟩
        ·replace c31 := Bool.eq_false_iff.mpr c31
         subst c31
         have H1 : (laws_FnExactPlayAll.j1 kj6 l0 t135 t136 t142 true) = some r := by rw [if_neg (show ¬ (false = true) by decide)] at H; exact H
         clear H
         have H := H1
         clear H1
         have H' := Aside0.mk H
         clear H
         obtain ⟨Ao34, co34, eo34⟩ := Kd.R_slice HO_6.out
         subst eo34
         obtain ⟨Ao35, co35, eo35⟩ := Kd.R_slice HO_3.out
         subst eo35
         go_wp2_with (first | (go_at_call 28; (with_reducible refine (laws_eqIntS.calls kj6 _ _ t142 _ _ t135 false _ ?side1 ?side2 ?side3 ?side4 A30.out).mono ?_); (case side1 => exact cd (Kd.R_reads' HO_6.out).2.2); (case side2 => exact (Kd.R_reads' HO_6.out).2.1); (case side3 => exact cd (Kd.R_reads' HO_3.out).2.2); (case side4 => exact (Kd.R_reads' HO_3.out).2.1); rintro e w' ⟨rfl, ⟨nd, rfl⟩⟩))
         go_meet
         case rel => exact ⟨_, (true), er, H', ⟨by have := HJ6.out; first | omega | exact Nat.le_refl _⟩, ⟨by (with_reducible repeat (first | apply Kd.R_alloc | apply Kd.R_drewN | apply Kd.R_drew)); exact Kd.R_mono HO_3.out (fun _ hk => hk.2.1)⟩, ⟨by (with_reducible repeat (first | apply Kd.R_alloc | apply Kd.R_drewN | apply Kd.R_drew)); exact Kd.R_mono HO_6.out (fun _ hk => hk.1)⟩, ⟨belowd HB⟩⟩
      case rest =>
       clear HC25; (try clear c20); (try clear c23)
       obtain ⟨kq, x58_24, rfl, HA, HJ24, HO_3, HO_6, HB⟩ := hcut
       cases kq with
       | zero => exact absurd HA.out (by simp [laws_FnExactPlayAll.j1])
       | succ kj24 =>
        have H := HA.out; clear HA
        simp only [laws_FnExactPlayAll.j1] at H
        by_cases c36 : x58_24 = true
        ·subst c36
         have H1 : (some false) = some r := by rw [if_pos rfl] at H; exact H
         clear H
         have H := H1
         clear H1
         exact absurd (H.trans (congrArg some hr_)) (by simp)
        ·replace c36 := Bool.eq_false_iff.mpr c36
         subst c36
         have H1 : ((laws_markIntS.f kj24 t142 1).bind fun bt154 => ((laws_heldIntS.f kj24 bt154.2 1).bind fun t156 => (if t156 < 0 then (some false) else (if t156 = bt154.1 then ((laws_toIntS.f kj24 l0).bind fun t157 => ((impl_PlayAll.f kj24 t157).bind fun bt160 => ((laws_eqIntS.f kj24 bt160.1 t135).bind fun t164 => (if t164 = true then (laws_FnExactPlayAll.j2 kj24 bt154.2 bt154.1 (bt160.2 != t136)) else (laws_FnExactPlayAll.j2 kj24 bt154.2 bt154.1 true))))) else (some false))))) = some r := by rw [if_neg (show ¬ (false = true) by decide)] at H; exact H
         clear H
         have H := H1
         clear H1; replace H := bS H; obtain ⟨⟨t154, t155⟩, A37, H⟩ := H
         replace H : ((laws_heldIntS.f kj24 t155 1).bind fun t156 => (if t156 < 0 then (some false) else (if t156 = t154 then ((laws_toIntS.f kj24 l0).bind fun t157 => ((impl_PlayAll.f kj24 t157).bind fun bt160 => ((laws_eqIntS.f kj24 bt160.1 t135).bind fun t164 => (if t164 = true then (laws_FnExactPlayAll.j2 kj24 t155 t154 (bt160.2 != t136)) else (laws_FnExactPlayAll.j2 kj24 t155 t154 true))))) else (some false)))) = some r := H
         replace H := bS H; obtain ⟨t156, A38, H⟩ := H
         replace H : (if t156 < 0 then (some false) else (if t156 = t154 then ((laws_toIntS.f kj24 l0).bind fun t157 => ((impl_PlayAll.f kj24 t157).bind fun bt160 => ((laws_eqIntS.f kj24 bt160.1 t135).bind fun t164 => (if t164 = true then (laws_FnExactPlayAll.j2 kj24 t155 t154 (bt160.2 != t136)) else (laws_FnExactPlayAll.j2 kj24 t155 t154 true))))) else (some false))) = some r := H
         by_cases c39 : t156 < 0
         ·rw [if_pos c39] at H
          have c39b0 : decide (t156 < 0) = true := decide_eq_true c39
          clear c39
          exact absurd (H.trans (congrArg some hr_)) (by simp)
         ·rw [if_neg c39] at H
          have c39b0 : decide (t156 < 0) = false := decide_eq_false c39
          clear c39
          by_cases c40 : t156 = t154
          ·rw [if_pos c40] at H
           have c40b0 : (t156 == t154) = true := beq_iff_eq.mpr c40
           have c40b1 : (t156 != t154) = false := bne_eq_false_iff_eq.mpr c40
           clear c40; replace H := bS H; obtain ⟨t157, A41, H⟩ := H
           replace H : ((impl_PlayAll.f kj24 t157).bind fun bt160 => ((laws_eqIntS.f kj24 bt160.1 t135).bind fun t164 => (if t164 = true then (laws_FnExactPlayAll.j2 kj24 t155 t154 (bt160.2 != t136)) else (laws_FnExactPlayAll.j2 kj24 t155 t154 true)))) = some r := H
           replace H := bS H; obtain ⟨⟨t160, t161⟩, A42, H⟩ := H
           replace H : ((laws_eqIntS.f kj24 t160 t135).bind fun t164 => (if t164 = true then (laws_FnExactPlayAll.j2 kj24 t155 t154 (t161 != t136)) else (laws_FnExactPlayAll.j2 kj24 t155 t154 true))) = some r := H
           have HC43 := Aside0.mk H; clear H
           obtain ⟨Ao44, co44, eo44⟩ := Kd.R_slice HO_6.out
           subst eo44
           go_upto_region 23 with (first | ((with_reducible refine gate_callee (f := 39) rfl ?_); refine goesLa (some 61) rfl Try.func39 #[.slice Ao44 t142.length co44, .int .i64 1] rfl ?_; (with_reducible refine (laws_markIntS.calls kj24 (fun k_ => some k_ = (.slice Ao44 t142.length co44 : Value).ownBlock) (.slice Ao44 t142.length co44) t142 1 t154 t155 w _ ?side1 ?side2 A37.out).mono ?_); (case side1 => repeat (first | (with_reducible first | exact HB.out | apply below_alloc | apply pw_below_drewN | apply below_drew1) | exact HB.out)); (case side2 => exact Kd.R_tight rfl HO_6.out); rintro e w45 ⟨rfl, hy0, hb, hkp⟩; refine ⟨_, rfl, ?_⟩; replace HO_3 := ak (Kd.R_mono (ok' := fun k_ => some k_ ≠ (.slice Ao44 t142.length co44 : Value).ownBlock) (Kd.R_keptB (HO_3.out) hkp (fun k_ hk_ hs_ => (hk_) hs_)) (fun k_ hk_ => hk_.1)); replace HO_6 := ak (Kd.R_reok rfl hy0 (fun k_ e_ => HO_6.out.1 k_ e_)); replace HB := ak (hb); (try clear hb); (try clear hkp); (try clear hy0)) | ((with_reducible refine gate_callee (f := 40) rfl ?_); refine goesL_ (some 64) rfl rfl Try.func40 (by kernel_rfl) rfl #[.slice Ao44 t155.length co44, .int .i64 1] rfl (by (try simp only [List.map_toArray, List.map_cons, List.map_nil]); first | done | (rw [show t155.length = t142.length from (Kd.R_reads' HO_6.out).1.symm] <;> rfl) | rfl | (simp only [List.length_drop, List.length_take]; rfl)) ?_; (with_reducible refine (laws_heldIntS.calls kj24 _ _ t155 1 t156 _ ?side1 ?side2 A38.out).mono ?_); (case side1 => exact cd (Kd.R_reads' HO_6.out).2.2); (case side2 => rw [show t155.length = t142.length from (Kd.R_reads' HO_6.out).1.symm]; exact (Kd.R_reads' HO_6.out).2.1); rintro e w' ⟨rfl, ⟨nd, rfl⟩⟩; refine ⟨_, rfl, ?_⟩) | ((with_reducible refine gate_callee (f := 26) rfl ?_); refine goesLa (some 72) rfl Try.func26 #[.slice A0 l0.length c0] rfl ?_; (with_reducible refine (laws_toIntS.calls kj24 _ _ l0 t157 _ ?side1 ?side2 A41.out).mono ?_); (case side1 => exact cd (Kd.C_below HR0.out (belowd HB))); (case side2 => exact HC0.out); rintro e w46 ⟨v158, rfl, ho0, hb⟩; refine ⟨_, rfl, ?_⟩; have HO159 := ak (Kd.R_lower (Kd.R_new' (Kd.R_new' ho0 (Kd.R_lt (rdl HO_3))) (Kd.R_lt (rdl HO_6))) (below_size (belowd HB))); replace HO_3 := ak (Kd.R_elder' (rdl HO_3) (Kd.R_base ho0) hb); replace HO_6 := ak (Kd.R_elder' (rdl HO_6) (Kd.R_base ho0) hb); replace HB := ak (below_step (belowd HB) hb); (try clear hb); (try clear ho0); obtain ⟨Ao47, co47, eo47⟩ := Kd.R_slice HO159.out; subst eo47) | ((with_reducible refine gate_callee (f := 42) rfl ?_); refine goesLa (some 73) rfl Try.func42 #[.slice Ao47 t157.length co47] rfl ?_; (with_reducible refine (impl_PlayAll.calls kj24 _ _ t157 t160 t161 _ ?side1 ?side2 A42.out).mono ?_); (case side1 => exact cd (Kd.R_reads' HO159.out).2.2); (case side2 => exact (Kd.R_reads' HO159.out).2.1); rintro e w48 ⟨v162, rfl, ho0, hb⟩; refine ⟨_, rfl, ?_⟩; have HO163 := ak (Kd.R_lower (Kd.R_new' (Kd.R_new' (Kd.R_new' ho0 (Kd.R_lt (rdl HO_3))) (Kd.R_lt (rdl HO_6))) (Kd.R_lt (rdl HO159))) (below_size (belowd HB))); replace HO_3 := ak (Kd.R_elder' (rdl HO_3) (Kd.R_base ho0) hb); replace HO_6 := ak (Kd.R_elder' (rdl HO_6) (Kd.R_base ho0) hb); replace HO159 := ak (Kd.R_elder' (rdl HO159) (Kd.R_base ho0) hb); replace HB := ak (below_step (belowd HB) hb); (try clear hb); (try clear ho0)))
           (try simp only [Act.put, List.setIfInBounds_toArray, List.set_cons_zero, List.set_cons_succ])
           go_cut [84] (fun v84 wc => ∃ (kq : Nat) (x84_42 : Bool), v84 = .bool x84_42 ∧ Aside0 (laws_FnExactPlayAll.j2 kq t155 t154 x84_42 = some r) ∧ Aside0 (kq ≤ kj24) ∧ Aside0 (Kd.R (Kd.int .i64) 3 wc w.heap.size (fun _ => True) (.slice Ao44 t142.length co44) t155) ∧ Aside0 (Below w.heap.size w wc))
           case first =>
            have H := HC43.out; clear HC43; replace H := bS H; obtain ⟨t164, A49, H⟩ := H
            replace H : (if t164 = true then (laws_FnExactPlayAll.j2 kj24 t155 t154 (t161 != t136)) else (laws_FnExactPlayAll.j2 kj24 t155 t154 true)) = some r := H
            by_cases c50 : t164 = true
            ·subst c50
             have H1 : (laws_FnExactPlayAll.j2 kj24 t155 t154 (t161 != t136)) = some r := by rw [if_pos rfl] at H; exact H
             clear H
             have H := H1
             clear H1
             have H' := Aside0.mk H
             clear H
             obtain ⟨Ao51, co51, eo51⟩ := Kd.R_slice HO163.out
             subst eo51
             obtain ⟨Ao52, co52, eo52⟩ := Kd.R_slice HO_3.out
             subst eo52
             go_wp2_with (first | ((with_reducible refine gate_callee (f := 28) rfl ?_); refine goesLa (some 78) rfl Try.func28 #[.slice Ao51 t160.length co51, .slice Ao52 t135.length co52] rfl ?_; (with_reducible refine (laws_eqIntS.calls kj24 _ _ t160 _ _ t135 true _ ?side1 ?side2 ?side3 ?side4 A49.out).mono ?_); (case side1 => exact cd (Kd.R_reads' HO163.out).2.2); (case side2 => exact (Kd.R_reads' HO163.out).2.1); (case side3 => exact cd (Kd.R_reads' HO_3.out).2.2); (case side4 => exact (Kd.R_reads' HO_3.out).2.1); rintro e w' ⟨rfl, ⟨nd, rfl⟩⟩; refine ⟨_, rfl, ?_⟩))
             go_meet
             case rel => exact ⟨_, ((t161 != t136)), er, H', ⟨by have := HJ6.out; have := HJ24.out; first | omega | exact Nat.le_refl _⟩, ⟨by (with_reducible repeat (first | apply Kd.R_alloc | apply Kd.R_drewN | apply Kd.R_drew)); exact Kd.R_mono HO_6.out (fun _ hk => trivial)⟩, ⟨belowd HB⟩⟩
            ·replace c50 := Bool.eq_false_iff.mpr c50
             subst c50
             have H1 : (laws_FnExactPlayAll.j2 kj24 t155 t154 true) = some r := by rw [if_neg (show ¬ (false = true) by decide)] at H; exact H
             clear H
             have H := H1
             clear H1
             have H' := Aside0.mk H
             clear H
             obtain ⟨Ao53, co53, eo53⟩ := Kd.R_slice HO163.out
             subst eo53
             obtain ⟨Ao54, co54, eo54⟩ := Kd.R_slice HO_3.out
             subst eo54
             go_wp2_with (first | ((with_reducible refine gate_callee (f := 28) rfl ?_); refine goesLa (some 78) rfl Try.func28 #[.slice Ao53 t160.length co53, .slice Ao54 t135.length co54] rfl ?_; (with_reducible refine (laws_eqIntS.calls kj24 _ _ t160 _ _ t135 false _ ?side1 ?side2 ?side3 ?side4 A49.out).mono ?_); (case side1 => exact cd (Kd.R_reads' HO163.out).2.2); (case side2 => exact (Kd.R_reads' HO163.out).2.1); (case side3 => exact cd (Kd.R_reads' HO_3.out).2.2); (case side4 => exact (Kd.R_reads' HO_3.out).2.1); rintro e w' ⟨rfl, ⟨nd, rfl⟩⟩; refine ⟨_, rfl, ?_⟩))
             go_meet
             case rel => exact ⟨_, (true), er, H', ⟨by have := HJ6.out; have := HJ24.out; first | omega | exact Nat.le_refl _⟩, ⟨by (with_reducible repeat (first | apply Kd.R_alloc | apply Kd.R_drewN | apply Kd.R_drew)); exact Kd.R_mono HO_6.out (fun _ hk => trivial)⟩, ⟨belowd HB⟩⟩
           case rest =>
            clear HC43; (try clear c36); (try clear c39b0); (try clear c40b0); (try clear c40b1)
            obtain ⟨kq, x84_42, rfl, HA, HJ42, HO_6, HB⟩ := hcut
            have hl6_42 := (Kd.R_reads' HO_6.out).1
            rw [hl6_42] at HO_6
            (try simp only [hl6_42])
            cases kq with
            | zero => exact absurd HA.out (by simp [laws_FnExactPlayAll.j2])
            | succ kj42 =>
             have H := HA.out; clear HA
             simp only [laws_FnExactPlayAll.j2] at H
             by_cases c55 : x84_42 = true
             ·subst c55
              have H1 : (some false) = some r := by rw [if_pos rfl] at H; exact H
              clear H
              have H := H1
              clear H1
              exact absurd (H.trans (congrArg some hr_)) (by simp)
             ·replace c55 := Bool.eq_false_iff.mpr c55
              subst c55
              have H1 : ((laws_heldIntS.f kj42 t155 1).bind fun t165 => (if t165 < 0 then (some false) else (if t165 = t154 then (some true) else (some false)))) = some r := by rw [if_neg (show ¬ (false = true) by decide)] at H; exact H
              clear H
              have H := H1
              clear H1; replace H := bS H; obtain ⟨t165, A56, H⟩ := H
              replace H : (if t165 < 0 then (some false) else (if t165 = t154 then (some true) else (some false))) = some r := H
              by_cases c57 : t165 < 0
              ·rw [if_pos c57] at H
               have c57b0 : decide (t165 < 0) = true := decide_eq_true c57
               clear c57
               exact absurd (H.trans (congrArg some hr_)) (by simp)
              ·rw [if_neg c57] at H
               have c57b0 : decide (t165 < 0) = false := decide_eq_false c57
               clear c57
               by_cases c58 : t165 = t154
               ·rw [if_pos c58] at H
                have c58b0 : (t165 == t154) = true := beq_iff_eq.mpr c58
                have c58b1 : (t165 != t154) = false := bne_eq_false_iff_eq.mpr c58
                clear c58
                obtain rfl := Option.some.inj H
                go_wp2_with (first | ((with_reducible refine gate_callee (f := 40) rfl ?_); refine goesLa (some 87) rfl Try.func40 #[.slice Ao44 t155.length co44, .int .i64 1] rfl ?_; (with_reducible refine (laws_heldIntS.calls kj42 _ _ t155 1 t165 _ ?side1 ?side2 A56.out).mono ?_); (case side1 => exact cd (Kd.R_reads' HO_6.out).2.2); (case side2 => exact (Kd.R_reads' HO_6.out).2.1); rintro e w' ⟨rfl, ⟨nd, rfl⟩⟩; refine ⟨_, rfl, ?_⟩))
                go_ret
                exact ⟨er2, belowd HB⟩
               ·rw [if_neg c58] at H
                have c58b0 : (t165 == t154) = false := beq_eq_false_iff_ne.mpr c58
                have c58b1 : (t165 != t154) = true := bne_iff_ne.mpr c58
                exact absurd (H.trans (congrArg some hr_)) (by simp)
          ·rw [if_neg c40] at H
           have c40b0 : (t156 == t154) = false := beq_eq_false_iff_ne.mpr c40
           have c40b1 : (t156 != t154) = true := bne_iff_ne.mpr c40
           exact absurd (H.trans (congrArg some hr_)) (by simp)
     ·replace c23 := Bool.eq_false_iff.mpr c23
      subst c23
      have H1 : (some false) = some r := by rw [if_neg (show ¬ (false = true) by decide)] at H; exact H
      clear H
      have H := H1
      clear H1
      exact absurd (H.trans (congrArg some hr_)) (by simp)

/-- THE ONE PURE STATEMENT of laws_FnExactPlayAll: yours. -/
def laws_FnExactPlayAll.Pure : Prop := ∀ (l0 : List Int), l0.length ≤ maxLen → l0.length * 8 ≤ 140737488351232 → (∀ x ∈ l0, (Lit.int .i64 x).wf = true) → ∃ k, laws_FnExactPlayAll.f k l0 = some true
theorem laws_FnExactPlayAll.walk (P : laws_FnExactPlayAll.Pure) (a0 : Option Addr) (len0 cap0 : Nat) (z0 : List Int) (w : World) (w0 : (a0 = none ∧ len0 = 0 ∧ cap0 = 0 ∧ z0 = []) ∨ ∃ x, a0 = some x ∧ len0 ≤ cap0 ∧ cap0 ≤ maxLen ∧ z0.length = cap0 ∧ (∀ i, i < z0.length → w.cell? (x.add i) = some (.int .i64 (z0.getD i 0))) ∧ ∀ n ∈ z0, (Lit.int .i64 n).wf = true) (y0 : len0 * 8 ≤ 140737488351232) :
  Calls Try.prog 11 #[.slice a0 len0 cap0] w fun e w' => e = .returned (.bool true) ∧ Below w.heap.size w w' := by
 obtain ⟨l0, rfl, hr0, hm0, hw0, hc0⟩ := ReadsInt.ofRowC w0
 obtain ⟨k, h⟩ := P l0 hm0 y0 hw0
 refine (laws_FnExactPlayAll.calls k _ _ l0 true w (Kd.C_of_reads (d := (0 : Int)) (h1 := fun _ => rfl) hr0) hc0 h rfl).mono ?_
 rintro e w' ⟨rfl, hd⟩
 exact ⟨rfl, hd⟩

end Go.Proofs.Ytmapmbgjjnlggaa.QFnExactPlayAll
