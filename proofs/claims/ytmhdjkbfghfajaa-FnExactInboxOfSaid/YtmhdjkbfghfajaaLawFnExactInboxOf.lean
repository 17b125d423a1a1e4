-- printed by this session's own program (wip/tools/pp.py: the kit's print.py with changes); Lean checks it
import Derived.Test.YtmhdjkbfghfajaaRows
import Derived.Test.YtmhdjkbfghfajaaQFnExactInboxOfx8
import Derived.Test.YtmhdjkbfghfajaaOpen
import Derived.Test.YtmhdjkbfghfajaaPureFnExactInboxOf
import Derived.WalkKit
import Derived.ProofKit
import Derived.OpenShut
import Derived.ShutString
import Derived.ChangeOld
import Derived.Below
import Derived.SizedLaws
namespace Go.Proofs.Ytmhdjkbfghfajaa.fnExactInboxOf
open Go.ChangeShapes Go.WideShapes Go.ChangeAt Go.RowKit
open Go.ChangeMaps (open_string shut_string)
open Go.Proofs.Ytmhdjkbfghfajaa.QFnExactInboxOf Go.Proofs.YtmhdjkbfghfajaaW.PrintWords
set_option linter.unusedVariables false
theorem own : ownKnob Try.prog.godebug = none := by kernel_rfl
theorem laidOut : laidOutB Try.prog = true := by kernel_rfl
theorem opens25 : Open.Opens Try.prog 25 k25 W25 :=
  Open.opens_iso (fun x : S25 => (x.f0, x.f1, x.f2, x.f3, x.f4)) (fun a => ⟨a.1, a.2.1, a.2.2.1, a.2.2.2.1, a.2.2.2.2⟩) (fun _ => rfl) (Open.opens_struct Try.underlying25 (by kernel_rfl) (Open.fits_cons rfl (by kernel_rfl) (Open.opens_slice Try.underlying22 (by kernel_rfl) (Open.opens_int Try.underlying3)) (Open.fits_cons rfl (by kernel_rfl) (Open.opens_slice Try.underlying23 (by kernel_rfl) (Open.opens_slice Try.underlying27 (by kernel_rfl) (Open.opens_string Try.underlying9))) (Open.fits_cons rfl (by kernel_rfl) (Open.opens_slice Try.underlying23 (by kernel_rfl) (Open.opens_slice Try.underlying27 (by kernel_rfl) (Open.opens_string Try.underlying9))) (Open.fits_cons rfl (by kernel_rfl) (Open.opens_slice Try.underlying23 (by kernel_rfl) (Open.opens_slice Try.underlying27 (by kernel_rfl) (Open.opens_string Try.underlying9))) (Open.fits_one rfl (by kernel_rfl) (Open.opens_int Try.underlying3)))))))
set_option maxRecDepth 100000 in
theorem lifted (os : Os) (started : os.Started) (H : Type) (enc : TypeId × Value → H) :
    ReturnsInHanded {} Try.checked os 3 .any (Rows.fnExactInboxOfSpec.pre6 enc Try.prog Try.f3 Rows.fnExactInboxOfRow.domain false) (Rows.fnExactInboxOfSpec.post enc Try.prog Try.f3 false true false false) := by
  refine returnsInHanded_of_change_sized (C := Try.checked) own started (by kernel_rfl) Try.func3
    (ChangeSpec.witness6 (enc := enc) (C := Try.checked) false ⟨#[], #[.agg #[.slice none 0 0, .slice none 0 0, .slice none 0 0, .slice none 0 0, .int .i64 0], .int .i64 0], []⟩ 8 (by kernel_rfl) (by kernel_rfl) (by kernel_rfl) (by kernel_rfl)) ?_
  intro W base args ds gs before hval0 hW hcnd hsz0 _
  have hval : ∀ (j : Nat) t v, Try.f3.params[j]? = some t → args[j]? = some v → Value.okWide Try.prog W .any base t v := hval0
  have hW' := hW
  obtain ⟨p, q, hA0, hV, rfl, hfz, hnd⟩ := hW
  have hA : DataW.TrodAll enc Try.prog W 0 (fun _ => true) true Try.f3.params.toList args.toList ds p := hA0
  rw [Try.params3] at hA hval
  obtain ⟨v0, vs0, d0, ds0, p0, q0, hargs, rfl, rfl, h0, r0⟩ := trodAll_cons hA
  obtain ⟨v1, vs1, d1, ds1, p1, q1, rfl, rfl, rfl, h1, r1⟩ := trodAll_cons r0
  obtain ⟨rfl, rfl, rfl⟩ := trodAll_nil r1
  obtain rfl : args = #[v0, v1] := by cases args; simp_all
  obtain ⟨rfl, rfl⟩ := trodVars_none hV
  have k0 := h0
  have lt0 : ∀ x ∈ p0, x.block < W.heap.size := by obtain ⟨m, hm⟩ := k0; exact DataW.trod_lt m _ _ _ hm
  obtain ⟨cs0, rfl, -⟩ := okWide_struct Try.underlying25 (hval 0 25 v0 rfl rfl)
  obtain ⟨fu0, hf0⟩ := h0
  obtain ⟨x0, K0, g0⟩ := opens25 H enc W true fu0 _ _ hf0
  obtain ⟨A0_0, c0_0, A0_1, c0_1, A0_2, c0_2, A0_3, c0_3, e0, hl0_0, hr0_0, hl0_1, hr0_1, hl0_2, hr0_2, hl0_3, hr0_3⟩ := k25_open K0
  obtain ⟨l0⟩ := cs0
  obtain rfl : l0 = _ := e0
  obtain ⟨a1, rfl, rfl, rfl, g1⟩ := open_int Try.underlying3 (hval 1 3 v1 rfl rfl) h1
  clear hA0 hval0 hsz0
  refine (laws_FnExactInboxOf.walk Pure.FnExactInboxOf A0_0 c0_0 x0.f0 A0_1 c0_1 x0.f1 A0_2 c0_2 x0.f2 A0_3 c0_3 x0.f3 x0.f4 a1 W hr0_0 hl0_0 hr0_1 hl0_1 hr0_2 hl0_2 hr0_3 hl0_3 g0 g1).mono fun e W' ⟨he, bel⟩ => ?_
  subst he
  exact ⟨_, rfl, _, _, _, [], _, [], hW', trodAll_mk1 (shut_bool Try.underlying4 _), (trodAll_cons_mk (Below.trod laidOut (by kernel_rfl) (of_decide_eq_true (by kernel_rfl)) k0 bel lt0) (trodAll_cons_mk (shut_int Try.underlying3 g1) trodAll_mk0)), rfl, bel.frame _, fun h => by cases h⟩
theorem over : Rows.fnExactInboxOfRow.holds Try.pinned (OpenSpec.ofChange Rows.fnExactInboxOfSpec) :=
  OpenClaim.holds_of_wide 3 Try.f3 rfl rfl rfl rfl rfl rfl rfl ⟨rfl, rfl, rfl, rfl, rfl⟩ rfl rfl rfl rfl rfl (by kernel_rfl) Try.func3 (by kernel_rfl)
    (of_decide_eq_true (by kernel_rfl)) (by unfold Func.isWrapper; first | (rw [if_pos (by decide +kernel)]; kernel_rfl) | (rw [if_neg (by decide +kernel)]; exact ⟨rfl, rfl⟩))
    (fun os started H enc _ => lifted os started H enc)
theorem proved : Rows.FnExactInboxOfSaid := over
#print axioms proved
end Go.Proofs.Ytmhdjkbfghfajaa.fnExactInboxOf
namespace Go.Proofs.Ytmhdjkbfghfajaa
/-- The row, under a short name, for the claim. -/
theorem fnExactInboxOf_holds : Rows.FnExactInboxOfSaid := fnExactInboxOf.proved
end Go.Proofs.Ytmhdjkbfghfajaa
