-- printed by this session's own program (wip/tools/pp.py: the kit's print.py with changes); Lean checks it
import Derived.Test.YtpibdgknmjjolaaRows
import Derived.Test.YtpibdgknmjjolaaQFnExactGroupsOfx11
import Derived.Test.YtpibdgknmjjolaaOpen
import Derived.Test.YtpibdgknmjjolaaPureFnExactGroupsOf
import Derived.WalkKit
import Derived.ProofKit
import Derived.OpenShut
import Derived.ShutString
import Derived.ChangeOld
import Derived.Below
import Derived.SizedLaws
namespace Go.Proofs.Ytpibdgknmjjolaa.fnExactGroupsOf
open Go.ChangeShapes Go.WideShapes Go.ChangeAt Go.RowKit
open Go.ChangeMaps (open_string shut_string)
open Go.Proofs.Ytpibdgknmjjolaa.QFnExactGroupsOf Go.Proofs.YtpibdgknmjjolaaW.PrintWords
set_option linter.unusedVariables false
theorem own : ownKnob Try.prog.godebug = none := by kernel_rfl
theorem laidOut : laidOutB Try.prog = true := by kernel_rfl
theorem opens34 : Open.Opens Try.prog 34 k34 W34 :=
  Open.opens_iso (fun x : S34 => (x.f0, x.f1, x.f2)) (fun a => ⟨a.1, a.2.1, a.2.2⟩) (fun _ => rfl) (Open.opens_struct Try.underlying34 (by kernel_rfl) (Open.fits_cons rfl (by kernel_rfl) (Open.opens_int Try.underlying3) (Open.fits_cons rfl (by kernel_rfl) (Open.opens_slice Try.underlying32 (by kernel_rfl) (Open.opens_slice Try.underlying22 (by kernel_rfl) (Open.opens_int Try.underlying3))) (Open.fits_one rfl (by kernel_rfl) (Open.opens_slice Try.underlying22 (by kernel_rfl) (Open.opens_int Try.underlying3))))))
set_option maxRecDepth 100000 in
theorem lifted (os : Os) (started : os.Started) (H : Type) (enc : TypeId × Value → H) :
    ReturnsInHanded {} Try.checked os 7 .any (Rows.fnExactGroupsOfSpec.pre6 enc Try.prog Try.f7 Rows.fnExactGroupsOfRow.domain false) (Rows.fnExactGroupsOfSpec.post enc Try.prog Try.f7 false true false false) := by
  refine returnsInHanded_of_change_sized (C := Try.checked) own started (by kernel_rfl) Try.func7
    (ChangeSpec.witness6 (enc := enc) (C := Try.checked) false ⟨#[], #[.agg #[.int .i64 0, .slice none 0 0, .slice none 0 0]], []⟩ 8 (by kernel_rfl) (by kernel_rfl) (by kernel_rfl) (by kernel_rfl)) ?_
  intro W base args ds gs before hval0 hW hcnd hsz0 _
  have hval : ∀ (j : Nat) t v, Try.f7.params[j]? = some t → args[j]? = some v → Value.okWide Try.prog W .any base t v := hval0
  have hW' := hW
  obtain ⟨p, q, hA0, hV, rfl, hfz, hnd⟩ := hW
  have hA : DataW.TrodAll enc Try.prog W 0 (fun _ => true) true Try.f7.params.toList args.toList ds p := hA0
  rw [Try.params7] at hA hval
  obtain ⟨v0, vs0, d0, ds0, p0, q0, hargs, rfl, rfl, h0, r0⟩ := trodAll_cons hA
  obtain ⟨rfl, rfl, rfl⟩ := trodAll_nil r0
  obtain rfl : args = #[v0] := by cases args; simp_all
  obtain ⟨rfl, rfl⟩ := trodVars_none hV
  have k0 := h0
  have lt0 : ∀ x ∈ p0, x.block < W.heap.size := by obtain ⟨m, hm⟩ := k0; exact DataW.trod_lt m _ _ _ hm
  obtain ⟨cs0, rfl, -⟩ := okWide_struct Try.underlying34 (hval 0 34 v0 rfl rfl)
  obtain ⟨fu0, hf0⟩ := h0
  obtain ⟨x0, K0, g0⟩ := opens34 H enc W true fu0 _ _ hf0
  obtain ⟨A0_1, c0_1, A0_2, c0_2, e0, hl0_1, hr0_1, hl0_2, hr0_2⟩ := k34_open K0
  obtain ⟨l0⟩ := cs0
  obtain rfl : l0 = _ := e0
  clear hA0 hval0 hsz0
  refine (laws_FnExactGroupsOf.walk Pure.FnExactGroupsOf x0.f0 A0_1 c0_1 x0.f1 A0_2 c0_2 x0.f2 W hr0_1 hl0_1 hr0_2 hl0_2 g0).mono fun e W' ⟨he, bel⟩ => ?_
  subst he
  exact ⟨_, rfl, _, _, _, [], _, [], hW', trodAll_mk1 (shut_bool Try.underlying4 _), (trodAll_cons_mk (Below.trod laidOut (by kernel_rfl) (of_decide_eq_true (by kernel_rfl)) k0 bel lt0) trodAll_mk0), rfl, bel.frame _, fun h => by cases h⟩
theorem over : Rows.fnExactGroupsOfRow.holds Try.pinned (OpenSpec.ofChange Rows.fnExactGroupsOfSpec) :=
  OpenClaim.holds_of_wide 7 Try.f7 rfl rfl rfl rfl rfl rfl rfl ⟨rfl, rfl, rfl, rfl, rfl⟩ rfl rfl rfl rfl rfl (by kernel_rfl) Try.func7 (by kernel_rfl)
    (of_decide_eq_true (by kernel_rfl)) (by unfold Func.isWrapper; first | (rw [if_pos (by decide +kernel)]; kernel_rfl) | (rw [if_neg (by decide +kernel)]; exact ⟨rfl, rfl⟩))
    (fun os started H enc _ => lifted os started H enc)
theorem proved : Rows.FnExactGroupsOfSaid := over
#print axioms proved
end Go.Proofs.Ytpibdgknmjjolaa.fnExactGroupsOf
namespace Go.Proofs.Ytpibdgknmjjolaa
/-- The row, under a short name, for the claim. -/
theorem fnExactGroupsOf_holds : Rows.FnExactGroupsOfSaid := fnExactGroupsOf.proved
end Go.Proofs.Ytpibdgknmjjolaa
