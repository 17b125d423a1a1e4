-- printed by this session's own program (wip/tools/pp.py: the kit's print.py with changes); Lean checks it
import Derived.Test.YtkgogglnipdcfaaRows
import Derived.Test.YtkgogglnipdcfaaQFnExactClaimsInx5
import Derived.Test.YtkgogglnipdcfaaOpen
import Derived.Test.YtkgogglnipdcfaaPureFnExactClaimsIn
import Derived.WalkKit
import Derived.ProofKit
import Derived.OpenShut
import Derived.ShutString
import Derived.ChangeOld
import Derived.Below
import Derived.SizedLaws
namespace Go.Proofs.Ytkgogglnipdcfaa.fnExactClaimsIn
open Go.ChangeShapes Go.WideShapes Go.ChangeAt Go.RowKit
open Go.ChangeMaps (open_string shut_string)
open Go.Proofs.Ytkgogglnipdcfaa.QFnExactClaimsIn Go.Proofs.YtkgogglnipdcfaaW.PrintWords
set_option linter.unusedVariables false
theorem own : ownKnob Try.prog.godebug = none := by kernel_rfl
theorem laidOut : laidOutB Try.prog = true := by kernel_rfl
theorem opens174 : Open.Opens Try.prog 174 k174 W174 :=
  Open.opens_iso (fun x : S174 => (x.f0, x.f1, x.f2)) (fun a => ⟨a.1, a.2.1, a.2.2⟩) (fun _ => rfl) (Open.opens_struct Try.underlying174 (by kernel_rfl) (Open.fits_cons rfl (by kernel_rfl) (Open.opens_int Try.underlying3) (Open.fits_cons rfl (by kernel_rfl) (Open.opens_int Try.underlying3) (Open.fits_one rfl (by kernel_rfl) (Open.opens_int Try.underlying3)))))
theorem opens176 : Open.Opens Try.prog 176 k176 W176 :=
  Open.opens_iso (fun x : S176 => (x.f0, x.f1, x.f2)) (fun a => ⟨a.1, a.2.1, a.2.2⟩) (fun _ => rfl) (Open.opens_struct Try.underlying176 (by kernel_rfl) (Open.fits_cons rfl (by kernel_rfl) (Open.opens_int Try.underlying3) (Open.fits_cons rfl (by kernel_rfl) opens174 (Open.fits_one rfl (by kernel_rfl) (Open.opens_bool Try.underlying4)))))
set_option maxRecDepth 100000 in
theorem lifted (os : Os) (started : os.Started) (H : Type) (enc : TypeId × Value → H) :
    ReturnsInHanded {} Try.checked os 7 .any (Rows.fnExactClaimsInSpec.pre6 enc Try.prog Try.f7 Rows.fnExactClaimsInRow.domain false) (Rows.fnExactClaimsInSpec.post enc Try.prog Try.f7 false true false false) := by
  refine returnsInHanded_of_change_sized (C := Try.checked) own started (by kernel_rfl) Try.func7
    (ChangeSpec.witness6 (enc := enc) (C := Try.checked) false ⟨#[], #[.slice none 0 0], []⟩ 8 (by kernel_rfl) (by kernel_rfl) (by kernel_rfl) (by kernel_rfl)) ?_
  intro W base args ds gs before hval0 hW hcnd hsz0 _
  have hval : ∀ (j : Nat) t v, Try.f7.params[j]? = some t → args[j]? = some v → Value.okWide Try.prog W .any base t v := hval0
  have hW' := hW
  obtain ⟨p, q, hA0, hV, rfl, hfz, hnd⟩ := hW
  have hA : DataW.TrodAll enc Try.prog W 0 (fun _ => true) true Try.f7.params.toList args.toList ds p := hA0
  rw [Try.params7] at hA hval
  obtain ⟨v0, vs0, d0, ds0, p0, q0, hargs, rfl, rfl, h0, r0⟩ := trodAll_cons hA
  obtain ⟨rfl, rfl, rfl⟩ := trodAll_nil r0
  obtain rfl : args = #[v0] := by cases args; simp_all
  obtain ⟨rfl, rfl⟩ := trodVars_none hV
  have k0 := h0
  have lt0 : ∀ x ∈ p0, x.block < W.heap.size := by obtain ⟨m, hm⟩ := k0; exact DataW.trod_lt m _ _ _ hm
  obtain ⟨a0, len0, cap0, rfl⟩ := okWide_slice Try.underlying68 (hval 0 68 v0 rfl rfl)
  obtain ⟨fu0, hf0⟩ := h0
  obtain ⟨x0, K0, g0⟩ := (Open.opens_slice Try.underlying68 (by kernel_rfl) opens176) H enc W true fu0 _ _ hf0
  obtain ⟨A0, c0, e0, hl0, hr0⟩ := K0
  simp [Value.cells] at e0
  obtain ⟨rfl, rfl, rfl⟩ := e0
  clear hA0 hval0 hsz0
  refine (laws_FnExactClaimsIn.walk Pure.FnExactClaimsIn _ _ x0 W hr0 hl0 g0).mono fun e W' ⟨he, bel⟩ => ?_
  subst he
  exact ⟨_, rfl, _, _, _, [], _, [], hW', trodAll_mk1 (shut_bool Try.underlying4 _), (trodAll_cons_mk (Below.trod laidOut (by kernel_rfl) (of_decide_eq_true (by kernel_rfl)) k0 bel lt0) trodAll_mk0), rfl, bel.frame _, fun h => by cases h⟩
theorem over : Rows.fnExactClaimsInRow.holds Try.pinned (OpenSpec.ofChange Rows.fnExactClaimsInSpec) :=
  OpenClaim.holds_of_wide 7 Try.f7 rfl rfl rfl rfl rfl rfl rfl ⟨rfl, rfl, rfl, rfl, rfl⟩ rfl rfl rfl rfl rfl (by kernel_rfl) Try.func7 (by kernel_rfl)
    (of_decide_eq_true (by kernel_rfl)) (by unfold Func.isWrapper; first | (rw [if_pos (by decide +kernel)]; kernel_rfl) | (rw [if_neg (by decide +kernel)]; exact ⟨rfl, rfl⟩))
    (fun os started H enc _ => lifted os started H enc)
theorem proved : Rows.FnExactClaimsInSaid := over
#print axioms proved
end Go.Proofs.Ytkgogglnipdcfaa.fnExactClaimsIn
namespace Go.Proofs.Ytkgogglnipdcfaa
/-- The row, under a short name, for the claim. -/
theorem fnExactClaimsIn_holds : Rows.FnExactClaimsInSaid := fnExactClaimsIn.proved
end Go.Proofs.Ytkgogglnipdcfaa
