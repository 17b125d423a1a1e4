/- The law FnExactQuorumFor, told over numbers alone: the program's QuorumFor and the reference's answer alike at every number. No condition. -/
import Derived.Test.YtmapmbgjjnlggaaQFnExactQuorumForx1
import Derived.Test.YtmapmbgjjnlggaaPk
namespace Go.Proofs.Ytmapmbgjjnlggaa.Pure
open Go.RowKit Go.Proofs.Ytmapmbgjjnlggaa.QFnExactQuorumFor Go.Proofs.YtmapmbgjjnlggaaW.PrintWords Go.Proofs.YtmapmbgjjnlggaaW.PrintLast Go.Proofs.YtmapmbgjjnlggaaW.PrintMore Go.Proofs.Ytmapmbgjjnlggaa
set_option linter.unusedVariables false
set_option linter.unusedSimpArgs false

theorem FnExactQuorumFor : laws_FnExactQuorumFor.Pure := by
  intro a0 _
  simp only [laws_FnExactQuorumFor.f, spec_QuorumFor.f, impl_QuorumFor.f, impl_areFaults.f, spec_l1In.f, impl_within.f]
  by_cases h0 : a0 ≥ 0 <;> by_cases h2 : a0 ≤ 2 <;> simp [h0, h2]

end Go.Proofs.Ytmapmbgjjnlggaa.Pure
