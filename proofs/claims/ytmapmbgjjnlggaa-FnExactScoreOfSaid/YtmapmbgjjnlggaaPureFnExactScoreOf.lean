/- The law FnExactScoreOf, told over numbers alone. No condition. -/
import Derived.Test.YtmapmbgjjnlggaaQFnExactScoreOfx1
import Derived.Test.YtmapmbgjjnlggaaPk
namespace Go.Proofs.Ytmapmbgjjnlggaa.Pure
open Go.RowKit Go.Proofs.Ytmapmbgjjnlggaa.QFnExactScoreOf Go.Proofs.YtmapmbgjjnlggaaW.PrintWords Go.Proofs.YtmapmbgjjnlggaaW.PrintLast Go.Proofs.YtmapmbgjjnlggaaW.PrintMore Go.Proofs.Ytmapmbgjjnlggaa
set_option linter.unusedVariables false
set_option linter.unusedSimpArgs false

theorem FnExactScoreOf : laws_FnExactScoreOf.Pure := by
  intro a b c _
  simp only [laws_FnExactScoreOf.f, laws_toTally.f, spec_ScoreOf.f, impl_ScoreOf.f, impl_isTally.f, spec_l14Tally.f, impl_score.f, spec_l14Score.f, spec_l1In.f, impl_within.f]
  by_cases h0 : a ≥ 0 <;> by_cases h2 : a ≤ 11 <;> by_cases h3 : b ≥ 0 <;> by_cases h4 : b ≤ 100 <;> by_cases h5 : c ≥ 0 <;> by_cases h6 : c ≤ 100 <;> simp [h0, h2, h3, h4, h5, h6]
  have e : wrap64 (wrap64 (b + c) + 2) ≠ 0 := by rw [Pk.w64 (x := b + c) (by omega) (by omega), Pk.w64 (by omega) (by omega)]; omega
  simp [e]

end Go.Proofs.Ytmapmbgjjnlggaa.Pure
