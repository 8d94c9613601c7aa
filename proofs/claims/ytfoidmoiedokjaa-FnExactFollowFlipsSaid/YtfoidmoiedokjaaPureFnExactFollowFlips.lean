/- FnExactFollowFlips returns true for every table and every list of cells: program and reference answer alike, in memory of their own. No conditions. -/
import Derived.Test.YtfoidmoiedokjaaFLawsFnExactFollowFlips
import Derived.Test.YtfoidmoiedokjaaQFollow
namespace Go.Proofs.Ytfoidmoiedokjaa.Pure
open Go.Proofs.Ytfoidmoiedokjaa.B Go.Proofs.Ytfoidmoiedokjaa.P
open Go.RowKit Go.Proofs.YtfoidmoiedokjaaW.PrintWords Go.Proofs.YtfoidmoiedokjaaW.PrintLast Go.Proofs.YtfoidmoiedokjaaW.PrintMore
set_option linter.unusedVariables false
set_option linter.unusedSimpArgs false
theorem FnExactFollowFlips : laws_FnExactFollowFlips.Pure := by
  intro m p hl _ _ _ _ _
  obtain ⟨r, h1, h2, h3, h4⟩ := follow_both m p hl
  exact ⟨r.1, r.2, h1.rounds, h2.rounds, h3, h4⟩
end Go.Proofs.Ytfoidmoiedokjaa.Pure
