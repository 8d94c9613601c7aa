/- FnExactAreHeights returns true for every table: program and reference answer alike. No conditions. -/
import Derived.Test.YtfoidmoiedokjaaFLawsFnExactAreHeights
import Derived.Test.YtfoidmoiedokjaaQHBoth
namespace Go.Proofs.Ytfoidmoiedokjaa.Pure
open Go.Proofs.Ytfoidmoiedokjaa.B Go.Proofs.Ytfoidmoiedokjaa.P
open Go.RowKit Go.Proofs.YtfoidmoiedokjaaW.PrintWords Go.Proofs.YtfoidmoiedokjaaW.PrintLast Go.Proofs.YtfoidmoiedokjaaW.PrintMore
set_option linter.unusedVariables false
set_option linter.unusedSimpArgs false
theorem FnExactAreHeights : laws_FnExactAreHeights.Pure := by
  intro h hl _ hw
  obtain ⟨b, h1, h2, h3⟩ := heights_both h hl
  exact ⟨b, (Ev.bind h1 (Ev.now b)).rounds, (show Ev (fun k => impl_AreHeights.f k h) b from Ev.bind h2 (Ev.now _)).rounds⟩
end Go.Proofs.Ytfoidmoiedokjaa.Pure
