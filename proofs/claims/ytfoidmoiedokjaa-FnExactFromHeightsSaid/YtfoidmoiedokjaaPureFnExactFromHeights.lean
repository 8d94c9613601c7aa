/- FnExactFromHeights returns true for every table: program and reference answer alike, in memory of their own. No conditions. -/
import Derived.Test.YtfoidmoiedokjaaFLawsFnExactFromHeights
import Derived.Test.YtfoidmoiedokjaaQHBoth
namespace Go.Proofs.Ytfoidmoiedokjaa.Pure
open Go.Proofs.Ytfoidmoiedokjaa.B Go.Proofs.Ytfoidmoiedokjaa.P
open Go.RowKit Go.Proofs.YtfoidmoiedokjaaW.PrintWords Go.Proofs.YtfoidmoiedokjaaW.PrintLast Go.Proofs.YtfoidmoiedokjaaW.PrintMore
set_option linter.unusedVariables false
set_option linter.unusedSimpArgs false
theorem FnExactFromHeights : laws_FnExactFromHeights.Pure := by
  intro h hl _ hw
  obtain ⟨b, h1, h2, h3⟩ := heights_both h hl
  refine ⟨if b = true then outI h (h.length - 1) else [], b, ?_, h2.rounds, ?_⟩
  · unfold spec_FromHeights.f
    refine (Ev.bind h1 ?_).rounds
    cases b with
    | true => exact Ev.pos rfl (Ev.bind (h3 rfl).2 (Ev.now _))
    | false => exact Ev.neg (by decide) (Ev.now _)
  · cases b with
    | true => exact tab_small _ _ (h3 rfl).1
    | false => simp [total]
end Go.Proofs.Ytfoidmoiedokjaa.Pure
