/- FnExactFromCorners returns true for every table: program and reference answer alike, in memory of their own. No conditions. -/
import Derived.Test.YtanikglfkhheaaaFLawsFnExactFromCorners
import Derived.Test.YtanikglfkhheaaaQFrom
namespace Go.Proofs.Ytanikglfkhheaaa.Pure
open Go.Proofs.Ytanikglfkhheaaa.B Go.Proofs.Ytanikglfkhheaaa.P
open Go.RowKit Go.Proofs.YtanikglfkhheaaaW.PrintWords Go.Proofs.YtanikglfkhheaaaW.PrintLast Go.Proofs.YtanikglfkhheaaaW.PrintMore
set_option linter.unusedVariables false
set_option linter.unusedSimpArgs false
theorem FnExactFromCorners : laws_FnExactFromCorners.Pure := by
  intro c hl _ hw
  obtain ⟨b, h1, h2, h3⟩ := corners_both c hl hw
  refine ⟨if b = true then tabOf c.length c.length (outV c) else [], b, ?_, h2.rounds, ?_⟩
  · unfold spec_FromCorners.f
    refine (Ev.bind h1 ?_).rounds
    cases b with
    | true => exact Ev.pos rfl (Ev.bind (ev_sgFrom c (h3 rfl)) (Ev.now _))
    | false => exact Ev.neg (by decide) (Ev.now _)
  · cases b with
    | true => exact tab_small _ _ (h3 rfl).2.1
    | false => simp [total]
end Go.Proofs.Ytanikglfkhheaaa.Pure
