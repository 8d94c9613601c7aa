/- FnExactIsSignMatrix returns true for every table: program and reference tell sign matrices alike. No conditions. -/
import Derived.Test.YtanikglfkhheaaaFLawsFnExactIsSignMatrix
import Derived.Test.YtanikglfkhheaaaQSign
namespace Go.Proofs.Ytanikglfkhheaaa.Pure
open Go.Proofs.Ytanikglfkhheaaa.B Go.Proofs.Ytanikglfkhheaaa.P
open Go.RowKit Go.Proofs.YtanikglfkhheaaaW.PrintWords Go.Proofs.YtanikglfkhheaaaW.PrintLast Go.Proofs.YtanikglfkhheaaaW.PrintMore
set_option linter.unusedVariables false
set_option linter.unusedSimpArgs false
theorem FnExactIsSignMatrix : laws_FnExactIsSignMatrix.Pure := by
  intro m hl _ _
  obtain ⟨b, _, h1, h2⟩ := good_both m hl
  exact ⟨b, (Ev.bind h1 (Ev.now b)).rounds, h2.rounds⟩
end Go.Proofs.Ytanikglfkhheaaa.Pure
