/- FnExactAreCorners returns true for every table: program and reference answer alike. No conditions. -/
import Derived.Test.YtanikglfkhheaaaFLawsFnExactAreCorners
import Derived.Test.YtanikglfkhheaaaQFrom
namespace Go.Proofs.Ytanikglfkhheaaa.Pure
open Go.Proofs.Ytanikglfkhheaaa.B Go.Proofs.Ytanikglfkhheaaa.P
open Go.RowKit Go.Proofs.YtanikglfkhheaaaW.PrintWords Go.Proofs.YtanikglfkhheaaaW.PrintLast Go.Proofs.YtanikglfkhheaaaW.PrintMore
set_option linter.unusedVariables false
set_option linter.unusedSimpArgs false
theorem FnExactAreCorners : laws_FnExactAreCorners.Pure := by
  intro c hl _ hw
  obtain ⟨b, h1, h2, h3⟩ := corners_both c hl hw
  exact ⟨b, (Ev.bind h1 (Ev.now b)).rounds, (show Ev (fun k => impl_AreCorners.f k c) b from Ev.bind h2 (Ev.now _)).rounds⟩
end Go.Proofs.Ytanikglfkhheaaa.Pure
