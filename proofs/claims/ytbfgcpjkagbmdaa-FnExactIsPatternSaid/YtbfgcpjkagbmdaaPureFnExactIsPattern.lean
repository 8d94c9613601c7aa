/- FnExactIsPattern returns true for every list of ints: IsPattern of the program and of the reference answer the same, and the argument stays as it is. No conditions. -/
import Derived.Test.YtbfgcpjkagbmdaaFLawsFnExactIsPattern
import Derived.Test.YtbfgcpjkagbmdaaQPat
namespace Go.Proofs.Ytbfgcpjkagbmdaa.Pure
open Go.Proofs.Ytbfgcpjkagbmdaa.B Go.Proofs.Ytbfgcpjkagbmdaa.P
open Go.RowKit Go.Proofs.YtbfgcpjkagbmdaaW.PrintWords Go.Proofs.YtbfgcpjkagbmdaaW.PrintLast Go.Proofs.YtbfgcpjkagbmdaaW.PrintMore
set_option linter.unusedVariables false
set_option linter.unusedSimpArgs false
theorem FnExactIsPattern : laws_FnExactIsPattern.Pure := by
  intro l h1 _
  obtain ⟨r, ha, hb, _⟩ := isPattern_both l h1
  exact ⟨r, (Ev.congr (fun k => by unfold spec_IsPattern.f; cases spec_loIsPattern.f k l <;> rfl) ha).rounds, hb.rounds⟩
end Go.Proofs.Ytbfgcpjkagbmdaa.Pure
