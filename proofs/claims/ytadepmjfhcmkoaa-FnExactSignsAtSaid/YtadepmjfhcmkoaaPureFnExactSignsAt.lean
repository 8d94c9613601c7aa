/- FnExactSignsAt returns true for all numbers: program and reference hand back the same sign matrix, in memory of its own, or none. No conditions. -/
import Derived.Test.YtadepmjfhcmkoaaFLawsFnExactSignsAt
import Derived.Test.YtadepmjfhcmkoaaQPath
namespace Go.Proofs.Ytadepmjfhcmkoaa.Pure
open Go.Proofs.Ytadepmjfhcmkoaa.B Go.Proofs.Ytadepmjfhcmkoaa.P
open Go.RowKit Go.Proofs.YtadepmjfhcmkoaaW.PrintWords Go.Proofs.YtadepmjfhcmkoaaW.PrintLast Go.Proofs.YtadepmjfhcmkoaaW.PrintMore
set_option linter.unusedVariables false
set_option linter.unusedSimpArgs false
theorem FnExactSignsAt : laws_FnExactSignsAt.Pure := by
  intro a0 a1 _ hw
  have h : a1 ≤ 9223372036854775807 := by
    simp [Lit.wf] at hw
    omega
  obtain ⟨r, b, h1, h2, h3, h4⟩ := at_both a0 a1 h
  exact ⟨r, b, h1.rounds, h2.rounds, h3, h4⟩
end Go.Proofs.Ytadepmjfhcmkoaa.Pure
