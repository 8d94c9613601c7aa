/- FnExactCountChains returns true for every number: program and reference count the same ways up, for 1 to 4 rows, and refuse every other number. No conditions. -/
import Derived.Test.YtadepmjfhcmkoaaFLawsFnExactCountChains
namespace Go.Proofs.Ytadepmjfhcmkoaa.Pure
open Go.Proofs.Ytadepmjfhcmkoaa.B Go.Proofs.Ytadepmjfhcmkoaa.P
open Go.RowKit Go.Proofs.YtadepmjfhcmkoaaW.PrintWords Go.Proofs.YtadepmjfhcmkoaaW.PrintLast Go.Proofs.YtadepmjfhcmkoaaW.PrintMore
set_option linter.unusedVariables false
set_option linter.unusedSimpArgs false
theorem FnExactCountChains : laws_FnExactCountChains.Pure := by
 intro a0 _; unfold spec_CountChains.f impl_CountChains.f
 by_cases h : 1 ≤ a0 ∧ a0 ≤ 4
 ·exact ⟨chVal a0, true, by rw [if_pos h]; rfl, by rw [if_pos h]⟩
 ·exact ⟨0, false, by rw [if_neg h], by rw [if_neg h]⟩
end Go.Proofs.Ytadepmjfhcmkoaa.Pure
