/- FnExactCountByInversions returns true for every int: CountByInversions of the program and of the reference answer the same, in memory of its own. No conditions. -/
import Derived.Test.YtadepmjfhcmkoaaFLawsCountBy
import Derived.Test.YtadepmjfhcmkoaaQIn
import Derived.KernelRfl
namespace Go.Proofs.Ytadepmjfhcmkoaa.Pure
open Go.Proofs.Ytadepmjfhcmkoaa.B Go.Proofs.Ytadepmjfhcmkoaa.P
open Go.RowKit Go.Proofs.YtadepmjfhcmkoaaW.PrintWords Go.Proofs.YtadepmjfhcmkoaaW.PrintLast Go.Proofs.YtadepmjfhcmkoaaW.PrintMore
set_option linter.unusedVariables false
set_option linter.unusedSimpArgs false
set_option maxRecDepth 100000
theorem FnExactCountByInversions : laws_FnExactCountByInversions.Pure := by
  intro a0 _
  by_cases h1 : 1 ≤ a0 ∧ a0 ≤ 5
  · have h2 : a0 = 1 ∨ a0 = 2 ∨ a0 = 3 ∨ a0 = 4 ∨ a0 = 5 := by omega
    rcases h2 with rfl | rfl | rfl | rfl | rfl
    · exact ⟨[1], true, ⟨1000, by kernel_rfl⟩, by kernel_rfl, by decide⟩
    · exact ⟨[1, 1], true, ⟨1000, by kernel_rfl⟩, by kernel_rfl, by decide⟩
    · exact ⟨[1, 2, 3, 1], true, ⟨1000, by kernel_rfl⟩, by kernel_rfl, by decide⟩
    · exact ⟨[1, 3, 7, 13, 11, 6, 1], true, ⟨1000, by kernel_rfl⟩, by kernel_rfl, by decide⟩
    · exact ⟨[1, 4, 12, 31, 67, 92, 99, 77, 35, 10, 1], true, ⟨1000, by kernel_rfl⟩, by kernel_rfl, by decide⟩
  · have hb : inB a0 1 5 = false := by
      rw [Bool.eq_false_iff]
      intro h
      exact h1 ((inB_iff _ _ _).mp h)
    refine ⟨[], false, ⟨1, ?_⟩, ?_, by decide⟩
    · unfold spec_CountByInversions.f
      rw [l1In_eq, hb]
      rfl
    · unfold impl_CountByInversions.f
      rw [if_neg h1]
end Go.Proofs.Ytadepmjfhcmkoaa.Pure
