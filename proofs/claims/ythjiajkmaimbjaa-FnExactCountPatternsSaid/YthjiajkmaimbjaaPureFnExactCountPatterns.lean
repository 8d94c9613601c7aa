/- FnExactCountPatterns returns true for every number: program and reference tell the same number of patterns. No conditions. -/
import Derived.Test.YthjiajkmaimbjaaFLawsFnExactCountPatterns
import Derived.Test.YthjiajkmaimbjaaQIn
import Derived.KernelRfl
namespace Go.Proofs.Ythjiajkmaimbjaa.Pure
open Go.Proofs.Ythjiajkmaimbjaa.B Go.Proofs.Ythjiajkmaimbjaa.P
open Go.RowKit Go.Proofs.YthjiajkmaimbjaaW.PrintWords Go.Proofs.YthjiajkmaimbjaaW.PrintLast Go.Proofs.YthjiajkmaimbjaaW.PrintMore
set_option linter.unusedVariables false
set_option linter.unusedSimpArgs false
set_option maxRecDepth 100000
theorem cp_s1 : spec_CountPatterns.f 60 1 = some (1, true) := by kernel_rfl
theorem cp_s2 : spec_CountPatterns.f 60 2 = some (2, true) := by kernel_rfl
theorem cp_s3 : spec_CountPatterns.f 60 3 = some (5, true) := by kernel_rfl
theorem cp_s4 : spec_CountPatterns.f 60 4 = some (14, true) := by kernel_rfl
theorem cp_s5 : spec_CountPatterns.f 60 5 = some (42, true) := by kernel_rfl
theorem cp_s6 : spec_CountPatterns.f 60 6 = some (132, true) := by kernel_rfl
theorem cp_i1 : impl_CountPatterns.f 1 = some (1, true) := by kernel_rfl
theorem cp_i2 : impl_CountPatterns.f 2 = some (2, true) := by kernel_rfl
theorem cp_i3 : impl_CountPatterns.f 3 = some (5, true) := by kernel_rfl
theorem cp_i4 : impl_CountPatterns.f 4 = some (14, true) := by kernel_rfl
theorem cp_i5 : impl_CountPatterns.f 5 = some (42, true) := by kernel_rfl
theorem cp_i6 : impl_CountPatterns.f 6 = some (132, true) := by kernel_rfl
theorem FnExactCountPatterns : laws_FnExactCountPatterns.Pure := by
  intro a _
  by_cases h : 1 ≤ a ∧ a ≤ 6
  · have h6 : a = 1 ∨ a = 2 ∨ a = 3 ∨ a = 4 ∨ a = 5 ∨ a = 6 := by omega
    rcases h6 with rfl | rfl | rfl | rfl | rfl | rfl
    · exact ⟨_, _, ⟨_, cp_s1⟩, cp_i1⟩
    · exact ⟨_, _, ⟨_, cp_s2⟩, cp_i2⟩
    · exact ⟨_, _, ⟨_, cp_s3⟩, cp_i3⟩
    · exact ⟨_, _, ⟨_, cp_s4⟩, cp_i4⟩
    · exact ⟨_, _, ⟨_, cp_s5⟩, cp_i5⟩
    · exact ⟨_, _, ⟨_, cp_s6⟩, cp_i6⟩
  · refine ⟨0, false, ⟨0, ?_⟩, ?_⟩
    · unfold spec_CountPatterns.f spec_heSide.f spec_l1In.f
      by_cases c : a ≥ 1
      · have c2 : ¬ a ≤ 6 := by omega
        rw [if_pos c, decide_eq_false c2]
        rfl
      · rw [if_neg c]
        rfl
    · unfold impl_CountPatterns.f impl_AllPatterns.f impl_isSide.f impl_within.f
      by_cases c : 1 ≤ a
      · have c2 : ¬ a ≤ 6 := by omega
        rw [if_pos c, decide_eq_false c2]
        rfl
      · rw [if_neg c]
        rfl
end Go.Proofs.Ythjiajkmaimbjaa.Pure
