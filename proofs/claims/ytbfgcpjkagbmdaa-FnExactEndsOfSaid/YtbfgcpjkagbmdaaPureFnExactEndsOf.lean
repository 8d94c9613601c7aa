/- FnExactEndsOf returns true for every int: EndsOf of the program and of the reference answer the same (the ends of a square's lines), in memory of its own. No conditions. -/
import Derived.Test.YtbfgcpjkagbmdaaFLawsFnExactEndsOf
import Derived.Test.YtbfgcpjkagbmdaaQIn
namespace Go.Proofs.Ytbfgcpjkagbmdaa.Pure
open Go.Proofs.Ytbfgcpjkagbmdaa.B Go.Proofs.Ytbfgcpjkagbmdaa.P
open Go.RowKit Go.Proofs.YtbfgcpjkagbmdaaW.PrintWords Go.Proofs.YtbfgcpjkagbmdaaW.PrintLast Go.Proofs.YtbfgcpjkagbmdaaW.PrintMore
set_option linter.unusedVariables false
set_option linter.unusedSimpArgs false
theorem FnExactEndsOf : laws_FnExactEndsOf.Pure := by
  intro a0 _
  by_cases h1 : 1 ≤ a0 ∧ a0 ≤ 6
  · have h2 : a0 = 1 ∨ a0 = 2 ∨ a0 = 3 ∨ a0 = 4 ∨ a0 = 5 ∨ a0 = 6 := by omega
    rcases h2 with rfl | rfl | rfl | rfl | rfl | rfl
    · exact ⟨((spec_EndsOf.f 80 1).getD ([], false)).1, true, ⟨80, by decide +kernel⟩, ⟨80, by decide +kernel⟩, by decide +kernel⟩
    · exact ⟨((spec_EndsOf.f 80 2).getD ([], false)).1, true, ⟨80, by decide +kernel⟩, ⟨80, by decide +kernel⟩, by decide +kernel⟩
    · exact ⟨((spec_EndsOf.f 80 3).getD ([], false)).1, true, ⟨80, by decide +kernel⟩, ⟨80, by decide +kernel⟩, by decide +kernel⟩
    · exact ⟨((spec_EndsOf.f 80 4).getD ([], false)).1, true, ⟨80, by decide +kernel⟩, ⟨80, by decide +kernel⟩, by decide +kernel⟩
    · exact ⟨((spec_EndsOf.f 80 5).getD ([], false)).1, true, ⟨80, by decide +kernel⟩, ⟨80, by decide +kernel⟩, by decide +kernel⟩
    · exact ⟨((spec_EndsOf.f 80 6).getD ([], false)).1, true, ⟨80, by decide +kernel⟩, ⟨80, by decide +kernel⟩, by decide +kernel⟩
  · have hb : inB a0 1 6 = false := by
      rw [Bool.eq_false_iff]
      intro h
      exact h1 ((inB_iff _ _ _).mp h)
    refine ⟨[], false, ⟨1, ?_⟩, ⟨1, ?_⟩, by decide⟩
    · unfold spec_EndsOf.f spec_heSide.f
      rw [l1In_eq, hb]
      rfl
    · unfold impl_EndsOf.f
      rw [isSide_eq, hb]
      rfl
end Go.Proofs.Ytbfgcpjkagbmdaa.Pure
