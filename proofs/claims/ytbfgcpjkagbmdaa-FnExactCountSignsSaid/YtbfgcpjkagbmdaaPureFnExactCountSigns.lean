/- FnExactCountSigns returns true for every int: CountSigns of the program and of the reference return the same. No conditions. -/
import Derived.Test.YtbfgcpjkagbmdaaPFnExactCountSignsx1
namespace Go.Proofs.Ytbfgcpjkagbmdaa.Pure
open Go.RowKit Go.Proofs.Ytbfgcpjkagbmdaa.PFnExactCountSigns Go.Proofs.YtbfgcpjkagbmdaaW.PrintWords Go.Proofs.YtbfgcpjkagbmdaaW.PrintLast

/-- YOURS: ∀ (a0 : Int), (Lit.int .i64 a0).wf = true → ∃ k, laws_FnExactCountSigns.f k a0 = some true
What it reaches (each with k first where it has rounds; `.mono`: more rounds tell the same; `.l0`, ..: its loops, with `.mono_l`): spec_l1In.f, spec_sgGcd.f, spec_CountSigns.f, impl_within.f, impl_product.f, impl_countSigns.f, impl_CountSigns.f, laws_FnExactCountSigns.f -/
theorem FnExactCountSigns : laws_FnExactCountSigns.Pure := by
  intro a0 _
  by_cases h1 : 1 ≤ a0 ∧ a0 ≤ 8
  · have h2 : a0 = 1 ∨ a0 = 2 ∨ a0 = 3 ∨ a0 = 4 ∨ a0 = 5 ∨ a0 = 6 ∨ a0 = 7 ∨ a0 = 8 := by omega
    rcases h2 with rfl | rfl | rfl | rfl | rfl | rfl | rfl | rfl
    all_goals exact ⟨120, by decide +kernel⟩
  · refine ⟨1, ?_⟩
    have hs : spec_CountSigns.f 1 a0 = some (0, false) := by
      unfold spec_CountSigns.f spec_l1In.f
      by_cases c : a0 ≥ 1
      · have d : ¬ a0 ≤ 8 := by omega
        simp [c, d]
      · simp [c]
    have hi : impl_CountSigns.f 1 a0 = some (0, false) := by
      unfold impl_CountSigns.f impl_within.f
      by_cases c : 1 ≤ a0
      · have d : ¬ a0 ≤ 8 := by omega
        simp [c, d]
      · simp [c]
    unfold laws_FnExactCountSigns.f
    rw [hs, hi]
    rfl

end Go.Proofs.Ytbfgcpjkagbmdaa.Pure
