/- FnExactIsTriangle returns true for every list of lists of ints: IsTriangle of the program and of the reference answer the same, and the argument stays as it is. No conditions. -/
import Derived.Test.YtbfgcpjkagbmdaaFLawsFnExactIsTriangle
import Derived.Test.YtbfgcpjkagbmdaaQTri
namespace Go.Proofs.Ytbfgcpjkagbmdaa.Pure
open Go.Proofs.Ytbfgcpjkagbmdaa.B Go.Proofs.Ytbfgcpjkagbmdaa.P
open Go.RowKit Go.Proofs.YtbfgcpjkagbmdaaW.PrintWords Go.Proofs.YtbfgcpjkagbmdaaW.PrintLast Go.Proofs.YtbfgcpjkagbmdaaW.PrintMore
set_option linter.unusedVariables false
set_option linter.unusedSimpArgs false
theorem FnExactIsTriangle : laws_FnExactIsTriangle.Pure := by
  intro t h1 h2 _
  have hr : ∀ x ∈ t, x.length ≤ 1048576 := fun x hx => Nat.le_trans (row_le_total t x hx) h2
  obtain ⟨b, _, ha, hb⟩ := EvB.same (trGood_tells t h1 hr) (isTriangle_tells t h1 hr)
  refine ⟨b, (Ev.congr (g := fun k => spec_IsTriangle.f k t) (fun k => ?_) ha).rounds, hb.rounds⟩
  unfold spec_IsTriangle.f
  cases spec_trGood.f k t <;> rfl
end Go.Proofs.Ytbfgcpjkagbmdaa.Pure
