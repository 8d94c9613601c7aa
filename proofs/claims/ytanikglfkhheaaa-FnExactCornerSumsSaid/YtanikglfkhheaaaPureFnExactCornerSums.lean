/- FnExactCornerSums returns true for every table: program and reference make the corner sums alike, in memory of their own. No conditions. -/
import Derived.Test.YtanikglfkhheaaaFLawsFnExactCornerSums
import Derived.Test.YtanikglfkhheaaaQHeight
namespace Go.Proofs.Ytanikglfkhheaaa.Pure
open Go.Proofs.Ytanikglfkhheaaa.B Go.Proofs.Ytanikglfkhheaaa.P
open Go.RowKit Go.Proofs.YtanikglfkhheaaaW.PrintWords Go.Proofs.YtanikglfkhheaaaW.PrintLast Go.Proofs.YtanikglfkhheaaaW.PrintMore
set_option linter.unusedVariables false
set_option linter.unusedSimpArgs false
theorem FnExactCornerSums : laws_FnExactCornerSums.Pure := by
  intro m hl _ _
  have h : EvP (fun r => total r.1 ≤ 1048576 ∧ r.1.length ≤ 1048576) (fun k => spec_CornerSums.f k m) (fun k => impl_CornerSums.f k m) := by
    refine good_start m hl _ (by simp [total]) (fun g => ?_)
    refine ⟨(tabOf m.length m.length fun i j => wrap64 (cornZ m (i + 1) (j + 1)), true), tab_small _ _ g.1.2.1, ?_, ?_⟩
    · exact Ev.bind (ev_sgCorners m g.1) (Ev.now _)
    · refine Ev.pos hl ?_
      exact Ev.bind (ev_tabR (fun i hi j hj => ev_cornerSum m g.1 i j hi hj)) (Ev.now _)
  obtain ⟨b, hb, e1, e2⟩ := h
  exact ⟨b.1, b.2, e1.rounds, e2.rounds, hb⟩
end Go.Proofs.Ytanikglfkhheaaa.Pure
