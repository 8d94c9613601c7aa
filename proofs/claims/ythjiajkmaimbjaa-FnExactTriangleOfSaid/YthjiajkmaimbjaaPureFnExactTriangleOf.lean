/- FnExactTriangleOf returns true for every table: program and reference answer alike, in memory of their own. No conditions. -/
import Derived.Test.YthjiajkmaimbjaaFLawsFnExactTriangleOf
import Derived.Test.YthjiajkmaimbjaaQTriOf
namespace Go.Proofs.Ythjiajkmaimbjaa.Pure
open Go.Proofs.Ythjiajkmaimbjaa.B Go.Proofs.Ythjiajkmaimbjaa.P
open Go.RowKit Go.Proofs.YthjiajkmaimbjaaW.PrintWords Go.Proofs.YthjiajkmaimbjaaW.PrintLast Go.Proofs.YthjiajkmaimbjaaW.PrintMore
set_option linter.unusedVariables false
set_option linter.unusedSimpArgs false
theorem FnExactTriangleOf : laws_FnExactTriangleOf.Pure := by
  intro m hl _ _
  have h : EvP (fun r => total r.1 ≤ 1048576 ∧ r.1.length ≤ 1048576) (fun k => spec_TriangleOf.f k m) (fun k => impl_TriangleOf.f k m) := by
    refine good_start m hl _ (by simp [total]) (fun g => ?_)
    exact ⟨(triT m, true), triT_small m g.1.2.1, Ev.bind (ev_trOf m g.1) (Ev.now _), Ev.bind (ev_triangle m g.1) (Ev.now _)⟩
  obtain ⟨b, hb, e1, e2⟩ := h
  exact ⟨b.1, b.2, e1.rounds, e2.rounds, hb⟩
end Go.Proofs.Ythjiajkmaimbjaa.Pure
