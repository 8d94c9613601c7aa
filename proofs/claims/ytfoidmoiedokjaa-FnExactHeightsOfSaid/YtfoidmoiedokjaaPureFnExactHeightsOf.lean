/- FnExactHeightsOf returns true for every table: program and reference make the heights alike, in memory of their own. No conditions. -/
import Derived.Test.YtfoidmoiedokjaaFLawsFnExactHeightsOf
import Derived.Test.YtfoidmoiedokjaaQHeight
namespace Go.Proofs.Ytfoidmoiedokjaa.Pure
open Go.Proofs.Ytfoidmoiedokjaa.B Go.Proofs.Ytfoidmoiedokjaa.P
open Go.RowKit Go.Proofs.YtfoidmoiedokjaaW.PrintWords Go.Proofs.YtfoidmoiedokjaaW.PrintLast Go.Proofs.YtfoidmoiedokjaaW.PrintMore
set_option linter.unusedVariables false
set_option linter.unusedSimpArgs false
theorem FnExactHeightsOf : laws_FnExactHeightsOf.Pure := by
  intro m hl _ _
  have h : EvP (fun r => total r.1 ≤ 1048576 ∧ r.1.length ≤ 1048576) (fun k => spec_HeightsOf.f k m) (fun k => impl_HeightsOf.f k m) := by
    refine good_start m hl _ (by simp [total]) (fun g => ?_)
    have h6 := g.1.2.1
    refine ⟨(htT m, true), ?_, Ev.bind (ev_heOf m g.1) (Ev.now _), Ev.bind (ev_heights m g.1) (Ev.now _)⟩
    show total (htT m) ≤ 1048576 ∧ (htT m).length ≤ 1048576
    unfold htT
    rw [total_tab, tabOf_length]
    have : (m.length + 1) * (m.length + 1) ≤ 7 * 7 := Nat.mul_le_mul (by omega) (by omega)
    omega
  obtain ⟨b, hb, e1, e2⟩ := h
  exact ⟨b.1, b.2, e1.rounds, e2.rounds, hb⟩
end Go.Proofs.Ytfoidmoiedokjaa.Pure
