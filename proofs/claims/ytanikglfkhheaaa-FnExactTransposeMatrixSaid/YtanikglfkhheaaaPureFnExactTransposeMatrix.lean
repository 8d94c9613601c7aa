/- FnExactTransposeMatrix returns true for every table: program and reference exchange rows and columns alike, in memory of their own. No conditions. -/
import Derived.Test.YtanikglfkhheaaaFLawsFnExactTransposeMatrix
import Derived.Test.YtanikglfkhheaaaQSign
namespace Go.Proofs.Ytanikglfkhheaaa.Pure
open Go.Proofs.Ytanikglfkhheaaa.B Go.Proofs.Ytanikglfkhheaaa.P
open Go.RowKit Go.Proofs.YtanikglfkhheaaaW.PrintWords Go.Proofs.YtanikglfkhheaaaW.PrintLast Go.Proofs.YtanikglfkhheaaaW.PrintMore
set_option linter.unusedVariables false
set_option linter.unusedSimpArgs false
theorem FnExactTransposeMatrix : laws_FnExactTransposeMatrix.Pure := by
  intro m hl _ _
  have h : EvP (fun r => total r.1 ≤ 1048576 ∧ r.1.length ≤ 1048576) (fun k => spec_TransposeMatrix.f k m) (fun k => impl_TransposeMatrix.f k m) := by
    refine good_start m hl _ (by simp [total]) (fun g => ?_)
    have hi : impl_transposed.f m = some (tabOf m.length m.length fun i j => gd m j i) := by
      unfold impl_transposed.f
      rw [if_pos ⟨hl, g.1.2.2⟩]
    refine ⟨(tabOf m.length m.length fun i j => gd m j i, true), tab_small _ _ g.1.2.1, ?_, ?_⟩
    · exact Ev.bind (ev_sgTurn m g.1) (Ev.now _)
    · exact Ev.const (by rw [hi]; rfl)
  obtain ⟨b, hb, e1, e2⟩ := h
  exact ⟨b.1, b.2, e1.rounds, e2.rounds, hb⟩
end Go.Proofs.Ytanikglfkhheaaa.Pure
