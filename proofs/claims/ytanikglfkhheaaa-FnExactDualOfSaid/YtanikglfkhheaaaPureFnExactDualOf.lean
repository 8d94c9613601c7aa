/- FnExactDualOf returns true for every table: program and reference make the dual alike, in memory of their own. No conditions. -/
import Derived.Test.YtanikglfkhheaaaFLawsFnExactDualOf
import Derived.Test.YtanikglfkhheaaaQSign
namespace Go.Proofs.Ytanikglfkhheaaa.Pure
open Go.Proofs.Ytanikglfkhheaaa.B Go.Proofs.Ytanikglfkhheaaa.P
open Go.RowKit Go.Proofs.YtanikglfkhheaaaW.PrintWords Go.Proofs.YtanikglfkhheaaaW.PrintLast Go.Proofs.YtanikglfkhheaaaW.PrintMore
set_option linter.unusedVariables false
set_option linter.unusedSimpArgs false
theorem FnExactDualOf : laws_FnExactDualOf.Pure := by
  intro m hl _ _
  have h : EvP (fun r => total r.1 ≤ 1048576 ∧ r.1.length ≤ 1048576) (fun k => spec_DualOf.f k m) (fun k => impl_MirrorMatrix.f k m) := by
    unfold spec_DualOf.f impl_MirrorMatrix.f
    refine good_start m hl _ (by simp [total]) (fun g => ?_)
    have hi : impl_mirrored.f m = some (tabOf m.length m.length fun i j => gd m i (m.length - 1 - j)) := by
      unfold impl_mirrored.f
      rw [if_pos ⟨hl, g.1.2.2⟩]
    refine ⟨(tabOf m.length m.length fun i j => gd m i (m.length - 1 - j), true), tab_small _ _ g.1.2.1, ?_, ?_⟩
    · exact Ev.bind (ev_sgMirror m m.length hl g.1.2.2 hl) (Ev.now _)
    · exact Ev.const (by rw [hi]; rfl)
  obtain ⟨b, hb, e1, e2⟩ := h
  exact ⟨b.1, b.2, e1.rounds, (show Ev (fun k => impl_DualOf.f k m) (b.1, b.2) from Ev.bind e2 (Ev.now _)).rounds, hb⟩
end Go.Proofs.Ytanikglfkhheaaa.Pure
