/- FnExactNextSigns returns true for every table: program and reference hand back the same next sign matrix, in memory of its own, or none. No conditions. -/
import Derived.Test.YtadepmjfhcmkoaaFLawsFnExactNextSigns
import Derived.Test.YtadepmjfhcmkoaaQPath
namespace Go.Proofs.Ytadepmjfhcmkoaa.Pure
open Go.Proofs.Ytadepmjfhcmkoaa.B Go.Proofs.Ytadepmjfhcmkoaa.P
open Go.RowKit Go.Proofs.YtadepmjfhcmkoaaW.PrintWords Go.Proofs.YtadepmjfhcmkoaaW.PrintLast Go.Proofs.YtadepmjfhcmkoaaW.PrintMore
set_option linter.unusedVariables false
set_option linter.unusedSimpArgs false
theorem FnExactNextSigns : laws_FnExactNextSigns.Pure := by
  intro m hl _ _
  rcases rank_both m hl with ⟨g, h1, h2⟩ | ⟨_, h1, h2⟩
  · have hr := rk_le g m.length 0 (by omega)
    have hW := W_small g.1.2.1 g.1.2.1 (sm m 0)
    have e : wrap64 ((rk m m.length 0 : Int) + 1) = (rk m m.length 0 : Int) + 1 := wrapE _ (by omega) (by omega)
    obtain ⟨r, b, k1, k2, k3, k4⟩ := at_both (m.length : Int) ((rk m m.length 0 : Int) + 1) (by omega)
    refine ⟨r, b, ?_, ?_, k3, k4⟩
    · refine Ev.rounds (g := fun k => spec_NextSigns.f k m) ?_
      unfold spec_NextSigns.f
      refine Ev.bind h1 (Ev.pos rfl ?_)
      rw [e]
      exact Ev.bind k1 (Ev.now _)
    · refine Ev.rounds (g := fun k => impl_NextSigns.f k m) ?_
      unfold impl_NextSigns.f
      refine Ev.bind h2 (Ev.pos rfl ?_)
      rw [e]
      exact Ev.bind k2 (Ev.now _)
  · refine ⟨[], false, ?_, ?_, by decide, by decide⟩
    · refine Ev.rounds (g := fun k => spec_NextSigns.f k m) ?_
      unfold spec_NextSigns.f
      exact Ev.bind h1 (Ev.neg (by decide) (Ev.now _))
    · refine Ev.rounds (g := fun k => impl_NextSigns.f k m) ?_
      unfold impl_NextSigns.f
      exact Ev.bind h2 (Ev.neg (by decide) (Ev.now _))
end Go.Proofs.Ytadepmjfhcmkoaa.Pure
