/- FnExactFlipDistance returns true for every two tables: program and reference measure alike. No conditions. -/
import Derived.Test.YtfoidmoiedokjaaFLawsFnExactFlipDistance
import Derived.Test.YtfoidmoiedokjaaQDist
import Derived.Test.YtfoidmoiedokjaaQSign
namespace Go.Proofs.Ytfoidmoiedokjaa.Pure
open Go.Proofs.Ytfoidmoiedokjaa.B Go.Proofs.Ytfoidmoiedokjaa.P
open Go.RowKit Go.Proofs.YtfoidmoiedokjaaW.PrintWords Go.Proofs.YtfoidmoiedokjaaW.PrintLast Go.Proofs.YtfoidmoiedokjaaW.PrintMore
set_option linter.unusedVariables false
set_option linter.unusedSimpArgs false
theorem FnExactFlipDistance : laws_FnExactFlipDistance.Pure := by
  intro m k hm _ _ hk _ _
  have h : EvP (fun _ => True) (fun n => spec_FlipDistance.f n m k) (fun n => impl_FlipDistance.f n m k) := by
    unfold spec_FlipDistance.f impl_FlipDistance.f
    refine pair_start m k hm hk _ trivial (fun g => ?_)
    obtain ⟨g1, g2, hl⟩ := g
    have h6 := g1.1.2.1
    have s1 := small_ht g1
    have s2 := small_ht g2
    rw [← hl] at s2
    refine ⟨_, trivial, Ev.bind (ev_heOf m g1.1) (Ev.bind (ev_heOf k g2.1) (Ev.bind (ev_heApart _ _ _ (by omega) s1 s2) (Ev.now _))), ?_⟩
    unfold impl_distance.f
    exact Ev.bind (Ev.bind (ev_heights m g1.1) (Ev.bind (ev_heights k g2.1) (ev_distance _ _ _ (by omega) s1 s2))) (Ev.now _)
  obtain ⟨b, _, e1, e2⟩ := h
  exact ⟨b.1, b.2, e1.rounds, e2.rounds⟩
end Go.Proofs.Ytfoidmoiedokjaa.Pure
