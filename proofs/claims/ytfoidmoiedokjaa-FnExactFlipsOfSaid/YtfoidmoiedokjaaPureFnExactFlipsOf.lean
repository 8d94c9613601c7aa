/- FnExactFlipsOf returns true for every table and every direction: program and reference list the same cells, in memory of their own. No conditions. -/
import Derived.Test.YtfoidmoiedokjaaFLawsFnExactFlipsOf
import Derived.Test.YtfoidmoiedokjaaQWay
namespace Go.Proofs.Ytfoidmoiedokjaa.Pure
open Go.Proofs.Ytfoidmoiedokjaa.B Go.Proofs.Ytfoidmoiedokjaa.P
open Go.RowKit Go.Proofs.YtfoidmoiedokjaaW.PrintWords Go.Proofs.YtfoidmoiedokjaaW.PrintLast Go.Proofs.YtfoidmoiedokjaaW.PrintMore
set_option linter.unusedVariables false
set_option linter.unusedSimpArgs false
theorem FnExactFlipsOf : laws_FnExactFlipsOf.Pure := by
  intro m up hm _ _
  have h : EvP (fun r => total r.1 ≤ 1048576 ∧ r.1.length ≤ 1048576) (fun n => spec_FlipsOf.f n m up) (fun n => impl_FlipsOf.f n m up) := by
    unfold spec_FlipsOf.f impl_FlipsOf.f
    refine good_start m hm _ (by simp [total]) (fun g => ?_)
    obtain ⟨T, hT, e1, e2⟩ := flips_both g up
    refine ⟨(T, true), ⟨by have := hT.1; have := hT.2; show total T ≤ _; omega, by have := hT.1; show T.length ≤ _; omega⟩, ?_, Ev.bind e2 (Ev.now _)⟩
    cases up with
    | true =>
      refine Ev.pos rfl ?_
      have e := Ev.bind e1 (f := fun _ b => some (b, true)) (Ev.now (T, true))
      refine Ev.congr (fun k => ?_) e
      cases spec_heOf.f k m with
      | none => rfl
      | some a => rfl
    | false =>
      refine Ev.neg (by decide) ?_
      have e := Ev.bind e1 (f := fun _ b => some (b, true)) (Ev.now (T, true))
      refine Ev.congr (fun k => ?_) e
      cases spec_heOf.f k m with
      | none => rfl
      | some a => rfl
  obtain ⟨b, hb, e1, e2⟩ := h
  exact ⟨b.1, b.2, e1.rounds, e2.rounds, hb⟩
end Go.Proofs.Ytfoidmoiedokjaa.Pure
