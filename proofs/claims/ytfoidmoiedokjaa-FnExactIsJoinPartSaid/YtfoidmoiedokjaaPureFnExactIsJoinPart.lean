/- FnExactIsJoinPart returns true for every table: program and reference answer alike. No conditions. -/
import Derived.Test.YtfoidmoiedokjaaFLawsFnExactIsJoinPart
import Derived.Test.YtfoidmoiedokjaaQWay
namespace Go.Proofs.Ytfoidmoiedokjaa.Pure
open Go.Proofs.Ytfoidmoiedokjaa.B Go.Proofs.Ytfoidmoiedokjaa.P
open Go.RowKit Go.Proofs.YtfoidmoiedokjaaW.PrintWords Go.Proofs.YtfoidmoiedokjaaW.PrintLast Go.Proofs.YtfoidmoiedokjaaW.PrintMore
set_option linter.unusedVariables false
set_option linter.unusedSimpArgs false
theorem FnExactIsJoinPart : laws_FnExactIsJoinPart.Pure := by
  intro m hm _ _
  have h : EvP (fun _ => True) (fun n => spec_IsJoinPart.f n m) (fun n => impl_IsJoinPart.f n m) := by
    unfold spec_IsJoinPart.f impl_IsJoinPart.f
    refine good_start m hm _ trivial (fun g => ?_)
    obtain ⟨T, hT, e1, e2⟩ := flips_both g false
    refine ⟨((T.length : Int) == 1, true), trivial, ?_, Ev.bind e2 (Ev.now _)⟩
    have e := Ev.bind e1 (f := fun _ b => some (((b.length : Int) == 1), true)) (Ev.now ((T.length : Int) == 1, true))
    refine Ev.congr (fun k => ?_) e
    cases spec_heOf.f k m with
    | none => rfl
    | some a => rfl
  obtain ⟨b, _, e1, e2⟩ := h
  exact ⟨b.1, b.2, e1.rounds, e2.rounds⟩
end Go.Proofs.Ytfoidmoiedokjaa.Pure
