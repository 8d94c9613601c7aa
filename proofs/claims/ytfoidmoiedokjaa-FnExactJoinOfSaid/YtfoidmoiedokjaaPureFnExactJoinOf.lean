/- FnExactJoinOf returns true for every two tables: program and reference answer alike, in memory of their own. No conditions. -/
import Derived.Test.YtfoidmoiedokjaaFLawsFnExactJoinOf
import Derived.Test.YtfoidmoiedokjaaQMix
namespace Go.Proofs.Ytfoidmoiedokjaa.Pure
open Go.Proofs.Ytfoidmoiedokjaa.B Go.Proofs.Ytfoidmoiedokjaa.P
open Go.RowKit Go.Proofs.YtfoidmoiedokjaaW.PrintWords Go.Proofs.YtfoidmoiedokjaaW.PrintLast Go.Proofs.YtfoidmoiedokjaaW.PrintMore
set_option linter.unusedVariables false
set_option linter.unusedSimpArgs false
theorem FnExactJoinOf : laws_FnExactJoinOf.Pure := by
  intro m k hm _ _ hk _ _
  have h : EvP (fun r => total r.1 ≤ 1048576 ∧ r.1.length ≤ 1048576) (fun n => spec_JoinOf.f n m k) (fun n => impl_JoinOf.f n m k) := by
    unfold spec_JoinOf.f impl_JoinOf.f
    refine pair_start m k hm hk _ (by simp [total]) (fun g => ?_)
    obtain ⟨T, hT, e1, e2⟩ := mix_both g false mx (fun x y => by
      unfold mx
      by_cases c : x < y
      · simp [c]; try omega
      · simp [c]; try omega)
    exact ⟨(T, true), hT, e1, e2⟩
  obtain ⟨b, hb, e1, e2⟩ := h
  exact ⟨b.1, b.2, e1.rounds, e2.rounds, hb⟩
end Go.Proofs.Ytfoidmoiedokjaa.Pure
