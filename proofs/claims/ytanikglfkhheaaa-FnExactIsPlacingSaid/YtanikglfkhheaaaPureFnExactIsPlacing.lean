/- FnExactIsPlacing returns true for every table: program and reference tell placings alike. No conditions. -/
import Derived.Test.YtanikglfkhheaaaFLawsFnExactIsPlacing
import Derived.Test.YtanikglfkhheaaaQMinus
namespace Go.Proofs.Ytanikglfkhheaaa.Pure
open Go.Proofs.Ytanikglfkhheaaa.B Go.Proofs.Ytanikglfkhheaaa.P
open Go.RowKit Go.Proofs.YtanikglfkhheaaaW.PrintWords Go.Proofs.YtanikglfkhheaaaW.PrintLast Go.Proofs.YtanikglfkhheaaaW.PrintMore
set_option linter.unusedVariables false
set_option linter.unusedSimpArgs false
theorem FnExactIsPlacing : laws_FnExactIsPlacing.Pure := by
  intro m hl _ _
  obtain ⟨b, hb, h1, h2⟩ := good_both m hl
  have h : ∃ r : Bool × Bool, Ev (fun k => spec_IsPlacing.f k m) r ∧ Ev (fun k => impl_IsPlacing.f k m) r := by
    unfold spec_IsPlacing.f impl_IsPlacing.f impl_MinusOnes.f
    cases b with
    | false =>
      exact ⟨_, Ev.bind h1 (Ev.neg (by decide) (Ev.now _)), Ev.bind (Ev.bind h2 (Ev.neg (by decide) (Ev.now _))) (Ev.neg (by decide) (Ev.now _))⟩
    | true =>
      have g := hb.mp rfl
      exact ⟨_, Ev.bind h1 (Ev.pos rfl (Ev.bind (ev_sgMinus m g.1) (Ev.now _))), Ev.bind (Ev.bind h2 (Ev.pos rfl (Ev.bind (ev_countOf m g) (Ev.now _)))) (Ev.pos rfl (Ev.now _))⟩
  obtain ⟨b, e1, e2⟩ := h
  exact ⟨b.1, b.2, e1.rounds, e2.rounds⟩
end Go.Proofs.Ytanikglfkhheaaa.Pure
