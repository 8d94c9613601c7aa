/- FnExactMinusOnes returns true for every table: program and reference count the numbers -1 alike. No conditions. -/
import Derived.Test.YtanikglfkhheaaaFLawsFnExactMinusOnes
import Derived.Test.YtanikglfkhheaaaQMinus
namespace Go.Proofs.Ytanikglfkhheaaa.Pure
open Go.Proofs.Ytanikglfkhheaaa.B Go.Proofs.Ytanikglfkhheaaa.P
open Go.RowKit Go.Proofs.YtanikglfkhheaaaW.PrintWords Go.Proofs.YtanikglfkhheaaaW.PrintLast Go.Proofs.YtanikglfkhheaaaW.PrintMore
set_option linter.unusedVariables false
set_option linter.unusedSimpArgs false
theorem FnExactMinusOnes : laws_FnExactMinusOnes.Pure := by
  intro m hl _ _
  have h : EvP (fun _ => True) (fun k => spec_MinusOnes.f k m) (fun k => impl_MinusOnes.f k m) := by
    refine good_start m hl _ trivial (fun g => ?_)
    exact EvP.bind (ev_sgMinus m g.1) (ev_countOf m g) (EvP.now _ trivial)
  obtain ⟨b, _, e1, e2⟩ := h
  exact ⟨b.1, b.2, e1.rounds, e2.rounds⟩
end Go.Proofs.Ytanikglfkhheaaa.Pure
