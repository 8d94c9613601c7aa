/- FnExactTurnMatrix returns true for every table: program and reference turn a sign matrix alike, in memory of their own. No conditions. -/
import Derived.Test.YtanikglfkhheaaaFLawsFnExactTurnMatrix
import Derived.Test.YtanikglfkhheaaaQSign
namespace Go.Proofs.Ytanikglfkhheaaa.Pure
open Go.Proofs.Ytanikglfkhheaaa.B Go.Proofs.Ytanikglfkhheaaa.P
open Go.RowKit Go.Proofs.YtanikglfkhheaaaW.PrintWords Go.Proofs.YtanikglfkhheaaaW.PrintLast Go.Proofs.YtanikglfkhheaaaW.PrintMore
set_option linter.unusedVariables false
set_option linter.unusedSimpArgs false
theorem ev_sgClockwise (m : List (List Int)) (h : Sq m) : Ev (fun k => spec_sgClockwise.f k m) (tabOf m.length m.length fun i j => gd m (m.length - 1 - j) i) := by
  unfold spec_sgClockwise.f
  have h6 := h.2.1
  refine Ev.bind (ev_sgTurn m h) ?_
  rw [turn_tab]
  have h1 := ev_sgMirror (tabOf m.length m.length fun i j => gd m j i) m.length (by omega) (tab_row_mem _ _ _) (by rw [tabOf_length]; omega)
  rw [tabOf_length] at h1
  refine Ev.bind h1 ?_
  have e : (tabOf m.length m.length fun i j => gd (tabOf m.length m.length fun i j => gd m j i) i (m.length - 1 - j)) = tabOf m.length m.length fun i j => gd m (m.length - 1 - j) i :=
    tabOf_congr (fun i hi j hj => tab_gd m.length m.length (fun i j => gd m j i) i (m.length - 1 - j) hi (by omega))
  rw [← e]
  exact Ev.now _
theorem FnExactTurnMatrix : laws_FnExactTurnMatrix.Pure := by
  intro m hl _ _
  have h : EvP (fun r => total r.1 ≤ 1048576 ∧ r.1.length ≤ 1048576) (fun k => spec_TurnMatrix.f k m) (fun k => impl_TurnMatrix.f k m) := by
    refine good_start m hl _ (by simp [total]) (fun g => ?_)
    have hi : impl_turned.f m = some (tabOf m.length m.length fun i j => gd m (m.length - 1 - j) i) := by
      unfold impl_turned.f
      rw [if_pos ⟨hl, g.1.2.2⟩]
    refine ⟨(tabOf m.length m.length fun i j => gd m (m.length - 1 - j) i, true), tab_small _ _ g.1.2.1, ?_, ?_⟩
    · exact Ev.bind (ev_sgClockwise m g.1) (Ev.now _)
    · exact Ev.const (by rw [hi]; rfl)
  obtain ⟨b, hb, e1, e2⟩ := h
  exact ⟨b.1, b.2, e1.rounds, e2.rounds, hb⟩
end Go.Proofs.Ytanikglfkhheaaa.Pure
