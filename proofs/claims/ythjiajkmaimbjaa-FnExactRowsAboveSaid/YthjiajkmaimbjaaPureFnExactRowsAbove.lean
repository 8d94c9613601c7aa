/- FnExactRowsAbove returns true for every list of numbers: program and reference answer alike, in memory of their own. No conditions. -/
import Derived.Test.YthjiajkmaimbjaaFLawsFnExactRowsAbove
import Derived.Test.YthjiajkmaimbjaaQAbove
namespace Go.Proofs.Ythjiajkmaimbjaa.Pure
open Go.Proofs.Ythjiajkmaimbjaa.B Go.Proofs.Ythjiajkmaimbjaa.P
open Go.RowKit Go.Proofs.YthjiajkmaimbjaaW.PrintWords Go.Proofs.YthjiajkmaimbjaaW.PrintLast Go.Proofs.YthjiajkmaimbjaaW.PrintMore
set_option linter.unusedVariables false
set_option linter.unusedSimpArgs false
theorem FnExactRowsAbove : laws_FnExactRowsAbove.Pure := by
  intro l hl _
  obtain ⟨b, hb, e1, e2⟩ := row_both l hl
  have key : ∃ r : List (List Int) × Bool, Ev (fun k => spec_RowsAbove.f k l) r ∧ Ev (fun k => impl_RowsAbove.f k l) r ∧ total r.1 ≤ 1048576 ∧ r.1.length ≤ 1048576 := by
    unfold spec_RowsAbove.f impl_RowsAbove.f
    cases b with
    | false => exact ⟨([], false), Ev.bind e1 (Ev.neg (by decide) (Ev.now _)), Ev.bind e2 (Ev.neg (by decide) (Ev.now _)), by simp [total], by simp⟩
    | true =>
      have h := hb.mp rfl
      by_cases c : l.length = 1
      · have ei : impl_above.f l = some [] := by unfold impl_above.f; rw [if_pos h.ok, if_pos c]
        exact ⟨([], true), Ev.bind e1 (Ev.pos rfl (Ev.pos (by omega) (Ev.now _))), Ev.bind e2 (Ev.pos rfl (Ev.bind0 ei (Ev.now _))), by simp [total], by simp⟩
      · have ei : impl_above.f l = some (abvL l (l.length - 1) []) := by unfold impl_above.f; rw [if_pos h.ok, if_neg c]
        have hs := abvL_small h
        exact ⟨(abvL l (l.length - 1) [], true), Ev.bind e1 (Ev.pos rfl (Ev.neg (by omega) (Ev.bind (ev_trAbove h (l.length - 1) [] (by have := h.1; simp; omega)) (Ev.now _)))), Ev.bind e2 (Ev.pos rfl (Ev.bind0 ei (Ev.now _))), hs.2, Nat.le_trans hs.1 (by decide)⟩
  obtain ⟨r, h1, h2, h3, h4⟩ := key
  exact ⟨r.1, r.2, h1.rounds, h2.rounds, h3, h4⟩
end Go.Proofs.Ythjiajkmaimbjaa.Pure
