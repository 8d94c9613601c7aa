/- The first place of a number in a list; whether a list has one. -/
import Derived.Test.YthjiajkmaimbjaaQIn
import Derived.Test.YthjiajkmaimbjaaFSlicesIndexIntInt
import Derived.Test.YthjiajkmaimbjaaFSlicesContainsIntInt
namespace Go.Proofs.Ythjiajkmaimbjaa.Pure
open Go.Proofs.Ythjiajkmaimbjaa.B Go.Proofs.Ythjiajkmaimbjaa.P
open Go.RowKit Go.Proofs.YthjiajkmaimbjaaW.PrintWords Go.Proofs.YthjiajkmaimbjaaW.PrintLast Go.Proofs.YthjiajkmaimbjaaW.PrintMore
set_option linter.unusedVariables false
set_option linter.unusedSimpArgs false
theorem ev_index (l : List Int) (v : Int) (hl : l.length ≤ 1048576) : ∃ r : Int, Ev (fun k => slices_Index_int_int.f k l v) r ∧ ((0 ≤ r ∧ v ∈ l ∧ r < l.length ∧ rd l r = v ∧ ∀ j : Nat, (j : Int) < r → rd l (j : Int) ≠ v) ∨ (r = -1 ∧ v ∉ l)) := by
  unfold slices_Index_int_int.f
  suffices h : ∀ (d i : Nat), i + d = l.length → (∀ j, j < i → rd l (j : Int) ≠ v) → ∃ r : Int, Ev (fun k => slices_Index_int_int.l0 k l v (l.length : Int) (i : Int)) r ∧ ((0 ≤ r ∧ v ∈ l ∧ r < l.length ∧ rd l r = v ∧ ∀ j : Nat, (j : Int) < r → rd l (j : Int) ≠ v) ∨ (r = -1 ∧ v ∉ l)) from h l.length 0 (by omega) (fun j hj => by omega)
  intro d
  induction d with
  | zero =>
    intro i hi hb
    refine ⟨-1, Ev.succ ?_, .inr ⟨rfl, fun hm => ?_⟩⟩
    · simp only [slices_Index_int_int.l0]
      exact Ev.neg (by omega) (Ev.now _)
    · obtain ⟨j, hj, rfl⟩ := List.mem_iff_getElem.mp hm
      have := hb j (by omega)
      rw [rd_get l j hj] at this
      exact this rfl
  | succ d ih =>
    intro i hi hb
    have hil : i < l.length := by omega
    by_cases e : v = rd l (i : Int)
    · refine ⟨(i : Int), Ev.succ ?_, .inl ⟨by omega, ?_, by omega, e.symm, fun j hj => hb j (by omega)⟩⟩
      · simp only [slices_Index_int_int.l0]
        exact Ev.pos (by omega) (Ev.pos (by omega) (Ev.pos (by omega) (Ev.pos e (Ev.now _))))
      · rw [e]; exact rd_mem l i hil
    · obtain ⟨r, h1, h2⟩ := ih (i + 1) (by omega) (fun j hj => by
        by_cases c : j = i
        · subst c; exact fun x => e x.symm
        · exact hb j (by omega))
      refine ⟨r, Ev.succ ?_, h2⟩
      simp only [slices_Index_int_int.l0]
      rw [wrapN i (by omega)]
      exact Ev.pos (by omega) (Ev.pos (by omega) (Ev.pos (by omega) (Ev.neg e h1)))
theorem ev_contains (l : List Int) (v : Int) (hl : l.length ≤ 1048576) : Ev (fun k => slices_Contains_int_int.f k l v) (decide (v ∈ l)) := by
  obtain ⟨r, h1, h2⟩ := ev_index l v hl
  unfold slices_Contains_int_int.f
  refine Ev.bind h1 ?_
  rcases h2 with ⟨h3, h4, _⟩ | ⟨h3, h4⟩
  · rw [decide_eq_true h4, decide_eq_true (show r ≥ 0 from h3)]
    exact Ev.now _
  · rw [decide_eq_false h4, decide_eq_false (show ¬ r ≥ 0 by omega)]
    exact Ev.now _
end Go.Proofs.Ythjiajkmaimbjaa.Pure
