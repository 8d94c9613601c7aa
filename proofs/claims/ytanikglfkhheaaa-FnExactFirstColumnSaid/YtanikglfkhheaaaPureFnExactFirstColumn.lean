/- FnExactFirstColumn returns true for every table: program and reference find the first row's 1 alike. No conditions. -/
import Derived.Test.YtanikglfkhheaaaFLawsFnExactFirstColumn
import Derived.Test.YtanikglfkhheaaaQSign
namespace Go.Proofs.Ytanikglfkhheaaa.Pure
open Go.Proofs.Ytanikglfkhheaaa.B Go.Proofs.Ytanikglfkhheaaa.P
open Go.RowKit Go.Proofs.YtanikglfkhheaaaW.PrintWords Go.Proofs.YtanikglfkhheaaaW.PrintLast Go.Proofs.YtanikglfkhheaaaW.PrintMore
set_option linter.unusedVariables false
set_option linter.unusedSimpArgs false
/-- A row whose sums stay 0 or 1 and end with 1 has its first number beside 0 within, and it is 1. -/
theorem first_one (l : List Int) (h : Alt l) : ∃ p : Nat, p < l.length ∧ (∀ j : Nat, j < p → rd l (j : Int) = 0) ∧ rd l (p : Int) = 1 := by
  have hz : ∀ n : Nat, (∀ j : Nat, j < n → rd l (j : Int) = 0) → ws l n = 0 := by
    intro n
    induction n with
    | zero => intro _; rfl
    | succ n ih =>
      intro hj
      simp only [ws]
      rw [ih (fun j hj' => hj j (by omega)), hj n (by omega)]
      exact wrapE _ (by omega) (by omega)
  have : ∀ n : Nat, n ≤ l.length → (∀ j : Nat, j < n → rd l (j : Int) = 0) ∨ ∃ p : Nat, p < n ∧ (∀ j : Nat, j < p → rd l (j : Int) = 0) ∧ rd l (p : Int) = 1 := by
    intro n
    induction n with
    | zero => intro _; exact Or.inl (fun j h => by omega)
    | succ n ih =>
      intro hn
      rcases ih (by omega) with h0 | ⟨p, hp, h1⟩
      · by_cases c : rd l (n : Int) = 0
        · exact Or.inl (fun j hj => by
            by_cases e : j = n
            · rw [e]; exact c
            · exact h0 j (by omega))
        · have h2 := h.1 n (by omega)
          have h3 := (inB_iff _ _ _).mp h2.1
          have h4 := (inB_iff _ _ _).mp h2.2
          simp only [ws] at h4
          rw [hz n h0, Int.zero_add, wrapE _ (by omega) (by omega)] at h4
          exact Or.inr ⟨n, by omega, h0, by omega⟩
      · exact Or.inr ⟨p, by omega, h1⟩
  rcases this l.length (Nat.le_refl _) with h0 | h1
  · have := h.2
    rw [hz _ h0] at this
    cases this
  · exact h1
theorem FnExactFirstColumn : laws_FnExactFirstColumn.Pure := by
  intro m hl _ _
  have h : EvP (fun _ => True) (fun k => spec_FirstColumn.f k m) (fun k => impl_FirstColumn.f k m) := by
    unfold spec_FirstColumn.f impl_FirstColumn.f
    refine good_start m hl _ trivial (fun g => ?_)
    have h1 := g.1.1
    have h6 := g.1.2.1
    obtain ⟨p, hp, hz, h1p⟩ := first_one _ (g.2.1 0 (by omega))
    have hr : (row m 0).length = m.length := g.1.row (by omega)
    rw [hr] at hp
    refine ⟨((p : Int), true), trivial, ?_, ?_⟩
    · refine Ev.thru (fun i k => spec_FirstColumn.l0 k m (i : Int)) p (fun i hi ih => ?_) ?_
      · refine Ev.succ ?_
        simp only [spec_FirstColumn.l0]
        rw [show rd_L1 m 0 = row m 0 from rfl, hr, wrapN i (by omega)]
        refine Ev.pos (by omega) (Ev.pos (by omega) (Ev.pos (by omega) (Ev.pos (hz i hi) ih)))
      · refine Ev.succ ?_
        simp only [spec_FirstColumn.l0]
        rw [show rd_L1 m 0 = row m 0 from rfl, hr]
        exact Ev.pos (by omega) (Ev.pos (by omega) (Ev.pos (by omega) (Ev.neg (by omega) (Ev.now _))))
    · refine Ev.pos (by omega) ?_
      rw [show rd_L1 m 0 = row m 0 from rfl]
      refine Ev.bind (a := (p : Int)) ?_ (Ev.now _)
      unfold slices_Index_int_int.f
      refine Ev.thru (fun i k => slices_Index_int_int.l0 k (row m 0) 1 ((row m 0).length : Int) (i : Int)) p (fun i hi ih => ?_) ?_
      · refine Ev.succ ?_
        simp only [slices_Index_int_int.l0]
        rw [wrapN i (by omega)]
        have := hz i hi
        refine Ev.pos (by omega) (Ev.pos (by omega) (Ev.pos (by omega) (Ev.neg (by omega) ih)))
      · refine Ev.succ ?_
        simp only [slices_Index_int_int.l0]
        exact Ev.pos (by omega) (Ev.pos (by omega) (Ev.pos (by omega) (Ev.pos (by omega) (Ev.now _))))
  obtain ⟨b, _, e1, e2⟩ := h
  exact ⟨b.1, b.2, e1.rounds, e2.rounds⟩
end Go.Proofs.Ytanikglfkhheaaa.Pure
