/- FnExactTurnPattern returns true for every list of ints and every int: TurnPattern of the program and of the reference answer the same, in memory of its own, and the argument stays as it is. No conditions. -/
import Derived.Test.YtbfgcpjkagbmdaaFLawsFnExactTurnPattern
import Derived.Test.YtbfgcpjkagbmdaaQPat
namespace Go.Proofs.Ytbfgcpjkagbmdaa.Pure
open Go.Proofs.Ytbfgcpjkagbmdaa.B Go.Proofs.Ytbfgcpjkagbmdaa.P
open Go.RowKit Go.Proofs.YtbfgcpjkagbmdaaW.PrintWords Go.Proofs.YtbfgcpjkagbmdaaW.PrintLast Go.Proofs.YtbfgcpjkagbmdaaW.PrintMore
set_option linter.unusedVariables false
set_option linter.unusedSimpArgs false
theorem tmod_in (x n : Int) (hn : 0 < n) (hn2 : n ≤ 12) (hx0 : -1000 ≤ x) (hx1 : x ≤ 1000) : wrap64 ((Int.tmod (wrap64 x) n) + n) = Int.tmod x n + n ∧ 0 ≤ Int.tmod (Int.tmod x n + n) n ∧ Int.tmod (Int.tmod x n + n) n < n := by
  have h1 : wrap64 x = x := wrapE x (by omega) (by omega)
  have h2 := Int.tmod_lt_of_pos x hn
  have h3 : -n < Int.tmod x n := by
    have := Int.lt_tmod_of_pos x hn
    omega
  rw [h1]
  exact ⟨wrapE _ (by omega) (by omega), Int.tmod_nonneg _ (by omega), Int.tmod_lt_of_pos _ hn⟩
theorem turn_l0 (l : List Int) (a : Int) (h0 : -100 ≤ a) (h1 : a ≤ 100) (hl : l.length ≤ 12) (ha : ∀ x ∈ l, 0 ≤ x ∧ x < l.length) : ∀ (d i : Nat) (out : List Int), l.length = i + d → out.length = l.length →
    EvP (fun r => r.length = l.length) (fun n => spec_loTurn.l0 n a (l.length : Int) out l (l.length : Int) (i : Int)) (fun n => impl_turnedPattern.l0 n a out (l.length : Int) l (l.length : Int) (i : Int)) := by
  intro d
  induction d with
  | zero =>
    intro i out hi ho
    refine EvP.succ ?_
    simp only [spec_loTurn.l0, impl_turnedPattern.l0]
    exact EvP.neg (by omega) (by omega) (EvP.now _ ho)
  | succ d ih =>
    intro i out hi ho
    refine EvP.succ ?_
    simp only [spec_loTurn.l0, impl_turnedPattern.l0]
    obtain ⟨e1, b1, b2⟩ := tmod_in ((i : Int) + a) l.length (by omega) (by omega) (by omega) (by omega)
    rw [e1, wrapN i (by omega)]
    refine EvP.pos (by omega) (by omega) (EvP.pos (by omega) (by omega) (EvP.pos (by omega) (by omega) (EvP.neg (by omega) (by omega) (EvP.pos b1 b1 (EvP.pos (by omega) (by omega) ?_)))))
    exact ih (i + 1) _ (by omega) (by simpa using ho)
theorem FnExactTurnPattern : laws_FnExactTurnPattern.Pure := by
  intro l a h1 _ _
  obtain ⟨r, ha, hb, hp⟩ := isPattern_both l h1
  have h : EvP (fun r => r.1.length ≤ 1048576) (fun k => spec_TurnPattern.f k l a) (fun k => impl_TurnPattern.f k l a) := by
    unfold spec_TurnPattern.f impl_TurnPattern.f
    refine EvP.bind ha hb ?_
    cases r with
    | false => exact EvP.neg (by decide) (by decide) (EvP.now _ (by simp))
    | true =>
      obtain ⟨_, _, h12, hall, _⟩ := hp rfl
      refine EvP.pos rfl rfl (EvP.bind (Ev.const (l1In_eq a (-100) 100)) (Ev.const (within_eq a (-100) 100)) ?_)
      refine EvP.ite (fun hin => ?_) (fun _ => EvP.now _ (by simp))
      have hin' := (inB_iff _ _ _).mp hin
      refine EvP.then_ (q := fun r => r.length = l.length) ?_ (fun b hb => EvP.now _ (by show b.length ≤ 1048576; omega))
      unfold spec_loTurn.f impl_turnedPattern.f
      refine EvP.pos (by omega) (by omega) (EvP.pos (by omega) (by omega) ?_)
      exact turn_l0 l a hin'.1 hin'.2 h12 hall l.length 0 _ (by omega) (by simp)
  obtain ⟨b, hb, e1, e2⟩ := h
  exact ⟨b.1, b.2, e1.rounds, e2.rounds, hb⟩
end Go.Proofs.Ytbfgcpjkagbmdaa.Pure
