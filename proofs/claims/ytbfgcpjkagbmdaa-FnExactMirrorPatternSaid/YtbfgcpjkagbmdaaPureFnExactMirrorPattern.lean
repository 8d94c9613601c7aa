/- FnExactMirrorPattern returns true for every list of ints: MirrorPattern of the program and of the reference answer the same, in memory of its own, and the argument stays as it is. No conditions. -/
import Derived.Test.YtbfgcpjkagbmdaaFLawsFnExactMirrorPattern
import Derived.Test.YtbfgcpjkagbmdaaQPat
namespace Go.Proofs.Ytbfgcpjkagbmdaa.Pure
open Go.Proofs.Ytbfgcpjkagbmdaa.B Go.Proofs.Ytbfgcpjkagbmdaa.P
open Go.RowKit Go.Proofs.YtbfgcpjkagbmdaaW.PrintWords Go.Proofs.YtbfgcpjkagbmdaaW.PrintLast Go.Proofs.YtbfgcpjkagbmdaaW.PrintMore
set_option linter.unusedVariables false
set_option linter.unusedSimpArgs false
theorem mirror_l0 (l : List Int) (hl : l.length ≤ 12) (ha : ∀ x ∈ l, 0 ≤ x ∧ x < l.length) : ∀ (d i : Nat) (out : List Int), l.length = i + d → out.length = l.length →
    EvP (fun r => r.1.length = l.length) (fun n => spec_MirrorPattern.l0 n l out l (l.length : Int) (i : Int)) (fun n => impl_MirrorPattern.l0 n out ((l.length : Int) - 1) l (l.length : Int) (i : Int)) := by
  intro d
  induction d with
  | zero =>
    intro i out hi ho
    refine EvP.succ ?_
    simp only [spec_MirrorPattern.l0, impl_MirrorPattern.l0]
    exact EvP.neg (by omega) (by omega) (EvP.now _ ho)
  | succ d ih =>
    intro i out hi ho
    refine EvP.succ ?_
    simp only [spec_MirrorPattern.l0, impl_MirrorPattern.l0]
    rw [wrapE ((l.length : Int) - 1) (by omega) (by omega), wrapE ((l.length : Int) - 1 - (i : Int)) (by omega) (by omega), wrapN i (by omega)]
    refine EvP.pos (by omega) (by omega) (EvP.pos (by omega) (by omega) (EvP.pos (by omega) (by omega) (EvP.pos (by omega) (by omega) (EvP.pos (by omega) (by omega) ?_))))
    exact ih (i + 1) _ (by omega) (by simpa using ho)
theorem FnExactMirrorPattern : laws_FnExactMirrorPattern.Pure := by
  intro l h1 _
  obtain ⟨r, ha, hb, hp⟩ := isPattern_both l h1
  have h : EvP (fun r => r.1.length ≤ 1048576) (fun k => spec_MirrorPattern.f k l) (fun k => impl_MirrorPattern.f k l) := by
    unfold spec_MirrorPattern.f impl_MirrorPattern.f
    refine EvP.bind ha hb ?_
    cases r with
    | false => exact EvP.neg (by decide) (by decide) (EvP.now _ (by simp))
    | true =>
      obtain ⟨_, _, h12, hall, _⟩ := hp rfl
      refine EvP.pos rfl rfl (EvP.pos (by omega) (by omega) (EvP.pos (by omega) (by omega) ?_))
      rw [wrapE ((l.length : Int) - 1) (by omega) (by omega)]
      exact (mirror_l0 l h12 hall l.length 0 _ (by omega) (by simp)).mono (fun b hb => by omega)
  obtain ⟨b, hb, e1, e2⟩ := h
  exact ⟨b.1, b.2, e1.rounds, e2.rounds, hb⟩
end Go.Proofs.Ytbfgcpjkagbmdaa.Pure
