/- Numbers within bounds, as program and reference test them. -/
import Derived.Test.YtfoidmoiedokjaaFSpecIn
import Derived.Test.YtfoidmoiedokjaaFImplIn
import Derived.Test.YtfoidmoiedokjaaB
namespace Go.Proofs.Ytfoidmoiedokjaa.Pure
open Go.Proofs.Ytfoidmoiedokjaa.B Go.Proofs.Ytfoidmoiedokjaa.P
open Go.RowKit Go.Proofs.YtfoidmoiedokjaaW.PrintWords Go.Proofs.YtfoidmoiedokjaaW.PrintLast Go.Proofs.YtfoidmoiedokjaaW.PrintMore
set_option linter.unusedVariables false
set_option linter.unusedSimpArgs false
def inB (n lo hi : Int) : Bool := decide (lo ≤ n) && decide (n ≤ hi)
theorem inB_iff (n lo hi : Int) : inB n lo hi = true ↔ lo ≤ n ∧ n ≤ hi := by simp [inB]
theorem l1In_eq (n lo hi : Int) : spec_l1In.f n lo hi = some (inB n lo hi) := by
  unfold spec_l1In.f inB
  by_cases h : lo ≤ n <;> simp [h]
theorem within_eq (n lo hi : Int) : impl_within.f n lo hi = some (inB n lo hi) := by
  unfold impl_within.f inB
  by_cases h : lo ≤ n <;> simp [h]
theorem isSide_eq (n : Int) : impl_isSide.f n = some (inB n 1 6) := by
  unfold impl_isSide.f
  rw [within_eq]
  rfl
theorem ev_l1All (l : List Int) (lo up : Int) (hl : l.length ≤ 4611686018427387903) : Ev (fun k => spec_l1All.f k l lo up) (l.all fun x => inB x lo up) := by
  unfold spec_l1All.f
  suffices h : ∀ (d i : Nat), l.length = i + d → Ev (fun k => spec_l1All.l0 k lo up l (l.length : Int) (i : Int)) ((l.drop i).all fun x => inB x lo up) by
    have := h l.length 0 (by omega)
    simpa using this
  intro d
  induction d with
  | zero =>
    intro i hd
    refine Ev.succ ?_
    simp only [spec_l1All.l0]
    refine Ev.neg (by omega) ?_
    rw [List.drop_eq_nil_of_le (by omega)]
    exact Ev.now _
  | succ d ih =>
    intro i hd
    refine Ev.succ ?_
    simp only [spec_l1All.l0]
    refine Ev.pos (by omega) (Ev.pos (by omega) (Ev.pos (by omega) ?_))
    rw [rd_get l i (by omega), List.drop_eq_getElem_cons (by omega)]
    refine Ev.bind0 (l1In_eq _ _ _) ?_
    rw [List.all_cons]
    by_cases c : inB (l[i]'(by omega)) lo up = true
    · rw [c, Bool.true_and]
      refine Ev.pos rfl ?_
      rw [wrapN _ (by omega)]
      exact ih (i + 1) (by omega)
    · rw [Bool.eq_false_iff.mpr c, Bool.false_and]
      exact Ev.neg (by decide) (Ev.now _)
end Go.Proofs.Ytfoidmoiedokjaa.Pure
