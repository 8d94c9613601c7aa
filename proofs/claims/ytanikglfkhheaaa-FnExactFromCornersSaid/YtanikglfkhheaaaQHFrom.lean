import Derived.Test.YtanikglfkhheaaaFSpecFrom
import Derived.Test.YtanikglfkhheaaaFSpecCorn
import Derived.Test.YtanikglfkhheaaaQSign
/- The table that the reference makes of corner sums. -/
namespace Go.Proofs.Ytanikglfkhheaaa.Pure
open Go.Proofs.Ytanikglfkhheaaa.B Go.Proofs.Ytanikglfkhheaaa.P
open Go.RowKit Go.Proofs.YtanikglfkhheaaaW.PrintWords Go.Proofs.YtanikglfkhheaaaW.PrintLast Go.Proofs.YtanikglfkhheaaaW.PrintMore
set_option linter.unusedVariables false
set_option linter.unusedSimpArgs false
theorem sgAt_eq (c : List (List Int)) (h : Sq c) (i j : Int) (hi : i < c.length) (hj : j < c.length) : spec_sgAt.f c i j = some (atV c i j) := by
  unfold spec_sgAt.f atV
  by_cases a : i < 0
  · rw [if_pos a, if_pos (Or.inl a)]
  · rw [if_neg a]
    by_cases b : j < 0
    · rw [if_pos b, if_pos (Or.inr b)]
    · have hd : ¬ (i < 0 ∨ j < 0) := by omega
      rw [if_neg b, if_neg hd]
      obtain ⟨i, rfl⟩ := Int.eq_ofNat_of_zero_le (show 0 ≤ i by omega)
      obtain ⟨j, rfl⟩ := Int.eq_ofNat_of_zero_le (show 0 ≤ j by omega)
      have hr : (row c i).length = c.length := h.row (by omega)
      rw [row_eq, hr, if_pos (by omega), if_pos (by omega), if_pos (by omega), if_pos (by omega)]
      rfl
theorem ev_sgFrom (c : List (List Int)) (h : Sq c) : Ev (fun k => spec_sgFrom.f k c) (tabOf c.length c.length (outV c)) := by
  have h6 := h.2.1
  unfold spec_sgFrom.f
  refine Ev.bind (ev_sgZero c.length (by omega)) ?_
  rw [fill_none c.length c.length (outV c)]
  refine Ev.thru (fun i k => spec_sgFrom.l0 k c (tabOf c.length c.length (fillF (outV c) i 0)) (c.length : Int) (i : Int)) c.length (fun i hi ih => ?_) ?_
  · refine Ev.succ ?_
    simp only [spec_sgFrom.l0]
    (repeat (first | refine Ev.pos (by omega) ?_ | refine Ev.neg (by omega) ?_))
    refine Ev.thru (fun j k => spec_sgFrom.l1 k c (tabOf c.length c.length (fillF (outV c) i j)) (i : Int) (c.length : Int) (i : Int) (c.length : Int) (j : Int)) c.length (fun j hj ihj => ?_) ?_
    · refine Ev.succ ?_
      have hT : (tabOf c.length c.length (fillF (outV c) i j)).length = c.length := tabOf_length _ _ _
      have hr : (row (tabOf c.length c.length (fillF (outV c) i j)) i).length = c.length := row_tab_length _ _ _ _ hi
      simp only [spec_sgFrom.l1]
      rw [wrapE ((i : Int) - 1) (by omega) (by omega), wrapE ((j : Int) - 1) (by omega) (by omega), sgAt_eq c h _ _ (by omega) (by omega), sgAt_eq c h _ _ (by omega) (by omega), sgAt_eq c h _ _ (by omega) (by omega), sgAt_eq c h _ _ (by omega) (by omega)]
      simp only [Option.bind_some]
      rw [hT, row_eq, hr, wrapN j (by omega), Int.toNat_natCast, Int.toNat_natCast]
      (repeat (first | refine Ev.pos (by omega) ?_ | refine Ev.neg (by omega) ?_))
      have e : wrap64 (wrap64 (wrap64 (atV c i j - atV c (i - 1) j) - atV c i (j - 1)) + atV c (i - 1) (j - 1)) = outV c i j := rfl
      rw [e, fill_step _ _ _ _ _ hi hj rfl]
      exact ihj
    · refine Ev.succ ?_
      simp only [spec_sgFrom.l1]
      rw [wrapN i (by omega)]
      (repeat (first | refine Ev.pos (by omega) ?_ | refine Ev.neg (by omega) ?_))
      rw [fill_row]
      exact ih
  · refine Ev.succ ?_
    simp only [spec_sgFrom.l0]
    (repeat (first | refine Ev.pos (by omega) ?_ | refine Ev.neg (by omega) ?_))
    rw [fill_all]
    exact Ev.now _
end Go.Proofs.Ytanikglfkhheaaa.Pure
