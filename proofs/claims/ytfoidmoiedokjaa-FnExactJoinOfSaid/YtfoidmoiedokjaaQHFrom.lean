import Derived.Test.YtfoidmoiedokjaaFSpecFrom
import Derived.Test.YtfoidmoiedokjaaFSpecCorn
import Derived.Test.YtfoidmoiedokjaaQSign
import Derived.Test.YtfoidmoiedokjaaQHeight
import Derived.Test.YtfoidmoiedokjaaFImplFromHeights
/- The table that the reference makes of corner sums. -/
namespace Go.Proofs.Ytfoidmoiedokjaa.Pure
open Go.Proofs.Ytfoidmoiedokjaa.B Go.Proofs.Ytfoidmoiedokjaa.P
open Go.RowKit Go.Proofs.YtfoidmoiedokjaaW.PrintWords Go.Proofs.YtfoidmoiedokjaaW.PrintLast Go.Proofs.YtfoidmoiedokjaaW.PrintMore
set_option linter.unusedVariables false
set_option linter.unusedSimpArgs false
theorem sgAt_eq (c : List (List Int)) (h : Sq c) (i j : Int) (hi : i < c.length) (hj : j < c.length) : spec_sgAt.f c i j = some (atV c i j) := by
  unfold spec_sgAt.f atV
  by_cases a : i < 0
  · rw [if_pos a, if_pos (Or.inl a)]
  · rw [if_neg a]
    by_cases b : j < 0
    · rw [if_pos b, if_pos (Or.inr b)]
    · have hd : ¬ (i < 0 ∨ j < 0) := by omega
      rw [if_neg b, if_neg hd]
      obtain ⟨i, rfl⟩ := Int.eq_ofNat_of_zero_le (show 0 ≤ i by omega)
      obtain ⟨j, rfl⟩ := Int.eq_ofNat_of_zero_le (show 0 ≤ j by omega)
      have hr : (row c i).length = c.length := h.row (by omega)
      rw [row_eq, hr, if_pos (by omega), if_pos (by omega), if_pos (by omega), if_pos (by omega)]
      rfl
theorem ev_sgFrom (c : List (List Int)) (h : Sq c) : Ev (fun k => spec_sgFrom.f k c) (tabOf c.length c.length (outV c)) := by
  have h6 := h.2.1
  unfold spec_sgFrom.f
  refine Ev.bind (ev_sgZero c.length (by omega)) ?_
  rw [fill_none c.length c.length (outV c)]
  refine Ev.thru (fun i k => spec_sgFrom.l0 k c (tabOf c.length c.length (fillF (outV c) i 0)) (c.length : Int) (i : Int)) c.length (fun i hi ih => ?_) ?_
  · refine Ev.succ ?_
    simp only [spec_sgFrom.l0]
    (repeat (first | refine Ev.pos (by omega) ?_ | refine Ev.neg (by omega) ?_))
    refine Ev.thru (fun j k => spec_sgFrom.l1 k c (tabOf c.length c.length (fillF (outV c) i j)) (i : Int) (c.length : Int) (i : Int) (c.length : Int) (j : Int)) c.length (fun j hj ihj => ?_) ?_
    · refine Ev.succ ?_
      have hT : (tabOf c.length c.length (fillF (outV c) i j)).length = c.length := tabOf_length _ _ _
      have hr : (row (tabOf c.length c.length (fillF (outV c) i j)) i).length = c.length := row_tab_length _ _ _ _ hi
      simp only [spec_sgFrom.l1]
      rw [wrapE ((i : Int) - 1) (by omega) (by omega), wrapE ((j : Int) - 1) (by omega) (by omega), sgAt_eq c h _ _ (by omega) (by omega), sgAt_eq c h _ _ (by omega) (by omega), sgAt_eq c h _ _ (by omega) (by omega), sgAt_eq c h _ _ (by omega) (by omega)]
      simp only [Option.bind_some]
      rw [hT, row_eq, hr, wrapN j (by omega), Int.toNat_natCast, Int.toNat_natCast]
      (repeat (first | refine Ev.pos (by omega) ?_ | refine Ev.neg (by omega) ?_))
      have e : wrap64 (wrap64 (wrap64 (atV c i j - atV c (i - 1) j) - atV c i (j - 1)) + atV c (i - 1) (j - 1)) = outV c i j := rfl
      rw [e, fill_step _ _ _ _ _ hi hj rfl]
      exact ihj
    · refine Ev.succ ?_
      simp only [spec_sgFrom.l1]
      rw [wrapN i (by omega)]
      (repeat (first | refine Ev.pos (by omega) ?_ | refine Ev.neg (by omega) ?_))
      rw [fill_row]
      exact ih
  · refine Ev.succ ?_
    simp only [spec_sgFrom.l0]
    (repeat (first | refine Ev.pos (by omega) ?_ | refine Ev.neg (by omega) ?_))
    rw [fill_all]
    exact Ev.now _
end Go.Proofs.Ytfoidmoiedokjaa.Pure

/- The matrix of a table of heights whose border is right: program and reference make the same. -/
namespace Go.Proofs.Ytfoidmoiedokjaa.Pure
open Go.Proofs.Ytfoidmoiedokjaa.B Go.Proofs.Ytfoidmoiedokjaa.P
open Go.RowKit Go.Proofs.YtfoidmoiedokjaaW.PrintWords Go.Proofs.YtfoidmoiedokjaaW.PrintLast Go.Proofs.YtfoidmoiedokjaaW.PrintMore
set_option linter.unusedVariables false
set_option linter.unusedSimpArgs false
theorem cnV_zero {h : List (List Int)} {n : Nat} (hb : Bord h n) (j : Nat) (hj : j ≤ n) : cnV h 0 j = 0 ∧ cnV h j 0 = 0 := by
  unfold cnV
  rw [(hb j hj).1, (hb j hj).2, show ((0 : Nat) : Int) + (j : Int) - (j : Int) = 0 by omega, show (j : Int) + ((0 : Nat) : Int) - (j : Int) = 0 by omega, wz]
  exact ⟨wz, wz⟩
theorem out_fh {h : List (List Int)} {n : Nat} (hb : Bord h n) (i j : Nat) (hi : i < n) (hj : j < n) : outV (tabOf n n fun i j => cnV h (i + 1) (j + 1)) i j = fhV h i j := by
  have key : ∀ a b : Nat, a ≤ n → b ≤ n → atV (tabOf n n fun i j => cnV h (i + 1) (j + 1)) ((a : Int) - 1) ((b : Int) - 1) = cnV h a b := by
    intro a b ha hb2
    unfold atV
    by_cases c : a = 0
    · subst c
      rw [if_pos (by omega), (cnV_zero hb b hb2).1]
    · by_cases d : b = 0
      · subst d
        rw [if_pos (by omega), (cnV_zero hb a ha).2]
      · rw [if_neg (by omega)]
        obtain ⟨a, rfl⟩ : ∃ x, a = x + 1 := ⟨a - 1, by omega⟩
        obtain ⟨b, rfl⟩ : ∃ x, b = x + 1 := ⟨b - 1, by omega⟩
        rw [show (((a + 1 : Nat) : Int) - 1).toNat = a by omega, show (((b + 1 : Nat) : Int) - 1).toNat = b by omega, tab_gd _ _ _ _ _ (by omega) (by omega)]
  unfold outV fhV
  have k1 := key (i + 1) (j + 1) (by omega) (by omega)
  have k2 := key i (j + 1) (by omega) (by omega)
  have k3 := key (i + 1) j (by omega) (by omega)
  have k4 := key i j (by omega) (by omega)
  rw [show ((i + 1 : Nat) : Int) - 1 = (i : Int) by omega] at k1 k3
  rw [show ((j + 1 : Nat) : Int) - 1 = (j : Int) by omega] at k1 k2
  rw [k1, k2, k3, k4]
/-- What the reference makes of any square table. -/
theorem ev_heFrom' (h : List (List Int)) (n : Nat) (h1 : 1 ≤ n) (h6 : n ≤ 6) (hl : h.length = n + 1) (hr : ∀ i, i ≤ n → (row h i).length = n + 1) : Ev (fun k => spec_heFrom.f k h) (tabOf n n (outV (tabOf n n fun i j => cnV h (i + 1) (j + 1)))) := by
  unfold spec_heFrom.f
  rw [hl, show ((n + 1 : Nat) : Int) - 1 = (n : Int) by omega, wrapE (n : Int) (by omega) (by omega)]
  refine Ev.bind (ev_sgZero n (by omega)) ?_
  rw [tabOf_length, fill_none n n fun i j => cnV h (i + 1) (j + 1)]
  refine Ev.thru (fun i k => spec_heFrom.l0 k h (tabOf n n (fillF (fun i j => cnV h (i + 1) (j + 1)) i 0)) (n : Int) (i : Int)) n (fun i hi ih => ?_) ?_
  · refine Ev.succ ?_
    simp only [spec_heFrom.l0]
    rw [tabOf_length]
    (repeat (first | refine Ev.pos (by omega) ?_ | refine Ev.neg (by omega) ?_))
    refine Ev.thru (fun j k => spec_heFrom.l1 k h (tabOf n n (fillF (fun i j => cnV h (i + 1) (j + 1)) i j)) (i : Int) (n : Int) (i : Int) (n : Int) (j : Int)) n (fun j hj ihj => ?_) ?_
    · refine Ev.succ ?_
      have hrt : (row (tabOf n n (fillF (fun i j => cnV h (i + 1) (j + 1)) i j)) i).length = n := row_tab_length _ _ _ _ hi
      simp only [spec_heFrom.l1]
      rw [wrapN i (by omega), wrapN j (by omega), row_eq, row_eq, tabOf_length, hrt, hr _ (by omega), hl, rd_row, wrapE ((i : Int) + (j : Int)) (by omega) (by omega), wrapE ((i : Int) + (j : Int) + 2) (by omega) (by omega), Int.toNat_natCast, Int.toNat_natCast]
      (repeat (first | refine Ev.pos (by omega) ?_ | refine Ev.neg (by omega) ?_))
      have e : wrap64 (Int.tdiv (wrap64 ((i : Int) + (j : Int) + 2 - gd h (i + 1) (j + 1))) 2) = cnV h (i + 1) (j + 1) := by
        unfold cnV
        rw [show (i : Int) + (j : Int) + 2 = ((i + 1 : Nat) : Int) + ((j + 1 : Nat) : Int) by omega]
      rw [e, fill_step _ _ _ _ _ hi hj rfl]
      exact ihj
    · refine Ev.succ ?_
      simp only [spec_heFrom.l1]
      rw [wrapN i (by omega)]
      (repeat (first | refine Ev.pos (by omega) ?_ | refine Ev.neg (by omega) ?_))
      rw [fill_row]
      exact ih
  · refine Ev.succ ?_
    simp only [spec_heFrom.l0]
    (repeat (first | refine Ev.pos (by omega) ?_ | refine Ev.neg (by omega) ?_))
    rw [fill_all]
    have h2 := ev_sgFrom (tabOf n n fun i j => cnV h (i + 1) (j + 1)) (tab_sq n _ h1 h6)
    rw [tabOf_length] at h2
    exact Ev.bind h2 (Ev.now _)
theorem ev_heFrom (h : List (List Int)) (n : Nat) (h1 : 1 ≤ n) (h6 : n ≤ 6) (hl : h.length = n + 1) (hr : ∀ i, i ≤ n → (row h i).length = n + 1) (hb : Bord h n) : Ev (fun k => spec_heFrom.f k h) (tabOf n n (fhV h)) := by
  have := ev_heFrom' h n h1 h6 hl hr
  rwa [tabOf_congr (fun i hi j hj => out_fh hb i j hi hj)] at this
theorem fromHeights_eq (h : List (List Int)) (n : Nat) (hn : n ≤ 6) (hl : h.length = n + 1) (hs : ∀ x ∈ h, x.length = n + 1) : impl_fromHeights.f h = some (tabOf n n (fhV h)) := by
  unfold impl_fromHeights.f
  rw [hl, if_pos ⟨by omega, by omega, hs⟩]
  rfl
end Go.Proofs.Ytfoidmoiedokjaa.Pure
