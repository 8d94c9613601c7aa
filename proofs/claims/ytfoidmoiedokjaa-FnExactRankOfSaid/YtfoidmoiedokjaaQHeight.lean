/- Heights: program and reference make them alike; comparisons and distances of tables. -/
import Derived.Test.YtfoidmoiedokjaaQCorn
import Derived.Test.YtfoidmoiedokjaaFSpecCorn
import Derived.Test.YtfoidmoiedokjaaFImplCorn
namespace Go.Proofs.Ytfoidmoiedokjaa.Pure
open Go.Proofs.Ytfoidmoiedokjaa.B Go.Proofs.Ytfoidmoiedokjaa.P
open Go.RowKit Go.Proofs.YtfoidmoiedokjaaW.PrintWords Go.Proofs.YtfoidmoiedokjaaW.PrintLast Go.Proofs.YtfoidmoiedokjaaW.PrintMore
set_option linter.unusedVariables false
set_option linter.unusedSimpArgs false
/-- The height at a place. -/
def htV (m : List (List Int)) (i j : Nat) : Int := wrap64 ((i : Int) + (j : Int) - wrap64 (2 * wrap64 (cornZ m i j)))
def htT (m : List (List Int)) : List (List Int) := tabOf (m.length + 1) (m.length + 1) (htV m)
theorem ev_cornerSum0 (m : List (List Int)) (h : Sq m) (i j : Nat) (hi : i ≤ m.length) (hj : j ≤ m.length) : Ev (fun k => impl_cornerSum.f k m (i : Int) (j : Int)) (wrap64 (cornZ m i j)) := by
  have h6 := h.2.1
  unfold impl_cornerSum.f
  ev_go
  simp only [Option.bind_some]
  rw [show ((i : Int)).toNat = i by omega]
  have htl : (m.take i).length = i := by rw [List.length_take]; omega
  rw [htl]
  refine Ev.thruE (fun a k => impl_cornerSum.l0 k (j : Int) (wrap64 (cornZ m a j)) (m.take i) (i : Int) (a : Int)) i (by simp only [cornZ, sumTo, wz]; rfl) (fun a ha ih => ?_) ?_
  · refine Ev.succ ?_
    have hra : (row m a).length = m.length := h.row (by omega)
    simp only [impl_cornerSum.l0]
    rw [htl, row_take _ _ _ ha, hra, wrapN a (by omega)]
    ev_go
    rw [show ((j : Int)).toNat = j by omega]
    have hs := ev_sum2 ((row m a).take j) (by simp; omega)
    have htl2 : ((row m a).take j).length = j := by rw [List.length_take]; omega
    rw [htl2, sumTo_congr (fun l hl => rd_take2 _ _ _ hl)] at hs
    refine Ev.bind hs ?_
    rw [wrap_add, wrap_add']
    exact ih
  · refine Ev.succ ?_
    simp only [impl_cornerSum.l0]
    ev_go
    exact Ev.now _
theorem ev_heights (m : List (List Int)) (h : Sq m) : Ev (fun k => impl_heights.f k m) (htT m) := by
  have h6 := h.2.1
  unfold impl_heights.f
  refine Ev.pos (by omega) ?_
  exact ev_tabR (fun i hi j hj => Ev.bind (ev_cornerSum0 m h i j (by omega) (by omega)) (Ev.now _))
theorem cornZ_left (m : List (List Int)) (j : Nat) : cornZ m 0 j = 0 := rfl
theorem cornZ_right (m : List (List Int)) (i : Nat) : cornZ m i 0 = 0 := by
  unfold cornZ
  simp only [sumTo]
  exact sumTo_zero i
theorem sgAt_corn (m : List (List Int)) (h : Sq m) (i j : Nat) (hi : i ≤ m.length) (hj : j ≤ m.length) : spec_sgAt.f (tabOf m.length m.length fun i j => wrap64 (cornZ m (i + 1) (j + 1))) ((i : Int) - 1) ((j : Int) - 1) = some (wrap64 (cornZ m i j)) := by
  unfold spec_sgAt.f
  by_cases a : i = 0
  · subst a
    rw [if_pos (by omega), cornZ_left, wz]
  · rw [if_neg (by omega)]
    by_cases b : j = 0
    · subst b
      rw [if_pos (by omega), cornZ_right, wz]
    · obtain ⟨i, rfl⟩ : ∃ a, i = a + 1 := ⟨i - 1, by omega⟩
      obtain ⟨j, rfl⟩ : ∃ a, j = a + 1 := ⟨j - 1, by omega⟩
      rw [if_neg (by omega), show ((i + 1 : Nat) : Int) - 1 = (i : Int) by omega, show ((j + 1 : Nat) : Int) - 1 = (j : Int) by omega, tabOf_length, row_eq, row_tab_length _ _ _ _ (by omega), rd_row, tab_gd _ _ _ _ _ (by omega) (by omega)]
      rw [if_pos (by omega), if_pos (by omega), if_pos (by omega), if_pos (by omega)]
theorem ev_heOf (m : List (List Int)) (h : Sq m) : Ev (fun k => spec_heOf.f k m) (htT m) := by
  have h6 := h.2.1
  unfold spec_heOf.f
  refine Ev.bind (ev_sgCorners m h) ?_
  refine Ev.thru (fun i k => spec_heOf.l0 k m (tabOf m.length m.length fun i j => wrap64 (cornZ m (i + 1) (j + 1))) (tabOf i (m.length + 1) (htV m)) (i : Int)) (m.length + 1) (fun i hi ih => ?_) ?_
  · refine Ev.succ ?_
    simp only [spec_heOf.l0]
    ev_go
    refine Ev.thru (fun j k => spec_heOf.l1 k m (tabOf m.length m.length fun i j => wrap64 (cornZ m (i + 1) (j + 1))) (tabOf i (m.length + 1) (htV m)) (i : Int) ((List.range j).map (htV m i)) (j : Int)) (m.length + 1) (fun j hj ihj => ?_) ?_
    · refine Ev.succ ?_
      have hll : ((List.range j).map (htV m i)).length = j := by simp
      simp only [spec_heOf.l1]
      rw [wrapE ((i : Int) - 1) (by omega) (by omega), wrapE ((j : Int) - 1) (by omega) (by omega), sgAt_corn m h i j (by omega) (by omega), wrapE ((i : Int) + (j : Int)) (by omega) (by omega)]
      simp only [Option.bind_some]
      rw [hll, wrapN j (by omega)]
      ev_go
      rw [List.range_succ, List.map_append] at ihj
      exact ihj
    · refine Ev.succ ?_
      have hll : (tabOf i (m.length + 1) (htV m)).length = i := tabOf_length _ _ _
      simp only [spec_heOf.l1]
      rw [hll]
      ev_go
      rw [wrapN i (by omega)]
      rw [tab_succ] at ih
      exact ih
  · refine Ev.succ ?_
    simp only [spec_heOf.l0]
    ev_go
    exact Ev.now _
theorem htT_length (m : List (List Int)) : (htT m).length = m.length + 1 := tabOf_length _ _ _
theorem htT_row (m : List (List Int)) (i : Nat) (hi : i ≤ m.length) : (row (htT m) i).length = m.length + 1 := row_tab_length _ _ _ _ (by omega)
theorem htT_gd (m : List (List Int)) (i j : Nat) (hi : i ≤ m.length) (hj : j ≤ m.length) : gd (htT m) i j = htV m i j := tab_gd _ _ _ _ _ (by omega) (by omega)
end Go.Proofs.Ytfoidmoiedokjaa.Pure
