/- The triangle of a sign matrix: program and reference make it alike. -/
import Derived.Test.YthjiajkmaimbjaaQHeight
import Derived.Test.YthjiajkmaimbjaaFSpecTrOf
import Derived.Test.YthjiajkmaimbjaaFImplTriangle
namespace Go.Proofs.Ythjiajkmaimbjaa.Pure
open Go.Proofs.Ythjiajkmaimbjaa.B Go.Proofs.Ythjiajkmaimbjaa.P
open Go.RowKit Go.Proofs.YthjiajkmaimbjaaW.PrintWords Go.Proofs.YthjiajkmaimbjaaW.PrintLast Go.Proofs.YthjiajkmaimbjaaW.PrintMore
set_option linter.unusedVariables false
set_option linter.unusedSimpArgs false
/-- The sum of the first numbers of a column. -/
def colS (m : List (List Int)) (i j : Nat) : Int := wrap64 (sumTo i fun a => gd m a j)
/-- The columns among the first ones whose sum is 1. -/
def triRow (m : List (List Int)) (i j : Nat) : List Int := ((List.range j).filter fun b => decide (colS m (i + 1) b = 1)).map fun (b : Nat) => (b : Int)
theorem triRow_succ (m : List (List Int)) (i j : Nat) : triRow m i (j + 1) = if colS m (i + 1) j = 1 then triRow m i j ++ [(j : Int)] else triRow m i j := by
  unfold triRow
  rw [List.range_succ, List.filter_append, List.map_append]
  by_cases h : colS m (i + 1) j = 1
  · simp [h]
  · simp [h]
theorem triRow_len (m : List (List Int)) (i j : Nat) : (triRow m i j).length ≤ j := by
  unfold triRow
  rw [List.length_map]
  have := List.length_filter_le (fun b => decide (colS m (i + 1) b = 1)) (List.range j)
  rwa [List.length_range] at this
theorem range_set (n : Nat) (f : Nat → Int) (j : Nat) (v : Int) : ((List.range n).map f).set j v = (List.range n).map fun b => if b = j then v else f b := by
  refine List.ext_getElem (by simp) (fun a h1 h2 => ?_)
  rw [List.getElem_set]
  by_cases e : j = a
  · subst e; simp
  · have e3 : ¬ a = j := fun h => e h.symm
    simp [e, e3]
theorem range_congr {α : Type} (n : Nat) {f g : Nat → α} (h : ∀ a, a < n → f a = g a) : (List.range n).map f = (List.range n).map g := List.map_congr_left (fun a ha => h a (List.mem_range.mp ha))
theorem range_rd (n : Nat) (f : Nat → Int) (j : Nat) (hj : j < n) : rd ((List.range n).map f) (j : Int) = f j := by
  unfold rd
  rw [Int.toNat_natCast, get_map _ _ _ hj]
theorem total_range (n c : Nat) (f : Nat → List Int) (h : ∀ i, i < n → (f i).length ≤ c) : total ((List.range n).map f) ≤ n * c := by
  induction n with
  | zero => simp [total]
  | succ n ih =>
    rw [List.range_succ, List.map_append, total_append]
    have h1 := ih (fun i hi => h i (by omega))
    have h2 := h n (by omega)
    have h3 : total (List.map f [n]) = (f n).length := by simp [total]
    rw [h3, Nat.succ_mul]
    omega
/-- The triangle. -/
def triT (m : List (List Int)) : List (List Int) := (List.range m.length).map fun i => triRow m i m.length
theorem ev_trOf (m : List (List Int)) (h : Sq m) : Ev (fun k => spec_trOf.f k m) (triT m) := by
  have h6 := h.2.1
  unfold spec_trOf.f
  refine Ev.pos (by omega) (Ev.pos (by omega) ?_)
  refine Ev.thruE (fun i k => spec_trOf.l0 k ((List.range m.length).map (colS m i)) ((List.range i).map fun i => triRow m i m.length) m (m.length : Int) (i : Int)) m.length ?_ (fun i hi ih => ?_) ?_
  · funext k
    have e0 : ((List.range m.length).map fun (_ : Nat) => (0 : Int)) = (List.range m.length).map (colS m 0) := range_congr _ (fun a _ => by unfold colS sumTo; exact wz.symm)
    rw [Int.toNat_natCast, zeros_eq, e0]
    rfl
  · refine Ev.succ ?_
    have hri : (row m i).length = m.length := h.row hi
    simp only [spec_trOf.l0]
    rw [row_eq, hri]
    (repeat (first | refine Ev.pos (by omega) ?_ | refine Ev.neg (by omega) ?_))
    refine Ev.thruE (fun j k => spec_trOf.l1 k ((List.range m.length).map fun b => if b < j then colS m (i + 1) b else colS m i b) ((List.range i).map fun i => triRow m i m.length) (triRow m i j) m (m.length : Int) (i : Int) (row m i) (m.length : Int) (j : Int)) m.length ?_ (fun j hj ihj => ?_) ?_
    · funext k
      congr 1
    · refine Ev.succ ?_
      have hl := triRow_len m i j
      simp only [spec_trOf.l1]
      rw [hri, wrapN j (by omega), List.length_map, List.length_range, Int.toNat_natCast, range_rd _ _ _ hj, if_neg (Nat.lt_irrefl j), range_set]
      have e : wrap64 (colS m i j + rd (row m i) (j : Int)) = colS m (i + 1) j := by
        unfold colS
        rw [wrap_add]
        rfl
      have e2 : ((List.range m.length).map fun b => if b = j then wrap64 (colS m i j + rd (row m i) (j : Int)) else if b < j then colS m (i + 1) b else colS m i b) = (List.range m.length).map fun b => if b < j + 1 then colS m (i + 1) b else colS m i b := by
        refine range_congr _ (fun b _ => ?_)
        rw [e]
        by_cases c : b = j
        · subst c
          rw [if_pos rfl, if_pos (by omega)]
        · rw [if_neg c]
          by_cases d : b < j
          · rw [if_pos d, if_pos (by omega)]
          · rw [if_neg d, if_neg (by omega)]
      rw [e2]
      refine Ev.pos (by omega) (Ev.pos (by omega) (Ev.pos (by omega) (Ev.pos (by omega) ?_)))
      simp only [Option.bind_some]
      rw [range_rd _ _ _ hj, if_pos (Nat.lt_succ_self j)]
      rw [triRow_succ] at ihj
      by_cases c : colS m (i + 1) j = 1
      · rw [if_pos c] at ihj
        exact Ev.pos c (Ev.pos (by omega) ihj)
      · rw [if_neg c] at ihj
        exact Ev.neg c ihj
    · refine Ev.succ ?_
      simp only [spec_trOf.l1]
      rw [wrapN i (by omega)]
      have e2 : ((List.range m.length).map fun b => if b < m.length then colS m (i + 1) b else colS m i b) = (List.range m.length).map (colS m (i + 1)) := range_congr _ (fun b hb => if_pos hb)
      rw [e2]
      rw [List.range_succ, List.map_append] at ih
      exact Ev.neg (by omega) (Ev.pos (by simp only [List.length_map, List.length_range]; omega) ih)
  · refine Ev.succ ?_
    simp only [spec_trOf.l0]
    exact Ev.neg (by omega) (Ev.now _)
theorem ev_triangle (m : List (List Int)) (h : Sq m) : Ev (fun k => impl_triangle.f k m) (triT m) := by
  have h6 := h.2.1
  unfold impl_triangle.f
  refine Ev.thru (fun i k => impl_triangle.l0 k m ((List.range i).map fun i => triRow m i m.length) (m.length : Int) (i : Int)) m.length (fun i hi ih => ?_) ?_
  · refine Ev.succ ?_
    simp only [impl_triangle.l0]
    refine Ev.pos (by omega) ?_
    refine Ev.thru (fun j k => impl_triangle.l1 k m ((List.range i).map fun i => triRow m i m.length) (i : Int) (triRow m i j) (m.length : Int) (i : Int) (m.length : Int) (j : Int)) m.length (fun j hj ihj => ?_) ?_
    · refine Ev.succ ?_
      have hl := triRow_len m i j
      have hcl : (colOf m j).length = m.length := by simp [colOf]
      simp only [impl_triangle.l1]
      rw [wrapN j (by omega), wrapN i (by omega), Int.toNat_natCast]
      refine Ev.pos (by omega) (Ev.bind (ev_column m h j hj) (Ev.pos (by omega) (Ev.pos (by omega) ?_)))
      have hs := ev_sum2 ((colOf m j).take (i + 1)) (by simp; omega)
      have htl : ((colOf m j).take (i + 1)).length = i + 1 := by rw [List.length_take]; omega
      rw [htl, sumTo_congr (g := fun a => gd m a j) (fun a ha => by rw [rd_take2 _ _ _ ha, col_rd m j a (by omega)])] at hs
      refine Ev.bind hs ?_
      rw [triRow_succ] at ihj
      by_cases c : colS m (i + 1) j = 1
      · rw [if_pos c] at ihj
        exact Ev.pos c (Ev.pos (by omega) ihj)
      · rw [if_neg c] at ihj
        exact Ev.neg c ihj
    · refine Ev.succ ?_
      simp only [impl_triangle.l1]
      rw [wrapN i (by omega)]
      rw [List.range_succ, List.map_append] at ih
      exact Ev.neg (by omega) (Ev.pos (by simp only [List.length_map, List.length_range]; omega) ih)
  · refine Ev.succ ?_
    simp only [impl_triangle.l0]
    exact Ev.neg (by omega) (Ev.now _)
theorem triT_small (m : List (List Int)) (h : m.length ≤ 6) : total (triT m) ≤ 1048576 ∧ (triT m).length ≤ 1048576 := by
  have h1 := total_range m.length 6 (fun i => triRow m i m.length) (fun i _ => Nat.le_trans (triRow_len m i m.length) h)
  have h2 : (triT m).length = m.length := by simp [triT]
  unfold triT at h2 ⊢
  omega
end Go.Proofs.Ythjiajkmaimbjaa.Pure
