/- Tables told by their places; the turned, the mirrored, the zero table of the reference. -/
import Derived.Test.YtfoidmoiedokjaaQSign
import Derived.Test.YtfoidmoiedokjaaTabR
import Derived.Test.YtfoidmoiedokjaaFSpecCorn
namespace Go.Proofs.Ytfoidmoiedokjaa.Pure
open Go.Proofs.Ytfoidmoiedokjaa.B Go.Proofs.Ytfoidmoiedokjaa.P
open Go.RowKit Go.Proofs.YtfoidmoiedokjaaW.PrintWords Go.Proofs.YtfoidmoiedokjaaW.PrintLast Go.Proofs.YtfoidmoiedokjaaW.PrintMore
set_option linter.unusedVariables false
set_option linter.unusedSimpArgs false
theorem row_tab (n m : Nat) (f : Nat → Nat → Int) (i : Nat) (hi : i < n) : row (tabOf n m f) i = (List.range m).map (f i) := row_map n (fun i => (List.range m).map fun j => f i j) i hi
theorem row_tab_length (n m : Nat) (f : Nat → Nat → Int) (i : Nat) (hi : i < n) : (row (tabOf n m f) i).length = m := by
  rw [row_tab _ _ _ _ hi]; simp
theorem get_map (m : Nat) (g : Nat → Int) (j : Nat) (hj : j < m) : ((List.range m).map g).getD j 0 = g j := by
  rw [List.getD_eq_getElem?_getD, List.getElem?_eq_getElem (by simpa using hj)]
  simp
theorem tab_gd (n m : Nat) (f : Nat → Nat → Int) (i j : Nat) (hi : i < n) (hj : j < m) : gd (tabOf n m f) i j = f i j := by
  have := row_tab n m f i hi
  unfold row at this
  unfold B.gd
  rw [this, get_map _ _ _ hj]
theorem tab_row_mem (n m : Nat) (f : Nat → Nat → Int) : ∀ x ∈ tabOf n m f, x.length = m := by
  intro x hx
  unfold tabOf at hx
  obtain ⟨i, _, rfl⟩ := List.mem_map.mp hx
  simp
theorem tab_sq (n : Nat) (f : Nat → Nat → Int) (h1 : 1 ≤ n) (h6 : n ≤ 6) : Sq (tabOf n n f) := by
  refine ⟨?_, ?_, fun x hx => ?_⟩
  · rw [tabOf_length]; exact h1
  · rw [tabOf_length]; exact h6
  · rw [tabOf_length]; exact tab_row_mem n n f x hx
theorem tab_succ (i m : Nat) (f : Nat → Nat → Int) : tabOf (i + 1) m f = tabOf i m f ++ [(List.range m).map (f i)] := by
  unfold tabOf
  rw [List.range_succ, List.map_append]
  rfl
theorem total_tab (n m : Nat) (f : Nat → Nat → Int) : total (tabOf n m f) = n * m := by
  unfold total tabOf
  rw [List.map_map]
  have : (List.length ∘ fun i => (List.range m).map fun j => f i j) = fun _ => m := by funext i; simp
  rw [this]
  have h2 : ∀ k : Nat, ((List.range k).map fun _ => m).sum = k * m := by
    intro k
    induction k with
    | zero => simp
    | succ k ih => rw [List.range_succ, List.map_append, List.sum_append, ih]; simp [Nat.succ_mul]
  exact h2 n
theorem tab_small (n : Nat) (f : Nat → Nat → Int) (h : n ≤ 6) : total (tabOf n n f) ≤ 1048576 ∧ (tabOf n n f).length ≤ 1048576 := by
  rw [total_tab, tabOf_length]
  have : n * n ≤ 6 * 6 := Nat.mul_le_mul h h
  omega
theorem list_tab (l : List Int) : l = (List.range l.length).map fun j => l.getD j 0 := by
  refine List.ext_getElem (by simp) (fun j h1 h2 => ?_)
  simp [List.getD_eq_getElem?_getD, List.getElem?_eq_getElem h1]
theorem tab_ext {m : List (List Int)} {n : Nat} (h : ∀ x ∈ m, x.length = n) : m = tabOf m.length n (gd m) := by
  refine List.ext_getElem (by rw [tabOf_length]) (fun i h1 h2 => ?_)
  have h3 : (tabOf m.length n (gd m))[i] = (List.range n).map (gd m i) := by simp [tabOf]
  rw [h3]
  have h4 : m.getD i [] = m[i] := by simp [List.getD_eq_getElem?_getD, List.getElem?_eq_getElem h1]
  have h5 := list_tab m[i]
  rw [h (m[i]) (List.getElem_mem _)] at h5
  rw [h5]
  refine List.map_congr_left (fun j _ => ?_)
  unfold B.gd
  rw [h4]
theorem tab_set (n m : Nat) (g : Nat → Nat → Int) (i j : Nat) (hi : i < n) (hj : j < m) (v : Int) : (tabOf n m g).set i ((row (tabOf n m g) i).set j v) = tabOf n m fun a b => if a = i ∧ b = j then v else g a b := by
  rw [row_tab _ _ _ _ hi]
  refine List.ext_getElem (by simp [tabOf]) (fun a h1 h2 => ?_)
  rw [List.getElem_set]
  have ha : a < n := by simpa [tabOf] using h2
  by_cases e : i = a
  · subst e
    rw [if_pos rfl]
    refine List.ext_getElem (by simp [tabOf]) (fun b h3 h4 => ?_)
    rw [List.getElem_set]
    by_cases e2 : j = b
    · subst e2; simp [tabOf]
    · have e3 : ¬ b = j := fun h => e2 h.symm
      simp [tabOf, e2, e3]
  · have e3 : ¬ a = i := fun h => e h.symm
    rw [if_neg e]
    simp [tabOf, e3]
/-- The table that is filled up to the place i, j. -/
def fillF (f : Nat → Nat → Int) (i j a b : Nat) : Int := if a < i ∨ (a = i ∧ b < j) then f a b else 0
theorem fill_step (n m : Nat) (f : Nat → Nat → Int) (i j : Nat) (hi : i < n) (hj : j < m) {v : Int} (hv : v = f i j) : (tabOf n m (fillF f i j)).set i ((row (tabOf n m (fillF f i j)) i).set j v) = tabOf n m (fillF f i (j + 1)) := by
  rw [tab_set _ _ _ _ _ hi hj]
  refine tabOf_congr (fun a _ b _ => ?_)
  show (if a = i ∧ b = j then v else fillF f i j a b) = fillF f i (j + 1) a b
  unfold fillF
  by_cases c : a = i ∧ b = j
  · rw [if_pos c, if_pos (by omega), hv, c.1, c.2]
  · rw [if_neg c]
    by_cases c2 : a < i ∨ (a = i ∧ b < j)
    · rw [if_pos c2, if_pos (by omega)]
    · rw [if_neg c2, if_neg (by omega)]
theorem fill_row (n m : Nat) (f : Nat → Nat → Int) (i : Nat) : tabOf n m (fillF f i m) = tabOf n m (fillF f (i + 1) 0) := by
  refine tabOf_congr (fun a _ b hb => ?_)
  unfold fillF
  by_cases c : a < i ∨ (a = i ∧ b < m)
  · rw [if_pos c, if_pos (by omega)]
  · rw [if_neg c, if_neg (by omega)]
theorem fill_all (n m : Nat) (f : Nat → Nat → Int) : tabOf n m (fillF f n 0) = tabOf n m f := by
  refine tabOf_congr (fun a ha b hb => ?_)
  unfold fillF
  rw [if_pos (by omega)]
theorem fill_none (n m : Nat) (f : Nat → Nat → Int) : tabOf n m (fun _ _ => 0) = tabOf n m (fillF f 0 0) := by
  refine tabOf_congr (fun a ha b hb => ?_)
  unfold fillF
  rw [if_neg (by omega)]
theorem turn_tab (m : List (List Int)) : (List.range m.length).map (colOf m) = tabOf m.length m.length fun i j => gd m j i := rfl
theorem zeros_eq (n : Nat) : List.replicate n (0 : Int) = (List.range n).map fun _ => 0 := by
  refine List.ext_getElem (by simp) (fun j h1 h2 => ?_)
  simp
theorem ev_sgZero (n : Nat) (hn : n ≤ 1048576) : Ev (fun k => spec_sgZero.f k (n : Int)) (tabOf n n fun _ _ => 0) := by
  unfold spec_sgZero.f
  refine Ev.thru (fun i k => spec_sgZero.l0 k (n : Int) (tabOf i n fun _ _ => 0) (i : Int)) n (fun i hi ih => ?_) ?_
  · refine Ev.succ ?_
    have hll : (tabOf i n fun _ _ => 0).length = i := tabOf_length _ _ _
    simp only [spec_sgZero.l0]
    rw [hll]
    ev_go
    rw [wrapN i (by omega), Int.toNat_natCast, zeros_eq]
    unfold tabOf at ih
    rw [List.range_succ, List.map_append] at ih
    exact ih
  · refine Ev.succ ?_
    simp only [spec_sgZero.l0]
    ev_go
    exact Ev.now _
end Go.Proofs.Ytfoidmoiedokjaa.Pure
