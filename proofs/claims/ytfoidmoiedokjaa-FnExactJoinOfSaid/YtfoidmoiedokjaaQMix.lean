/- The lesser and the greater heights of two tables. -/
import Derived.Test.YtfoidmoiedokjaaQHFrom
import Derived.Test.YtfoidmoiedokjaaQDist
import Derived.Test.YtfoidmoiedokjaaQSign
import Derived.Test.YtfoidmoiedokjaaFSpecHeMix
namespace Go.Proofs.Ytfoidmoiedokjaa.Pure
open Go.Proofs.Ytfoidmoiedokjaa.B Go.Proofs.Ytfoidmoiedokjaa.P
open Go.RowKit Go.Proofs.YtfoidmoiedokjaaW.PrintWords Go.Proofs.YtfoidmoiedokjaaW.PrintLast Go.Proofs.YtfoidmoiedokjaaW.PrintMore
set_option linter.unusedVariables false
set_option linter.unusedSimpArgs false
theorem ev_heMix (a b : List (List Int)) (n : Nat) (hn : n ≤ 1048576) (ha : Small a n) (hb : Small b n) (low : Bool) (f : Int → Int → Int) (hf : ∀ x y : Int, f x y = if (decide (x < y) == low) = true then x else y) : Ev (fun k => spec_heMix.f k a b low) (tabOf n n fun i j => f (gd a i j) (gd b i j)) := by
  unfold spec_heMix.f
  rw [ha.len]
  refine Ev.thru (fun i k => spec_heMix.l0 k b low (tabOf i n fun i j => f (gd a i j) (gd b i j)) a (n : Int) (i : Int)) n (fun i hi ih => ?_) ?_
  · refine Ev.succ ?_
    simp only [spec_heMix.l0]
    rw [ha.len, row_eq, ha.rows i hi]
    (repeat (first | refine Ev.pos (by omega) ?_ | refine Ev.neg (by omega) ?_))
    refine Ev.thru (fun j k => spec_heMix.l1 k b low (tabOf i n fun i j => f (gd a i j) (gd b i j)) (i : Int) ((List.range j).map fun j => f (gd a i j) (gd b i j)) a (n : Int) (i : Int) (row a i) (n : Int) (j : Int)) n (fun j hj ihj => ?_) ?_
    · refine Ev.succ ?_
      have hll : ((List.range j).map fun j => f (gd a i j) (gd b i j)).length = j := by simp
      simp only [spec_heMix.l1]
      rw [ha.rows i hi, hb.len, row_eq, hb.rows i hi, rd_row, rd_row, hll, wrapN j (by omega)]
      refine Ev.pos (by omega) (Ev.pos (by omega) (Ev.pos (by omega) (Ev.pos (by omega) (Ev.pos (by omega) (Ev.pos (by omega) ?_)))))
      rw [List.range_succ, List.map_append] at ihj
      have e := hf (gd a i j) (gd b i j)
      by_cases c : (decide (gd a i j < gd b i j) == low) = true
      · rw [if_pos c] at e
        refine Ev.pos c (Ev.pos (by omega) ?_)
        rw [← e]
        rw [← e] at e
        exact ihj
      · rw [if_neg c] at e
        refine Ev.neg c (Ev.pos (by omega) ?_)
        rw [← e]
        exact ihj
    · refine Ev.succ ?_
      have hll : (tabOf i n fun i j => f (gd a i j) (gd b i j)).length = i := tabOf_length _ _ _
      simp only [spec_heMix.l1]
      rw [hll]
      (repeat (first | refine Ev.pos (by omega) ?_ | refine Ev.neg (by omega) ?_))
      rw [wrapN i (by omega)]
      rw [tab_succ] at ih
      exact ih
  · refine Ev.succ ?_
    simp only [spec_heMix.l0]
    (repeat (first | refine Ev.pos (by omega) ?_ | refine Ev.neg (by omega) ?_))
    exact Ev.now _
theorem htV_bord {m : List (List Int)} (g : Good m) (j : Nat) (hj : j ≤ m.length) : htV m 0 j = (j : Int) ∧ htV m j 0 = (j : Int) := by
  have a := htV_small g 0 j (by omega) hj
  have b := htV_small g j 0 hj (by omega)
  rw [cornZ_left] at a
  rw [cornZ_right] at b
  omega
/-- Both answers, for either choice. -/
theorem mix_both {m k : List (List Int)} (g : Pair m k) (low : Bool) (f : Int → Int → Int) (hf : ∀ x y : Int, f x y = if (decide (x < y) == low) = true then x else y) :
    ∃ T : List (List Int), (total T ≤ 1048576 ∧ T.length ≤ 1048576) ∧ Ev (fun n => (spec_heOf.f n m).bind fun a => (spec_heOf.f n k).bind fun b => (spec_heMix.f n a b low).bind fun c => (spec_heFrom.f n c).bind fun d => some (d, true)) (T, true) ∧
      Ev (fun n => (impl_heights.f n m).bind fun a => (impl_heights.f n k).bind fun b => if a.length ≤ 1048576 ∧ b.length = a.length ∧ (∀ x ∈ a, x.length = a.length) ∧ ∀ x ∈ b, x.length = a.length then (impl_fromHeights.f (tabOf a.length a.length fun i j => f (gd a i j) (gd b i j))).bind fun r => some (r, true) else none) (T, true) := by
  obtain ⟨g1, g2, hl⟩ := g
  have h1 := g1.1.1
  have h6 := g1.1.2.1
  have s1 := small_ht g1
  have s2 := small_ht g2
  rw [← hl] at s2
  have hM := ev_heMix (htT m) (htT k) (m.length + 1) (by omega) s1 s2 low f hf
  obtain ⟨C, hC⟩ : ∃ C, C = tabOf (m.length + 1) (m.length + 1) fun i j => f (gd (htT m) i j) (gd (htT k) i j) := ⟨_, rfl⟩
  rw [← hC] at hM
  have hCl : C.length = m.length + 1 := by rw [hC, tabOf_length]
  have hCr : ∀ i, i ≤ m.length → (row C i).length = m.length + 1 := fun i hi => by rw [hC]; exact row_tab_length _ _ _ _ (by omega)
  have hCs : ∀ x ∈ C, x.length = m.length + 1 := by rw [hC]; exact tab_row_mem _ _ _
  have hff : ∀ x : Int, f x x = x := fun x => by rw [hf]; split <;> rfl
  have hB : Bord C m.length := by
    intro j hj
    rw [hC, tab_gd _ _ _ _ _ (by omega) (by omega), tab_gd _ _ _ _ _ (by omega) (by omega), htT_gd _ _ _ (by omega) hj, htT_gd _ _ _ (by omega) (by omega), htT_gd _ _ _ hj (by omega), htT_gd _ _ _ (by omega) (by omega), (htV_bord g1 j hj).1, (htV_bord g1 j hj).2, (htV_bord g2 j (by omega)).1, (htV_bord g2 j (by omega)).2, hff]
    exact ⟨rfl, rfl⟩
  refine ⟨tabOf m.length m.length (fhV C), tab_small _ _ h6, ?_, ?_⟩
  · exact Ev.bind (ev_heOf m g1.1) (Ev.bind (ev_heOf k g2.1) (Ev.bind hM (Ev.bind (ev_heFrom C m.length h1 h6 hCl hCr hB) (Ev.now _))))
  · refine Ev.bind (ev_heights m g1.1) (Ev.bind (ev_heights k g2.1) ?_)
    rw [htT_length, htT_length, ← hC, fromHeights_eq C m.length h6 hCl hCs]
    refine Ev.pos ⟨by omega, by omega, tab_row_mem _ _ _, ?_⟩ (Ev.now _)
    rw [hl]
    exact tab_row_mem _ _ _
end Go.Proofs.Ytfoidmoiedokjaa.Pure
