import Derived.Test.YthjiajkmaimbjaaFSpecCorn
import Derived.Test.YthjiajkmaimbjaaFImplCorn
import Derived.Test.YthjiajkmaimbjaaQSign
/- Corner sums: program and reference make them alike; and the table that they make a sign matrix of. -/
namespace Go.Proofs.Ythjiajkmaimbjaa.Pure
open Go.Proofs.Ythjiajkmaimbjaa.B Go.Proofs.Ythjiajkmaimbjaa.P
open Go.RowKit Go.Proofs.YthjiajkmaimbjaaW.PrintWords Go.Proofs.YthjiajkmaimbjaaW.PrintLast Go.Proofs.YthjiajkmaimbjaaW.PrintMore
set_option linter.unusedVariables false
set_option linter.unusedSimpArgs false
def cornZ (m : List (List Int)) (i j : Nat) : Int := sumTo i fun a => sumTo j fun b => gd m a b
theorem ev_sum2 (l : List Int) (hl : l.length ≤ 1048576) : Ev (fun n => impl_sum.f n l) (wrap64 (sumTo l.length fun i => rd l (i : Int))) := by
 unfold impl_sum.f; refine Ev.thruE (fun i n => impl_sum.l0 n (wrap64 (sumTo i fun i => rd l (i : Int))) l (l.length : Int) (i : Int)) l.length (by simp only [sumTo, wz]; rfl) (fun i hi ih => ?_) ?_
 ·refine Ev.succ ?_
  simp only [impl_sum.l0]; rw [wrapN i (by omega), wrap_add]
  (repeat (first | refine Ev.pos (by omega) ?_ | refine Ev.neg (by omega) ?_))
  exact ih
 ·refine Ev.succ ?_
  simp only [impl_sum.l0]
  (repeat (first | refine Ev.pos (by omega) ?_ | refine Ev.neg (by omega) ?_))
  exact Ev.now _
theorem rd_take2 (l : List Int) (j i : Nat) (h : i < j) : rd (l.take j) (i : Int) = rd l (i : Int) := by
 unfold rd; rw [Int.toNat_natCast, List.getD_eq_getElem?_getD, List.getD_eq_getElem?_getD, List.getElem?_take_of_lt h]
theorem row_take (m : List (List Int)) (i k : Nat) (h : k < i) : rd_L1 (m.take i) (k : Int) = row m k := by
 unfold rd_L1 row; rw [Int.toNat_natCast, List.getD_eq_getElem?_getD, List.getD_eq_getElem?_getD, List.getElem?_take_of_lt h]
theorem ev_sgCorners (m : List (List Int)) (h : Sq m) : Ev (fun k => spec_sgCorners.f k m) (tabOf m.length m.length fun i j => wrap64 (cornZ m (i + 1) (j + 1))) := by
 have h6 := h.2.1; unfold spec_sgCorners.f; refine Ev.bind (ev_sgZero m.length (by omega)) ?_; rw [fill_none m.length m.length fun i j => wrap64 (cornZ m (i + 1) (j + 1))]
 have hT : ∀ i j, (tabOf m.length m.length (fillF (fun i j => wrap64 (cornZ m (i + 1) (j + 1))) i j)).length = m.length := fun i j => tabOf_length _ _ _
 refine Ev.thru (fun i k => spec_sgCorners.l0 k m (tabOf m.length m.length (fillF (fun i j => wrap64 (cornZ m (i + 1) (j + 1))) i 0)) (m.length : Int) (i : Int)) m.length (fun i hi ih => ?_) ?_
 ·refine Ev.succ ?_
  have hri : (row m i).length = m.length := h.row hi; simp only [spec_sgCorners.l0]; rw [row_eq, hri]
  (repeat (first | refine Ev.pos (by omega) ?_ | refine Ev.neg (by omega) ?_))
  refine Ev.thruE (fun j k => spec_sgCorners.l1 k m (tabOf m.length m.length (fillF (fun i j => wrap64 (cornZ m (i + 1) (j + 1))) i j)) (i : Int) (wrap64 (sumTo j fun b => gd m i b)) (m.length : Int) (i : Int) (row m i) (m.length : Int) (j : Int)) m.length (by simp only [sumTo, wz]; rfl) (fun j hj ihj => ?_) ?_
  ·refine Ev.succ ?_
   have hrt : ∀ g : Nat → Nat → Int, ∀ a, a < m.length → (row (tabOf m.length m.length g) a).length = m.length := fun g a ha => row_tab_length _ _ _ _ ha
   simp only [spec_sgCorners.l1]; rw [hT, hri, row_eq, hrt _ i hi, rd_row, wrapN j (by omega), wrap_add]
   (repeat (first | refine Ev.pos (by omega) ?_ | refine Ev.neg (by omega) ?_))
   simp only [Option.bind_some, Int.toNat_natCast]; have hsum : wrap64 ((sumTo j fun b => gd m i b) + gd m i j) = wrap64 (sumTo (j + 1) fun b => gd m i b) := rfl; rw [hsum]
   by_cases hi0 : i = 0
   ·subst hi0; rw [fill_step _ _ _ _ _ hi hj (by simp only [cornZ, sumTo, Int.zero_add])]; refine Ev.neg (by omega) ?_; exact ihj
   ·refine Ev.pos (by omega) ?_
    rw [tab_set _ _ _ _ _ hi hj]
    have hi1 : (i : Int) - 1 = ((i - 1 : Nat) : Int) := by omega
    rw [wrapE ((i : Int) - 1) (by omega) (by omega), hi1, row_eq, row_eq, hrt _ i hi, hrt _ (i - 1) (by omega)]
    (repeat (first | refine Ev.pos (by omega) ?_ | refine Ev.neg (by omega) ?_))
    rw [rd_row, rd_row, tab_gd _ _ _ _ _ hi hj, tab_gd _ _ _ _ _ (by omega) hj, if_pos ⟨rfl, rfl⟩, if_neg (by omega), tab_set _ _ _ _ _ hi hj]
    have e : (tabOf m.length m.length fun a b => if a = i ∧ b = j then wrap64 (wrap64 (sumTo (j + 1) fun b => gd m i b) + fillF (fun i j => wrap64 (cornZ m (i + 1) (j + 1))) i j (i - 1) j) else if a = i ∧ b = j then wrap64 (sumTo (j + 1) fun b => gd m i b) else fillF (fun i j => wrap64 (cornZ m (i + 1) (j + 1))) i j a b) = tabOf m.length m.length (fillF (fun i j => wrap64 (cornZ m (i + 1) (j + 1))) i (j + 1)) := by
     refine tabOf_congr (fun a ha b hb => ?_)
     by_cases c : a = i ∧ b = j
     ·obtain ⟨rfl, rfl⟩ := c
      have e1 : a - 1 + 1 = a := by omega
      unfold fillF; rw [if_pos ⟨rfl, rfl⟩, if_pos (by omega), if_pos (by omega), wrap_add, wrap_add', e1]
      congr 1
      show _ = cornZ m a (b + 1) + _; rw [Int.add_comm]
     ·rw [if_neg c, if_neg c]
      unfold fillF
      by_cases c2 : a < i ∨ (a = i ∧ b < j)
      ·rw [if_pos c2, if_pos (by omega)]
      ·rw [if_neg c2, if_neg (by omega)]
    rw [e]; exact ihj
  ·refine Ev.succ ?_
   simp only [spec_sgCorners.l1]; rw [wrapN i (by omega)]
   (repeat (first | refine Ev.pos (by omega) ?_ | refine Ev.neg (by omega) ?_))
   rw [fill_row]; exact ih
 ·refine Ev.succ ?_
  simp only [spec_sgCorners.l0]
  (repeat (first | refine Ev.pos (by omega) ?_ | refine Ev.neg (by omega) ?_))
  rw [fill_all]; exact Ev.now _
end Go.Proofs.Ythjiajkmaimbjaa.Pure
namespace Go.Proofs.Ythjiajkmaimbjaa.Pure
open Go.Proofs.Ythjiajkmaimbjaa.B Go.Proofs.Ythjiajkmaimbjaa.P
open Go.RowKit Go.Proofs.YthjiajkmaimbjaaW.PrintWords Go.Proofs.YthjiajkmaimbjaaW.PrintLast Go.Proofs.YthjiajkmaimbjaaW.PrintMore
set_option linter.unusedVariables false
set_option linter.unusedSimpArgs false
theorem Alt.sum {l : List Int} (h : Alt l) : ∀ i : Nat, i ≤ l.length → ws l i = (sumTo i fun j => rd l (j : Int)) ∧ 0 ≤ ws l i ∧ ws l i ≤ 1 := by
 intro i
 induction i with
 | zero => intro _; exact ⟨rfl, by simp [ws], by simp [ws]⟩
 | succ i ih =>
  intro hi; obtain ⟨h1, h2, h3⟩ := ih (by omega); obtain ⟨h4, h5⟩ := h.1 i (by omega); have h4 := (inB_iff _ _ _).mp h4; have h5 := (inB_iff _ _ _).mp h5; refine ⟨?_, h5.1, h5.2⟩; simp only [ws, sumTo]; rw [wrapE _ (by omega) (by omega), h1]
theorem col_rd (m : List (List Int)) (j i : Nat) (hi : i < m.length) : rd (colOf m j) (i : Int) = gd m i j := by
 unfold rd colOf; rw [Int.toNat_natCast, get_map _ _ _ hi]
theorem corn_bound {m : List (List Int)} (g : Good m) (i j : Nat) (hi : i ≤ m.length) (hj : j ≤ m.length) : 0 ≤ (sumTo i fun a => sumTo j fun b => gd m a b) ∧ (sumTo i fun a => sumTo j fun b => gd m a b) ≤ j := by
 rw [sumTo_comm]
 have := sumTo_bound j (fun b => sumTo i fun a => gd m a b) 0 1 (fun b hb => by
  have hl : (colOf m b).length = m.length := by simp [colOf]
  have h := (g.2.2 b (by omega)).sum i (by omega); rw [h.1, sumTo_congr (fun a ha => col_rd m b a (by omega))] at h
  exact h.2)
 omega
end Go.Proofs.Ythjiajkmaimbjaa.Pure
namespace Go.Proofs.Ythjiajkmaimbjaa.Pure
open Go.Proofs.Ythjiajkmaimbjaa.B Go.Proofs.Ythjiajkmaimbjaa.P
open Go.RowKit Go.Proofs.YthjiajkmaimbjaaW.PrintWords Go.Proofs.YthjiajkmaimbjaaW.PrintLast Go.Proofs.YthjiajkmaimbjaaW.PrintMore
set_option linter.unusedVariables false
set_option linter.unusedSimpArgs false
def htV (m : List (List Int)) (i j : Nat) : Int := wrap64 ((i : Int) + (j : Int) - wrap64 (2 * wrap64 (cornZ m i j)))
def htT (m : List (List Int)) : List (List Int) := tabOf (m.length + 1) (m.length + 1) (htV m)
theorem ev_cornerSum0 (m : List (List Int)) (h : Sq m) (i j : Nat) (hi : i ≤ m.length) (hj : j ≤ m.length) : Ev (fun k => impl_cornerSum.f k m (i : Int) (j : Int)) (wrap64 (cornZ m i j)) := by
 have h6 := h.2.1; unfold impl_cornerSum.f
 (repeat (first | refine Ev.pos (by omega) ?_ | refine Ev.neg (by omega) ?_))
 simp only [Option.bind_some]; rw [show ((i : Int)).toNat = i by omega]
 have htl : (m.take i).length = i := by rw [List.length_take]; omega
 rw [htl]; refine Ev.thruE (fun a k => impl_cornerSum.l0 k (j : Int) (wrap64 (cornZ m a j)) (m.take i) (i : Int) (a : Int)) i (by simp only [cornZ, sumTo, wz]; rfl) (fun a ha ih => ?_) ?_
 ·refine Ev.succ ?_
  have hra : (row m a).length = m.length := h.row (by omega); simp only [impl_cornerSum.l0]; rw [htl, row_take _ _ _ ha, hra, wrapN a (by omega)]
  (repeat (first | refine Ev.pos (by omega) ?_ | refine Ev.neg (by omega) ?_))
  rw [show ((j : Int)).toNat = j by omega]; have hs := ev_sum2 ((row m a).take j) (by simp; omega)
  have htl2 : ((row m a).take j).length = j := by rw [List.length_take]; omega
  rw [htl2, sumTo_congr (fun l hl => rd_take2 _ _ _ hl)] at hs; refine Ev.bind hs ?_; rw [wrap_add, wrap_add']; exact ih
 ·refine Ev.succ ?_
  simp only [impl_cornerSum.l0]
  (repeat (first | refine Ev.pos (by omega) ?_ | refine Ev.neg (by omega) ?_))
  exact Ev.now _
theorem ev_heights (m : List (List Int)) (h : Sq m) : Ev (fun k => impl_heights.f k m) (htT m) := by
 have h6 := h.2.1; unfold impl_heights.f; refine Ev.pos (by omega) ?_; exact ev_tabR (fun i hi j hj => Ev.bind (ev_cornerSum0 m h i j (by omega) (by omega)) (Ev.now _))
theorem cornZ_left (m : List (List Int)) (j : Nat) : cornZ m 0 j = 0 := rfl
theorem cornZ_right (m : List (List Int)) (i : Nat) : cornZ m i 0 = 0 := by
 unfold cornZ; simp only [sumTo]; exact sumTo_zero i
theorem sgAt_corn (m : List (List Int)) (h : Sq m) (i j : Nat) (hi : i ≤ m.length) (hj : j ≤ m.length) : spec_sgAt.f (tabOf m.length m.length fun i j => wrap64 (cornZ m (i + 1) (j + 1))) ((i : Int) - 1) ((j : Int) - 1) = some (wrap64 (cornZ m i j)) := by
 unfold spec_sgAt.f
 by_cases a : i = 0
 ·subst a; rw [if_pos (by omega), cornZ_left, wz]
 ·rw [if_neg (by omega)]
  by_cases b : j = 0
  ·subst b; rw [if_pos (by omega), cornZ_right, wz]
  ·obtain ⟨i, rfl⟩ : ∃ a, i = a + 1 := ⟨i - 1, by omega⟩
   obtain ⟨j, rfl⟩ : ∃ a, j = a + 1 := ⟨j - 1, by omega⟩
   rw [if_neg (by omega), show ((i + 1 : Nat) : Int) - 1 = (i : Int) by omega, show ((j + 1 : Nat) : Int) - 1 = (j : Int) by omega, tabOf_length, row_eq, row_tab_length _ _ _ _ (by omega), rd_row, tab_gd _ _ _ _ _ (by omega) (by omega)]; rw [if_pos (by omega), if_pos (by omega), if_pos (by omega), if_pos (by omega)]
theorem ev_heOf (m : List (List Int)) (h : Sq m) : Ev (fun k => spec_heOf.f k m) (htT m) := by
 have h6 := h.2.1; unfold spec_heOf.f; refine Ev.bind (ev_sgCorners m h) ?_; refine Ev.thru (fun i k => spec_heOf.l0 k m (tabOf m.length m.length fun i j => wrap64 (cornZ m (i + 1) (j + 1))) (tabOf i (m.length + 1) (htV m)) (i : Int)) (m.length + 1) (fun i hi ih => ?_) ?_
 ·refine Ev.succ ?_
  simp only [spec_heOf.l0]
  (repeat (first | refine Ev.pos (by omega) ?_ | refine Ev.neg (by omega) ?_))
  refine Ev.thru (fun j k => spec_heOf.l1 k m (tabOf m.length m.length fun i j => wrap64 (cornZ m (i + 1) (j + 1))) (tabOf i (m.length + 1) (htV m)) (i : Int) ((List.range j).map (htV m i)) (j : Int)) (m.length + 1) (fun j hj ihj => ?_) ?_
  ·refine Ev.succ ?_
   have hll : ((List.range j).map (htV m i)).length = j := by simp
   simp only [spec_heOf.l1]; rw [wrapE ((i : Int) - 1) (by omega) (by omega), wrapE ((j : Int) - 1) (by omega) (by omega), sgAt_corn m h i j (by omega) (by omega), wrapE ((i : Int) + (j : Int)) (by omega) (by omega)]; simp only [Option.bind_some]; rw [hll, wrapN j (by omega)]
   (repeat (first | refine Ev.pos (by omega) ?_ | refine Ev.neg (by omega) ?_))
   rw [List.range_succ, List.map_append] at ihj; exact ihj
  ·refine Ev.succ ?_
   have hll : (tabOf i (m.length + 1) (htV m)).length = i := tabOf_length _ _ _; simp only [spec_heOf.l1]; rw [hll]
   (repeat (first | refine Ev.pos (by omega) ?_ | refine Ev.neg (by omega) ?_))
   rw [wrapN i (by omega)]; rw [tab_succ] at ih; exact ih
 ·refine Ev.succ ?_
  simp only [spec_heOf.l0]
  (repeat (first | refine Ev.pos (by omega) ?_ | refine Ev.neg (by omega) ?_))
  exact Ev.now _
theorem htT_length (m : List (List Int)) : (htT m).length = m.length + 1 := tabOf_length _ _ _
theorem htT_row (m : List (List Int)) (i : Nat) (hi : i ≤ m.length) : (row (htT m) i).length = m.length + 1 := row_tab_length _ _ _ _ (by omega)
theorem htT_gd (m : List (List Int)) (i j : Nat) (hi : i ≤ m.length) (hj : j ≤ m.length) : gd (htT m) i j = htV m i j := tab_gd _ _ _ _ _ (by omega) (by omega)
theorem htV_small {m : List (List Int)} (g : Good m) (i j : Nat) (hi : i ≤ m.length) (hj : j ≤ m.length) : htV m i j = (i : Int) + (j : Int) - 2 * cornZ m i j ∧ 0 ≤ cornZ m i j ∧ cornZ m i j ≤ j := by
 have h6 := g.1.2.1; have h := corn_bound g i j hi hj
 have e : cornZ m i j = sumTo i fun a => sumTo j fun b => gd m a b := rfl
 rw [← e] at h; refine ⟨?_, h.1, h.2⟩; unfold htV; rw [wrapE (cornZ m i j) (by omega) (by omega), wrapE (2 * cornZ m i j) (by omega) (by omega), wrapE _ (by omega) (by omega)]
def Bord (h : List (List Int)) (n : Nat) : Prop := ∀ j, j ≤ n → gd h 0 j = (j : Int) ∧ gd h j 0 = (j : Int)
end Go.Proofs.Ythjiajkmaimbjaa.Pure
namespace Go.Proofs.Ythjiajkmaimbjaa.Pure
open Go.Proofs.Ythjiajkmaimbjaa.B Go.Proofs.Ythjiajkmaimbjaa.P
open Go.RowKit Go.Proofs.YthjiajkmaimbjaaW.PrintWords Go.Proofs.YthjiajkmaimbjaaW.PrintLast Go.Proofs.YthjiajkmaimbjaaW.PrintMore
set_option linter.unusedVariables false
set_option linter.unusedSimpArgs false
structure Lip (h : List (List Int)) (n : Nat) : Prop where
 len : h.length = n + 1
 rows : ∀ i, i ≤ n → (row h i).length = n + 1
 dv : ∀ i, i < n → ∀ j, j ≤ n → gd h (i + 1) j = gd h i j + 1 ∨ gd h (i + 1) j = gd h i j - 1
 dh : ∀ i, i ≤ n → ∀ j, j < n → gd h i (j + 1) = gd h i j + 1 ∨ gd h i (j + 1) = gd h i j - 1
 bord : Bord h n
theorem Lip.num {h : List (List Int)} {n : Nat} (L : Lip h n) (i j : Nat) (hi : i ≤ n) (hj : j ≤ n) : (j : Int) - (i : Int) ≤ gd h i j ∧ gd h i j ≤ (j : Int) + (i : Int) := by
 induction i with
 | zero => have := (L.bord j hj).1; omega
 | succ i ih =>
  have h1 := ih (by omega); have h2 := L.dv i (by omega) j hj; omega
theorem lip_ht {m : List (List Int)} (g : Good m) : Lip (htT m) m.length where
 len := htT_length m
 rows := fun i hi => htT_row m i hi
 dv := fun i hi j hj => by
  rw [htT_gd _ _ _ (by omega) hj, htT_gd _ _ _ (by omega) hj, (htV_small g (i + 1) j (by omega) hj).1, (htV_small g i j (by omega) hj).1]
  have h1 : cornZ m (i + 1) j = cornZ m i j + sumTo j fun b => gd m i b := rfl
  have hl : (row m i).length = m.length := g.1.row hi; have h2 := (g.2.1 i hi).sum j (by omega); rw [sumTo_congr (g := fun b => gd m i b) (fun a _ => rd_row m i a)] at h2; omega
 dh := fun i hi j hj => by
  rw [htT_gd _ _ _ hi (by omega), htT_gd _ _ _ hi (by omega), (htV_small g i (j + 1) hi (by omega)).1, (htV_small g i j hi (by omega)).1]
  have h1 : cornZ m i (j + 1) = cornZ m i j + sumTo i fun a => gd m a j := by
   unfold cornZ; rw [← sumTo_add]; exact sumTo_congr (fun a _ => rfl)
  have hl : (colOf m j).length = m.length := by simp [colOf]
  have h2 := (g.2.2 j hj).sum i (by omega); rw [sumTo_congr (g := fun a => gd m a j) (fun a ha => col_rd m j a (by omega))] at h2; omega
 bord := fun j hj => by
  have a := htV_small g 0 j (by omega) hj; have b := htV_small g j 0 hj (by omega); rw [cornZ_left] at a; rw [cornZ_right] at b; rw [htT_gd _ _ _ (by omega) hj, htT_gd _ _ _ hj (by omega)]; omega
end Go.Proofs.Ythjiajkmaimbjaa.Pure
