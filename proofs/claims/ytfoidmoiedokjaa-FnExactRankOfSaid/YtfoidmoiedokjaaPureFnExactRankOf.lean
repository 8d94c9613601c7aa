/- FnExactRankOf returns true for every table: program and reference measure alike. No conditions. -/
import Derived.Test.YtfoidmoiedokjaaFLawsFnExactRankOf
import Derived.Test.YtfoidmoiedokjaaQDist
import Derived.Test.YtfoidmoiedokjaaFSpecDist
namespace Go.Proofs.Ytfoidmoiedokjaa.Pure
open Go.Proofs.Ytfoidmoiedokjaa.B Go.Proofs.Ytfoidmoiedokjaa.P
open Go.RowKit Go.Proofs.YtfoidmoiedokjaaW.PrintWords Go.Proofs.YtfoidmoiedokjaaW.PrintLast Go.Proofs.YtfoidmoiedokjaaW.PrintMore
set_option linter.unusedVariables false
set_option linter.unusedSimpArgs false
theorem ev_heLeast (n : Nat) (hn : n ≤ 1048576) : Ev (fun k => spec_heLeast.f k (n : Int)) (tabOf n n fun i j => if i = j then 1 else 0) := by
  unfold spec_heLeast.f
  refine Ev.bind (ev_sgZero n hn) ?_
  rw [tabOf_length]
  refine Ev.thruE (fun i k => spec_heLeast.l0 k (tabOf n n fun a b => if a < i ∧ a = b then 1 else 0) (n : Int) (i : Int)) n (by
    rw [tabOf_congr (n := n) (m := n) (f := fun a b => if a < 0 ∧ a = b then 1 else 0) (g := fun _ _ => 0) (fun a _ b _ => by rw [if_neg (by omega)])]; rfl) (fun i hi ih => ?_) ?_
  · refine Ev.succ ?_
    simp only [spec_heLeast.l0]
    rw [tabOf_length, row_eq, row_tab_length _ _ _ _ hi, wrapN i (by omega), Int.toNat_natCast, tab_set _ _ _ _ _ hi hi]
    (repeat (first | refine Ev.pos (by omega) ?_ | refine Ev.neg (by omega) ?_))
    rw [tabOf_congr (n := n) (m := n) (g := fun a b => if a < i + 1 ∧ a = b then 1 else 0) (fun a _ b _ => by
      by_cases c : a = i ∧ b = i
      · rw [if_pos c, if_pos (by omega)]
      · rw [if_neg c]
        by_cases c2 : a < i ∧ a = b
        · rw [if_pos c2, if_pos (by omega)]
        · rw [if_neg c2, if_neg (by omega)])]
    exact ih
  · refine Ev.succ ?_
    simp only [spec_heLeast.l0]
    (repeat (first | refine Ev.pos (by omega) ?_ | refine Ev.neg (by omega) ?_))
    rw [tabOf_congr (n := n) (m := n) (g := fun i j => if i = j then 1 else 0) (fun a _ b _ => by
      by_cases c2 : a = b
      · rw [if_pos (by omega), if_pos c2]
      · rw [if_neg (by omega), if_neg c2])]
    exact Ev.now _
theorem sum_one (n p : Nat) : (sumTo n fun j => if p = j then (1 : Int) else 0) = if p < n then 1 else 0 := by
  induction n with
  | zero => rfl
  | succ n ih =>
    simp only [sumTo]
    rw [ih]
    by_cases c : p < n
    · rw [if_pos c, if_neg (by omega), if_pos (by omega)]; rfl
    · by_cases c2 : p = n
      · rw [if_neg c, if_pos c2, if_pos (by omega)]; rfl
      · rw [if_neg c, if_neg c2, if_neg (by omega)]; rfl
/-- The heights of the least sign matrix are small. -/
theorem least_small (n : Nat) (h1 : 1 ≤ n) (h6 : n ≤ 6) : Small (htT (tabOf n n fun i j => if i = j then 1 else 0)) (n + 1) where
  len := by rw [htT_length, tabOf_length]
  rows := fun i hi => by rw [htT_row _ _ (by rw [tabOf_length]; omega), tabOf_length]
  num := fun i hi j hj => by
    rw [htT_gd _ _ _ (by rw [tabOf_length]; omega) (by rw [tabOf_length]; omega)]
    have hc : 0 ≤ cornZ (tabOf n n fun i j => if i = j then 1 else 0) i j ∧ cornZ (tabOf n n fun i j => if i = j then 1 else 0) i j ≤ i := by
      have := sumTo_bound i (fun a => sumTo j fun b => gd (tabOf n n fun i j => if i = j then 1 else 0) a b) 0 1 (fun a ha => by
        show 0 ≤ (sumTo j fun b => gd (tabOf n n fun i j => if i = j then 1 else 0) a b) ∧ _
        rw [sumTo_congr (g := fun b => if a = b then (1 : Int) else 0) (fun b hb => tab_gd _ _ _ _ _ (by omega) (by omega)), sum_one]
        by_cases c : a < j
        · rw [if_pos c]; omega
        · rw [if_neg c]; omega)
      have e : cornZ (tabOf n n fun i j => if i = j then 1 else 0) i j = sumTo i fun a => sumTo j fun b => gd (tabOf n n fun i j => if i = j then 1 else 0) a b := rfl
      rw [← e] at this
      omega
    unfold htV
    generalize cornZ (tabOf n n fun i j => if i = j then 1 else 0) i j = c at *
    rw [wrapE c (by omega) (by omega), wrapE (2 * c) (by omega) (by omega), wrapE _ (by omega) (by omega)]
    omega
theorem FnExactRankOf : laws_FnExactRankOf.Pure := by
  intro m hm _ _
  have h : EvP (fun _ => True) (fun n => spec_RankOf.f n m) (fun n => impl_RankOf.f n m) := by
    unfold spec_RankOf.f impl_RankOf.f
    refine good_start m hm _ trivial (fun g => ?_)
    have h1 := g.1.1
    have h6 := g.1.2.1
    have s1 := small_ht g
    have s2 := least_small m.length h1 h6
    have hq : Sq (tabOf m.length m.length fun i j => if i = j then 1 else 0) := tab_sq _ _ h1 h6
    have hL : impl_least.f (m.length : Int) = some (tabOf m.length m.length fun i j => if i = j then 1 else 0) := by
      unfold impl_least.f
      rw [if_pos (by omega), Int.toNat_natCast]
    refine ⟨_, trivial, Ev.bind (ev_heOf m g.1) (Ev.bind (ev_heLeast m.length hm) (Ev.bind (ev_heOf _ hq) (Ev.bind (ev_heApart _ _ _ (by omega) s1 s2) (Ev.now _)))), ?_⟩
    refine Ev.bind0 hL ?_
    unfold impl_distance.f
    exact Ev.bind (Ev.bind (ev_heights m g.1) (Ev.bind (ev_heights _ hq) (ev_distance _ _ _ (by omega) s1 s2))) (Ev.now _)
  obtain ⟨b, _, e1, e2⟩ := h
  exact ⟨b.1, b.2, e1.rounds, e2.rounds⟩
end Go.Proofs.Ytfoidmoiedokjaa.Pure
