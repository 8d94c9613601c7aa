/- Two tables are the same: the reference's test; the sums of a sign matrix' whole columns. -/
import Derived.Test.YthjiajkmaimbjaaQHeight
import Derived.Test.YthjiajkmaimbjaaFSpecDist
import Derived.Test.YthjiajkmaimbjaaFSpecTrMore
namespace Go.Proofs.Ythjiajkmaimbjaa.Pure
open Go.Proofs.Ythjiajkmaimbjaa.B Go.Proofs.Ythjiajkmaimbjaa.P
open Go.RowKit Go.Proofs.YthjiajkmaimbjaaW.PrintWords Go.Proofs.YthjiajkmaimbjaaW.PrintLast Go.Proofs.YthjiajkmaimbjaaW.PrintMore
set_option linter.unusedVariables false
set_option linter.unusedSimpArgs false
theorem corn_full {m : List (List Int)} (g : Good m) (j : Nat) (hj : j ≤ m.length) : cornZ m m.length j = j := by
 unfold cornZ; rw [sumTo_comm]
 rw [sumTo_congr (g := fun _ => 1) (fun b hb => by
  have hl : (colOf m b).length = m.length := by simp [colOf]
  have h := (g.2.2 b (by omega)).sum m.length (by omega); have h2 := (g.2.2 b (by omega)).2; rw [hl] at h2; rw [h2, sumTo_congr (fun a ha => col_rd m b a (by omega))] at h
  exact h.1.symm)]
 clear hj
 induction j with
 | zero => rfl
 | succ j ih => simp only [sumTo]; rw [ih]; omega
theorem list_same (l m : List Int) (h : l.length = m.length) (k : ∀ i, i < l.length → rd l (i : Int) = rd m (i : Int)) : l = m := by
 refine List.ext_getElem h (fun i h1 h2 => ?_); have := k i h1
 rwa [rd_get l i h1, rd_get m i h2] at this
theorem ev_l1Same (l m : List Int) (hl : l.length ≤ 1048576) : EvB (fun k => spec_l1Same.f k l m) (l = m) := by
 unfold spec_l1Same.f
 by_cases h : l.length = m.length
 ·refine EvB.pos (by omega) ?_
  refine (EvB.all (E := True) (fun i k => spec_l1Same.l0 k l m (l.length : Int) (i : Int)) l.length (fun i => rd l (i : Int) = rd m (i : Int)) (fun i hi R ih => ?_) ?_).iff ⟨fun g => list_same l m h g.1, fun g => ⟨fun i _ => by rw [g], trivial⟩⟩
  ·refine EvB.succ ?_; simp only [spec_l1Same.l0]; rw [wrapN i (by omega)]; refine EvB.pos (by omega) (EvB.pos (by omega) (EvB.pos (by omega) (EvB.pos (by omega) ?_))); exact EvB.and_ (fun _ => ih)
  ·refine EvB.succ ?_; simp only [spec_l1Same.l0]; exact EvB.neg (by omega) (EvB.yes trivial)
 ·exact EvB.neg (by omega) (EvB.no fun e => h (by rw [e]))
theorem tab_same (a b : List (List Int)) (h : a.length = b.length) (k : ∀ i, i < a.length → row a i = row b i) : a = b := by
 refine List.ext_getElem h (fun i h1 h2 => ?_); have := k i h1; unfold row at this
 rwa [List.getD_eq_getElem?_getD, List.getD_eq_getElem?_getD, List.getElem?_eq_getElem h1, List.getElem?_eq_getElem h2] at this
theorem ev_heSame (a b : List (List Int)) (ha : a.length ≤ 1048576) (hr : ∀ i, i < a.length → (row a i).length ≤ 1048576) : EvB (fun k => spec_heSame.f k a b) (a = b) := by
 unfold spec_heSame.f
 by_cases h : a.length = b.length
 ·refine EvB.pos (by omega) ?_
  refine (EvB.all (E := True) (fun i k => spec_heSame.l0 k b a (a.length : Int) (i : Int)) a.length (fun i => row a i = row b i) (fun i hi R ih => ?_) ?_).iff ⟨fun g => tab_same a b h g.1, fun g => ⟨fun i _ => by rw [g], trivial⟩⟩
  ·refine EvB.succ ?_; simp only [spec_heSame.l0]; rw [wrapN i (by omega), row_eq, row_eq]; refine EvB.pos (by omega) (EvB.pos (by omega) (EvB.pos (by omega) (EvB.pos (by omega) ?_))); exact EvB.bindAnd (ev_l1Same (row a i) (row b i) (hr i hi)) (fun _ => ih)
  ·refine EvB.succ ?_; simp only [spec_heSame.l0]; exact EvB.neg (by omega) (EvB.yes trivial)
 ·exact EvB.neg (by omega) (EvB.no fun e => h (by rw [e]))
end Go.Proofs.Ythjiajkmaimbjaa.Pure
