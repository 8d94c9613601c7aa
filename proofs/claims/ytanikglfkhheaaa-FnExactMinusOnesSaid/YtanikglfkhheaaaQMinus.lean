/- The numbers -1 of a sign matrix, as program and reference count them. -/
import Derived.Test.YtanikglfkhheaaaFSpecSgMinus
import Derived.Test.YtanikglfkhheaaaFImplCountOf
import Derived.Test.YtanikglfkhheaaaQSign
namespace Go.Proofs.Ytanikglfkhheaaa.Pure
open Go.Proofs.Ytanikglfkhheaaa.B Go.Proofs.Ytanikglfkhheaaa.P
open Go.RowKit Go.Proofs.YtanikglfkhheaaaW.PrintWords Go.Proofs.YtanikglfkhheaaaW.PrintLast Go.Proofs.YtanikglfkhheaaaW.PrintMore
set_option linter.unusedVariables false
set_option linter.unusedSimpArgs false
def neg1 (x : Int) : Int := if x < 0 then 1 else 0
def negs (m : List (List Int)) : Int := sumTo m.length fun i => sumTo m.length fun j => neg1 (gd m i j)
def negTo (m : List (List Int)) (i j : Nat) : Int := wrap64 ((sumTo i fun i => sumTo m.length fun j => neg1 (gd m i j)) + sumTo j fun j => neg1 (gd m i j))
theorem ev_sgMinus (m : List (List Int)) (h : Sq m) : Ev (fun k => spec_sgMinus.f k m) (wrap64 (negs m)) := by
  have h6 := h.2.1
  unfold spec_sgMinus.f
  refine Ev.thruE (fun i k => spec_sgMinus.l0 k (wrap64 (sumTo i fun i => sumTo m.length fun j => neg1 (gd m i j))) m (m.length : Int) (i : Int)) m.length (by simp only [sumTo, wz]; rfl) (fun i hi ih => ?_) ?_
  · refine Ev.succ ?_
    have hri : (row m i).length = m.length := h.row hi
    simp only [spec_sgMinus.l0]
    rw [row_eq, hri]
    (repeat (first | refine Ev.pos (by omega) ?_ | refine Ev.neg (by omega) ?_))
    have hs : wrap64 (sumTo i fun i => sumTo m.length fun j => neg1 (gd m i j)) = negTo m i 0 := by simp [negTo, sumTo]
    rw [hs]
    refine Ev.thru (fun j k => spec_sgMinus.l1 k (negTo m i j) m (m.length : Int) (i : Int) (row m i) (m.length : Int) (j : Int)) m.length (fun j hj ihj => ?_) ?_
    · refine Ev.succ ?_
      simp only [spec_sgMinus.l1]
      rw [hri, wrapN j (by omega), rd_row]
      (repeat (first | refine Ev.pos (by omega) ?_ | refine Ev.neg (by omega) ?_))
      have hn : negTo m i (j + 1) = if gd m i j < 0 then wrap64 (negTo m i j + 1) else negTo m i j := by
        simp only [negTo, sumTo, wrap_add]
        by_cases c : gd m i j < 0
        · rw [if_pos c]; simp [neg1, c, Int.add_assoc]
        · rw [if_neg c]; simp [neg1, c]
      rw [hn] at ihj
      by_cases c : gd m i j < 0
      · refine Ev.pos c ?_
        rwa [if_pos c] at ihj
      · refine Ev.neg c ?_
        rwa [if_neg c] at ihj
    · refine Ev.succ ?_
      simp only [spec_sgMinus.l1]
      rw [wrapN i (by omega)]
      (repeat (first | refine Ev.pos (by omega) ?_ | refine Ev.neg (by omega) ?_))
      exact ih
  · refine Ev.succ ?_
    simp only [spec_sgMinus.l0]
    (repeat (first | refine Ev.pos (by omega) ?_ | refine Ev.neg (by omega) ?_))
    exact Ev.now _
theorem ev_countOf (m : List (List Int)) (h : Good m) : Ev (fun k => impl_countOf.f k m (-1)) (wrap64 (negs m)) := by
  have h6 := h.1.2.1
  unfold impl_countOf.f
  refine Ev.thruE (fun i k => impl_countOf.l0 k (-1) (wrap64 (sumTo i fun i => sumTo m.length fun j => neg1 (gd m i j))) m (m.length : Int) (i : Int)) m.length (by simp only [sumTo, wz]; rfl) (fun i hi ih => ?_) ?_
  · refine Ev.succ ?_
    have hri : (row m i).length = m.length := h.1.row hi
    simp only [impl_countOf.l0]
    rw [row_eq, hri]
    (repeat (first | refine Ev.pos (by omega) ?_ | refine Ev.neg (by omega) ?_))
    have hs : wrap64 (sumTo i fun i => sumTo m.length fun j => neg1 (gd m i j)) = negTo m i 0 := by simp [negTo, sumTo]
    rw [hs]
    refine Ev.thru (fun j k => impl_countOf.l1 k (-1) (negTo m i j) m (m.length : Int) (i : Int) (row m i) (m.length : Int) (j : Int)) m.length (fun j hj ihj => ?_) ?_
    · refine Ev.succ ?_
      simp only [impl_countOf.l1]
      rw [hri, wrapN j (by omega), rd_row]
      have hb : impl_bit.f (gd m i j == -1) = some (neg1 (gd m i j)) := by
        have := h.num hi hj
        unfold impl_bit.f neg1
        by_cases c : gd m i j < 0
        · have e : gd m i j = -1 := by omega
          rw [e]; rfl
        · have e : (gd m i j == -1) = false := by
            rw [beq_eq_false_iff_ne]; omega
          rw [e, if_neg c]; rfl
      rw [hb]
      simp only [Option.bind_some]
      (repeat (first | refine Ev.pos (by omega) ?_ | refine Ev.neg (by omega) ?_))
      have hn : negTo m i (j + 1) = wrap64 (negTo m i j + neg1 (gd m i j)) := by
        simp only [negTo, sumTo, wrap_add, Int.add_assoc]
      rwa [hn] at ihj
    · refine Ev.succ ?_
      simp only [impl_countOf.l1]
      rw [wrapN i (by omega)]
      (repeat (first | refine Ev.pos (by omega) ?_ | refine Ev.neg (by omega) ?_))
      exact ih
  · refine Ev.succ ?_
    simp only [impl_countOf.l0]
    (repeat (first | refine Ev.pos (by omega) ?_ | refine Ev.neg (by omega) ?_))
    exact Ev.now _
end Go.Proofs.Ytanikglfkhheaaa.Pure
