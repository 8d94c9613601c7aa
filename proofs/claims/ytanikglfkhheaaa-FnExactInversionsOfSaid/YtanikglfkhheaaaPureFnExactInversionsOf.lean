/- FnExactInversionsOf returns true for every table: program and reference count inversions alike. No conditions. -/
import Derived.Test.YtanikglfkhheaaaFLawsFnExactInversionsOf
import Derived.Test.YtanikglfkhheaaaQSign
namespace Go.Proofs.Ytanikglfkhheaaa.Pure
open Go.Proofs.Ytanikglfkhheaaa.B Go.Proofs.Ytanikglfkhheaaa.P
open Go.RowKit Go.Proofs.YtanikglfkhheaaaW.PrintWords Go.Proofs.YtanikglfkhheaaaW.PrintLast Go.Proofs.YtanikglfkhheaaaW.PrintMore
set_option linter.unusedVariables false
set_option linter.unusedSimpArgs false
/-- What a number at the place i, j and the row k later give. -/
def invIJ (m : List (List Int)) (i j k : Nat) : Int := gd m i j * sumTo j fun l => gd m k l
/-- The later rows, counted from 0. -/
def invS (m : List (List Int)) (i : Nat) : Int := sumTo (m.length - (i + 1)) fun k => sumTo m.length fun j => invIJ m i j (i + 1 + k)
theorem inv_l2 (m : List (List Int)) (h : Sq m) (i k : Nat) (hi : i < m.length) (hk : k < m.length) (a : Int) {r : Int × Bool}
    (hn : Ev (fun n => spec_InversionsOf.l1 n m (wrap64 (a + sumTo m.length fun j => invIJ m i j k)) (i : Int) ((k + 1 : Nat) : Int) (m.length : Int) (i : Int)) r) :
    Ev (fun n => spec_InversionsOf.l2 n m (wrap64 a) (i : Int) (k : Int) (m.length : Int) (i : Int) (row m i) (m.length : Int) 0) r := by
  have h6 := h.2.1
  have hri : (row m i).length = m.length := h.row hi
  have hrk : (row m k).length = m.length := h.row hk
  refine Ev.thruE (fun j n => spec_InversionsOf.l2 n m (wrap64 (a + sumTo j fun j => invIJ m i j k)) (i : Int) (k : Int) (m.length : Int) (i : Int) (row m i) (m.length : Int) (j : Int)) m.length (by simp only [sumTo, Int.add_zero]; rfl) (fun j hj ih => ?_) ?_
  · refine Ev.succ ?_
    simp only [spec_InversionsOf.l2]
    rw [hri, rd_row]
    (repeat (first | refine Ev.pos (by omega) ?_ | refine Ev.neg (by omega) ?_))
    refine Ev.thruE (fun l n => spec_InversionsOf.l3 n m (wrap64 (a + (sumTo j fun j => invIJ m i j k) + gd m i j * sumTo l fun l => gd m k l)) (i : Int) (k : Int) (j : Int) (gd m i j) (l : Int) (m.length : Int) (i : Int) (row m i) (m.length : Int) (j : Int)) j (by simp only [sumTo, Int.mul_zero, Int.add_zero]; rfl) (fun l hl ihl => ?_) ?_
    · refine Ev.succ ?_
      simp only [spec_InversionsOf.l3]
      rw [row_eq, hrk, rd_row, wrapN l (by omega)]
      (repeat (first | refine Ev.pos (by omega) ?_ | refine Ev.neg (by omega) ?_))
      rw [wrap_add, wrap_add']
      simp only [sumTo, Int.mul_add] at ihl
      rwa [← Int.add_assoc] at ihl
    · refine Ev.succ ?_
      simp only [spec_InversionsOf.l3]
      rw [wrapN j (by omega)]
      (repeat (first | refine Ev.pos (by omega) ?_ | refine Ev.neg (by omega) ?_))
      simp only [sumTo] at ih
      rwa [← Int.add_assoc] at ih
  · refine Ev.succ ?_
    simp only [spec_InversionsOf.l2]
    rw [wrapN k (by omega)]
    (repeat (first | refine Ev.pos (by omega) ?_ | refine Ev.neg (by omega) ?_))
    exact hn
theorem ev_inv_spec (m : List (List Int)) (h : Sq m) : Ev (fun n => spec_InversionsOf.l0 n m 0 (m.length : Int) 0) (wrap64 (sumTo m.length (invS m)), true) := by
  have h6 := h.2.1
  refine Ev.thruE (fun i n => spec_InversionsOf.l0 n m (wrap64 (sumTo i (invS m))) (m.length : Int) (i : Int)) m.length (by simp only [sumTo, wz]; rfl) (fun i hi ih => ?_) ?_
  · refine Ev.succ ?_
    have hri : (row m i).length = m.length := h.row hi
    simp only [spec_InversionsOf.l0]
    rw [wrapN i (by omega)]
    (repeat (first | refine Ev.pos (by omega) ?_ | refine Ev.neg (by omega) ?_))
    refine Ev.thruE (fun k n => spec_InversionsOf.l1 n m (wrap64 (sumTo i (invS m) + sumTo k fun k => sumTo m.length fun j => invIJ m i j (i + 1 + k))) (i : Int) ((i + 1 + k : Nat) : Int) (m.length : Int) (i : Int)) (m.length - (i + 1)) (by simp only [sumTo, Int.add_zero]) (fun k hk ihk => ?_) ?_
    · refine Ev.succ ?_
      simp only [spec_InversionsOf.l1]
      rw [row_eq, hri]
      (repeat (first | refine Ev.pos (by omega) ?_ | refine Ev.neg (by omega) ?_))
      refine inv_l2 m h i (i + 1 + k) hi (by omega) _ ?_
      simp only [sumTo] at ihk
      rwa [← Int.add_assoc] at ihk
    · refine Ev.succ ?_
      simp only [spec_InversionsOf.l1]
      rw [wrapN i (by omega)]
      (repeat (first | refine Ev.pos (by omega) ?_ | refine Ev.neg (by omega) ?_))
      exact ih
  · refine Ev.succ ?_
    simp only [spec_InversionsOf.l0]
    (repeat (first | refine Ev.pos (by omega) ?_ | refine Ev.neg (by omega) ?_))
    exact Ev.now _
theorem ev_sum (l : List Int) (hl : l.length ≤ 1048576) : Ev (fun n => impl_sum.f n l) (wrap64 (sumTo l.length fun i => rd l (i : Int))) := by
  unfold impl_sum.f
  refine Ev.thruE (fun i n => impl_sum.l0 n (wrap64 (sumTo i fun i => rd l (i : Int))) l (l.length : Int) (i : Int)) l.length (by simp only [sumTo, wz]; rfl) (fun i hi ih => ?_) ?_
  · refine Ev.succ ?_
    simp only [impl_sum.l0]
    rw [wrapN i (by omega), wrap_add]
    (repeat (first | refine Ev.pos (by omega) ?_ | refine Ev.neg (by omega) ?_))
    exact ih
  · refine Ev.succ ?_
    simp only [impl_sum.l0]
    (repeat (first | refine Ev.pos (by omega) ?_ | refine Ev.neg (by omega) ?_))
    exact Ev.now _
theorem rd_take (l : List Int) (j i : Nat) (h : i < j) : rd (l.take j) (i : Int) = rd l (i : Int) := by
  unfold rd
  rw [Int.toNat_natCast, List.getD_eq_getElem?_getD, List.getD_eq_getElem?_getD, List.getElem?_take_of_lt h]
theorem row_drop (m : List (List Int)) (i k : Nat) : rd_L1 (m.drop i) (k : Int) = row m (i + k) := by
  unfold rd_L1 row
  rw [Int.toNat_natCast, List.getD_eq_getElem?_getD, List.getD_eq_getElem?_getD, List.getElem?_drop]
theorem ev_inv_impl (m : List (List Int)) (h : Sq m) : Ev (fun n => impl_inversions.f n m) (wrap64 (sumTo m.length (invS m))) := by
  have h6 := h.2.1
  unfold impl_inversions.f
  refine Ev.thruE (fun i n => impl_inversions.l0 n m (wrap64 (sumTo i (invS m))) m (m.length : Int) (i : Int)) m.length (by simp only [sumTo, wz]; rfl) (fun i hi ih => ?_) ?_
  · refine Ev.succ ?_
    have hri : (row m i).length = m.length := h.row hi
    simp only [impl_inversions.l0]
    rw [row_eq, hri]
    (repeat (first | refine Ev.pos (by omega) ?_ | refine Ev.neg (by omega) ?_))
    have hsw : invS m i = sumTo m.length fun j => sumTo (m.length - (i + 1)) fun k => invIJ m i j (i + 1 + k) := by
      unfold invS
      exact sumTo_comm _ _ _
    refine Ev.thruE (fun j n => impl_inversions.l1 n m (wrap64 (sumTo i (invS m) + sumTo j fun j => sumTo (m.length - (i + 1)) fun k => invIJ m i j (i + 1 + k))) (i : Int) m (m.length : Int) (i : Int) (row m i) (m.length : Int) (j : Int)) m.length (by simp only [sumTo, Int.add_zero]; rfl) (fun j hj ihj => ?_) ?_
    · refine Ev.succ ?_
      simp only [impl_inversions.l1]
      rw [wrapN i (by omega), hri, rd_row]
      (repeat (first | refine Ev.pos (by omega) ?_ | refine Ev.neg (by omega) ?_))
      simp only [Option.bind_some]
      have hdl : (m.drop (((i + 1 : Nat) : Int)).toNat).length = m.length - (i + 1) := by simp
      rw [hdl, Int.toNat_natCast]
      refine Ev.thruE (fun k n => impl_inversions.l2 n m (wrap64 (sumTo i (invS m) + (sumTo j fun j => sumTo (m.length - (i + 1)) fun k => invIJ m i j (i + 1 + k)) + sumTo k fun k => invIJ m i j (i + 1 + k))) (i : Int) (j : Int) (gd m i j) m (m.length : Int) (i : Int) (row m i) (m.length : Int) (j : Int) (m.drop (i + 1)) ((m.length - (i + 1) : Nat) : Int) (k : Int)) (m.length - (i + 1)) (by simp only [sumTo, Int.add_zero]; rfl) (fun k hk ihk => ?_) ?_
      · refine Ev.succ ?_
        have hrk : (row m (i + 1 + k)).length = m.length := h.row (by omega)
        simp only [impl_inversions.l2]
        rw [row_drop, hrk, wrapN k (by omega), Int.toNat_natCast]
        refine Ev.pos (by omega) (Ev.pos (by omega) (Ev.pos (by simp; omega) (Ev.pos (by omega) (Ev.pos (by omega) ?_))))
        have hs := ev_sum ((row m (i + 1 + k)).take j) (by simp; omega)
        have htl : ((row m (i + 1 + k)).take j).length = j := by rw [List.length_take]; omega
        rw [htl, sumTo_congr (fun l hl => rd_take _ _ _ hl)] at hs
        refine Ev.bind hs ?_
        rw [wrap_add, wrap_add', ← wrap_add' _ (gd m i j * _), wrap_mul, wrap_add']
        simp only [sumTo] at ihk
        rwa [← Int.add_assoc] at ihk
      · refine Ev.succ ?_
        simp only [impl_inversions.l2]
        rw [wrapN j (by omega)]
        (repeat (first | refine Ev.pos (by omega) ?_ | refine Ev.neg (by omega) ?_))
        simp only [sumTo] at ihj
        rwa [← Int.add_assoc] at ihj
    · refine Ev.succ ?_
      simp only [impl_inversions.l1]
      rw [wrapN i (by omega)]
      (repeat (first | refine Ev.pos (by omega) ?_ | refine Ev.neg (by omega) ?_))
      simp only [sumTo] at ih
      rwa [hsw] at ih
  · refine Ev.succ ?_
    simp only [impl_inversions.l0]
    (repeat (first | refine Ev.pos (by omega) ?_ | refine Ev.neg (by omega) ?_))
    exact Ev.now _
theorem FnExactInversionsOf : laws_FnExactInversionsOf.Pure := by
  intro m hl _ _
  have h : EvP (fun _ => True) (fun k => spec_InversionsOf.f k m) (fun k => impl_InversionsOf.f k m) := by
    refine good_start m hl _ trivial (fun g => ?_)
    exact ⟨_, trivial, ev_inv_spec m g.1, Ev.bind (ev_inv_impl m g.1) (Ev.now _)⟩
  obtain ⟨b, _, e1, e2⟩ := h
  exact ⟨b.1, b.2, e1.rounds, e2.rounds⟩
end Go.Proofs.Ytanikglfkhheaaa.Pure
