/- Comparisons and distances of tables of heights. -/
import Derived.Test.YtadepmjfhcmkoaaQHeight
import Derived.Test.YtadepmjfhcmkoaaFSpecDist
import Derived.Test.YtadepmjfhcmkoaaFImplDist
namespace Go.Proofs.Ytadepmjfhcmkoaa.Pure
open Go.Proofs.Ytadepmjfhcmkoaa.B Go.Proofs.Ytadepmjfhcmkoaa.P
open Go.RowKit Go.Proofs.YtadepmjfhcmkoaaW.PrintWords Go.Proofs.YtadepmjfhcmkoaaW.PrintLast Go.Proofs.YtadepmjfhcmkoaaW.PrintMore
set_option linter.unusedVariables false
set_option linter.unusedSimpArgs false
def BelowT (a b : List (List Int)) (n : Nat) : Prop := ∀ i, i < n → ∀ j, j < n → gd a i j ≤ gd b i j
theorem ev_heBelow (a b : List (List Int)) (n : Nat) (hn : n ≤ 1048576) (ha : Small a n) (hb : Small b n) : EvB (fun k => spec_heBelow.f k a b) (BelowT a b n) := by
  unfold spec_heBelow.f
  rw [ha.len]
  refine (EvB.all (E := True) (fun i k => spec_heBelow.l0 k b a (n : Int) (i : Int)) n (fun i => ∀ j, j < n → gd a i j ≤ gd b i j) (fun i hi R ih => ?_) ?_).iff ⟨fun h => h.1, fun h => ⟨h, trivial⟩⟩
  · refine EvB.succ ?_
    simp only [spec_heBelow.l0]
    rw [ha.len, row_eq, ha.rows i hi]
    (repeat (first | refine EvB.pos (by omega) ?_ | refine EvB.neg (by omega) ?_))
    refine EvB.all (fun j k => spec_heBelow.l1 k b (i : Int) a (n : Int) (i : Int) (row a i) (n : Int) (j : Int)) n _ (fun j hj S ihj => ?_) ?_
    · refine EvB.succ ?_
      simp only [spec_heBelow.l1]
      rw [ha.rows i hi, hb.len, row_eq, hb.rows i hi, rd_row, rd_row, wrapN j (by omega)]
      refine EvB.pos (by omega) (EvB.pos (by omega) (EvB.pos (by omega) (EvB.pos (by omega) (EvB.pos (by omega) (EvB.pos (by omega) ?_)))))
      by_cases c : gd a i j > gd b i j
      · exact EvB.pos c (EvB.no (fun h => by omega))
      · exact EvB.neg c (ihj.iff ⟨fun h => ⟨by omega, h⟩, fun h => h.2⟩)
    · refine EvB.succ ?_
      simp only [spec_heBelow.l1]
      rw [wrapN i (by omega)]
      refine EvB.neg (by omega) ih
  · refine EvB.succ ?_
    simp only [spec_heBelow.l0]
    (repeat (first | refine EvB.pos (by omega) ?_ | refine EvB.neg (by omega) ?_))
    exact EvB.yes trivial
theorem ev_isBelow (a b : List (List Int)) (n : Nat) (hn : n ≤ 1048576) (ha : Small a n) (hb : Small b n) : EvB (fun k => impl_isBelow.l0 k b a (a.length : Int) 0) (BelowT a b n) := by
  rw [ha.len]
  refine (EvB.all (E := True) (fun i k => impl_isBelow.l0 k b a (n : Int) (i : Int)) n (fun i => ∀ j, j < n → gd a i j ≤ gd b i j) (fun i hi R ih => ?_) ?_).iff ⟨fun h => h.1, fun h => ⟨h, trivial⟩⟩
  · refine EvB.succ ?_
    simp only [impl_isBelow.l0]
    rw [ha.len, row_eq, ha.rows i hi]
    (repeat (first | refine EvB.pos (by omega) ?_ | refine EvB.neg (by omega) ?_))
    refine EvB.all (fun j k => impl_isBelow.l1 k b (i : Int) a (n : Int) (i : Int) (row a i) (n : Int) (j : Int)) n _ (fun j hj S ihj => ?_) ?_
    · refine EvB.succ ?_
      simp only [impl_isBelow.l1]
      rw [ha.rows i hi, hb.len, row_eq, hb.rows i hi, rd_row, rd_row, wrapN j (by omega)]
      refine EvB.pos (by omega) (EvB.pos (by omega) (EvB.pos (by omega) (EvB.pos (by omega) (EvB.pos (by omega) (EvB.pos (by omega) ?_)))))
      by_cases c : gd a i j > gd b i j
      · exact EvB.pos c (EvB.no (fun h => by omega))
      · exact EvB.neg c (ihj.iff ⟨fun h => ⟨by omega, h⟩, fun h => h.2⟩)
    · refine EvB.succ ?_
      simp only [impl_isBelow.l1]
      rw [wrapN i (by omega)]
      refine EvB.neg (by omega) ih
  · refine EvB.succ ?_
    simp only [impl_isBelow.l0]
    (repeat (first | refine EvB.pos (by omega) ?_ | refine EvB.neg (by omega) ?_))
    exact EvB.yes trivial
/-- A difference without its sign. -/
def dif (a b : List (List Int)) (i j : Nat) : Int := if gd a i j - gd b i j < 0 then gd b i j - gd a i j else gd a i j - gd b i j
def difTo (a b : List (List Int)) (n i j : Nat) : Int := wrap64 ((sumTo i fun i => sumTo n fun j => dif a b i j) + sumTo j fun j => dif a b i j)
theorem difTo_row (a b : List (List Int)) (n i : Nat) : difTo a b n i n = difTo a b n (i + 1) 0 := by
  simp only [difTo, sumTo, Int.add_zero]
theorem difTo_step (a b : List (List Int)) (n i j : Nat) : wrap64 (difTo a b n i j + dif a b i j) = difTo a b n i (j + 1) := by
  simp only [difTo, sumTo, wrap_add, Int.add_assoc]
theorem difTo_zero (a b : List (List Int)) (n : Nat) : difTo a b n 0 0 = 0 := by
  simp only [difTo, sumTo, Int.add_zero, wz]
theorem ev_heApart (a b : List (List Int)) (n : Nat) (hn : n ≤ 1048576) (ha : Small a n) (hb : Small b n) : Ev (fun k => spec_heApart.f k a b) (wrap64 (Int.tdiv (difTo a b n n 0) 2)) := by
  unfold spec_heApart.f
  rw [ha.len]
  refine Ev.thruE (fun i k => spec_heApart.l0 k b (difTo a b n i 0) a (n : Int) (i : Int)) n (by rw [difTo_zero]; rfl) (fun i hi ih => ?_) ?_
  · refine Ev.succ ?_
    simp only [spec_heApart.l0]
    rw [ha.len, row_eq, ha.rows i hi]
    (repeat (first | refine Ev.pos (by omega) ?_ | refine Ev.neg (by omega) ?_))
    refine Ev.thru (fun j k => spec_heApart.l1 k b (difTo a b n i j) (i : Int) a (n : Int) (i : Int) (row a i) (n : Int) (j : Int)) n (fun j hj ihj => ?_) ?_
    · refine Ev.succ ?_
      have h1 := ha.num i hi j hj
      have h2 := hb.num i hi j hj
      simp only [spec_heApart.l1]
      rw [ha.rows i hi, hb.len, row_eq, hb.rows i hi, rd_row, rd_row, wrapN j (by omega), wrapE (gd a i j - gd b i j) (by omega) (by omega)]
      have e : spec_l1Abs.f (gd a i j - gd b i j) = some (dif a b i j) := by
        unfold spec_l1Abs.f spec_l1Most.f dif
        rw [wrapE _ (by omega) (by omega)]
        by_cases c : gd a i j - gd b i j < 0
        · rw [if_pos c, if_neg (by omega)]
          simp only [Option.bind_some]
          congr 1; omega
        · rw [if_neg c]
          by_cases c2 : gd a i j - gd b i j > -(gd a i j - gd b i j)
          · rw [if_pos c2]; rfl
          · rw [if_neg c2]
            simp only [Option.bind_some]
            congr 1; omega
      rw [e]
      simp only [Option.bind_some]
      rw [difTo_step]
      exact Ev.pos (by omega) (Ev.pos (by omega) (Ev.pos (by omega) (Ev.pos (by omega) (Ev.pos (by omega) (Ev.pos (by omega) ihj)))))
    · refine Ev.succ ?_
      simp only [spec_heApart.l1]
      rw [wrapN i (by omega), difTo_row]
      exact Ev.neg (by omega) ih
  · refine Ev.succ ?_
    simp only [spec_heApart.l0]
    (repeat (first | refine Ev.pos (by omega) ?_ | refine Ev.neg (by omega) ?_))
    exact Ev.now _
theorem ev_distance (a b : List (List Int)) (n : Nat) (hn : n ≤ 1048576) (ha : Small a n) (hb : Small b n) : Ev (fun k => impl_distance.l0 k b 0 a (a.length : Int) 0) (wrap64 (Int.tdiv (difTo a b n n 0) 2)) := by
  rw [ha.len]
  refine Ev.thruE (fun i k => impl_distance.l0 k b (difTo a b n i 0) a (n : Int) (i : Int)) n (by rw [difTo_zero]; rfl) (fun i hi ih => ?_) ?_
  · refine Ev.succ ?_
    simp only [impl_distance.l0]
    rw [ha.len, row_eq, ha.rows i hi]
    (repeat (first | refine Ev.pos (by omega) ?_ | refine Ev.neg (by omega) ?_))
    refine Ev.thru (fun j k => impl_distance.l1 k b (difTo a b n i j) (i : Int) a (n : Int) (i : Int) (row a i) (n : Int) (j : Int)) n (fun j hj ihj => ?_) ?_
    · refine Ev.succ ?_
      have h1 := ha.num i hi j hj
      have h2 := hb.num i hi j hj
      simp only [impl_distance.l1]
      rw [ha.rows i hi, hb.len, row_eq, hb.rows i hi, rd_row, rd_row, wrapN j (by omega), wrapE (gd a i j - gd b i j) (by omega) (by omega), wrapE (gd b i j - gd a i j) (by omega) (by omega)]
      have e : mx (gd a i j - gd b i j) (gd b i j - gd a i j) = dif a b i j := by
        unfold mx dif
        by_cases c : gd a i j - gd b i j < 0
        · rw [if_pos c, if_pos (by omega)]
        · rw [if_neg c, if_neg (by omega)]
      rw [e, difTo_step]
      exact Ev.pos (by omega) (Ev.pos (by omega) (Ev.pos (by omega) (Ev.pos (by omega) (Ev.pos (by omega) (Ev.pos (by omega) ihj)))))
    · refine Ev.succ ?_
      simp only [impl_distance.l1]
      rw [wrapN i (by omega), difTo_row]
      exact Ev.neg (by omega) ih
  · refine Ev.succ ?_
    simp only [impl_distance.l0]
    (repeat (first | refine Ev.pos (by omega) ?_ | refine Ev.neg (by omega) ?_))
    exact Ev.now _
end Go.Proofs.Ytadepmjfhcmkoaa.Pure
