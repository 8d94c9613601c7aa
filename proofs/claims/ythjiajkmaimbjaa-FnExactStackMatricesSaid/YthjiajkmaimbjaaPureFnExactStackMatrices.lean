/- FnExactStackMatrices returns true for every two tables: program and reference answer alike, in memory of their own. No conditions. -/
import Derived.Test.YthjiajkmaimbjaaFLawsFnExactStackMatrices
import Derived.Test.YthjiajkmaimbjaaQSign
namespace Go.Proofs.Ythjiajkmaimbjaa.Pure
open Go.Proofs.Ythjiajkmaimbjaa.B Go.Proofs.Ythjiajkmaimbjaa.P
open Go.RowKit Go.Proofs.YthjiajkmaimbjaaW.PrintWords Go.Proofs.YthjiajkmaimbjaaW.PrintLast Go.Proofs.YthjiajkmaimbjaaW.PrintMore
set_option linter.unusedVariables false
set_option linter.unusedSimpArgs false
/-- What the reference has written behind the first matrix, and behind some numbers of the second. -/
def stk1 (m : List (List Int)) (i j a b : Nat) : Int := if (a < i ∨ (a = i ∧ b < j)) ∧ b < m.length then gd m a b else 0
def stk2 (m k : List (List Int)) (i j a b : Nat) : Int := if m.length ≤ a ∧ m.length ≤ b ∧ (a < m.length + i ∨ (a = m.length + i ∧ b < m.length + j)) then gd k (a - m.length) (b - m.length) else if a < m.length ∧ b < m.length then gd m a b else 0
theorem ev_stack {m k : List (List Int)} (hm : Sq m) (hk : Sq k) (h6 : m.length + k.length ≤ 6) : Ev (fun n => spec_StackMatrices.j0 n m k false) (tabOf (m.length + k.length) (m.length + k.length) (stackV m k), true) := by
  refine Ev.succ ?_
  simp only [spec_StackMatrices.j0]
  have e0 : wrap64 ((m.length : Int) + (k.length : Int)) = ((m.length + k.length : Nat) : Int) := by rw [wrapE _ (by omega) (by omega)]; omega
  rw [e0]
  obtain ⟨N, hN⟩ : ∃ N, N = m.length + k.length := ⟨_, rfl⟩
  rw [← hN] at h6 ⊢
  refine Ev.neg (by decide) (Ev.bind (ev_sgZero N (by omega)) ?_)
  have hb2 : Ev (fun n => spec_StackMatrices.l2 n m (tabOf N N (stk2 m k 0 0)) k (k.length : Int) ((0 : Nat) : Int)) (tabOf N N (stackV m k), true) := by
    refine Ev.thru (fun i n => spec_StackMatrices.l2 n m (tabOf N N (stk2 m k i 0)) k (k.length : Int) (i : Int)) k.length (fun i hi ih => ?_) ?_
    · refine Ev.succ ?_
      have hri : (row k i).length = k.length := hk.row hi
      simp only [spec_StackMatrices.l2]
      rw [row_eq, hri]
      refine Ev.pos (by omega) (Ev.pos (by omega) (Ev.pos (by omega) ?_))
      refine Ev.thru (fun j n => spec_StackMatrices.l3 n m (tabOf N N (stk2 m k i j)) (i : Int) k (k.length : Int) (i : Int) (row k i) (k.length : Int) (j : Int)) k.length (fun j hj ihj => ?_) ?_
      · refine Ev.succ ?_
        have hrt : (row (tabOf N N (stk2 m k i j)) (m.length + i)).length = N := row_tab_length _ _ _ _ (by omega)
        simp only [spec_StackMatrices.l3]
        have e1 : wrap64 ((m.length : Int) + (i : Int)) = ((m.length + i : Nat) : Int) := by rw [wrapE _ (by omega) (by omega)]; omega
        have e2 : wrap64 ((m.length : Int) + (j : Int)) = ((m.length + j : Nat) : Int) := by rw [wrapE _ (by omega) (by omega)]; omega
        rw [e1, e2, row_eq, hrt, hri, tabOf_length, wrapN j (by omega), Int.toNat_natCast, Int.toNat_natCast, rd_row]
        refine Ev.pos (by omega) (Ev.pos (by omega) (Ev.pos (by omega) (Ev.pos (by omega) (Ev.pos (by omega) (Ev.pos (by omega) (Ev.pos (by omega) ?_))))))
        rw [tab_set _ _ _ _ _ (by omega) (by omega)]
        have e3 : (tabOf N N fun a b => if a = m.length + i ∧ b = m.length + j then gd k i j else stk2 m k i j a b) = tabOf N N (stk2 m k i (j + 1)) := by
          refine tabOf_congr (fun a _ b _ => ?_)
          unfold stk2
          by_cases c : a = m.length + i ∧ b = m.length + j
          · rw [if_pos c, if_pos (by omega), c.1, c.2, Nat.add_sub_cancel_left, Nat.add_sub_cancel_left]
          · rw [if_neg c]
            exact ite_iff (by omega) _ _
        rw [e3]
        exact ihj
      · refine Ev.succ ?_
        simp only [spec_StackMatrices.l3]
        rw [wrapN i (by omega)]
        refine Ev.neg (by omega) ?_
        have e3 : tabOf N N (stk2 m k i k.length) = tabOf N N (stk2 m k (i + 1) 0) := by
          refine tabOf_congr (fun a _ b _ => ?_)
          unfold stk2
          exact ite_iff (by omega) _ _
        rw [e3]
        exact ih
    · refine Ev.succ ?_
      simp only [spec_StackMatrices.l2]
      refine Ev.neg (by omega) ?_
      have e3 : tabOf N N (stk2 m k k.length 0) = tabOf N N (stackV m k) := by
        refine tabOf_congr (fun a _ b _ => ?_)
        unfold stk2 stackV
        by_cases c : a < m.length ∧ b < m.length
        · rw [if_neg (by omega), if_pos c, if_pos c]
        · rw [if_neg c, if_neg c]
          by_cases d : m.length ≤ a ∧ m.length ≤ b
          · rw [if_pos (by omega), if_pos d]
          · rw [if_neg (by omega), if_neg d]
      rw [e3]
      exact Ev.now _
  have ez : (tabOf N N fun _ _ => 0) = tabOf N N (stk1 m 0 0) := tabOf_congr (fun a _ b _ => by unfold stk1; rw [if_neg (by omega)])
  rw [ez]
  refine Ev.thru (fun i n => spec_StackMatrices.l0 n m k (tabOf N N (stk1 m i 0)) m (m.length : Int) (i : Int)) m.length (fun i hi ih => ?_) ?_
  · refine Ev.succ ?_
    have hri : (row m i).length = m.length := hm.row hi
    simp only [spec_StackMatrices.l0]
    rw [row_eq, hri]
    refine Ev.pos (by omega) (Ev.pos (by omega) (Ev.pos (by omega) ?_))
    refine Ev.thru (fun j n => spec_StackMatrices.l1 n m k (tabOf N N (stk1 m i j)) (i : Int) m (m.length : Int) (i : Int) (row m i) (m.length : Int) (j : Int)) m.length (fun j hj ihj => ?_) ?_
    · refine Ev.succ ?_
      have hrt : (row (tabOf N N (stk1 m i j)) i).length = N := row_tab_length _ _ _ _ (by omega)
      simp only [spec_StackMatrices.l1]
      rw [row_eq, hrt, hri, tabOf_length, wrapN j (by omega), Int.toNat_natCast, Int.toNat_natCast, rd_row]
      refine Ev.pos (by omega) (Ev.pos (by omega) (Ev.pos (by omega) (Ev.pos (by omega) (Ev.pos (by omega) (Ev.pos (by omega) ?_)))))
      rw [tab_set _ _ _ _ _ (by omega) (by omega)]
      have e3 : (tabOf N N fun a b => if a = i ∧ b = j then gd m i j else stk1 m i j a b) = tabOf N N (stk1 m i (j + 1)) := by
        refine tabOf_congr (fun a _ b _ => ?_)
        unfold stk1
        by_cases c : a = i ∧ b = j
        · rw [if_pos c, if_pos (by omega), c.1, c.2]
        · rw [if_neg c]
          exact ite_iff (by omega) _ _
      rw [e3]
      exact ihj
    · refine Ev.succ ?_
      simp only [spec_StackMatrices.l1]
      rw [wrapN i (by omega)]
      refine Ev.neg (by omega) ?_
      have e3 : tabOf N N (stk1 m i m.length) = tabOf N N (stk1 m (i + 1) 0) := by
        refine tabOf_congr (fun a _ b _ => ?_)
        unfold stk1
        exact ite_iff (by omega) _ _
      rw [e3]
      exact ih
  · refine Ev.succ ?_
    simp only [spec_StackMatrices.l0]
    refine Ev.neg (by omega) ?_
    have e3 : tabOf N N (stk1 m m.length 0) = tabOf N N (stk2 m k 0 0) := by
      refine tabOf_congr (fun a _ b _ => ?_)
      unfold stk1 stk2
      rw [if_neg (show ¬ (m.length ≤ a ∧ m.length ≤ b ∧ (a < m.length + 0 ∨ (a = m.length + 0 ∧ b < m.length + 0))) by omega)]
      exact ite_iff (by omega) _ _
    rw [e3]
    exact hb2
theorem FnExactStackMatrices : laws_FnExactStackMatrices.Pure := by
  intro m k hm _ _ hk _ _
  obtain ⟨a, ha, a1, a2⟩ := good_both m hm
  obtain ⟨b, hb, b1, b2⟩ := good_both k hk
  have sbad : ∀ x, x = true → Ev (fun n => spec_StackMatrices.j0 n m k x) (([] : List (List Int)), false) := by
    intro x hx
    refine Ev.succ ?_
    simp only [spec_StackMatrices.j0]
    exact Ev.pos hx (Ev.now _)
  have key : ∃ r : List (List Int) × Bool, Ev (fun n => spec_StackMatrices.f n m k) r ∧ Ev (fun n => impl_StackMatrices.f n m k) r ∧ total r.1 ≤ 1048576 ∧ r.1.length ≤ 1048576 := by
    unfold spec_StackMatrices.f impl_StackMatrices.f
    cases a with
    | false => exact ⟨([], false), Ev.bind a1 (Ev.neg (by decide) (sbad _ rfl)), Ev.bind a2 (Ev.neg (by decide) (Ev.now _)), by simp [total], by simp⟩
    | true =>
      cases b with
      | false => exact ⟨([], false), Ev.bind a1 (Ev.pos rfl (Ev.bind b1 (Ev.neg (by decide) (sbad _ rfl)))), Ev.bind a2 (Ev.pos rfl (Ev.bind b2 (Ev.neg (by decide) (Ev.now _)))), by simp [total], by simp⟩
      | true =>
        have g := ha.mp rfl
        have g2 := hb.mp rfl
        have h6 := g.1.2.1
        have k6 := g2.1.2.1
        have hp : 1 ≤ m.length := g.1.1
        by_cases hs : m.length + k.length ≤ 6
        · have e1 : decide (wrap64 ((m.length : Int) + (k.length : Int)) > 6) = false := by rw [wrapE _ (by omega) (by omega)]; exact decide_eq_false (by omega)
          have e2 : impl_isSide.f ((m.length : Int) + (k.length : Int)) = some true := by rw [isSide_eq, (inB_iff _ _ _).mpr ⟨by omega, by omega⟩]
          refine ⟨(tabOf (m.length + k.length) (m.length + k.length) (stackV m k), true), Ev.bind a1 (Ev.pos rfl (Ev.bind b1 (Ev.pos rfl ?_))), Ev.bind a2 (Ev.pos rfl (Ev.bind b2 (Ev.pos rfl (Ev.pos ⟨by omega, by omega, g.1.2.2, g2.1.2.2⟩ (Ev.bind0 e2 (Ev.pos rfl (Ev.now _))))))), tab_small _ _ hs⟩
          rw [e1]
          exact ev_stack g.1 g2.1 hs
        · have e1 : decide (wrap64 ((m.length : Int) + (k.length : Int)) > 6) = true := by rw [wrapE _ (by omega) (by omega)]; exact decide_eq_true (by omega)
          have e2 : impl_isSide.f ((m.length : Int) + (k.length : Int)) = some false := by
            have : inB ((m.length : Int) + (k.length : Int)) 1 6 = false := Bool.eq_false_iff.mpr (fun c => hs (by have := (inB_iff _ _ _).mp c; omega))
            rw [isSide_eq, this]
          exact ⟨([], false), Ev.bind a1 (Ev.pos rfl (Ev.bind b1 (Ev.pos rfl (sbad _ e1)))), Ev.bind a2 (Ev.pos rfl (Ev.bind b2 (Ev.pos rfl (Ev.pos ⟨by omega, by omega, g.1.2.2, g2.1.2.2⟩ (Ev.bind0 e2 (Ev.neg (by decide) (Ev.now _))))))), by simp [total], by simp⟩
  obtain ⟨r, h1, h2, h3, h4⟩ := key
  exact ⟨r.1, r.2, h1.rounds, h2.rounds, h3, h4⟩
end Go.Proofs.Ythjiajkmaimbjaa.Pure
