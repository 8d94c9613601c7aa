/- FnExactLeastOfTurns returns true for every table: program and reference answer alike, in memory of their own. No conditions. -/
import Derived.Test.YthjiajkmaimbjaaFLawsFnExactLeastOfTurns
import Derived.Test.YthjiajkmaimbjaaQSign
import Derived.Test.YthjiajkmaimbjaaQCmp
import Derived.Test.YthjiajkmaimbjaaFSpecSgClockwise
namespace Go.Proofs.Ythjiajkmaimbjaa.Pure
open Go.Proofs.Ythjiajkmaimbjaa.B Go.Proofs.Ythjiajkmaimbjaa.P
open Go.RowKit Go.Proofs.YthjiajkmaimbjaaW.PrintWords Go.Proofs.YthjiajkmaimbjaaW.PrintLast Go.Proofs.YthjiajkmaimbjaaW.PrintMore
set_option linter.unusedVariables false
set_option linter.unusedSimpArgs false
/-- A table turned clockwise; its rows backwards. -/
def cwT (m : List (List Int)) : List (List Int) := tabOf m.length m.length fun i j => gd m (m.length - 1 - j) i
def miT (m : List (List Int)) : List (List Int) := tabOf m.length m.length fun i j => gd m i (m.length - 1 - j)
theorem cw_sq {m : List (List Int)} (h : Sq m) : Sq (cwT m) ∧ (cwT m).length = m.length := ⟨tab_sq _ _ h.1 h.2.1, tabOf_length _ _ _⟩
theorem mi_sq {m : List (List Int)} (h : Sq m) : Sq (miT m) ∧ (miT m).length = m.length := ⟨tab_sq _ _ h.1 h.2.1, tabOf_length _ _ _⟩
theorem cw_gd (m : List (List Int)) (i j : Nat) (hi : i < m.length) (hj : j < m.length) : gd (cwT m) i j = gd m (m.length - 1 - j) i := tab_gd _ _ _ _ _ hi hj
theorem tab_all {m : List (List Int)} (h : Sq m) : m = tabOf m.length m.length (gd m) := tab_ext h.2.2
theorem cw_four {m : List (List Int)} (h : Sq m) : cwT (cwT (cwT (cwT m))) = m := by
  have l1 := (cw_sq h).2
  have l2 := (cw_sq (cw_sq h).1).2
  have l3 := (cw_sq (cw_sq (cw_sq h).1).1).2
  have e : cwT (cwT (cwT (cwT m))) = tabOf m.length m.length (gd m) := by
    have e0 : cwT (cwT (cwT (cwT m))) = tabOf (cwT (cwT (cwT m))).length (cwT (cwT (cwT m))).length fun i j => gd (cwT (cwT (cwT m))) ((cwT (cwT (cwT m))).length - 1 - j) i := rfl
    rw [e0, l3, l2, l1]
    refine tabOf_congr (fun i hi j hj => ?_)
    rw [cw_gd _ _ _ (by omega) (by omega), l2, l1, cw_gd _ _ _ (by omega) (by omega), l1, cw_gd _ _ _ (by omega) (by omega)]
    congr 1 <;> omega
  rw [e, ← tab_all h]
theorem ev_cw (m : List (List Int)) (h : Sq m) : Ev (fun k => spec_sgClockwise.f k m) (cwT m) := by
  unfold spec_sgClockwise.f
  have h6 := h.2.1
  refine Ev.bind (ev_sgTurn m h) ?_
  rw [turn_tab]
  have h1 := ev_sgMirror (tabOf m.length m.length fun i j => gd m j i) m.length (by omega) (tab_row_mem _ _ _) (by rw [tabOf_length]; omega)
  rw [tabOf_length] at h1
  refine Ev.bind h1 ?_
  have e : (tabOf m.length m.length fun i j => gd (tabOf m.length m.length fun i j => gd m j i) i (m.length - 1 - j)) = cwT m :=
    tabOf_congr (fun i hi j hj => tab_gd m.length m.length (fun i j => gd m j i) i (m.length - 1 - j) hi (by omega))
  rw [← e]
  exact Ev.now _
theorem ev_mi (m : List (List Int)) (h : Sq m) : Ev (fun k => spec_sgMirror.f k m) (miT m) := ev_sgMirror m m.length (by have := h.2.1; omega) h.2.2 (by have := h.2.1; omega)
theorem ev_less {a b : List (List Int)} (ha : Sq a) (hb : Sq b) (e : a.length = b.length) : Ev (fun k => spec_sgLess.f k a b) (decide (cmpTT a b < 0)) :=
  ev_sgLess a b a.length ha.2.1 rfl e.symm (fun i hi => ha.row hi) (fun i hi => by rw [hb.row (by omega)]; exact e.symm)
def pickT (b x : List (List Int)) : List (List Int) := if cmpTT x b < 0 then x else b
theorem pick_sq {b x : List (List Int)} (hb : Sq b) (hx : Sq x) (e : x.length = b.length) : Sq (pickT b x) ∧ (pickT b x).length = b.length := by
  unfold pickT
  split
  · exact ⟨hx, e⟩
  · exact ⟨hb, rfl⟩
theorem ev_turnStep {best now : List (List Int)} {r : List (List Int) × Bool} (hb : Sq best) (hn : Sq now) (e : now.length = best.length) (i : Nat) (hi : i < 4) (h : Ev (fun k => spec_LeastOfTurns.l0 k (pickT (pickT best (cwT now)) (miT (cwT now))) (cwT now) ((i + 1 : Nat) : Int)) r) : Ev (fun k => spec_LeastOfTurns.l0 k best now (i : Int)) r := by
  have c := cw_sq hn
  have d := mi_sq c.1
  have p := pick_sq hb c.1 (c.2.trans e)
  have hj : Ev (fun k => spec_LeastOfTurns.j1 k (pickT best (cwT now)) (cwT now) (i : Int)) r := by
    refine Ev.succ ?_
    simp only [spec_LeastOfTurns.j1]
    rw [wrapN i (by omega)]
    refine Ev.bind (ev_mi _ c.1) (Ev.bind (ev_less d.1 p.1 (by rw [d.2, c.2, e, p.2])) ?_)
    unfold pickT at h
    by_cases q : cmpTT (miT (cwT now)) (pickT best (cwT now)) < 0
    · rw [decide_eq_true q]
      unfold pickT at q
      rw [if_pos q] at h
      exact Ev.pos rfl h
    · rw [decide_eq_false q]
      unfold pickT at q ⊢
      rw [if_neg q] at h
      exact Ev.neg (by decide) h
  refine Ev.succ ?_
  simp only [spec_LeastOfTurns.l0]
  refine Ev.pos (by omega) (Ev.bind (ev_cw _ hn) (Ev.bind (ev_less c.1 hb (c.2.trans e)) ?_))
  unfold pickT at hj
  by_cases q : cmpTT (cwT now) best < 0
  · rw [decide_eq_true q]
    rw [if_pos q] at hj
    exact Ev.pos rfl hj
  · rw [decide_eq_false q]
    rw [if_neg q] at hj
    exact Ev.neg (by decide) hj
theorem ev_copy (m : List (List Int)) (h : Sq m) : Ev (fun k => impl_copyTable.f k m) m := by
  have h6 := h.2.1
  unfold impl_copyTable.f
  have := Ev.thru (r := m) (fun i k => impl_copyTable.l0 k (m.take i) m (m.length : Int) (i : Int)) m.length (fun i hi ih => ?_) ?_
  · simpa using this
  · refine Ev.succ ?_
    simp only [impl_copyTable.l0]
    have hl : (m.take i).length ≤ i := List.length_take_le _ _
    have hri : (row m i).length = m.length := h.row hi
    have e : slices_Clone_int_int.f (row m i) = some (row m i) := by
      unfold slices_Clone_int_int.f
      rw [if_pos (by omega)]
    rw [row_eq, e, wrapN i (by omega)]
    refine Ev.pos (by omega) (Ev.pos (by omega) (Ev.pos (by omega) (Ev.bind0 rfl (Ev.pos (by omega) ?_))))
    have e2 : m.take i ++ [row m i] = m.take (i + 1) := by
      rw [List.take_succ_eq_append_getElem hi]
      unfold row
      rw [List.getD_eq_getElem?_getD, List.getElem?_eq_getElem hi]
      rfl
    rw [e2]
    exact ih
  · refine Ev.succ ?_
    simp only [impl_copyTable.l0]
    rw [List.take_length]
    exact Ev.neg (by omega) (Ev.now _)
theorem cw_eq {m : List (List Int)} (h : Sq m) : impl_turned.f m = some (cwT m) := by
  unfold impl_turned.f
  rw [if_pos ⟨by have := h.2.1; omega, h.2.2⟩]
  rfl
theorem mi_eq {m : List (List Int)} (h : Sq m) : impl_mirrored.f m = some (miT m) := by
  unfold impl_mirrored.f
  rw [if_pos ⟨by have := h.2.1; omega, h.2.2⟩]
  rfl
def eightT (m : List (List Int)) : List (List (List Int)) := [cwT m, cwT (cwT m), cwT (cwT (cwT m)), miT m, miT (cwT m), miT (cwT (cwT m)), miT (cwT (cwT (cwT m)))]
theorem ev_eight (m : List (List Int)) (h : Sq m) : Ev (fun k => impl_eight.f k m) (m :: eightT m) := by
  have h1 := (cw_sq h).1
  have h2 := (cw_sq h1).1
  have h3 := (cw_sq h2).1
  have w : ∀ i : Int, 0 ≤ i → i ≤ 10 → wrap64 (i + 1) = i + 1 := fun i a b => wrapE _ (by omega) (by omega)
  unfold impl_eight.f
  refine Ev.succ ?_
  simp only [impl_eight.l0]
  rw [w 0 (by omega) (by omega)]
  refine Ev.pos (by decide) (Ev.pos (by decide) (Ev.bind0 (cw_eq h) (Ev.succ ?_)))
  simp only [impl_eight.l0]
  rw [show (0 : Int) + 1 = 1 from rfl, w 1 (by omega) (by omega)]
  refine Ev.pos (by decide) (Ev.pos (by simp) (Ev.bind0 (cw_eq h1) (Ev.succ ?_)))
  simp only [impl_eight.l0]
  rw [show (1 : Int) + 1 = 2 from rfl, w 2 (by omega) (by omega)]
  refine Ev.pos (by decide) (Ev.pos (by simp) (Ev.bind0 (cw_eq h2) (Ev.succ ?_)))
  simp only [impl_eight.l0]
  rw [show (2 : Int) + 1 = 3 from rfl, w 3 (by omega) (by omega)]
  refine Ev.pos (by decide) (Ev.pos (by simp) (Ev.bind0 (cw_eq h3) (Ev.succ ?_)))
  simp only [impl_eight.l0]
  refine Ev.neg (by decide) (Ev.succ ?_)
  simp only [impl_eight.l1, List.nil_append, List.cons_append]
  rw [w 0 (by omega) (by omega)]
  refine Ev.pos (by decide) (Ev.pos (by decide) (Ev.pos (by simp) (Ev.bind0 (mi_eq h) (Ev.pos (by simp) (Ev.succ ?_)))))
  simp only [impl_eight.l1, List.nil_append, List.cons_append]
  rw [show (0 : Int) + 1 = 1 from rfl, w 1 (by omega) (by omega)]
  refine Ev.pos (by decide) (Ev.pos (by decide) (Ev.pos (by simp) (Ev.bind0 (mi_eq h1) (Ev.pos (by simp) (Ev.succ ?_)))))
  simp only [impl_eight.l1, List.nil_append, List.cons_append]
  rw [show (1 : Int) + 1 = 2 from rfl, w 2 (by omega) (by omega)]
  refine Ev.pos (by decide) (Ev.pos (by decide) (Ev.pos (by simp) (Ev.bind0 (mi_eq h2) (Ev.pos (by simp) (Ev.succ ?_)))))
  simp only [impl_eight.l1, List.nil_append, List.cons_append]
  rw [show (2 : Int) + 1 = 3 from rfl, w 3 (by omega) (by omega)]
  refine Ev.pos (by decide) (Ev.pos (by decide) (Ev.pos (by simp) (Ev.bind0 (mi_eq h3) (Ev.pos (by simp) (Ev.succ ?_)))))
  simp only [impl_eight.l1, List.nil_append, List.cons_append]
  exact Ev.neg (by decide) (Ev.now _)
theorem ev_leastT {x : List (List Int)} {xs : List (List (List Int))} (h : ∀ a ∈ x :: xs, ∀ r ∈ a, r.length ≤ 1048576) : Ev (fun k => leastT k (x :: xs)) (minT cmpTT x xs) := by
  have hall : ∀ (s t : List (List (List Int))), (∀ a ∈ s, ∀ r ∈ a, r.length ≤ 1048576) → ∃ K, ∀ k, K ≤ k → ∀ a ∈ s, ∀ b ∈ t, impl_compareTables.f k a b = some (cmpTT a b) := by
    intro s
    induction s with
    | nil => intro t _; exact ⟨0, fun k _ a ha => by cases ha⟩
    | cons a s ih =>
      intro t hs
      obtain ⟨K, hK⟩ := ih t (fun b hb => hs b (List.mem_cons_of_mem _ hb))
      have h2 : ∀ t : List (List (List Int)), ∃ K, ∀ k, K ≤ k → ∀ b ∈ t, impl_compareTables.f k a b = some (cmpTT a b) := by
        intro t
        induction t with
        | nil => exact ⟨0, fun k _ b hb => by cases hb⟩
        | cons b t iht =>
          obtain ⟨K, hK⟩ := iht
          obtain ⟨M, hM⟩ := ev_compareTables a b (hs a List.mem_cons_self)
          refine ⟨K + M, fun k hk c hc => ?_⟩
          rcases List.mem_cons.mp hc with rfl | hc
          · exact hM k (by omega)
          · exact hK k (by omega) c hc
      obtain ⟨M, hM⟩ := h2 t
      refine ⟨K + M, fun k hk c hc b hb => ?_⟩
      rcases List.mem_cons.mp hc with rfl | hc
      · exact hM k (by omega) b hb
      · exact hK k (by omega) c hc b hb
  obtain ⟨K, hK⟩ := hall (x :: xs) (x :: xs) h
  refine ⟨K, fun k hk => ?_⟩
  show leastT k (x :: xs) = _
  simp only [leastT]
  rw [if_pos (fun a ha b hb => by rw [hK k hk a ha b hb]; rfl)]
  congr 1
  exact minT_congr (s := x :: xs) xs x (by simp) (fun y hy => by simp [hy]) (fun a ha b hb => by rw [hK k hk a ha b hb]; rfl)
theorem FnExactLeastOfTurns : laws_FnExactLeastOfTurns.Pure := by
  intro m hl _ _
  have h : EvP (fun r => total r.1 ≤ 1048576 ∧ r.1.length ≤ 1048576) (fun k => spec_LeastOfTurns.f k m) (fun k => impl_LeastOfTurns.f k m) := by
    refine good_start m hl _ (by simp [total]) (fun g => ?_)
    have h0 := g.1
    have h1 := cw_sq h0
    have h2 := cw_sq h1.1
    have h3 := cw_sq h2.1
    have h4 := cw_sq h3.1
    have hsq : ∀ a ∈ m :: eightT m, Sq a ∧ a.length = m.length := by
      intro a ha
      have c1 : (cwT m).length = m.length := h1.2
      have c2 : (cwT (cwT m)).length = m.length := h2.2.trans c1
      have c3 : (cwT (cwT (cwT m))).length = m.length := h3.2.trans c2
      simp only [eightT, List.mem_cons, List.not_mem_nil, or_false] at ha
      rcases ha with rfl | rfl | rfl | rfl | rfl | rfl | rfl | rfl
      · exact ⟨h0, rfl⟩
      · exact ⟨h1.1, c1⟩
      · exact ⟨h2.1, c2⟩
      · exact ⟨h3.1, c3⟩
      · exact ⟨(mi_sq h0).1, (mi_sq h0).2⟩
      · exact ⟨(mi_sq h1.1).1, (mi_sq h1.1).2.trans c1⟩
      · exact ⟨(mi_sq h2.1).1, (mi_sq h2.1).2.trans c2⟩
      · exact ⟨(mi_sq h3.1).1, (mi_sq h3.1).2.trans c3⟩
    have hr := hsq _ (minT_mem cmpTT (eightT m) m)
    obtain ⟨r, hrr⟩ : ∃ r, r = minT cmpTT m (eightT m) := ⟨_, rfl⟩
    rw [← hrr] at hr
    refine ⟨(r, true), ?_, ?_, ?_⟩
    · have e := tab_all hr.1
      have h6 := hr.1.2.1
      rw [e]
      exact tab_small _ _ h6
    · have e2 : (tabOf m.length m.length fun i j => gd (tabOf m.length m.length fun i j => gd m j i) j i) = m := by
        refine Eq.trans ?_ (tab_all h0).symm
        exact tabOf_congr (fun i hi j hj => tab_gd m.length m.length (fun i j => gd m j i) j i hj hi)
      have t1 := ev_sgTurn m h0
      rw [turn_tab] at t1
      have t2 := ev_sgTurn (tabOf m.length m.length fun i j => gd m j i) (tab_sq _ _ h0.1 h0.2.1)
      rw [turn_tab, tabOf_length, e2] at t2
      refine Ev.bind t1 (Ev.bind t2 ?_)
      have e3 : r = pickT (pickT (pickT (pickT (pickT (pickT (pickT (pickT m (cwT m)) (miT (cwT m))) (cwT (cwT m))) (miT (cwT (cwT m)))) (cwT (cwT (cwT m)))) (miT (cwT (cwT (cwT m))))) (cwT (cwT (cwT (cwT m))))) (miT (cwT (cwT (cwT (cwT m))))) := by
        rw [hrr]
        have : minT cmpTT m (eightT m) = minT cmpTT m [cwT m, miT (cwT m), cwT (cwT m), miT (cwT (cwT m)), cwT (cwT (cwT m)), miT (cwT (cwT (cwT m))), cwT (cwT (cwT (cwT m))), miT (cwT (cwT (cwT (cwT m))))] := by
          refine minT_same cmp_tabs _ _ _ _ (fun y => ?_)
          rw [cw_four h0]
          simp only [eightT, List.mem_cons, List.not_mem_nil, or_false]
          constructor
          · rintro (h | h | h | h | h | h | h | h) <;> simp [h]
          · rintro (h | h | h | h | h | h | h | h | h) <;> simp [h]
        rw [this]
        rfl
      have p1 := pick_sq h0 h1.1 h1.2
      have q1 := pick_sq p1.1 (mi_sq h1.1).1 (by rw [(mi_sq h1.1).2, h1.2, p1.2])
      have p2 := pick_sq q1.1 h2.1 (by rw [h2.2, h1.2, q1.2, p1.2])
      have q2 := pick_sq p2.1 (mi_sq h2.1).1 (by rw [(mi_sq h2.1).2, h2.2, h1.2, p2.2, q1.2, p1.2])
      have p3 := pick_sq q2.1 h3.1 (by rw [h3.2, h2.2, h1.2, q2.2, p2.2, q1.2, p1.2])
      have q3 := pick_sq p3.1 (mi_sq h3.1).1 (by rw [(mi_sq h3.1).2, h3.2, h2.2, h1.2, p3.2, q2.2, p2.2, q1.2, p1.2])
      refine ev_turnStep h0 h0 rfl 0 (by omega) (ev_turnStep q1.1 h1.1 (by rw [h1.2, q1.2, p1.2]) 1 (by omega) (ev_turnStep q2.1 h2.1 (by rw [h2.2, h1.2, q2.2, p2.2, q1.2, p1.2]) 2 (by omega) (ev_turnStep q3.1 h3.1 (by rw [h3.2, h2.2, h1.2, q3.2, p3.2, q2.2, p2.2, q1.2, p1.2]) 3 (by omega) ?_)))
      rw [← e3]
      refine Ev.succ ?_
      simp only [spec_LeastOfTurns.l0]
      exact Ev.neg (by omega) (Ev.now _)
    · refine Ev.bind (ev_eight m h0) (Ev.bind (ev_leastT (fun a ha x hx => ?_)) ?_)
      · have := (hsq a ha).1
        rw [this.2.2 x hx]
        have := this.2.1
        omega
      · rw [← hrr]
        exact Ev.bind (ev_copy r hr.1) (Ev.now _)
  obtain ⟨b, hb, e1, e2⟩ := h
  exact ⟨b.1, b.2, e1.rounds, e2.rounds, hb⟩
end Go.Proofs.Ythjiajkmaimbjaa.Pure
