/- FnExactFirstUnder returns true for every list of numbers: program and reference answer alike, in memory of their own. No conditions. -/
import Derived.Test.YthjiajkmaimbjaaFLawsFnExactFirstUnder
import Derived.Test.YthjiajkmaimbjaaQAbove
import Derived.Test.YthjiajkmaimbjaaFImplFirstUnder
namespace Go.Proofs.Ythjiajkmaimbjaa.Pure
open Go.Proofs.Ythjiajkmaimbjaa.B Go.Proofs.Ythjiajkmaimbjaa.P
open Go.RowKit Go.Proofs.YthjiajkmaimbjaaW.PrintWords Go.Proofs.YthjiajkmaimbjaaW.PrintLast Go.Proofs.YthjiajkmaimbjaaW.PrintMore
set_option linter.unusedVariables false
set_option linter.unusedSimpArgs false
theorem rd_take (l : List Int) (m j : Nat) (hj : j < m) : rd (l.take m) (j : Int) = rd l (j : Int) := by
  unfold rd
  rw [Int.toNat_natCast, List.getD_eq_getElem?_getD, List.getD_eq_getElem?_getD, List.getElem?_take, if_pos hj]
theorem Row.front {l : List Int} (h : Row l) (m : Nat) (h1 : 1 ≤ m) (hm : m ≤ l.length) : Row (l.take m) ∧ (l.take m).length = m := by
  have hl : (l.take m).length = m := by rw [List.length_take]; omega
  refine ⟨⟨⟨by omega, by have := h.1.2; omega⟩, fun j _ hj h0 => ?_, fun j _ hj => ?_⟩, hl⟩
  · obtain ⟨i, rfl⟩ : ∃ i, j = i + 1 := ⟨j - 1, by omega⟩
    have e : ((i + 1 : Nat) : Int) - 1 = (i : Int) := by omega
    have h2 := h.2.1 (i + 1) (by omega) (by omega) (by omega)
    rw [e] at h2 ⊢
    rw [rd_take _ _ _ (by omega), rd_take _ _ _ (by omega)]
    exact h2
  · rw [rd_take _ _ _ (by omega)]
    exact h.2.2 j (by omega) (by omega)
theorem take_snoc (l : List Int) (i : Nat) (hi : i < l.length) : l.take i ++ [rd l (i : Int)] = l.take (i + 1) := by
  rw [List.take_succ_eq_append_getElem hi, rd_get _ _ hi]
theorem above_head {l : List Int} (h : Row l) : ∀ d i, i + d + 1 = l.length → ∃ t, abvL l d (l.take i) = l.take (i + d) :: t
  | 0, i, _ => ⟨[], rfl⟩
  | d + 1, i, hi => by
    have hl : (l.take i).length = i := by rw [List.length_take]; omega
    have hlow : abvLow l (l.take i) = rd l (i : Int) := by
      unfold abvLow
      rw [hl]
      by_cases c : i = 0
      · rw [if_pos c, c]; rfl
      · rw [if_neg c]
        obtain ⟨j, rfl⟩ : ∃ j, i = j + 1 := ⟨i - 1, by omega⟩
        have h2 := h.2.1 (j + 1) (by omega) (by omega) (by omega)
        have e : ((j + 1 : Nat) : Int) - 1 = (j : Int) := by omega
        rw [e] at h2 ⊢
        rw [rd_take _ _ _ (by omega)]
        unfold mx
        split <;> omega
    have h3 := h.2.1 (i + 1) (by omega) (by omega) (by omega)
    have e3 : ((i + 1 : Nat) : Int) - 1 = (i : Int) := by omega
    rw [e3] at h3
    have e4 : ((i : Int) + 1) = ((i + 1 : Nat) : Int) := by omega
    obtain ⟨t, ht⟩ := above_head h d (i + 1) (by omega)
    obtain ⟨c, hc⟩ : ∃ c, (rd l ((i : Int) + 1) + 1 - rd l (i : Int)).toNat = c + 1 := ⟨(rd l ((i : Int) + 1) + 1 - rd l (i : Int)).toNat - 1, by rw [e4]; omega⟩
    simp only [abvL]
    rw [hlow, hl, hc, List.range_succ_eq_map, List.flatMap_cons]
    rw [show rd l (i : Int) + ((0 : Nat) : Int) = rd l (i : Int) by omega, take_snoc _ _ (by omega), ht]
    rw [show i + (d + 1) = i + 1 + d by omega]
    exact ⟨_, rfl⟩
/-- The rows from m numbers on. -/
def fromL (l : List Int) (m : Nat) : List (List Int) := (List.range' m (l.length + 1 - m)).map fun i => l.take i
theorem fromL_step (l : List Int) (m : Nat) (hm : m < l.length + 1) : fromL l m = l.take m :: fromL l (m + 1) := by
  unfold fromL
  obtain ⟨k, hk⟩ : ∃ k, l.length + 1 - m = k + 1 := ⟨l.length - m, by omega⟩
  rw [hk, List.range'_succ, List.map_cons, show l.length + 1 - (m + 1) = k by omega]
theorem fromL_len (l : List Int) (m : Nat) : (fromL l m).length = l.length + 1 - m := by
  unfold fromL
  rw [List.length_map, List.length_range']
theorem fromL_end (l : List Int) : fromL l l.length = [l] := by
  rw [fromL_step _ _ (by omega), List.take_length]
  have : fromL l (l.length + 1) = [] := List.eq_nil_of_length_eq_zero (by rw [fromL_len]; omega)
  rw [this]
theorem spec_loop {l : List Int} (h : Row l) : ∀ m, 1 ≤ m → m ≤ l.length → Ev (fun k => spec_FirstUnder.l0 k (l.take m) (fromL l m)) (fromL l 1) := by
  intro m
  induction m with
  | zero => intro h0; omega
  | succ m ih =>
    intro _ hm
    have hf := (h.front (m + 1) (by omega) hm).2
    have h6 := h.1.2
    refine Ev.succ ?_
    simp only [spec_FirstUnder.l0]
    by_cases c : m = 0
    · subst c
      exact Ev.neg (by omega) (Ev.now _)
    · have e : spec_l1Own.f ((l.take (m + 1)).take ((l.take (m + 1)).length - 1)) = some (l.take m) := by
        rw [hf, List.take_take, show min (m + 1 - 1) (m + 1) = m by omega]
        exact l1Own_eq _ (by rw [List.length_take]; omega)
      have hg := fromL_step l m (by omega)
      have ih2 := ih (by omega) (by omega)
      rw [hg] at ih2
      exact Ev.pos (by omega) (Ev.pos (by rw [fromL_len]; omega) (Ev.bind0 e ih2))
theorem impl_loop {l : List Int} (h : Row l) : ∀ m, 1 ≤ m → m ≤ l.length → Ev (fun k => impl_FirstUnder.l0 k (l.take m) (fromL l m).reverse) (fromL l 1) := by
  intro m
  induction m with
  | zero => intro h0; omega
  | succ m ih =>
    intro _ hm
    have hf := h.front (m + 1) (by omega) hm
    have h6 := h.1.2
    refine Ev.succ ?_
    simp only [impl_FirstUnder.l0]
    by_cases c : m = 0
    · subst c
      have := Ev.now (r := fromL l 1) (α := List (List Int))
      refine Ev.neg (by omega) ?_
      rw [List.reverse_reverse]
      exact Ev.now _
    · obtain ⟨t, ht⟩ := above_head hf.1 m 0 (by omega)
      rw [List.take_zero, Nat.zero_add, List.take_take, show min m (m + 1) = m by omega] at ht
      have e : impl_above.f (l.take (m + 1)) = some (l.take m :: t) := by
        unfold impl_above.f
        rw [if_pos hf.1.ok, if_neg (by omega), hf.2, Nat.add_sub_cancel, ht]
      have hg := fromL_step l m (by omega)
      have ih2 := ih (by omega) (by omega)
      rw [hg, List.reverse_cons] at ih2
      exact Ev.pos (by omega) (Ev.pos (by rw [List.length_reverse, fromL_len]; omega) (Ev.bind0 e (Ev.pos (by simp) ih2)))
theorem FnExactFirstUnder : laws_FnExactFirstUnder.Pure := by
  intro l hl _
  obtain ⟨b, hb, e1, e2⟩ := row_both l hl
  have key : ∃ r : List (List Int) × Bool, Ev (fun k => spec_FirstUnder.f k l) r ∧ Ev (fun k => impl_FirstUnder.f k l) r ∧ total r.1 ≤ 1048576 ∧ r.1.length ≤ 1048576 := by
    unfold spec_FirstUnder.f impl_FirstUnder.f
    cases b with
    | false => exact ⟨([], false), Ev.bind e1 (Ev.neg (by decide) (Ev.now _)), Ev.bind e2 (Ev.neg (by decide) (Ev.now _)), by simp [total], by simp⟩
    | true =>
      have h := hb.mp rfl
      have h6 := h.1
      have s1 := spec_loop h l.length h.1.1 (Nat.le_refl _)
      have s2 := impl_loop h l.length h.1.1 (Nat.le_refl _)
      rw [List.take_length, fromL_end] at s1 s2
      have c1 : slices_Clone_int_int.f l = some l := by
        unfold slices_Clone_int_int.f
        rw [if_pos (by omega)]
      have ht : total (fromL l 1) ≤ (fromL l 1).length * 6 := total_rows _ _ (fun x hx => by
        unfold fromL at hx
        obtain ⟨i, _, rfl⟩ := List.mem_map.mp hx
        rw [List.length_take]
        omega)
      have hn := fromL_len l 1
      exact ⟨(fromL l 1, true), Ev.bind e1 (Ev.pos rfl (Ev.bind0 (l1Own_eq l hl) (Ev.bind s1 (Ev.now _)))), Ev.bind e2 (Ev.pos rfl (Ev.bind0 c1 (Ev.bind s2 (Ev.now _)))), by show total (fromL l 1) ≤ _; omega, by show (fromL l 1).length ≤ _; omega⟩
  obtain ⟨r, h1, h2, h3, h4⟩ := key
  exact ⟨r.1, r.2, h1.rounds, h2.rounds, h3, h4⟩
end Go.Proofs.Ythjiajkmaimbjaa.Pure
