/- FnExactFromPlacing returns true for every list: program and reference carry a placing to the same matrix, in memory of its own. No conditions. -/
import Derived.Test.YthjiajkmaimbjaaFLawsFnExactFromPlacing
import Derived.Test.YthjiajkmaimbjaaQSign
namespace Go.Proofs.Ythjiajkmaimbjaa.Pure
open Go.Proofs.Ythjiajkmaimbjaa.B Go.Proofs.Ythjiajkmaimbjaa.P
open Go.RowKit Go.Proofs.YthjiajkmaimbjaaW.PrintWords Go.Proofs.YthjiajkmaimbjaaW.PrintLast Go.Proofs.YthjiajkmaimbjaaW.PrintMore
set_option linter.unusedVariables false
set_option linter.unusedSimpArgs false
theorem ev_l1Has (xs : List Int) (a : Int) (hl : xs.length ≤ 1048576) : EvB (fun k => spec_l1Has.f k xs a) (a ∈ xs) := by
  unfold spec_l1Has.f
  suffices h : ∀ (d i : Nat), xs.length = i + d → a ∉ xs.take i → EvB (fun k => spec_l1Has.l0 k a xs (xs.length : Int) (i : Int)) (a ∈ xs) from h xs.length 0 (by omega) (by simp)
  intro d
  induction d with
  | zero =>
    intro i hi hn
    refine EvB.succ ?_
    simp only [spec_l1Has.l0]
    rw [List.take_of_length_le (by omega)] at hn
    exact EvB.neg (by omega) (EvB.no hn)
  | succ d ih =>
    intro i hi hn
    refine EvB.succ ?_
    simp only [spec_l1Has.l0]
    refine EvB.pos (by omega) (EvB.pos (by omega) (EvB.pos (by omega) ?_))
    rw [rd_get xs i (by omega), wrapN i (by omega)]
    by_cases e : xs[i] = a
    · exact EvB.pos e (EvB.yes (by rw [← e]; exact List.getElem_mem _))
    · refine EvB.neg e (ih (i + 1) (by omega) ?_)
      rw [List.take_succ_eq_append_getElem (by omega)]
      intro hm
      rcases List.mem_append.1 hm with hm | hm
      · exact hn hm
      · exact e (List.mem_singleton.1 hm).symm
/-- A placing: the places are in range and no two are alike. -/
def Plc (l : List Int) : Prop := (∀ x ∈ l, 0 ≤ x ∧ x < (l.length : Int)) ∧ l.Nodup
theorem nodup_take {l : List Int} (h : l.Nodup) (i : Nat) (hi : i < l.length) : l[i] ∉ l.take i := by
  intro hm
  obtain ⟨j, hj, e⟩ := List.mem_iff_getElem.mp hm
  rw [List.length_take] at hj
  rw [List.getElem_take] at e
  have := (List.nodup_iff_pairwise_ne.mp h)
  rw [List.pairwise_iff_getElem] at this
  exact this j i (by omega) hi (by omega) e
theorem take_nodup {l : List Int} (h : ∀ i (hi : i < l.length), l[i] ∉ l.take i) : l.Nodup := by
  rw [List.nodup_iff_pairwise_ne, List.pairwise_iff_getElem]
  intro i j hi hj hij e
  refine h j hj ?_
  rw [← e, List.mem_iff_getElem]
  exact ⟨i, by rw [List.length_take]; omega, by rw [List.getElem_take]⟩
theorem spS_perm (l : List Int) : List.Perm (spS l) l := List.mergeSort_perm l _
theorem spS_le (l : List Int) : (spS l).Pairwise (fun a b => a ≤ b) := by
  have := List.pairwise_mergeSort (le := fun x y : Int => decide (x ≤ y)) (fun a b c h1 h2 => by simp at *; omega) (fun a b => by simp; omega) l
  exact this.imp (by intro a b h; simpa using h)
theorem spOk_iff (l : List Int) : spOk l = true ↔ Plc l := by
  have hp := spS_perm l
  unfold spOk
  rw [decide_eq_true_iff]
  constructor
  · intro h
    rw [h] at hp
    refine ⟨fun x hx => ?_, hp.nodup_iff.mp ?_⟩
    · obtain ⟨i, hi, rfl⟩ := List.mem_map.1 (hp.mem_iff.mpr hx)
      have := List.mem_range.1 hi
      omega
    · rw [List.nodup_iff_pairwise_ne, List.pairwise_map]
      exact List.pairwise_lt_range.imp (by intro a b h; omega)
  · rintro ⟨h1, h2⟩
    have hl := spS_len l
    have hm : ∀ x ∈ spS l, 0 ≤ x ∧ x < (l.length : Int) := fun x hx => h1 x (hp.mem_iff.mp hx)
    have hlt : (spS l).Pairwise (fun a b => a < b) := ((spS_le l).and (List.nodup_iff_pairwise_ne.mp (hp.nodup_iff.mpr h2))).imp (by intro a b h; omega)
    rw [List.pairwise_iff_getElem] at hlt
    have lo : ∀ i (hi : i < (spS l).length), (i : Int) ≤ (spS l)[i] := by
      intro i
      induction i with
      | zero => intro hi; exact (hm _ (List.getElem_mem hi)).1
      | succ i ih =>
        intro hi
        have := ih (by omega)
        have := hlt i (i + 1) (by omega) hi (by omega)
        omega
    have up : ∀ d i (hi : i < (spS l).length), i + d + 1 = (spS l).length → (spS l)[i] ≤ (i : Int) := by
      intro d
      induction d with
      | zero =>
        intro i hi he
        have := (hm _ (List.getElem_mem hi)).2
        omega
      | succ d ih =>
        intro i hi he
        have := ih (i + 1) (by omega) (by omega)
        have := hlt i (i + 1) (by omega) (by omega) (by omega)
        omega
    apply List.ext_getElem
    · rw [hl]; simp
    · intro i h3 h4
      have a := lo i h3
      have b := up ((spS l).length - i - 1) i h3 (by omega)
      have c : (spS l)[i] = (i : Int) := by omega
      rw [c]
      simp
/-- The table after i placed rows. -/
def plT (l : List Int) (i : Nat) : List (List Int) := tabOf l.length l.length fun a b => if a < i ∧ rd l (a : Int) = (b : Int) then 1 else 0
theorem plT_len (l : List Int) (i : Nat) : (plT l i).length = l.length := tabOf_length _ _ _
theorem plT_zero (l : List Int) : plT l 0 = tabOf l.length l.length fun _ _ => 0 := by
  unfold plT
  congr 1
  all_goals (funext a b; rw [if_neg (by omega)])
theorem plT_all (l : List Int) : plT l l.length = tabOf l.length l.length fun i j => if rd l (i : Int) = (j : Int) then 1 else 0 := by
  unfold plT tabOf
  apply List.map_congr_left
  intro a ha
  have := List.mem_range.1 ha
  apply List.map_congr_left
  intro b _
  show (if a < l.length ∧ rd l (a : Int) = (b : Int) then (1 : Int) else 0) = if rd l (a : Int) = (b : Int) then 1 else 0
  by_cases c : rd l (a : Int) = (b : Int)
  · rw [if_pos ⟨by omega, c⟩, if_pos c]
  · rw [if_neg (fun h => c h.2), if_neg c]
theorem plT_set (l : List Int) (i : Nat) (hi : i < l.length) (h0 : 0 ≤ rd l (i : Int)) (h1 : rd l (i : Int) < (l.length : Int)) : (plT l i).set i ((row (plT l i) i).set (rd l (i : Int)).toNat 1) = plT l (i + 1) := by
  unfold plT
  rw [tab_set _ _ _ _ _ hi (by omega)]
  congr 1
  funext a b
  by_cases c : a = i ∧ b = (rd l (i : Int)).toNat
  · rw [if_pos c, if_pos ⟨by omega, by rw [c.1, c.2]; omega⟩]
  · rw [if_neg c]
    by_cases d : a < i ∧ rd l (a : Int) = (b : Int)
    · rw [if_pos d, if_pos ⟨by omega, d.2⟩]
    · rw [if_neg d, if_neg]
      rintro ⟨e1, e2⟩
      by_cases e : a = i
      · subst e
        exact c ⟨rfl, by omega⟩
      · exact d ⟨by omega, e2⟩
/-- The reference at a list whose places are in range. -/
theorem ev_place (l : List Int) (h6 : l.length ≤ 6) (hr : ∀ x ∈ l, 0 ≤ x ∧ x < (l.length : Int)) (b : Bool) (hb : b = true ↔ l.Nodup) :
    Ev (fun k => spec_FromPlacing.l0 k l (tabOf l.length l.length fun _ _ => 0) l (l.length : Int) 0) (if b = true then (plT l l.length, true) else (([] : List (List Int)), false)) := by
  rw [← plT_zero]
  suffices h : ∀ (d i : Nat), l.length = i + d → (∀ j (hj : j < l.length), j < i → l[j] ∉ l.take j) → Ev (fun k => spec_FromPlacing.l0 k l (plT l i) l (l.length : Int) (i : Int)) (if b = true then (plT l l.length, true) else (([] : List (List Int)), false)) from h l.length 0 (by omega) (fun j _ h => by omega)
  intro d
  induction d with
  | zero =>
    intro i hi hn
    have e : i = l.length := by omega
    subst e
    have hnd := take_nodup (fun j hj => hn j hj hj)
    rw [if_pos (hb.mpr hnd)]
    refine Ev.succ ?_
    simp only [spec_FromPlacing.l0]
    exact Ev.neg (by omega) (Ev.now _)
  | succ d ih =>
    intro i hi hn
    have hil : i < l.length := by omega
    refine Ev.succ ?_
    simp only [spec_FromPlacing.l0]
    rw [Int.toNat_natCast, row_eq, wrapN i (by omega), plT_len]
    refine Ev.pos (by omega) (Ev.pos (by omega) (Ev.pos (by omega) (Ev.pos (by omega) ?_)))
    obtain ⟨c, hc, ec⟩ := ev_l1Has (l.take i) (rd l (i : Int)) (by rw [List.length_take]; omega)
    refine Ev.bind ec ?_
    have hrd := rd_get l i hil
    cases c with
    | true =>
      have hmem := hc.mp rfl
      rw [hrd] at hmem
      have hnd : ¬ b = true := fun e => nodup_take (hb.mp e) i hil hmem
      rw [if_neg hnd]
      exact Ev.pos rfl (Ev.now _)
    | false =>
      have hmem : l[i] ∉ l.take i := fun e => by rw [← hrd] at e; have := hc.mpr e; cases this
      have hx := hr l[i] (List.getElem_mem _)
      rw [← hrd] at hx
      have hrow : (row (plT l i) i).length = l.length := row_tab_length _ _ _ _ hil
      rw [hrow]
      refine Ev.neg (by decide) (Ev.pos (by omega) (Ev.pos hx.1 (Ev.pos hx.2 ?_)))
      rw [plT_set l i hil hx.1 hx.2]
      refine ih (i + 1) (by omega) (fun j hj hji => ?_)
      by_cases e : j = i
      · subst e; exact hmem
      · exact hn j hj (by omega)
theorem FnExactFromPlacing : laws_FnExactFromPlacing.Pure := by
  intro l hl _
  have hnil : total ([] : List (List Int)) ≤ 1048576 ∧ ([] : List (List Int)).length ≤ 1048576 := by simp [total]
  suffices h : ∃ r : List (List Int) × Bool, Ev (fun k => spec_FromPlacing.f k l) r ∧ Ev (fun k => impl_FromPlacing.f k l) r ∧ total r.1 ≤ 1048576 ∧ r.1.length ≤ 1048576 by
    obtain ⟨r, h1, h2, h3⟩ := h
    exact ⟨r.1, r.2, h1.rounds, h2.rounds, h3⟩
  unfold spec_FromPlacing.f impl_FromPlacing.f
  rw [l1In_eq, isSide_eq]
  simp only [Option.bind_some]
  have hj : Ev (fun k => spec_FromPlacing.j0 k l true) (([] : List (List Int)), false) := by
    refine Ev.succ ?_
    simp only [spec_FromPlacing.j0]
    exact Ev.pos trivial (Ev.now _)
  by_cases h1 : inB (l.length : Int) 1 6 = true
  · have h1' := (inB_iff _ _ _).mp h1
    have hall := ev_l1All l 0 (wrap64 ((l.length : Int) - 1)) (by omega)
    rw [show wrap64 ((l.length : Int) - 1) = (l.length : Int) - 1 from wrapE _ (by omega) (by omega)] at hall ⊢
    by_cases hin : (l.all fun x => inB x 0 ((l.length : Int) - 1)) = true
    · have hr : ∀ x ∈ l, 0 ≤ x ∧ x < (l.length : Int) := by
        intro x hx
        have := (inB_iff _ _ _).mp (List.all_eq_true.mp hin x hx)
        omega
      obtain ⟨b, hb⟩ : ∃ b : Bool, b = true ↔ l.Nodup := ⟨decide l.Nodup, decide_eq_true_iff⟩
      have hsp : spOk l = b := by
        have e := spOk_iff l
        have e2 : spOk l = true ↔ b = true := e.trans ⟨fun h => hb.mpr h.2, fun h => ⟨hr, hb.mp h⟩⟩
        cases hb1 : spOk l <;> cases b <;> simp_all
      refine ⟨if b = true then (plT l l.length, true) else (([] : List (List Int)), false), Ev.pos h1 (Ev.bind hall ?_), Ev.pos hl ?_, ?_⟩
      · rw [hin]
        refine Ev.succ ?_
        simp only [spec_FromPlacing.j0]
        refine Ev.neg (by decide) (Ev.bind (ev_sgZero l.length (by omega)) ?_)
        exact ev_place l (by omega) hr b hb
      · rw [hsp]
        cases b with
        | true =>
          refine Ev.pos rfl (Ev.pos h1 ?_)
          rw [if_pos rfl, plT_all]
          exact Ev.now _
        | false => exact Ev.neg (by decide) (Ev.now _)
      · cases b with
        | true => exact tab_small _ _ (by omega)
        | false => exact hnil
    · have hin2 : (l.all fun x => inB x 0 ((l.length : Int) - 1)) = false := by simpa using hin
      have hsp : spOk l = false := by
        rw [← Bool.not_eq_true]
        intro e
        have := (spOk_iff l).mp e
        refine hin (List.all_eq_true.mpr fun x hx => (inB_iff _ _ _).mpr ?_)
        have := this.1 x hx
        omega
      refine ⟨([], false), Ev.pos h1 (Ev.bind hall ?_), Ev.pos hl (Ev.neg (by rw [hsp]; decide) (Ev.now _)), hnil⟩
      rw [hin2]
      exact hj
  · refine ⟨([], false), Ev.neg h1 hj, Ev.pos hl ?_, hnil⟩
    by_cases c : spOk l = true
    · exact Ev.pos c (Ev.neg h1 (Ev.now _))
    · exact Ev.neg c (Ev.now _)
end Go.Proofs.Ythjiajkmaimbjaa.Pure
