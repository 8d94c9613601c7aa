/- Program and reference on tables of heights. -/
import Derived.Test.YtfoidmoiedokjaaQHGood
namespace Go.Proofs.Ytfoidmoiedokjaa.Pure
open Go.Proofs.Ytfoidmoiedokjaa.B Go.Proofs.Ytfoidmoiedokjaa.P
open Go.RowKit Go.Proofs.YtfoidmoiedokjaaW.PrintWords Go.Proofs.YtfoidmoiedokjaaW.PrintLast Go.Proofs.YtfoidmoiedokjaaW.PrintMore
set_option linter.unusedVariables false
set_option linter.unusedSimpArgs false
def HSz (h : List (List Int)) (n : Nat) : Prop := h.length = n + 1 ∧ 1 ≤ n ∧ n ≤ 6 ∧ ∀ i, i ≤ n → (row h i).length = n + 1
theorem first_bad {n : Nat} {Q : Nat → Prop} (h : ¬ ∀ i, i < n → Q i) : ∃ p, p < n ∧ ¬ Q p ∧ ∀ i, i < p → Q i := by
  induction n with
  | zero => exact absurd (fun i hi => by omega) h
  | succ n ih =>
    by_cases c : ∀ i, i < n → Q i
    · refine ⟨n, by omega, fun q => h (fun i hi => ?_), c⟩
      by_cases e : i = n
      · rw [e]; exact q
      · exact c i (by omega)
    · obtain ⟨p, h1, h2⟩ := ih c
      exact ⟨p, by omega, h2⟩
theorem EvB.fall {p : Nat} (f : Nat → Nat → Option Bool) (h : ∀ i, i < p → EvB (f (i + 1)) False → EvB (f i) False) (he : EvB (f p) False) : EvB (f 0) False := by
  have : ∀ d i, i + d = p → EvB (f i) False := by
    intro d
    induction d with
    | zero =>
      intro i hi
      have e : i = p := by omega
      subst e
      exact he
    | succ d ih => intro i hi; exact h i (by omega) (ih (i + 1) (by omega))
  exact this p 0 (by omega)
theorem ev_heGood (h : List (List Int)) (n : Nat) (hl : h.length = n + 1) (h1 : 1 ≤ n) (h6 : n ≤ 6) : EvB (fun k => spec_heGood.f k h) ((∀ i, i < n + 1 → (row h i).length = n + 1 ∧ ((row h i).all fun x => inB x 0 6) = true) ∧ HGood h n) := by
  unfold spec_heGood.f
  rw [l1In_eq]
  refine EvB.read (a := true) ?_ ?_
  · have : inB (h.length : Int) 2 7 = true := (inB_iff _ _ _).mpr ⟨by omega, by omega⟩
    rw [this]; exact Ev.now _
  refine EvB.pos rfl ?_
  rw [hl]
  by_cases hr : ∀ i, i < n + 1 → (row h i).length = n + 1
  · refine (EvB.all (E := HGood h n) (fun i k => spec_heGood.l0 k h h ((n + 1 : Nat) : Int) (i : Int)) (n + 1) (fun i => ((row h i).all fun x => inB x 0 6) = true) (fun i hi R ih => ?_) ?_).iff ⟨fun g => ⟨fun i hi => ⟨hr i hi, g.1 i hi⟩, g.2⟩, fun g => ⟨fun i hi => (g.1 i hi).2, g.2⟩⟩
    · refine EvB.succ ?_
      simp only [spec_heGood.l0]
      rw [row_eq, hr i hi, hl, wrapN i (by omega)]
      refine EvB.pos (by omega) (EvB.pos (by omega) (EvB.pos (by omega) (EvB.pos rfl ?_)))
      exact EvB.read (ev_l1All (row h i) 0 6 (by rw [hr i hi]; omega)) (EvB.and_ (fun _ => ih))
    · refine EvB.succ ?_
      simp only [spec_heGood.l0]
      refine EvB.neg (by omega) ?_
      refine EvB.read (ev_heFrom' h n h1 h6 hl (fun i hi => hr i (by omega))) ?_
      refine (EvB.bindAnd (ev_sgGood (outS h n) (by unfold outS; rw [tabOf_length]; omega)) (fun g => ?_)).iff (hgood_s h n).symm
      refine EvB.read (ev_heOf _ g.1) ?_
      have hs := ev_heSame (htT (outS h n)) h (by rw [htT_length]; unfold outS; rw [tabOf_length]; omega) (fun i hi => by rw [htT_length] at hi; rw [htT_row _ _ (by omega)]; unfold outS; rw [tabOf_length]; omega)
      obtain ⟨b, hb, hb2⟩ := hs
      exact ⟨b, hb, Ev.bind hb2 (Ev.now b)⟩
  · obtain ⟨p, hp, hq, hb⟩ := first_bad hr
    refine (EvB.fall (p := p) (fun i k => spec_heGood.l0 k h h ((n + 1 : Nat) : Int) (i : Int)) (fun i hi ih => ?_) ?_).iff ⟨fun x => x.elim, fun x => hr (fun i hi => (x.1 i hi).1)⟩
    · refine EvB.succ ?_
      simp only [spec_heGood.l0]
      rw [row_eq, hb i hi, hl, wrapN i (by omega)]
      refine EvB.pos (by omega) (EvB.pos (by omega) (EvB.pos (by omega) (EvB.pos rfl ?_)))
      exact EvB.read (ev_l1All (row h i) 0 6 (by rw [hb i hi]; omega)) ((EvB.and_ (fun _ => ih)).iff ⟨fun x => x.2, fun x => x.elim⟩)
    · refine EvB.succ ?_
      simp only [spec_heGood.l0]
      rw [row_eq, hl]
      exact EvB.pos (by omega) (EvB.pos (by omega) (EvB.pos (by omega) (EvB.neg (by omega) (EvB.no (fun x => x)))))
theorem ev_FromHeights (h : List (List Int)) (n : Nat) (hl : h.length = n + 1) (h1 : 1 ≤ n) (h6 : n ≤ 6) (hs : ∀ x ∈ h, x.length = n + 1) : ∃ b : Bool, (b = true ↔ HGood h n) ∧ Ev (fun k => impl_FromHeights.j0 k h false) (if b = true then outI h n else [], b) := by
  have hlen : (outI h n).length = n := tabOf_length _ _ _
  obtain ⟨g, hg, eg⟩ := ev_IsSignMatrix (outI h n) (by omega)
  have hf := fromHeights_eq h n h6 hl hs
  cases g with
  | false =>
    refine ⟨false, ⟨(fun x => by cases x), fun x => hg.mpr x.1⟩, Ev.succ ?_⟩
    simp only [impl_FromHeights.j0]
    exact Ev.neg (by decide) (Ev.bind0 hf (Ev.bind eg (Ev.neg (by decide) (Ev.now _))))
  | true =>
    have gg := hg.mp rfl
    have ec := ev_compareTables (htT (outI h n)) h (fun x hx => by
      have := tab_row_mem _ _ _ x hx
      rw [hlen] at this
      omega)
    by_cases e : htT (outI h n) = h
    · refine ⟨true, ⟨fun _ => ⟨gg, e⟩, fun _ => rfl⟩, Ev.succ ?_⟩
      simp only [impl_FromHeights.j0]
      exact Ev.neg (by decide) (Ev.bind0 hf (Ev.bind eg (Ev.pos rfl (Ev.bind (ev_heights _ gg.1) (Ev.bind ec (Ev.pos ((compareTables_zero _ _).mpr e) (Ev.now _)))))))
    · refine ⟨false, ⟨(fun x => by cases x), fun x => absurd x.2 e⟩, Ev.succ ?_⟩
      simp only [impl_FromHeights.j0]
      exact Ev.neg (by decide) (Ev.bind0 hf (Ev.bind eg (Ev.pos rfl (Ev.bind (ev_heights _ gg.1) (Ev.bind ec (Ev.neg (fun x => e ((compareTables_zero _ _).mp x)) (Ev.now _)))))))
/-- Both answers on any table. -/
theorem heights_both (h : List (List Int)) (hl : h.length ≤ 1048576) : ∃ b : Bool, Ev (fun k => spec_heGood.f k h) b ∧ Ev (fun k => impl_FromHeights.f k h) (if b = true then outI h (h.length - 1) else [], b) ∧ (b = true → h.length - 1 ≤ 6 ∧ Ev (fun k => spec_heFrom.f k h) (outI h (h.length - 1))) := by
  have hj0 : Ev (fun k => impl_FromHeights.j0 k h true) (([] : List (List Int)), false) := by
    refine Ev.succ ?_
    simp only [impl_FromHeights.j0]
    exact Ev.pos trivial (Ev.now _)
  by_cases hs : 2 ≤ h.length ∧ h.length ≤ 7
  · obtain ⟨n, hn⟩ : ∃ n, h.length = n + 1 := ⟨h.length - 1, by omega⟩
    have e0 : impl_isSide.f (wrap64 ((h.length : Int) - 1)) = some true := by
      rw [wrapE _ (by omega) (by omega), isSide_eq, (inB_iff _ _ _).mpr ⟨by omega, by omega⟩]
    obtain ⟨b, hb, e1⟩ := ev_heGood h n hn (by omega) (by omega)
    by_cases hsq : ∀ x ∈ h, x.length = h.length
    · have hsq2 : ∀ x ∈ h, x.length = n + 1 := fun x hx => by rw [hsq x hx, hn]
      obtain ⟨c, hc, e2⟩ := ev_FromHeights h n hn (by omega) (by omega) hsq2
      have e : b = c := by
        have : b = true ↔ c = true := by
          rw [hb, hc]
          refine ⟨fun x => x.2, fun x => ⟨fun i hi => ⟨getD_row hsq2 (by omega), ?_⟩, x⟩⟩
          rw [List.all_eq_true]
          intro y hy
          obtain ⟨j, hj, rfl⟩ := List.mem_iff_getElem.mp hy
          have hri : (row h i).length = n + 1 := getD_row hsq2 (by omega)
          rw [hri] at hj
          have ho : (outI h n).length = n := tabOf_length _ _ _
          have ht := ht_top x.1 i j (by omega) (by omega)
          rw [x.2, ho] at ht
          have e2 : gd h i j = (row h i)[j] := by
            show (row h i).getD j 0 = _
            rw [List.getD_eq_getElem?_getD, List.getElem?_eq_getElem]
            rfl
          rw [← e2]
          exact (inB_iff _ _ _).mpr ⟨by omega, by omega⟩
        cases b <;> cases c <;> simp_all
      subst e
      refine ⟨b, e1, ?_, fun x => ⟨by omega, ?_⟩⟩
      · unfold impl_FromHeights.f
        refine Ev.bind0 e0 (Ev.pos rfl ?_)
        have e3 : impl_isSquare.f h = some true := by
          unfold impl_isSquare.f
          rw [(isSquare_iff h).mpr hsq]
        refine Ev.bind0 e3 ?_
        rw [show h.length - 1 = n by omega]
        exact e2
      · have hG := hc.mp x
        rw [show h.length - 1 = n by omega]
        have hbd := bord_of (tabOf_length _ _ _) hG.1 hG.2
        exact ev_heFrom h n (by omega) (by omega) hn (fun i hi => getD_row hsq2 (by omega)) hbd
    · have hbf : b = false := Bool.eq_false_iff.mpr (fun x => hsq (fun y hy => by
        obtain ⟨i, hi, rfl⟩ := List.mem_iff_getElem.mp hy
        have := ((hb.mp x).1 i (by omega)).1
        unfold row at this
        rw [List.getD_eq_getElem?_getD, List.getElem?_eq_getElem hi] at this
        rw [hn]
        exact this))
      subst hbf
      refine ⟨false, e1, ?_, fun x => by cases x⟩
      unfold impl_FromHeights.f
      refine Ev.bind0 e0 (Ev.pos rfl ?_)
      have e3 : impl_isSquare.f h = some false := by
        unfold impl_isSquare.f
        rw [Bool.eq_false_iff.mpr (fun c => hsq ((isSquare_iff h).mp c))]
      refine Ev.bind0 e3 ?_
      exact hj0
  · refine ⟨false, ?_, ?_, fun x => by cases x⟩
    · unfold spec_heGood.f
      have hx : inB (h.length : Int) 2 7 = false := Bool.eq_false_iff.mpr (fun c => hs (by have := (inB_iff _ _ _).mp c; omega))
      rw [l1In_eq, hx]
      exact Ev.bind0 rfl (Ev.neg (by decide) (Ev.now _))
    · unfold impl_FromHeights.f
      have hx : inB ((h.length : Int) - 1) 1 6 = false := Bool.eq_false_iff.mpr (fun c => hs (by have := (inB_iff _ _ _).mp c; omega))
      rw [wrapE _ (by omega) (by omega), isSide_eq, hx]
      exact Ev.bind0 rfl (Ev.neg (by decide) hj0)
end Go.Proofs.Ytfoidmoiedokjaa.Pure
