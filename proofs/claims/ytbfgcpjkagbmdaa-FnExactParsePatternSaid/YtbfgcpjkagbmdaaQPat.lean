/- Patterns: program and reference test them alike; what is known of one. -/
import Derived.Test.YtbfgcpjkagbmdaaFSpecIsPattern
import Derived.Test.YtbfgcpjkagbmdaaFImplIsPattern
import Derived.Test.YtbfgcpjkagbmdaaQIn
namespace Go.Proofs.Ytbfgcpjkagbmdaa.Pure
open Go.Proofs.Ytbfgcpjkagbmdaa.B Go.Proofs.Ytbfgcpjkagbmdaa.P
open Go.RowKit Go.Proofs.YtbfgcpjkagbmdaaW.PrintWords Go.Proofs.YtbfgcpjkagbmdaaW.PrintLast Go.Proofs.YtbfgcpjkagbmdaaW.PrintMore
set_option linter.unusedVariables false
set_option linter.unusedSimpArgs false
/-- What a pattern's answer tells of the places from i on: no end is joined to itself. -/
def patQ (l : List Int) (i : Int) (r : Bool) : Prop := r = true → ∀ j : Int, i ≤ j → j < l.length → ¬ rd l j = j
theorem pat_l1 (l : List Int) (hl : l.length ≤ 1048576) (i : Int) (hi0 : 0 ≤ i) (hi1 : i < l.length) (k : Int) (hk : k < l.length) (hn : EvP (patQ l (i + 1)) (fun n => spec_loIsPattern.l0 n l l (l.length : Int) (i + 1)) (fun n => impl_IsPattern.l0 n l l (l.length : Int) (i + 1))) :
    ∀ (d : Nat) (j : Int), 0 ≤ j → k - j ≤ d → EvP (patQ l (i + 1)) (fun n => spec_loIsPattern.l1 n l i k j l (l.length : Int) i) (fun n => impl_IsPattern.l1 n l i k j l (l.length : Int) i) := by
  have hw : wrap64 (i + 1) = i + 1 := wrapI _ (by omega) (by omega)
  intro d
  induction d with
  | zero =>
    intro j hj hd
    refine EvP.succ ?_
    simp only [spec_loIsPattern.l1, impl_IsPattern.l1]
    refine EvP.neg (by omega) (by omega) ?_
    rw [hw]
    exact hn
  | succ d ih =>
    intro j hj hd
    refine EvP.succ ?_
    simp only [spec_loIsPattern.l1, impl_IsPattern.l1, l1In_eq, within_eq]
    by_cases hjk : j < k
    · refine EvP.pos hjk hjk (EvP.pos hj hj (EvP.pos (by omega) (by omega) ?_))
      simp only [Option.bind_some]
      refine EvP.ite (fun _ => ?_) (fun _ => EvP.now _ (fun h => by cases h))
      rw [wrapI j (by omega) (by omega)]
      exact ih (j + 1) (by omega) (by omega)
    · refine EvP.neg hjk hjk ?_
      rw [hw]
      exact hn
theorem pat_l0 (l : List Int) (hl : l.length ≤ 1048576) (ha : ∀ x ∈ l, 0 ≤ x ∧ x < l.length) :
    ∀ (d i : Nat), l.length = i + d → EvP (patQ l (i : Int)) (fun n => spec_loIsPattern.l0 n l l (l.length : Int) (i : Int)) (fun n => impl_IsPattern.l0 n l l (l.length : Int) (i : Int)) := by
  intro d
  induction d with
  | zero =>
    intro i hi
    refine EvP.succ ?_
    simp only [spec_loIsPattern.l0, impl_IsPattern.l0]
    exact EvP.neg (by omega) (by omega) (EvP.now _ (fun _ j h1 h2 => by omega))
  | succ d ih =>
    intro i hi
    have hx := ha (rd l (i : Int)) (rd_mem l i (by omega))
    have hn := ih (i + 1) (by omega)
    have hn' : EvP (patQ l ((i : Int) + 1)) (fun n => spec_loIsPattern.l0 n l l (l.length : Int) ((i : Int) + 1)) (fun n => impl_IsPattern.l0 n l l (l.length : Int) ((i : Int) + 1)) := by
      simpa using hn
    have hj2 : ∀ b : Bool, EvP (fun r => patQ l ((i : Int) + 1) r ∧ (b = true → r = false)) (fun n => spec_loIsPattern.j2 n l (i : Int) (rd l (i : Int)) l (l.length : Int) (i : Int) b) (fun n => impl_IsPattern.j2 n l (i : Int) (rd l (i : Int)) l (l.length : Int) (i : Int) b) := by
      intro b
      refine EvP.succ ?_
      simp only [spec_loIsPattern.j2, impl_IsPattern.j2]
      refine EvP.ite (fun _ => EvP.now _ ⟨(fun h => by cases h), fun _ => rfl⟩) (fun hb => ?_)
      rw [wrapI _ (by omega) (by omega)]
      exact (pat_l1 l hl i (by omega) (by omega) _ hx.2 hn' l.length _ (by omega) (by omega)).mono (fun r hr => ⟨hr, fun h => absurd h hb⟩)
    refine EvP.succ ?_
    simp only [spec_loIsPattern.l0, impl_IsPattern.l0]
    refine EvP.pos (by omega) (by omega) (EvP.pos (by omega) (by omega) (EvP.pos (by omega) (by omega) ?_))
    refine EvP.ite (fun _ => (hj2 true).mono (fun r hr => by rw [hr.2 rfl]; intro h; cases h)) (fun hne => EvP.pos hx.1 hx.1 (EvP.pos hx.2 hx.2 ((hj2 _).mono (fun r hr h j h1 h2 => ?_))))
    by_cases hji : j = (i : Int)
    · rw [hji]
      exact hne
    · exact hr.1 h j (by omega) h2
theorem pat_j0 (l : List Int) (hl : l.length ≤ 1048576) (b : Bool) (ha : b = false → ∀ x ∈ l, 0 ≤ x ∧ x < l.length) : ∃ r, Ev (fun n => spec_loIsPattern.j0 n l b) r ∧ Ev (fun n => impl_IsPattern.j0 n l b) r ∧ (b = true → r = false) ∧ patQ l 0 r := by
  cases b with
  | true =>
    refine ⟨false, Ev.succ ?_, Ev.succ ?_, fun _ => rfl, fun h => by cases h⟩
    · simp only [spec_loIsPattern.j0]
      exact Ev.pos trivial (Ev.now _)
    · simp only [impl_IsPattern.j0]
      exact Ev.pos trivial (Ev.now _)
  | false =>
    have h : EvP (patQ l 0) (fun n => spec_loIsPattern.j0 n l false) (fun n => impl_IsPattern.j0 n l false) := by
      refine EvP.succ ?_
      simp only [spec_loIsPattern.j0, impl_IsPattern.j0]
      refine EvP.neg (by decide) (by decide) ?_
      simpa using pat_l0 l hl (ha rfl) l.length 0 (by omega)
    obtain ⟨r, hq, h1, h2⟩ := h
    exact ⟨r, h1, h2, (fun h => by cases h), hq⟩
/-- Both answer the same; a pattern has 2 to 12 numbers, an even number of them, within bounds, none at its own place. -/
theorem isPattern_both (l : List Int) (hl : l.length ≤ 1048576) : ∃ r, Ev (fun n => spec_loIsPattern.f n l) r ∧ Ev (fun n => impl_IsPattern.f n l) r ∧ (r = true → l.length % 2 = 0 ∧ 2 ≤ l.length ∧ l.length ≤ 12 ∧ (∀ x ∈ l, 0 ≤ x ∧ x < l.length) ∧ ∀ j : Int, 0 ≤ j → j < l.length → ¬ rd l j = j) := by
  unfold spec_loIsPattern.f impl_IsPattern.f
  by_cases h1 : ((l.length : Int) % 2) = 1
  · obtain ⟨r, a, b, c, _⟩ := pat_j0 l hl true (fun h => by cases h)
    exact ⟨r, Ev.pos h1 a, Ev.pos h1 b, fun h => by rw [c rfl] at h; cases h⟩
  · have hw : wrap64 ((l.length : Int) / 2) = (l.length : Int) / 2 := wrapE _ (by omega) (by omega)
    have hw2 : wrap64 ((l.length : Int) - 1) = (l.length : Int) - 1 := wrapE _ (by omega) (by omega)
    rw [hw, hw2, l1In_eq, isSide_eq, areWithin_eq]
    by_cases h2 : inB ((l.length : Int) / 2) 1 6 = true
    · have h2' := (inB_iff _ _ _).mp h2
      by_cases h3 : (l.all fun x => inB x 0 ((l.length : Int) - 1)) = true
      · have ha : ∀ x ∈ l, 0 ≤ x ∧ x < l.length := fun x hx => by
          have := (inB_iff _ _ _).mp (List.all_eq_true.mp h3 x hx)
          omega
        obtain ⟨r, a, b, c, q⟩ := pat_j0 l hl false (fun _ => ha)
        refine ⟨r, Ev.neg h1 (Ev.bind0 rfl (Ev.pos h2 (Ev.bind (ev_l1All l 0 _ (by omega)) ?_))), Ev.neg h1 (Ev.bind0 rfl (Ev.pos h2 (Ev.bind0 rfl ?_))), fun hr => ⟨by omega, by omega, by omega, ha, fun j h0 hj => q hr j h0 hj⟩⟩
        · rw [h3]; exact a
        · rw [h3]; exact b
      · obtain ⟨r, a, b, c, _⟩ := pat_j0 l hl true (fun h => by cases h)
        have h3' := Bool.eq_false_iff.mpr h3
        refine ⟨r, Ev.neg h1 (Ev.bind0 rfl (Ev.pos h2 (Ev.bind (ev_l1All l 0 _ (by omega)) ?_))), Ev.neg h1 (Ev.bind0 rfl (Ev.pos h2 (Ev.bind0 rfl ?_))), fun h => by rw [c rfl] at h; cases h⟩
        · rw [h3']; exact a
        · rw [h3']; exact b
    · obtain ⟨r, a, b, c, _⟩ := pat_j0 l hl true (fun h => by cases h)
      exact ⟨r, Ev.neg h1 (Ev.bind0 rfl (Ev.neg h2 a)), Ev.neg h1 (Ev.bind0 rfl (Ev.neg h2 b)), fun h => by rw [c rfl] at h; cases h⟩
end Go.Proofs.Ytbfgcpjkagbmdaa.Pure
