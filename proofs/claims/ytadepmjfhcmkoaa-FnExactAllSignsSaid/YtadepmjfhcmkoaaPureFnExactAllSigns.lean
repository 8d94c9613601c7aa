/- FnExactAllSigns returns true for every int: AllSigns of the program and of the reference answer the same, in memory of its own. No conditions. -/
import Derived.Test.YtadepmjfhcmkoaaFLawsFnExactAllSigns
import Derived.Test.YtadepmjfhcmkoaaQIn
import Derived.KernelRfl
namespace Go.Proofs.Ytadepmjfhcmkoaa.Pure
open Go.Proofs.Ytadepmjfhcmkoaa.B Go.Proofs.Ytadepmjfhcmkoaa.P
open Go.RowKit Go.Proofs.YtadepmjfhcmkoaaW.PrintWords Go.Proofs.YtadepmjfhcmkoaaW.PrintLast Go.Proofs.YtadepmjfhcmkoaaW.PrintMore
set_option linter.unusedVariables false
set_option linter.unusedSimpArgs false
set_option maxRecDepth 100000
def smallB (L : List (List (List Int))) : Bool := decide (total3 L ≤ 1048576) && (decide (L.length ≤ 1048576) && L.all fun x => decide (x.length ≤ 1048576) && x.all fun y => decide (y.length ≤ 1048576))
theorem smallB_all {L : List (List (List Int))} (h : smallB L = true) : total3 L ≤ 1048576 ∧ L.length ≤ 1048576 ∧ ∀ x ∈ L, x.length ≤ 1048576 ∧ ∀ y ∈ x, y.length ≤ 1048576 := by
  unfold smallB at h
  rw [Bool.and_eq_true, Bool.and_eq_true, decide_eq_true_eq, decide_eq_true_eq, List.all_eq_true] at h
  refine ⟨h.1, h.2.1, fun x hx => ?_⟩
  have h2 := h.2.2 x hx
  rw [Bool.and_eq_true, decide_eq_true_eq, List.all_eq_true] at h2
  exact ⟨h2.1, fun y hy => of_decide_eq_true (h2.2 y hy)⟩
theorem as_1 : spec_AllSigns.f 300 1 = some (esAll 1, true) ∧ smallB (esAll 1) = true := ⟨by kernel_rfl, by kernel_rfl⟩
theorem as_2 : spec_AllSigns.f 300 2 = some (esAll 2, true) ∧ smallB (esAll 2) = true := ⟨by kernel_rfl, by kernel_rfl⟩
theorem as_3 : spec_AllSigns.f 300 3 = some (esAll 3, true) ∧ smallB (esAll 3) = true := ⟨by kernel_rfl, by kernel_rfl⟩
theorem as_4 : spec_AllSigns.f 300 4 = some (esAll 4, true) ∧ smallB (esAll 4) = true := ⟨by kernel_rfl, by kernel_rfl⟩
theorem FnExactAllSigns : laws_FnExactAllSigns.Pure := by
  intro a0 _
  by_cases h : 1 ≤ a0 ∧ a0 ≤ 4
  · have h5 : a0 = 1 ∨ a0 = 2 ∨ a0 = 3 ∨ a0 = 4 := by omega
    rcases h5 with rfl | rfl | rfl | rfl
    · exact ⟨_, _, ⟨300, as_1.1⟩, rfl, smallB_all as_1.2⟩
    · exact ⟨_, _, ⟨300, as_2.1⟩, rfl, smallB_all as_2.2⟩
    · exact ⟨_, _, ⟨300, as_3.1⟩, rfl, smallB_all as_3.2⟩
    · exact ⟨_, _, ⟨300, as_4.1⟩, rfl, smallB_all as_4.2⟩
  · refine ⟨[], false, ⟨0, ?_⟩, by unfold impl_AllSigns.f; rw [if_neg h], by simp [total3], by simp, fun x hx => by simp at hx⟩
    unfold spec_AllSigns.f
    rw [l1In_eq]
    have hb : inB a0 1 4 = false := by
      cases e : inB a0 1 4 with
      | false => rfl
      | true => exact absurd ((inB_iff _ _ _).mp e) h
    rw [hb]
    rfl
end Go.Proofs.Ytadepmjfhcmkoaa.Pure
