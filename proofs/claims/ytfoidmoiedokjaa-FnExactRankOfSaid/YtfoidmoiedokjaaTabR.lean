/- A table of numbers that programs with rounds tell. -/
import Derived.Test.YtfoidmoiedokjaaTab
namespace Go.Proofs.Ytfoidmoiedokjaa.P
open Go.Proofs.Ytfoidmoiedokjaa.B
open Go.RowKit Go.Proofs.YtfoidmoiedokjaaW.PrintWords Go.Proofs.YtfoidmoiedokjaaW.PrintLast Go.Proofs.YtfoidmoiedokjaaW.PrintMore
set_option linter.unusedVariables false
set_option linter.unusedSimpArgs false
def tabR (n m : Nat) (F : Nat → Nat → Option Int) : Option (List (List Int)) := if (∀ i, i < n → ∀ j, j < m → (F i j).isSome = true) then some (tabOf n m fun i j => (F i j).getD 0) else none
theorem tabOf_congr {n m : Nat} {f g : Nat → Nat → Int} (h : ∀ i, i < n → ∀ j, j < m → f i j = g i j) : tabOf n m f = tabOf n m g := by
  unfold tabOf
  refine List.map_congr_left (fun i hi => List.map_congr_left (fun j hj => ?_))
  exact h i (List.mem_range.mp hi) j (List.mem_range.mp hj)
theorem tabR_some {n m : Nat} {F : Nat → Nat → Option Int} {r : List (List Int)} (h : tabR n m F = some r) : ∃ f : Nat → Nat → Int, (∀ i, i < n → ∀ j, j < m → F i j = some (f i j)) ∧ r = tabOf n m f := by
  unfold tabR at h
  by_cases c : ∀ i, i < n → ∀ j, j < m → (F i j).isSome = true
  · rw [if_pos c] at h
    refine ⟨fun i j => (F i j).getD 0, fun i hi j hj => ?_, (Option.some.inj h).symm⟩
    obtain ⟨v, hv⟩ := Option.isSome_iff_exists.mp (c i hi j hj)
    show F i j = some ((F i j).getD 0)
    rw [hv]; rfl
  · rw [if_neg c] at h
    cases h
theorem tabR_of {n m : Nat} {F : Nat → Nat → Option Int} {f : Nat → Nat → Int} (h : ∀ i, i < n → ∀ j, j < m → F i j = some (f i j)) : tabR n m F = some (tabOf n m f) := by
  unfold tabR
  rw [if_pos (fun i hi j hj => by rw [h i hi j hj]; rfl)]
  congr 1
  exact tabOf_congr (fun i hi j hj => by show (F i j).getD 0 = f i j; rw [h i hi j hj]; rfl)
theorem tabR_mono {n m : Nat} {F G : Nat → Nat → Option Int} (h : ∀ i j, LeO (F i j) (G i j)) : LeO (tabR n m F) (tabR n m G) := by
  intro r hr
  obtain ⟨f, hf, rfl⟩ := tabR_some hr
  exact tabR_of (fun i hi j hj => h i j _ (hf i hi j hj))
theorem ev_upTo {α : Nat → Type} {n : Nat} {F : (i : Nat) → Nat → Option (α i)} {f : (i : Nat) → α i} (h : ∀ i, i < n → Ev (F i) (f i)) : ∃ K, ∀ k, K ≤ k → ∀ i, i < n → F i k = some (f i) := by
  induction n with
  | zero => exact ⟨0, fun k _ i hi => by omega⟩
  | succ n ih =>
    obtain ⟨K, hK⟩ := ih (fun i hi => h i (by omega))
    obtain ⟨K', hK'⟩ := h n (by omega)
    refine ⟨K + K', fun k hk i hi => ?_⟩
    by_cases e : i = n
    · subst e; exact hK' k (by omega)
    · exact hK k (by omega) i (by omega)
theorem ev_tabR {n m : Nat} {F : Nat → Nat → Nat → Option Int} {f : Nat → Nat → Int} (h : ∀ i, i < n → ∀ j, j < m → Ev (fun k => F k i j) (f i j)) : Ev (fun k => tabR n m (F k)) (tabOf n m f) := by
  have h1 : ∀ i, i < n → Ev (fun k => if (∀ j, j < m → F k i j = some (f i j)) then some () else none) () := by
    intro i hi
    obtain ⟨K, hK⟩ := ev_upTo (F := fun j k => F k i j) (h i hi)
    exact ⟨K, fun k hk => by
      have h2 : ∀ j, j < m → F k i j = some (f i j) := hK k hk
      exact if_pos h2⟩
  obtain ⟨K, hK⟩ := ev_upTo (F := fun i k => if (∀ j, j < m → F k i j = some (f i j)) then some () else none) h1
  refine ⟨K, fun k hk => tabR_of (fun i hi => ?_)⟩
  have : (if (∀ j, j < m → F k i j = some (f i j)) then some () else none) = some () := hK k hk i hi
  by_cases c : ∀ j, j < m → F k i j = some (f i j)
  · exact c
  · rw [if_neg c] at this
    cases this
end Go.Proofs.Ytfoidmoiedokjaa.P
