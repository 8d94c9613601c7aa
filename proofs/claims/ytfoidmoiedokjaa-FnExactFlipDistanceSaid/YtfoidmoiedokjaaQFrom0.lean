/- What the sums of a sign matrix' first rows and columns lie within. -/
import Derived.Test.YtfoidmoiedokjaaQTable
namespace Go.Proofs.Ytfoidmoiedokjaa.Pure
open Go.Proofs.Ytfoidmoiedokjaa.B Go.Proofs.Ytfoidmoiedokjaa.P
open Go.RowKit Go.Proofs.YtfoidmoiedokjaaW.PrintWords Go.Proofs.YtfoidmoiedokjaaW.PrintLast Go.Proofs.YtfoidmoiedokjaaW.PrintMore
set_option linter.unusedVariables false
set_option linter.unusedSimpArgs false
/-- In an alternating list the machine's sums are the sums. -/
theorem Alt.sum {l : List Int} (h : Alt l) : ∀ i : Nat, i ≤ l.length → ws l i = (sumTo i fun j => rd l (j : Int)) ∧ 0 ≤ ws l i ∧ ws l i ≤ 1 := by
  intro i
  induction i with
  | zero => intro _; exact ⟨rfl, by simp [ws], by simp [ws]⟩
  | succ i ih =>
    intro hi
    obtain ⟨h1, h2, h3⟩ := ih (by omega)
    obtain ⟨h4, h5⟩ := h.1 i (by omega)
    have h4 := (inB_iff _ _ _).mp h4
    have h5 := (inB_iff _ _ _).mp h5
    refine ⟨?_, h5.1, h5.2⟩
    simp only [ws, sumTo]
    rw [wrapE _ (by omega) (by omega), h1]
theorem col_rd (m : List (List Int)) (j i : Nat) (hi : i < m.length) : rd (colOf m j) (i : Int) = gd m i j := by
  unfold rd colOf
  rw [Int.toNat_natCast, get_map _ _ _ hi]
/-- The sums of a sign matrix' first rows and columns lie within 0 and the number of columns. -/
theorem corn_bound {m : List (List Int)} (g : Good m) (i j : Nat) (hi : i ≤ m.length) (hj : j ≤ m.length) : 0 ≤ (sumTo i fun a => sumTo j fun b => gd m a b) ∧ (sumTo i fun a => sumTo j fun b => gd m a b) ≤ j := by
  rw [sumTo_comm]
  have := sumTo_bound j (fun b => sumTo i fun a => gd m a b) 0 1 (fun b hb => by
    have hl : (colOf m b).length = m.length := by simp [colOf]
    have h := (g.2.2 b (by omega)).sum i (by omega)
    rw [h.1, sumTo_congr (fun a ha => col_rd m b a (by omega))] at h
    exact h.2)
  omega
end Go.Proofs.Ytfoidmoiedokjaa.Pure
