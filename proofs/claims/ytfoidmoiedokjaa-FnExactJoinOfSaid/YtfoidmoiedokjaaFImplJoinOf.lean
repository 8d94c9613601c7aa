-- By gp.py (this session's own driver over the kit's print). Not trusted: Lean checks it.
import Derived.Test.YtfoidmoiedokjaaF0
import Derived.Test.YtfoidmoiedokjaaB
import Derived.Test.YtfoidmoiedokjaaMerged
import Derived.Test.YtfoidmoiedokjaaFImplCorn
import Derived.Test.YtfoidmoiedokjaaFImplFromHeights
import Derived.Test.YtfoidmoiedokjaaFImplGood
namespace Go.Proofs.Ytfoidmoiedokjaa.P
open Go.Proofs.Ytfoidmoiedokjaa.B
open Go.RowKit Go.Proofs.YtfoidmoiedokjaaW.PrintWords Go.Proofs.YtfoidmoiedokjaaW.PrintLast Go.Proofs.YtfoidmoiedokjaaW.PrintMore
attribute [local go_sem] max2_int min2_int max_two min_two max_three min_three max_four min_four   -- for this text's walks alone
set_option linter.unusedVariables false
set_option linter.unusedSimpArgs false

/-! ### impl_JoinOf: function 35 (given) -/
def impl_JoinOf.f (k : Nat) (l0 : List (List Int)) (l1 : List (List Int)) : Option (List (List Int) × Bool) := (impl_arePair.f k l0 l1).bind fun t => if t = true then (impl_heights.f k l0).bind fun a => (impl_heights.f k l1).bind fun b => if a.length ≤ 1048576 ∧ b.length = a.length ∧ (∀ x ∈ a, x.length = a.length) ∧ ∀ x ∈ b, x.length = a.length then (impl_fromHeights.f (tabOf a.length a.length fun i j => mx (gd a i j) (gd b i j))).bind fun r => some (r, true) else none else some (([] : List (List Int)), false)
theorem impl_JoinOf.mono : ∀ a0 a1 k, LeO (impl_JoinOf.f k a0 a1) (impl_JoinOf.f (k + 1) a0 a1) := by
  intro a0 a1 k
  unfold impl_JoinOf.f
  exact LeO.bind (impl_arePair.mono _ _ _) (fun _ => LeO.ite (LeO.bind (impl_heights.mono _ _) (fun _ => LeO.bind (impl_heights.mono _ _) (fun _ => LeO.refl _))) (LeO.refl _))
set_option maxHeartbeats 8000000 in
set_option maxRecDepth 100000 in
theorem impl_JoinOf.clo (x y : Int) (W : World) : Calls Try.prog 68 #[.int .i64 x, .int .i64 y] W fun e w' => e = .returned (.int .i64 (mx x y)) ∧ Drawn0 W w' := by
  by_cases c5 : x < y
  · have c6 := decide_eq_true c5
    go_enter Try.func68, Try.ntmps68
    go_wp2
    go_ret
    exact ⟨by unfold mx; rw [if_pos (by omega)]; rfl, (by repeat (first | exact Drawn0.refl _ | apply Drawn0.step))⟩
  · have c6 := decide_eq_false c5
    go_enter Try.func68, Try.ntmps68
    go_wp2
    go_ret
    exact ⟨by unfold mx; rw [if_neg (by omega)]; rfl, (by repeat (first | exact Drawn0.refl _ | apply Drawn0.step))⟩
set_option maxHeartbeats 8000000 in
set_option maxRecDepth 100000 in
theorem impl_JoinOf.calls (k : Nat) (A0 : Option Addr) (c0 : Nat) (l0 : List (List Int)) (A1 : Option Addr) (c1 : Nat) (l1 : List (List Int)) (r1 : List (List Int)) (r2 : Bool) (w : World) (hr0 : Kd.C (Kd.slice 3 (Kd.int .i64)) w A0 l0.length l0) (hc0 : l0.length ≤ c0) (hr1 : Kd.C (Kd.slice 3 (Kd.int .i64)) w A1 l1.length l1) (hc1 : l1.length ≤ c1) (h : impl_JoinOf.f k l0 l1 = some (r1, r2)) :
    Calls Try.prog 35 #[.slice A0 l0.length c0, .slice A1 l1.length c1] w fun e w' => ∃ v0_ : Value, e = .returned (.tuple #[v0_, .bool r2]) ∧ Kd.S (Kd.slice 3 (Kd.int .i64)) 41 w' w.heap.size (fun _ => True) v0_ r1 ∧ Below w.heap.size w w' := by
  obtain ⟨t, ht, h⟩ := Option.bind_eq_some_iff.mp h
  have HT : Calls Try.prog 66 #[.slice A0 l0.length c0, .slice A1 l1.length c1, .func (.func 68) #[] #[]] w fun e w' => ∃ v0_ : Value, e = .returned (.tuple #[v0_, .bool r2]) ∧ Kd.S (Kd.slice 3 (Kd.int .i64)) 41 w' w.heap.size (fun _ => True) v0_ r1 ∧ Below w.heap.size w w' := by
    cases t with
    | true =>
      rw [if_pos rfl] at h
      obtain ⟨a, ha, h⟩ := Option.bind_eq_some_iff.mp h
      obtain ⟨b, hb, h⟩ := Option.bind_eq_some_iff.mp h
      by_cases c : a.length ≤ 1048576 ∧ b.length = a.length ∧ (∀ x ∈ a, x.length = a.length) ∧ ∀ x ∈ b, x.length = a.length
      · rw [if_pos c] at h
        obtain ⟨r, hr, h⟩ := Option.bind_eq_some_iff.mp h
        simp only [Option.some.injEq, Prod.mk.injEq] at h
        obtain ⟨rfl, rfl⟩ := h
        exact merged_yes 68 (enters_of Try.func68 (by kernel_rfl) rfl) mx impl_JoinOf.clo k A0 A1 c0 c1 l0 l1 w hr0 hc0 hr1 hc1 ht a b _ a.length ha hb c.1 rfl c.2.1 c.2.2.1 c.2.2.2 hr
      · rw [if_neg c] at h
        cases h
    | false =>
      rw [if_neg (by decide)] at h
      simp only [Option.some.injEq, Prod.mk.injEq] at h
      obtain ⟨rfl, rfl⟩ := h
      exact merged_no 68 k A0 A1 c0 c1 l0 l1 w hr0 hc0 hr1 hc1 ht
  have HT := Aside0.mk HT
  clear h hr0 hr1 ht
  go_enter Try.func35, Try.ntmps35
  go_wp2_with (go_at_call 66; (with_reducible refine HT.out.mono ?_); rintro e w' ⟨v, rfl, hS, hb⟩; have HS := Aside0.mk hS; have HB := Aside0.mk hb; clear hS hb)
  go_ret2
  exact ⟨_, rfl, HS.out, HB.out⟩

end Go.Proofs.Ytfoidmoiedokjaa.P
