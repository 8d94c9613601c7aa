-- By gp.py (this session's own driver over the kit's print). Not trusted: Lean checks it.
import Derived.Test.YtfoidmoiedokjaaF0
import Derived.Test.YtfoidmoiedokjaaB
import Derived.Test.YtfoidmoiedokjaaChanged
import Derived.Test.YtfoidmoiedokjaaFImplCorn
import Derived.Test.YtfoidmoiedokjaaFImplGood
namespace Go.Proofs.Ytfoidmoiedokjaa.P
open Go.Proofs.Ytfoidmoiedokjaa.B
open Go.RowKit Go.Proofs.YtfoidmoiedokjaaW.PrintWords Go.Proofs.YtfoidmoiedokjaaW.PrintLast Go.Proofs.YtfoidmoiedokjaaW.PrintMore
attribute [local go_sem] max2_int min2_int max_two min_two max_three min_three max_four min_four   -- for this text's walks alone
set_option linter.unusedVariables false
set_option linter.unusedSimpArgs false

/-! ### impl_HeightsOf: function 18 (given) -/
def impl_HeightsOf.f (k : Nat) (l0 : List (List Int)) : Option (List (List Int) × Bool) := (impl_IsSignMatrix.f k l0).bind fun t => if t = true then (impl_heights.f k l0).bind fun r => some (r, true) else some (([] : List (List Int)), false)
theorem impl_HeightsOf.mono : ∀ a0 k, LeO (impl_HeightsOf.f k a0) (impl_HeightsOf.f (k + 1) a0) := by
  intro a0 k
  unfold impl_HeightsOf.f
  exact LeO.bind (impl_IsSignMatrix.mono _ _) (fun _ => LeO.ite (LeO.bind (impl_heights.mono _ _) (fun _ => LeO.refl _)) (LeO.refl _))
set_option maxHeartbeats 8000000 in
set_option maxRecDepth 100000 in
theorem impl_HeightsOf.calls (k : Nat) (A0 : Option Addr) (c0 : Nat) (l0 : List (List Int)) (r1 : List (List Int)) (r2 : Bool) (w : World) (hr0 : Kd.C (Kd.slice 3 (Kd.int .i64)) w A0 l0.length l0) (hc0 : l0.length ≤ c0) (h : impl_HeightsOf.f k l0 = some (r1, r2)) :
    Calls Try.prog 18 #[.slice A0 l0.length c0] w fun e w' => ∃ v0_ : Value, e = .returned (.tuple #[v0_, .bool r2]) ∧ Kd.S (Kd.slice 3 (Kd.int .i64)) 41 w' w.heap.size (fun _ => True) v0_ r1 ∧ Below w.heap.size w w' := by
  obtain ⟨b, hb, h⟩ := Option.bind_eq_some_iff.mp h
  have H : ∃ r, (b = true → impl_heights.f k l0 = some r) ∧ r1 = (if b = true then r else []) ∧ r2 = b := by
    cases b with
    | true =>
      rw [if_pos rfl] at h
      obtain ⟨r, hr, h⟩ := Option.bind_eq_some_iff.mp h
      simp only [Option.some.injEq, Prod.mk.injEq] at h
      exact ⟨r, fun _ => hr, h.1.symm, h.2.symm⟩
    | false =>
      rw [if_neg (by decide)] at h
      simp only [Option.some.injEq, Prod.mk.injEq] at h
      exact ⟨[], (fun h => by cases h), h.1.symm, h.2.symm⟩
  obtain ⟨r, hr, rfl, rfl⟩ := H
  clear h
  have HT := Aside0.mk (changed_any 49 (enters_of Try.func49 (by kernel_rfl) rfl) k A0 c0 l0 r2 r w hr0 hc0 hb (fun hb2 W hW => impl_heights.calls k A0 c0 l0 r W (Kd.C_below hr0 hW) hc0 (hr hb2)))
  obtain ⟨q, hq⟩ : ∃ q, q = (if r2 = true then r else []) := ⟨_, rfl⟩
  rw [← hq] at HT ⊢
  have HB0 := Aside0.mk (Below.refl w.heap.size w)
  clear hr hr0 hb hq
  go_enter Try.func18, Try.ntmps18
  go_wp2_with (go_at_call 48; (with_reducible refine HT.out.mono ?_); rintro e w' ⟨v, rfl, hS, hb⟩; have HS := Aside0.mk hS; have HB := Aside0.mk hb; clear hS hb)
  go_ret2
  exact ⟨_, rfl, HS.out, HB.out⟩

end Go.Proofs.Ytfoidmoiedokjaa.P
