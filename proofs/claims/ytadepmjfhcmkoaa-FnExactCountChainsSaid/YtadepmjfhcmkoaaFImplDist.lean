-- By gp.py (this session's own driver over the kit's print). Not trusted: Lean checks it.
import Derived.Test.YtadepmjfhcmkoaaF0
import Derived.Test.YtadepmjfhcmkoaaB
import Derived.Test.YtadepmjfhcmkoaaTab
import Derived.Test.YtadepmjfhcmkoaaFImplCorn
import Derived.Test.YtadepmjfhcmkoaaFImplIn
namespace Go.Proofs.Ytadepmjfhcmkoaa.P
open Go.Proofs.Ytadepmjfhcmkoaa.B
open Go.RowKit Go.Proofs.YtadepmjfhcmkoaaW.PrintWords Go.Proofs.YtadepmjfhcmkoaaW.PrintLast Go.Proofs.YtadepmjfhcmkoaaW.PrintMore
attribute [local go_sem] max2_int min2_int max_two min_two max_three min_three max_four min_four   -- for this text's walks alone
set_option linter.unusedVariables false
set_option linter.unusedSimpArgs false
/-! ### impl_least: function 104 (given) -/
def impl_least.f (a0 : Int) : Option (List (List Int)) := if 0 ≤ a0 ∧ a0 ≤ 1048576 then some (tabOf a0.toNat a0.toNat fun i j => if i = j then 1 else 0) else none
set_option maxHeartbeats 8000000 in
set_option maxRecDepth 100000 in
theorem impl_least.clo (w : World) (i j : Nat) : Calls Try.prog 147 (#[.int .i64 (i : Int), .int .i64 (j : Int)] ++ #[]) w fun e w' => e = .returned (.int .i64 (if i = j then 1 else 0)) ∧ Drawn0 w w' := by
 have hb : ∀ (b : Bool) w, Calls Try.prog 76 #[.bool b] w fun e w' => e = .returned (.int .i64 (if b = true then 1 else 0)) ∧ Drawn0 w w' := by
  intro b w
  refine (impl_bit.calls b _ w ?_).mono fun _ _ h => h
  unfold impl_bit.f
  cases b <;> simp
 by_cases h : i = j
 ·have h2 : ((i : Int) == (j : Int)) = true := by simp [h]
  rw [if_pos h]; clear h; go_enter Try.func147, Try.ntmps147
  go_wp2_with (go_at_call 76; refine (hb _ _).mono ?_; rintro e w' ⟨rfl, ⟨n2, rfl⟩⟩)
  go_ret; exact ⟨by first | rfl | (simp [*]; done), by repeat (first | exact Drawn0.refl _ | apply Drawn0.step)⟩
 ·have h2 : ((i : Int) == (j : Int)) = false := by simp; omega
  rw [if_neg h]; clear h; go_enter Try.func147, Try.ntmps147
  go_wp2_with (go_at_call 76; refine (hb _ _).mono ?_; rintro e w' ⟨rfl, ⟨n2, rfl⟩⟩)
  go_ret; exact ⟨by first | rfl | (simp [*]; done), by repeat (first | exact Drawn0.refl _ | apply Drawn0.step)⟩
set_option maxHeartbeats 8000000 in
set_option maxRecDepth 100000 in
theorem impl_least.calls (a0 : Int) (r : List (List Int)) (w : World) (h : impl_least.f a0 = some r) :
  Calls Try.prog 104 #[.int .i64 a0] w fun e w' => ∃ v0_ : Value, e = .returned (v0_) ∧ Kd.S (Kd.slice 3 (Kd.int .i64)) 39 w' w.heap.size (fun _ => True) v0_ r ∧ Below w.heap.size w w' := by
 unfold impl_least.f at h
 by_cases hc : 0 ≤ a0 ∧ a0 ≤ 1048576
 ·rw [if_pos hc] at h
  obtain rfl := Option.some.inj h; clear h; obtain ⟨n, rfl⟩ := Int.eq_ofNat_of_zero_le hc.1; have HT := Aside0.mk (table_any 147 #[] (fun i j => if i = j then 1 else 0) n n (by omega) (by omega) w (enters_of Try.func147 (by kernel_rfl) rfl) (fun W _ i j _ _ => impl_least.clo W i j)); clear hc; go_enter Try.func104, Try.ntmps104
  go_wp2_with (go_at_call 146; refine HT.out.mono ?_; rintro e w' ⟨v, rfl, hS, hb⟩; have HS := Aside0.mk hS; have HB := Aside0.mk hb; clear hS hb)
  go_ret; exact ⟨_, rfl, HS.out, HB.out⟩
 ·rw [if_neg hc] at h
  cases h
end Go.Proofs.Ytadepmjfhcmkoaa.P
