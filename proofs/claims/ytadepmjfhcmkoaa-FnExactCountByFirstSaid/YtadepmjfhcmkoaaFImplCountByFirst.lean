-- By gp.py (this session's own driver over the kit's print). Not trusted: Lean checks it.
import Derived.Test.YtadepmjfhcmkoaaF0
import Derived.Test.YtadepmjfhcmkoaaB
import Derived.Test.YtadepmjfhcmkoaaFImplIn
import Derived.Test.YtadepmjfhcmkoaaFImplTally
import Derived.Test.YtadepmjfhcmkoaaFSlicesIndexIntInt
import Derived.Test.YtadepmjfhcmkoaaFImplEachSigns
import Derived.Test.YtadepmjfhcmkoaaFImplIn
import Derived.Test.YtadepmjfhcmkoaaFImplTally
import Derived.Test.YtadepmjfhcmkoaaFSlicesIndexIntInt
namespace Go.Proofs.Ytadepmjfhcmkoaa.P
open Go.Proofs.Ytadepmjfhcmkoaa.B
open Go.RowKit Go.Proofs.YtadepmjfhcmkoaaW.PrintWords Go.Proofs.YtadepmjfhcmkoaaW.PrintLast Go.Proofs.YtadepmjfhcmkoaaW.PrintMore
attribute [local go_sem] max2_int min2_int max_two min_two max_three min_three max_four min_four   -- for this text's walks alone
set_option linter.unusedVariables false
set_option linter.unusedSimpArgs false

/-! ### impl_CountByFirst: function 31 (given) -/
/-- The column of the first row's 1. -/
def firstG (M : List (List Int)) : Option Int := match M with | [] => none | r :: _ => slices_Index_int_int.f 10 r 1
set_option maxHeartbeats 8000000 in
set_option maxRecDepth 100000 in
theorem firstG_calls (M : List (List Int)) (x : Int) (hx : firstG M = some x) (W : World) (v : Value) (hv : Kd.V (Kd.slice 3 (Kd.int .i64)) 39 W 0 (fun _ => True) v M) : Calls Try.prog 83 #[v] W fun e w' => e = .returned (.int .i64 x) ∧ Drawn0 W w' := by
  obtain ⟨A, c, rfl⟩ := Kd.V_slice hv
  cases M with
  | nil => cases hx
  | cons r M =>
    have h1 := Kd.V_at hv
    obtain ⟨ad, A0, c0, rfl, hc1, hl1, hr1⟩ := at_row (Kd.F_now h1.2.2) 0 (by simp)
    have hx2 : slices_Index_int_int.f 10 r 1 = some x := hx
    simp only [List.getD_cons_zero] at hc1 hl1 hr1
    have HX := Aside0.mk (slices_Index_int_int.calls 10 A0 c0 r 1 x W hr1 hl1 hx2)
    have z0 : ad.add 0 = ad := by unfold Addr.add; simp
    rw [z0] at hc1
    have hlen : decide (0 < (r :: M).length) = true := by simp
    have hlen2 : 0 < (r :: M).length := by simp
    obtain ⟨m, hm⟩ : ∃ m, m = (r :: M).length := ⟨_, rfl⟩
    rw [← hm] at hlen hlen2 ⊢
    have hm2 : (0 : Int) < (m : Int) := by omega
    clear hv h1 hr1 hx hx2 hl1 z0 hm
    go_enter Try.func83, Try.ntmps83
    go_wp2_with (go_at_call 84; (with_reducible refine HX.out.mono ?_); rintro e w5 ⟨rfl, ⟨nd, rfl⟩⟩)
    go_ret
    exact ⟨rfl, ⟨_, rfl⟩⟩
def impl_CountByFirst.f (a0 : Int) : Option (List Int × Bool) := if 1 ≤ a0 ∧ a0 ≤ 6 then (if okBy firstG a0.toNat = true then some (tallyL (fBy firstG) (List.replicate (a0.toNat) 0) (esAll a0.toNat), true) else none) else some ([], false)
set_option maxHeartbeats 8000000 in
set_option maxRecDepth 100000 in
theorem impl_CountByFirst.calls (a0 : Int) (r1 : List Int) (r2 : Bool) (w : World) (h : impl_CountByFirst.f a0 = some (r1, r2)) :
    Calls Try.prog 31 #[.int .i64 a0] w fun e w' => ∃ v0_ : Value, e = .returned (.tuple #[v0_, .bool r2]) ∧ Kd.R (Kd.int .i64) 3 w' w.heap.size (fun _ => True) v0_ r1 ∧ Below w.heap.size w w' := by
  unfold impl_CountByFirst.f at h
  have HB := Aside0.mk (Below.refl w.heap.size w)
  by_cases hc : 1 ≤ a0 ∧ a0 ≤ 6
  · rw [if_pos hc] at h
    obtain ⟨n, rfl⟩ : ∃ n : Nat, a0 = (n : Int) := ⟨a0.toNat, by omega⟩
    rw [Int.toNat_natCast] at h
    by_cases hk : okBy firstG n = true
    · rw [if_pos hk] at h
      simp only [Option.some.injEq, Prod.mk.injEq] at h
      obtain ⟨h1, h2⟩ := h
      subst h1
      subst h2
      have hg0 : impl_within.f (n : Int) 1 6 = some true := by unfold impl_within.f; rw [if_pos hc.1, decide_eq_true hc.2]
      have hg : impl_isSide.f (n : Int) = some true := by first | (unfold impl_isSide.f; rw [hg0]; rfl) | (unfold impl_isSide.f; simpa using hg0)
      have m1 : (1 : Int) ≤ (n : Int) := hc.1
      have m6 : (n : Int) ≤ 6 := hc.2
      have HG := Aside0.mk hg
      have ht := fun W => tally_by 83 (enters_of Try.func83 (by kernel_rfl) rfl) n (by omega) (by omega) (n) (by omega) firstG hk (fun M x hx W v hv => firstG_calls M x hx W v hv) W
      have HT := Aside0.mk ht
      clear hg hg0 hk hc ht
      go_enter Try.func31, Try.ntmps31
      go_wp2_with (first | (go_at_call 61; (with_reducible refine (impl_isSide.calls (n : Int) true _ HG.out).mono ?_); rintro e w5 ⟨rfl, ⟨nd, rfl⟩⟩; have HB1 := Aside0.mk (pw_below_drewN HB.out nd)) | (go_at_call 82; (with_reducible refine (HT.out _).mono ?_); rintro e w6 ⟨v6, rfl, hr, hb⟩; have HR := Aside0.mk (Kd.R_lower hr HB1.out.size); have HB2 := Aside0.mk (below_step HB1.out hb); clear hr hb))
      go_ret2
      exact ⟨_, rfl, HR.out, HB2.out⟩
    · rw [if_neg hk] at h
      cases h
  · rw [if_neg hc] at h
    simp only [Option.some.injEq, Prod.mk.injEq] at h
    obtain ⟨rfl, rfl⟩ := h
    have hg0 : impl_within.f a0 1 6 = some false := by
      unfold impl_within.f
      by_cases h1 : 1 ≤ a0
      · rw [if_pos h1, decide_eq_false (fun h2 => hc ⟨h1, h2⟩)]
      · rw [if_neg h1]
    have hg : impl_isSide.f a0 = some false := by first | (unfold impl_isSide.f; rw [hg0]; rfl) | (unfold impl_isSide.f; simpa using hg0)
    have HG := Aside0.mk hg
    clear hg hg0 hc
    go_enter Try.func31, Try.ntmps31
    go_wp2_with (go_at_call 61; (with_reducible refine (impl_isSide.calls a0 false _ HG.out).mono ?_); rintro e w5 ⟨rfl, ⟨nd, rfl⟩⟩; have HB1 := Aside0.mk (pw_below_drewN HB.out nd))
    go_ret2
    exact ⟨_, rfl, Kd.R_nil _ _ _ _ _, HB1.out⟩

end Go.Proofs.Ytadepmjfhcmkoaa.P
