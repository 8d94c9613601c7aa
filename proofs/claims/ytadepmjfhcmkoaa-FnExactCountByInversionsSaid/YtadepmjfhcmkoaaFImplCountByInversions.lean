-- By gp.py (this session's own driver over the kit's print). Not trusted: Lean checks it.
import Derived.Test.YtadepmjfhcmkoaaF0
import Derived.Test.YtadepmjfhcmkoaaB
import Derived.Test.YtadepmjfhcmkoaaFImplIn
import Derived.Test.YtadepmjfhcmkoaaFImplInversions
import Derived.Test.YtadepmjfhcmkoaaFImplTally
import Derived.Test.YtadepmjfhcmkoaaFImplEachSigns
import Derived.Test.YtadepmjfhcmkoaaFImplIn
import Derived.Test.YtadepmjfhcmkoaaFImplInversions
import Derived.Test.YtadepmjfhcmkoaaFImplTally
namespace Go.Proofs.Ytadepmjfhcmkoaa.P
open Go.Proofs.Ytadepmjfhcmkoaa.B
open Go.RowKit Go.Proofs.YtadepmjfhcmkoaaW.PrintWords Go.Proofs.YtadepmjfhcmkoaaW.PrintLast Go.Proofs.YtadepmjfhcmkoaaW.PrintMore
attribute [local go_sem] max2_int min2_int max_two min_two max_three min_three max_four min_four   -- for this text's walks alone
set_option linter.unusedVariables false
set_option linter.unusedSimpArgs false

/-! ### impl_CountByInversions: function 38 (given) -/
def impl_CountByInversions.f (a0 : Int) : Option (List Int × Bool) := if 1 ≤ a0 ∧ a0 ≤ 5 then (if okBy (impl_inversions.f 1000) a0.toNat = true then some (tallyL (fBy (impl_inversions.f 1000)) (List.replicate (a0.toNat * (a0.toNat - 1) / 2 + 1) 0) (esAll a0.toNat), true) else none) else some ([], false)
set_option maxHeartbeats 8000000 in
set_option maxRecDepth 100000 in
theorem impl_CountByInversions.calls (a0 : Int) (r1 : List Int) (r2 : Bool) (w : World) (h : impl_CountByInversions.f a0 = some (r1, r2)) :
    Calls Try.prog 38 #[.int .i64 a0] w fun e w' => ∃ v0_ : Value, e = .returned (.tuple #[v0_, .bool r2]) ∧ Kd.R (Kd.int .i64) 3 w' w.heap.size (fun _ => True) v0_ r1 ∧ Below w.heap.size w w' := by
  unfold impl_CountByInversions.f at h
  have HB := Aside0.mk (Below.refl w.heap.size w)
  by_cases hc : 1 ≤ a0 ∧ a0 ≤ 5
  · rw [if_pos hc] at h
    obtain ⟨n, rfl⟩ : ∃ n : Nat, a0 = (n : Int) := ⟨a0.toNat, by omega⟩
    rw [Int.toNat_natCast] at h
    by_cases hk : okBy (impl_inversions.f 1000) n = true
    · rw [if_pos hk] at h
      simp only [Option.some.injEq, Prod.mk.injEq] at h
      obtain ⟨h1, h2⟩ := h
      subst h1
      subst h2
      have hg0 : impl_within.f (n : Int) 1 5 = some true := by unfold impl_within.f; rw [if_pos hc.1, decide_eq_true hc.2]
      have hg : impl_within.f (n : Int) 1 5 = some true := hg0
      have m1 : (1 : Int) ≤ (n : Int) := hc.1
      have m6 : (n : Int) ≤ 5 := hc.2
      have HG := Aside0.mk hg
      have ht := fun W => tally_by 87 (enters_of Try.func87 (by kernel_rfl) rfl) n (by omega) (by omega) (n * (n - 1) / 2 + 1) (by (have h5 : n = 1 ∨ n = 2 ∨ n = 3 ∨ n = 4 ∨ n = 5 := by omega); (rcases h5 with rfl | rfl | rfl | rfl | rfl <;> decide)) (impl_inversions.f 1000) hk (fun M x hx W v hv => by
        obtain ⟨A, c, rfl⟩ := Kd.V_slice hv
        have h1 := Kd.V_at hv
        exact impl_inversions.calls 1000 A c M x W (Kd.F_now h1.2.2) h1.2.1 hx) W
      obtain ⟨ls, hls⟩ : ∃ ls, ls = n * (n - 1) / 2 + 1 := ⟨_, rfl⟩
      have hls2 : (n : Int) = 1 ∧ ls = 1 ∨ (n : Int) = 2 ∧ ls = 2 ∨ (n : Int) = 3 ∧ ls = 4 ∨ (n : Int) = 4 ∧ ls = 7 ∨ (n : Int) = 5 ∧ ls = 11 := by
        have h5 : n = 1 ∨ n = 2 ∨ n = 3 ∨ n = 4 ∨ n = 5 := by omega
        rcases h5 with rfl | rfl | rfl | rfl | rfl <;> simp [hls]
      have e1 : wrap64 ((n : Int) - 1) = (n : Int) - 1 := wrapE _ (by omega) (by omega)
      have e2 : wrap64 (wrap64 ((n : Int) * ((n : Int) - 1))) = (n : Int) * ((n : Int) - 1) := by rcases hls2 with h | h | h | h | h <;> rw [h.1] <;> kernel_rfl
      have e3 : wrap64 ((n : Int) * ((n : Int) - 1)) = (n : Int) * ((n : Int) - 1) := by rcases hls2 with h | h | h | h | h <;> rw [h.1] <;> kernel_rfl
      have e4 : wrap64 (Int.tdiv ((n : Int) * ((n : Int) - 1)) 2 + 1) = (ls : Int) := by rcases hls2 with h | h | h | h | h <;> rw [h.1, h.2] <;> kernel_rfl
      have e5 : wrap64 (Int.tdiv ((n : Int) * ((n : Int) - 1)) 2) = Int.tdiv ((n : Int) * ((n : Int) - 1)) 2 := by rcases hls2 with h | h | h | h | h <;> rw [h.1] <;> kernel_rfl
      rw [← hls]
      rw [← hls] at ht
      have HE := Aside0.mk (And.intro e1 (And.intro e3 (And.intro e4 e5)))
      clear hls hls2 e2
      have HT := Aside0.mk ht
      clear hg hg0 hk hc ht
      go_enter Try.func38, Try.ntmps38
      go_wp2_with (first | (go_at_call 79; (with_reducible refine (impl_within.calls (n : Int) 1 5 true _ HG.out).mono ?_); rintro e w5 ⟨rfl, ⟨nd, rfl⟩⟩; have HB1 := Aside0.mk (pw_below_drewN HB.out nd)) | (go_at_call 82; (try simp only [HE.out.1, HE.out.2.1, HE.out.2.2.1, HE.out.2.2.2]); (with_reducible refine (HT.out _).mono ?_); rintro e w6 ⟨v6, rfl, hr, hb⟩; have HR := Aside0.mk (Kd.R_lower hr HB1.out.size); have HB2 := Aside0.mk (below_step HB1.out hb); clear hr hb))
      go_ret2
      exact ⟨_, rfl, HR.out, HB2.out⟩
    · rw [if_neg hk] at h
      cases h
  · rw [if_neg hc] at h
    simp only [Option.some.injEq, Prod.mk.injEq] at h
    obtain ⟨rfl, rfl⟩ := h
    have hg0 : impl_within.f a0 1 5 = some false := by
      unfold impl_within.f
      by_cases h1 : 1 ≤ a0
      · rw [if_pos h1, decide_eq_false (fun h2 => hc ⟨h1, h2⟩)]
      · rw [if_neg h1]
    have hg : impl_within.f a0 1 5 = some false := hg0
    have HG := Aside0.mk hg
    clear hg hg0 hc
    go_enter Try.func38, Try.ntmps38
    go_wp2_with (go_at_call 79; (with_reducible refine (impl_within.calls a0 1 5 false _ HG.out).mono ?_); rintro e w5 ⟨rfl, ⟨nd, rfl⟩⟩; have HB1 := Aside0.mk (pw_below_drewN HB.out nd))
    go_ret2
    exact ⟨_, rfl, Kd.R_nil _ _ _ _ _, HB1.out⟩

end Go.Proofs.Ytadepmjfhcmkoaa.P
