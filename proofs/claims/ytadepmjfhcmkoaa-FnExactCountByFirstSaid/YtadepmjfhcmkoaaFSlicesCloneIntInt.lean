-- By gp.py (this session's own driver over the kit's print). Not trusted: Lean checks it.
import Derived.Test.YtadepmjfhcmkoaaF0
import Derived.Test.YtadepmjfhcmkoaaB
import Derived.Lib.SliceRun
import Derived.Test.YtadepmjfhcmkoaaTab
namespace Go.Proofs.Ytadepmjfhcmkoaa.P
open Go.Proofs.Ytadepmjfhcmkoaa.B
open Go.RowKit Go.Proofs.YtadepmjfhcmkoaaW.PrintWords Go.Proofs.YtadepmjfhcmkoaaW.PrintLast Go.Proofs.YtadepmjfhcmkoaaW.PrintMore
attribute [local go_sem] max2_int min2_int max_two min_two max_three min_three max_four min_four   -- for this text's walks alone
set_option linter.unusedVariables false
set_option linter.unusedSimpArgs false

/-! ### slices_Clone_int_int: function 114 (given) -/
def slices_Clone_int_int.f (l0 : List Int) : Option (List Int) := if l0.length ≤ 17592186044415 then some l0 else none
set_option maxHeartbeats 8000000 in
set_option maxRecDepth 100000 in
theorem slices_Clone_int_int.calls (A0 : Option Addr) (c0 : Nat) (l0 : List Int) (r : List Int) (w : World) (hr0 : Kd.C (Kd.int .i64) w A0 l0.length l0) (hc0 : l0.length ≤ c0) (h : slices_Clone_int_int.f l0 = some r) :
    Calls Try.prog 114 #[.slice A0 l0.length c0] w fun e w' => ∃ v0_ : Value, e = .returned (v0_) ∧ Kd.R (Kd.int .i64) 3 w' w.heap.size (fun _ => True) v0_ r ∧ Below w.heap.size w w' := by
  unfold slices_Clone_int_int.f at h
  by_cases hl : l0.length ≤ 17592186044415
  · rw [if_pos hl] at h
    obtain rfl := Option.some.inj h
    clear h
    have q22 : ∀ (w : World) (a : Option Addr) (n c : Nat), (binOp .eql 39 (.slice a n c) (.slice none 0 0)).run Try.prog w = .ok (.bool a.isNone) w := fun w a n c => Lib.run_eql_slice_nil w _ _ a n c 0 0 Try.underlying39
    obtain ⟨i0, hi, hz0, hz1, hz2⟩ := info_parts info3
    cases A0 with
    | none =>
      have h0 : l0 = [] := by
        cases l0 with
        | nil => rfl
        | cons x xs =>
          obtain ⟨ad, e, _⟩ := at_num hr0 0 (by simp)
          cases e
      subst h0
      clear hr0 hi hz0 hz1 hz2
      go_enter Try.func114, Try.ntmps114
      go_wp2
      go_ret
      exact ⟨_, rfl, Kd.R_nil _ _ _ _ _, Below.refl _ _⟩
    | some a =>
      have HC := Aside0.mk (show ∀ (j : Nat) (u : Value), (nums .i64 l0)[j]? = some u → w.cell? (a.add j) = some u from fun j u hj => by
        have hj1 := (List.getElem?_eq_some_iff.1 hj).1
        have hj2 : j < l0.length := by simpa [nums] using hj1
        obtain ⟨ad, e, hc⟩ := at_num hr0 j hj2
        cases e
        rw [hc, ← hj]
        simp [nums, List.getD_eq_getElem?_getD, List.getElem?_eq_getElem hj2])
      have HL := Aside0.mk hl
      obtain ⟨n, hn⟩ : ∃ n, n = l0.length := ⟨_, rfl⟩
      have HN := Aside0.mk hn
      rw [← hn]
      clear hr0 hl hn hc0
      go_enter Try.func114, Try.ntmps114
      go_wp2_with (at_builtin; refine wpList_append_own _ rfl _ _ 39 rfl w.heap.size 3 i0 (.int .i64 0) 1 8 Try.underlying39 hi hz0 hz1 hz2 rfl (by decide) _ _ _ rfl (World.ownsRow_made w #[] 0 (Nat.le_refl _) (Nat.zero_le _) rfl) a n c0 (nums .i64 l0) rfl ?qc1 ?qc2 ?qc3 ?qc4 ?qc5 ?qc6 ?_)
      case qc1 => rw [HN.out]; simp [nums]
      case qc2 =>
        intro j u hj
        exact Lib.cell?_alloc_some _ (HC.out j u hj)
      case qc3 => intro u hu; obtain ⟨x, _, rfl⟩ := List.mem_map.1 hu; rfl
      case qc4 => have := HN.out; have := HL.out; unfold maxLen; omega
      case qc5 => have := HN.out; have := HL.out; omega
      case qc6 => simp
      intro v' w1 hown hgrow hnil
      have HO := Aside0.mk hown
      have HB := Aside0.mk (((Below.refl _ w).alloc (Nat.le_refl _) _).grown hgrow (by simp) (by intro k hk; simp [Value.ownBlock] at hk; omega))
      clear hown hgrow hnil
      go_wp2
      go_ret
      refine ⟨v', rfl, Kd.R_mono (int_R ?_) (fun _ _ => trivial), HB.out⟩
      have h3 := HO.out
      rwa [HN.out] at h3
  · rw [if_neg hl] at h
    cases h

end Go.Proofs.Ytadepmjfhcmkoaa.P
