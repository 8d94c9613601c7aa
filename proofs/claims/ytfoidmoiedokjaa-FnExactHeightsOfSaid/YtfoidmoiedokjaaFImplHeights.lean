-- By gp.py (this session's own driver over the kit's print). Not trusted: Lean checks it.
import Derived.Test.YtfoidmoiedokjaaF0
import Derived.Test.YtfoidmoiedokjaaB
import Derived.Test.YtfoidmoiedokjaaFImplCornerSum
import Derived.Test.YtfoidmoiedokjaaTabR
import Derived.Test.YtfoidmoiedokjaaFImplCornerSum
namespace Go.Proofs.Ytfoidmoiedokjaa.P
open Go.Proofs.Ytfoidmoiedokjaa.B
open Go.RowKit Go.Proofs.YtfoidmoiedokjaaW.PrintWords Go.Proofs.YtfoidmoiedokjaaW.PrintLast Go.Proofs.YtfoidmoiedokjaaW.PrintMore
attribute [local go_sem] max2_int min2_int max_two min_two max_three min_three max_four min_four   -- for this text's walks alone
set_option linter.unusedVariables false
set_option linter.unusedSimpArgs false

/-! ### impl_heights: function 49 (given) -/
def impl_heights.f (k : Nat) (l0 : List (List Int)) : Option (List (List Int)) := if l0.length ≤ 1048575 then tabR (l0.length + 1) (l0.length + 1) fun i j => (impl_cornerSum.f k l0 (i : Int) (j : Int)).bind fun s => some (wrap64 ((i : Int) + (j : Int) - wrap64 (2 * s))) else none
theorem impl_heights.mono : ∀ a0 k, LeO (impl_heights.f k a0) (impl_heights.f (k + 1) a0) := by
  intro a0 k
  unfold impl_heights.f
  exact LeO.ite (tabR_mono (fun i j => LeO.bind (impl_cornerSum.mono _ _ _ _) (fun _ => LeO.refl _))) (LeO.refl _)
set_option maxHeartbeats 8000000 in
set_option maxRecDepth 100000 in
theorem impl_heights.clo (k : Nat) (l : List (List Int)) (A : Option Addr) (c : Nat) (g1 : Addr) (w : World) (hr : Kd.C (Kd.slice 3 (Kd.int .i64)) w A l.length l) (hc : l.length ≤ c) (h1 : w.cell? g1 = some (.slice A l.length c)) (i j : Nat) (hi : i ≤ 1048576) (hj : j ≤ 1048576) (s : Int) (hv : impl_cornerSum.f k l (i : Int) (j : Int) = some s) :
    Calls Try.prog 84 (#[.int .i64 (i : Int), .int .i64 (j : Int)] ++ #[.pointer (some g1)]) w fun e w' => e = .returned (.int .i64 (wrap64 ((i : Int) + (j : Int) - wrap64 (2 * s)))) ∧ Drawn0 w w' := by
  have HR0 := Aside0.mk hr
  have HC0 := Aside0.mk hc
  have HV := Aside0.mk hv
  clear hr hc hv
  go_enter Try.func84, Try.ntmps84
  go_wp2_with (go_at_call 85; (with_reducible refine (impl_cornerSum.calls k _ _ l _ _ s _ HR0.out HC0.out HV.out).mono ?_); rintro e w5 ⟨rfl, ⟨n1, rfl⟩⟩)
  go_ret
  exact ⟨by first | rfl | (simp only [i64_w]; rfl), (by repeat (first | exact Drawn0.refl _ | apply Drawn0.step))⟩
set_option maxHeartbeats 8000000 in
set_option maxRecDepth 100000 in
theorem impl_heights.calls (k : Nat) (A0 : Option Addr) (c0 : Nat) (l0 : List (List Int)) (r : List (List Int)) (w : World) (hr0 : Kd.C (Kd.slice 3 (Kd.int .i64)) w A0 l0.length l0) (hc0 : l0.length ≤ c0) (h : impl_heights.f k l0 = some r) :
    Calls Try.prog 49 #[.slice A0 l0.length c0] w fun e w' => ∃ v0_ : Value, e = .returned (v0_) ∧ Kd.S (Kd.slice 3 (Kd.int .i64)) 41 w' w.heap.size (fun _ => True) v0_ r ∧ Below w.heap.size w w' := by
  have HR0 := Aside0.mk hr0
  have HC0 := Aside0.mk hc0
  have HB0 := Aside0.mk (Below.refl w.heap.size w)
  unfold impl_heights.f at h
  by_cases hl : l0.length ≤ 1048575
  · rw [if_pos hl] at h
    obtain ⟨f, hf, rfl⟩ := tabR_some h
    have hf2 : ∀ i, i < l0.length + 1 → ∀ j, j < l0.length + 1 → ∃ s, impl_cornerSum.f k l0 (i : Int) (j : Int) = some s ∧ f i j = wrap64 ((i : Int) + (j : Int) - wrap64 (2 * s)) := by
      intro i hi j hj
      obtain ⟨s, hs, h2⟩ := Option.bind_eq_some_iff.mp (hf i hi j hj)
      exact ⟨s, hs, (Option.some.inj h2).symm⟩
    have HT := Aside0.mk (fun (W : World) (hb : Below w.heap.size w W) (g1 : Addr) (h1 : W.cell? g1 = some (.slice A0 l0.length c0)) =>
      table_any 84 #[.pointer (some g1)] f (l0.length + 1) (l0.length + 1) (by omega) (by omega) W (enters_of Try.func84 (by kernel_rfl) rfl)
        (fun W' hb' i j hi hj => by
          obtain ⟨s, hs, he⟩ := hf2 i hi j hj
          rw [he]
          exact impl_heights.clo k l0 A0 c0 g1 W' (Kd.C_below (Kd.C_below hr0 hb) hb') hc0 (pw_cell_below hb' h1) i j (by omega) (by omega) s hs))
    have hn : ((l0.length + 1 : Nat) : Int) = (l0.length : Int) + 1 := by omega
    rw [hn] at HT
    clear h hf hf2 hr0 hc0 hn
    have hmf : ∀ (fn : Fn) (first cap : Array Value) (w : World), (Instr.makeFunc fn first cap).run Try.prog w = .ok (.func fn first cap) w := fun _ _ _ _ => rfl
    go_enter Try.func49, Try.ntmps49
    go_wp2_with (go_at_call 83; (with_reducible refine (HT.out _ ?hb _ ?h1).mono ?_); (case hb => exact (by repeat (first | exact HB0.out | apply below_alloc | apply pw_below_drewN | apply below_drew1))); (case h1 => go_simp); rintro e w' ⟨v, rfl, hS, hb⟩; have HS := Aside0.mk (Kd.S_lower hS (below_size (by repeat (first | exact HB0.out | apply below_alloc | apply pw_below_drewN | apply below_drew1)))); have HB := Aside0.mk (below_step (by repeat (first | exact HB0.out | apply below_alloc | apply pw_below_drewN | apply below_drew1)) hb); clear hS hb)
    go_ret
    exact ⟨_, rfl, HS.out, HB.out⟩
  · rw [if_neg hl] at h
    cases h

end Go.Proofs.Ytfoidmoiedokjaa.P
