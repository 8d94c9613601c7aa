-- By gp.py (this session's own driver over the kit's print). Not trusted: Lean checks it.
import Derived.Test.YthjiajkmaimbjaaF0
import Derived.Test.YthjiajkmaimbjaaB
import Derived.Test.YthjiajkmaimbjaaTab
namespace Go.Proofs.Ythjiajkmaimbjaa.P
open Go.Proofs.Ythjiajkmaimbjaa.B
open Go.RowKit Go.Proofs.YthjiajkmaimbjaaW.PrintWords Go.Proofs.YthjiajkmaimbjaaW.PrintLast Go.Proofs.YthjiajkmaimbjaaW.PrintMore
attribute [local go_sem] max2_int min2_int max_two min_two max_three min_three max_four min_four   -- for this text's walks alone
set_option linter.unusedVariables false
set_option linter.unusedSimpArgs false

/-! ### impl_mirrored: function 114 (given) -/
/-- The rows of a square backwards. -/
def impl_mirrored.f (l0 : List (List Int)) : Option (List (List Int)) := if l0.length ≤ 1048576 ∧ ∀ x ∈ l0, x.length = l0.length then some (tabOf l0.length l0.length fun i j => gd l0 i (l0.length - 1 - j)) else none
set_option maxHeartbeats 8000000 in
set_option maxRecDepth 100000 in
theorem impl_mirrored.clo (l : List (List Int)) (A : Option Addr) (c : Nat) (g1 g2 : Addr) (w : World) (hr : Kd.C (Kd.slice 3 (Kd.int .i64)) w A l.length l) (hl : l.length ≤ 1048576) (hsq : ∀ x ∈ l, x.length = l.length) (h1 : w.cell? g1 = some (.slice A l.length c)) (h2 : w.cell? g2 = some (.int .i64 l.length)) (i j : Nat) (hi : i < l.length) (hj : j < l.length) :
    Calls Try.prog 143 (#[.int .i64 (i : Int), .int .i64 (j : Int)] ++ #[.pointer (some g1), .pointer (some g2)]) w fun e w' => e = .returned (.int .i64 (gd l i (l.length - 1 - j))) ∧ Drawn0 w w' := by
  obtain ⟨ad, A0, c0, rfl, hx0, hc0, hr0⟩ := at_row hr i hi
  have hlen : (l.getD i []).length = l.length := getD_row hsq hi
  obtain ⟨ad2, rfl, hx1⟩ := at_num hr0 (l.length - 1 - j) (by omega)
  rw [hlen] at hx0
  obtain ⟨v, hv⟩ : ∃ v, v = gd l i (l.length - 1 - j) := ⟨_, rfl⟩
  change w.cell? _ = some (.int .i64 (gd l i (l.length - 1 - j))) at hx1
  rw [← hv] at hx1 ⊢
  clear hv
  have e1 : ((l.length : Int) - 1 - (j : Int)) = ((l.length - 1 - j : Nat) : Int) := by omega
  have e2 : ((l.length : Int) - 1 - (j : Int)).toNat = l.length - 1 - j := by omega
  have b1 : (0 : Int) ≤ (l.length : Int) - 1 - (j : Int) := by omega
  have b2 : (l.length : Int) - 1 - (j : Int) < (l.length : Int) := by omega
  have b3 : decide (i < l.length) = true := decide_eq_true hi
  have E := Aside0.mk e1
  clear e1 hr hr0 hc0 hlen hsq
  go_enter Try.func143, Try.ntmps143
  go_wp2
  go_quiet (fail)
  go_wp2
  go_ret
  exact ⟨rfl, by repeat (first | exact Drawn0.refl _ | apply Drawn0.step)⟩
set_option maxHeartbeats 8000000 in
set_option maxRecDepth 100000 in
theorem impl_mirrored.calls (A0 : Option Addr) (c0 : Nat) (l0 : List (List Int)) (r : List (List Int)) (w : World) (hr0 : Kd.C (Kd.slice 3 (Kd.int .i64)) w A0 l0.length l0) (hc0 : l0.length ≤ c0) (h : impl_mirrored.f l0 = some r) :
    Calls Try.prog 114 #[.slice A0 l0.length c0] w fun e w' => ∃ v0_ : Value, e = .returned (v0_) ∧ Kd.S (Kd.slice 3 (Kd.int .i64)) 22 w' w.heap.size (fun _ => True) v0_ r ∧ Below w.heap.size w w' := by
  unfold impl_mirrored.f at h
  by_cases hc : l0.length ≤ 1048576 ∧ ∀ x ∈ l0, x.length = l0.length
  · rw [if_pos hc] at h
    obtain rfl := Option.some.inj h
    clear h
    obtain ⟨hl, hsq⟩ := hc
    have HB0 := Aside0.mk (Below.refl w.heap.size w)
    have HT := Aside0.mk (fun (W : World) (hb : Below w.heap.size w W) (g1 g2 : Addr) (h1 : W.cell? g1 = some (.slice A0 l0.length c0)) (h2 : W.cell? g2 = some (.int .i64 l0.length)) =>
      table_any 143 #[.pointer (some g1), .pointer (some g2)] (fun i j => gd l0 i (l0.length - 1 - j)) l0.length l0.length hl hl W (enters_of Try.func143 (by kernel_rfl) rfl)
        (fun W' hb' i j hi hj => impl_mirrored.clo l0 A0 c0 g1 g2 W' (Kd.C_below (Kd.C_below hr0 hb) hb') hl hsq (pw_cell_below hb' h1) (pw_cell_below hb' h2) i j hi hj))
    clear hl hsq
    have hmf : ∀ (fn : Fn) (first cap : Array Value) (w : World), (Instr.makeFunc fn first cap).run Try.prog w = .ok (.func fn first cap) w := fun _ _ _ _ => rfl
    go_enter Try.func114, Try.ntmps114
    go_wp2_with (go_at_call 60; (with_reducible refine (HT.out _ ?hb _ _ ?h1 ?h2).mono ?_); (case hb => exact (by repeat (first | exact HB0.out | apply below_alloc | apply pw_below_drewN | apply below_drew1))); (case h1 => go_simp); (case h2 => go_simp); rintro e w' ⟨v, rfl, hS, hb⟩; have HS := Aside0.mk (Kd.S_lower hS (below_size (by repeat (first | exact HB0.out | apply below_alloc | apply pw_below_drewN | apply below_drew1)))); have HB := Aside0.mk (below_step (by repeat (first | exact HB0.out | apply below_alloc | apply pw_below_drewN | apply below_drew1)) hb); clear hS hb)
    go_ret
    exact ⟨_, rfl, HS.out, HB.out⟩
  · rw [if_neg hc] at h
    cases h

end Go.Proofs.Ythjiajkmaimbjaa.P
