-- By gp.py (this session's own driver over the kit's print). Not trusted: Lean checks it.
import Derived.Test.YtadepmjfhcmkoaaF0
import Derived.Test.YtadepmjfhcmkoaaB
import Derived.Test.YtadepmjfhcmkoaaDraws
import Derived.Test.YtadepmjfhcmkoaaFSpecDist
import Derived.Test.YtadepmjfhcmkoaaFSpecIn
namespace Go.Proofs.Ytadepmjfhcmkoaa.P
open Go.Proofs.Ytadepmjfhcmkoaa.B
open Go.RowKit Go.Proofs.YtadepmjfhcmkoaaW.PrintWords Go.Proofs.YtadepmjfhcmkoaaW.PrintLast Go.Proofs.YtadepmjfhcmkoaaW.PrintMore
attribute [local go_sem] max2_int min2_int max_two min_two max_three min_three max_four min_four   -- for this text's walks alone
set_option linter.unusedVariables false
set_option linter.unusedSimpArgs false
/-! ### spec_DrawCountChains: function 44 (given) -/
def spec_DrawCountChains.f (l0 : List Int) : Option Int := if l0.length ≤ 1048576 ∧ ∀ x ∈ l0, 0 ≤ x ∧ x ≤ 255 then some (rd [1, 2, 3, 4, 3, 5, 0] (firstB l0 % 7)) else none
set_option maxHeartbeats 8000000 in
set_option maxRecDepth 100000 in
theorem spec_DrawCountChains.calls (A0 : Option Addr) (c0 : Nat) (l0 : List Int) (r : Int) (w : World) (hr0 : Kd.C (Kd.int .u8) w A0 l0.length l0) (hc0 : l0.length ≤ c0) (h : spec_DrawCountChains.f l0 = some r) :
  Calls Try.prog 44 #[.slice A0 l0.length c0] w fun e w' => e = .returned (.int .i64 r) ∧ Below w.heap.size w w' := by
 unfold spec_DrawCountChains.f at h
 by_cases hok : l0.length ≤ 1048576 ∧ ∀ x ∈ l0, 0 ≤ x ∧ x ≤ 255
 case neg => rw [if_neg hok] at h; cases h
 rw [if_pos hok] at h; have hfb := firstB_bound hok.2; have HOK := Aside0.mk (And.intro hok (And.intro hr0 hc0)); have H := Aside0.mk (Option.some.inj h); clear h hok hr0 hc0; go_enter Try.func44, Try.ntmps44
 go_wp2_with fail
 obtain ⟨w1, hw1⟩ : ∃ w1 : World, w1 = (w.alloc (.cells #[.slice A0 l0.length c0, .int .i64 0, .int .u64 0] 77)).alloc (.cells #[.int .i64 1, .int .i64 2, .int .i64 3, .int .i64 4, .int .i64 3, .int .i64 5, .int .i64 0] 3) := ⟨_, rfl⟩
 rw [← hw1]
 have hb1 : Below w.heap.size w w1 := by rw [hw1]; exact below_alloc (below_alloc (Below.refl _ _) _) _
 have hbg : w1.heap[w.heap.size]? = some (.cells #[.slice A0 l0.length c0, .int .i64 0, .int .u64 0] 77 (0, 0)) := by
  rw [hw1]; exact ((below_alloc (Below.refl (w.alloc (.cells #[.slice A0 l0.length c0, .int .i64 0, .int .u64 0] 77)).heap.size _) _).block w.heap.size (by simp)).trans (heap_alloc_new w _)
 have hbq : w1.heap[w.heap.size + 1]? = some (.cells #[.int .i64 1, .int .i64 2, .int .i64 3, .int .i64 4, .int .i64 3, .int .i64 5, .int .i64 0] 3 (0, 0)) := by
  rw [hw1]; have h := heap_alloc_new (w.alloc (.cells #[.slice A0 l0.length c0, .int .i64 0, .int .u64 0] 77)) (.cells #[.int .i64 1, .int .i64 2, .int .i64 3, .int .i64 4, .int .i64 3, .int .i64 5, .int .i64 0] 3)
  simpa using h
 obtain ⟨i, hi⟩ : ∃ i : Nat, firstB l0 % 7 = (i : Int) := ⟨(firstB l0 % 7).toNat, by omega⟩
 have hi7 : i < 7 := by omega
 have hx : w1.cell? ⟨w.heap.size + 1, (firstB l0 % ((7 : Nat) : Int)).toNat, none⟩ = some (.int .i64 r) := by
  rw [cell_blk hbq, ← H.out, show ((7 : Nat) : Int) = 7 from rfl, hi, Int.toNat_natCast]
  have h9 : i = 0 ∨ i = 1 ∨ i = 2 ∨ i = 3 ∨ i = 4 ∨ i = 5 ∨ i = 6 := by omega
  rcases h9 with rfl | rfl | rfl | rfl | rfl | rfl | rfl <;> rfl
 (with_reducible refine (among_calls w.heap.size (w.heap.size + 1) (by omega) 77 A0 c0 l0 7 7 (by omega) (by omega) r w1 hbg (Kd.C_below HOK.out.2.1 hb1) HOK.out.2.2 HOK.out.1.2 HOK.out.1.1 hx).mono ?_)
 rintro e w5 ⟨rfl, hb5⟩; have HB5 := Aside0.mk (hb1.trans hb5); clear hb5 hb1 hbg hbq hx hw1; go_wp2; go_ret; exact ⟨rfl, HB5.out⟩
/-! ### spec_DrawLeastSigns: function 45 (given) -/
def spec_DrawLeastSigns.f (l0 : List Int) : Option Int := if l0.length ≤ 1048576 ∧ ∀ x ∈ l0, 0 ≤ x ∧ x ≤ 255 then some (rd [1, 2, 3, 5, 6, 7, 0] (firstB l0 % 7)) else none
set_option maxHeartbeats 8000000 in
set_option maxRecDepth 100000 in
theorem spec_DrawLeastSigns.calls (A0 : Option Addr) (c0 : Nat) (l0 : List Int) (r : Int) (w : World) (hr0 : Kd.C (Kd.int .u8) w A0 l0.length l0) (hc0 : l0.length ≤ c0) (h : spec_DrawLeastSigns.f l0 = some r) :
  Calls Try.prog 45 #[.slice A0 l0.length c0] w fun e w' => e = .returned (.int .i64 r) ∧ Below w.heap.size w w' := by
 unfold spec_DrawLeastSigns.f at h
 by_cases hok : l0.length ≤ 1048576 ∧ ∀ x ∈ l0, 0 ≤ x ∧ x ≤ 255
 case neg => rw [if_neg hok] at h; cases h
 rw [if_pos hok] at h; have hfb := firstB_bound hok.2; have HOK := Aside0.mk (And.intro hok (And.intro hr0 hc0)); have H := Aside0.mk (Option.some.inj h); clear h hok hr0 hc0; go_enter Try.func45, Try.ntmps45
 go_wp2_with fail
 obtain ⟨w1, hw1⟩ : ∃ w1 : World, w1 = (w.alloc (.cells #[.slice A0 l0.length c0, .int .i64 0, .int .u64 0] 77)).alloc (.cells #[.int .i64 1, .int .i64 2, .int .i64 3, .int .i64 5, .int .i64 6, .int .i64 7, .int .i64 0] 3) := ⟨_, rfl⟩
 rw [← hw1]
 have hb1 : Below w.heap.size w w1 := by rw [hw1]; exact below_alloc (below_alloc (Below.refl _ _) _) _
 have hbg : w1.heap[w.heap.size]? = some (.cells #[.slice A0 l0.length c0, .int .i64 0, .int .u64 0] 77 (0, 0)) := by
  rw [hw1]; exact ((below_alloc (Below.refl (w.alloc (.cells #[.slice A0 l0.length c0, .int .i64 0, .int .u64 0] 77)).heap.size _) _).block w.heap.size (by simp)).trans (heap_alloc_new w _)
 have hbq : w1.heap[w.heap.size + 1]? = some (.cells #[.int .i64 1, .int .i64 2, .int .i64 3, .int .i64 5, .int .i64 6, .int .i64 7, .int .i64 0] 3 (0, 0)) := by
  rw [hw1]; have h := heap_alloc_new (w.alloc (.cells #[.slice A0 l0.length c0, .int .i64 0, .int .u64 0] 77)) (.cells #[.int .i64 1, .int .i64 2, .int .i64 3, .int .i64 5, .int .i64 6, .int .i64 7, .int .i64 0] 3)
  simpa using h
 obtain ⟨i, hi⟩ : ∃ i : Nat, firstB l0 % 7 = (i : Int) := ⟨(firstB l0 % 7).toNat, by omega⟩
 have hi7 : i < 7 := by omega
 have hx : w1.cell? ⟨w.heap.size + 1, (firstB l0 % ((7 : Nat) : Int)).toNat, none⟩ = some (.int .i64 r) := by
  rw [cell_blk hbq, ← H.out, show ((7 : Nat) : Int) = 7 from rfl, hi, Int.toNat_natCast]
  have h9 : i = 0 ∨ i = 1 ∨ i = 2 ∨ i = 3 ∨ i = 4 ∨ i = 5 ∨ i = 6 := by omega
  rcases h9 with rfl | rfl | rfl | rfl | rfl | rfl | rfl <;> rfl
 (with_reducible refine (among_calls w.heap.size (w.heap.size + 1) (by omega) 77 A0 c0 l0 7 7 (by omega) (by omega) r w1 hbg (Kd.C_below HOK.out.2.1 hb1) HOK.out.2.2 HOK.out.1.2 HOK.out.1.1 hx).mono ?_)
 rintro e w5 ⟨rfl, hb5⟩; have HB5 := Aside0.mk (hb1.trans hb5); clear hb5 hb1 hbg hbq hx hw1; go_wp2; go_ret; exact ⟨rfl, HB5.out⟩
/-! ### spec_LeastSigns: function 47 -/
def spec_LeastSigns.f (k : Nat) (a0 : Int) : Option ((List (List Int)) × Bool) := (spec_heSide.f a0).bind fun t742 => (if t742 = true then ((spec_heLeast.f k a0).bind fun t743 => (some (t743, true))) else (some (([] : List (List Int)), false)))
set_option maxHeartbeats 8000000 in
set_option maxRecDepth 100000 in
theorem spec_LeastSigns.calls (k : Nat) (a0 : Int) (r1 : List (List Int)) (r2 : Bool) (w : World) (h : spec_LeastSigns.f k a0 = some (r1, r2)) :
  Calls Try.prog 47 #[.int .i64 a0] w fun e w' => ∃ v0_ : Value, e = .returned (.tuple #[v0_, .bool r2]) ∧ Kd.S (Kd.slice 3 (Kd.int .i64)) 39 w' w.heap.size (fun _ => True) v0_ r1 ∧ Below w.heap.size w w' := by
 have HB := Aside0.mk (Below.refl w.heap.size w); have H : ((spec_heSide.f a0).bind fun t742 => (if t742 = true then ((spec_heLeast.f k a0).bind fun t743 => (some (t743, true))) else (some (([] : List (List Int)), false)))) = some (r1, r2) := h; clear h; replace H := Option.bind_eq_some_iff.mp H; obtain ⟨t742, A20, H⟩ := H; replace H : (if t742 = true then ((spec_heLeast.f k a0).bind fun t743 => (some (t743, true))) else (some (([] : List (List Int)), false))) = some (r1, r2) := H; have A2 := Aside0.mk A20; clear A20
 by_cases c3 : t742 = true
 ·subst c3
  have H1 : ((spec_heLeast.f k a0).bind fun t743 => (some (t743, true))) = some (r1, r2) := by rw [if_pos rfl] at H; exact H
  clear H; have H := H1; clear H1; replace H := Option.bind_eq_some_iff.mp H; obtain ⟨t743, A40, H⟩ := H; replace H : (some (t743, true)) = some (r1, r2) := H; have A4 := Aside0.mk A40; clear A40; simp only [Option.some.injEq, Prod.mk.injEq] at H; obtain ⟨rfl, rfl⟩ := H; go_enter Try.func47, Try.ntmps47
  go_wp2_with (first | ((with_reducible refine gate_callee (f := 106) rfl ?_); refine goesL_ (some 5) rfl rfl Try.func106 (by kernel_rfl) rfl #[.int .i64 a0] rfl (by (try simp only [List.map_toArray, List.map_cons, List.map_nil]); first | done | rfl | (simp only [List.length_drop, List.length_take]; rfl)) ?_; (with_reducible refine (spec_heSide.calls a0 true _ A2.out).mono ?_); rintro e w' ⟨rfl, ⟨nd, rfl⟩⟩; refine ⟨_, rfl, ?_⟩) | ((with_reducible refine gate_callee (f := 94) rfl ?_); refine goesL_ (some 8) rfl rfl Try.func94 (by kernel_rfl) rfl #[.int .i64 a0] rfl (by (try simp only [List.map_toArray, List.map_cons, List.map_nil]); first | done | rfl | (simp only [List.length_drop, List.length_take]; rfl)) ?_; (with_reducible refine (spec_heLeast.calls k a0 t743 _ A4.out).mono ?_); rintro e w5 ⟨v744, rfl, ho0, hb⟩; refine ⟨_, rfl, ?_⟩; have n0_ := Aside0.mk (Kd.S_lower ho0 (below_size (by repeat (first | (with_reducible first | exact HB.out | apply below_alloc | apply pw_below_drewN | apply below_drew1) | exact HB.out)))); have n1_ := Aside0.mk (below_step (by repeat (first | (with_reducible first | exact HB.out | apply below_alloc | apply pw_below_drewN | apply below_drew1) | exact HB.out)) hb); clear HB; have HO745 := n0_; have HB := n1_; clear n0_ n1_; (try clear hb); (try clear hb2); (try clear hk); (try clear hi); (try clear ho0)))
  go_ret2; exact ⟨_, by first | rfl | (simp [errW_none, errW_some] <;> rfl) | (simp [*, errW_none, errW_some] <;> rfl), by (with_reducible repeat (first | apply Kd.S_alloc | apply Kd.S_drewN | apply Kd.S_drew)); exact HO745.out, by repeat (first | (with_reducible first | exact HB.out | apply below_alloc | apply pw_below_drewN | apply below_drew1) | exact HB.out)⟩
 ·replace c3 := Bool.eq_false_iff.mpr c3
  subst c3
  have H1 : (some (([] : List (List Int)), false)) = some (r1, r2) := by rw [if_neg (show ¬ (false = true) by decide)] at H; exact H
  clear H; have H := H1; clear H1; simp only [Option.some.injEq, Prod.mk.injEq] at H; obtain ⟨rfl, rfl⟩ := H; go_enter Try.func47, Try.ntmps47
  go_wp2_with (first | ((with_reducible refine gate_callee (f := 106) rfl ?_); refine goesL_ (some 5) rfl rfl Try.func106 (by kernel_rfl) rfl #[.int .i64 a0] rfl (by (try simp only [List.map_toArray, List.map_cons, List.map_nil]); first | done | rfl | (simp only [List.length_drop, List.length_take]; rfl)) ?_; (with_reducible refine (spec_heSide.calls a0 false _ A2.out).mono ?_); rintro e w' ⟨rfl, ⟨nd, rfl⟩⟩; refine ⟨_, rfl, ?_⟩))
  go_ret2; exact ⟨_, by first | rfl | (simp [errW_none, errW_some] <;> rfl) | (simp [*, errW_none, errW_some] <;> rfl), by first | exact Kd.S_nil _ _ _ _ _ | exact Kd.N_nil _ _ _ _ _ | exact Kd.V_nil _ _ _ _ _ | exact Kd.Q_nil _ _ _ _ _ | exact Kd.R_nil _ _ _ _ _, by repeat (first | (with_reducible first | exact HB.out | apply below_alloc | apply pw_below_drewN | apply below_drew1) | exact HB.out)⟩
/-! ### spec_GreatestSigns: function 49 -/
def spec_GreatestSigns.f (k : Nat) (a0 : Int) : Option ((List (List Int)) × Bool) := (spec_heSide.f a0).bind fun t753 => (if t753 = true then ((spec_heLeast.f k a0).bind fun t754 => ((spec_sgMirror.f k t754).bind fun t757 => (some (t757, true)))) else (some (([] : List (List Int)), false)))
set_option maxHeartbeats 8000000 in
set_option maxRecDepth 100000 in
theorem spec_GreatestSigns.calls (k : Nat) (a0 : Int) (r1 : List (List Int)) (r2 : Bool) (w : World) (h : spec_GreatestSigns.f k a0 = some (r1, r2)) :
  Calls Try.prog 49 #[.int .i64 a0] w fun e w' => ∃ v0_ : Value, e = .returned (.tuple #[v0_, .bool r2]) ∧ Kd.S (Kd.slice 3 (Kd.int .i64)) 39 w' w.heap.size (fun _ => True) v0_ r1 ∧ Below w.heap.size w w' := by
 have HB := Aside0.mk (Below.refl w.heap.size w); have H : ((spec_heSide.f a0).bind fun t753 => (if t753 = true then ((spec_heLeast.f k a0).bind fun t754 => ((spec_sgMirror.f k t754).bind fun t757 => (some (t757, true)))) else (some (([] : List (List Int)), false)))) = some (r1, r2) := h; clear h; replace H := Option.bind_eq_some_iff.mp H; obtain ⟨t753, A20, H⟩ := H; replace H : (if t753 = true then ((spec_heLeast.f k a0).bind fun t754 => ((spec_sgMirror.f k t754).bind fun t757 => (some (t757, true)))) else (some (([] : List (List Int)), false))) = some (r1, r2) := H; have A2 := Aside0.mk A20; clear A20
 by_cases c3 : t753 = true
 ·subst c3
  have H1 : ((spec_heLeast.f k a0).bind fun t754 => ((spec_sgMirror.f k t754).bind fun t757 => (some (t757, true)))) = some (r1, r2) := by rw [if_pos rfl] at H; exact H
  clear H; have H := H1; clear H1; replace H := Option.bind_eq_some_iff.mp H; obtain ⟨t754, A40, H⟩ := H; replace H : ((spec_sgMirror.f k t754).bind fun t757 => (some (t757, true))) = some (r1, r2) := H; have A4 := Aside0.mk A40; clear A40; replace H := Option.bind_eq_some_iff.mp H; obtain ⟨t757, A50, H⟩ := H; replace H : (some (t757, true)) = some (r1, r2) := H; have A5 := Aside0.mk A50; clear A50; simp only [Option.some.injEq, Prod.mk.injEq] at H; obtain ⟨rfl, rfl⟩ := H; go_enter Try.func49, Try.ntmps49
  go_wp2_with (first | ((with_reducible refine gate_callee (f := 106) rfl ?_); refine goesL_ (some 5) rfl rfl Try.func106 (by kernel_rfl) rfl #[.int .i64 a0] rfl (by (try simp only [List.map_toArray, List.map_cons, List.map_nil]); first | done | rfl | (simp only [List.length_drop, List.length_take]; rfl)) ?_; (with_reducible refine (spec_heSide.calls a0 true _ A2.out).mono ?_); rintro e w' ⟨rfl, ⟨nd, rfl⟩⟩; refine ⟨_, rfl, ?_⟩) | ((with_reducible refine gate_callee (f := 94) rfl ?_); refine goesL_ (some 8) rfl rfl Try.func94 (by kernel_rfl) rfl #[.int .i64 a0] rfl (by (try simp only [List.map_toArray, List.map_cons, List.map_nil]); first | done | rfl | (simp only [List.length_drop, List.length_take]; rfl)) ?_; (with_reducible refine (spec_heLeast.calls k a0 t754 _ A4.out).mono ?_); rintro e w6 ⟨v755, rfl, ho0, hb⟩; refine ⟨_, rfl, ?_⟩; have n0_ := Aside0.mk (Kd.S_lower ho0 (below_size (by repeat (first | (with_reducible first | exact HB.out | apply below_alloc | apply pw_below_drewN | apply below_drew1) | exact HB.out)))); have n1_ := Aside0.mk (below_step (by repeat (first | (with_reducible first | exact HB.out | apply below_alloc | apply pw_below_drewN | apply below_drew1) | exact HB.out)) hb); clear HB; have HO756 := n0_; have HB := n1_; clear n0_ n1_; (try clear hb); (try clear hb2); (try clear hk); (try clear hi); (try clear ho0); obtain ⟨Ao7, co7, eo7⟩ := Kd.S_slice HO756.out; subst eo7) | ((with_reducible refine gate_callee (f := 96) rfl ?_); refine goesL_ (some 9) rfl rfl Try.func96 (by kernel_rfl) rfl #[.slice Ao7 t754.length co7] rfl (by (try simp only [List.map_toArray, List.map_cons, List.map_nil]); first | done | rfl | (simp only [List.length_drop, List.length_take]; rfl)) ?_; (with_reducible refine (spec_sgMirror.calls k _ _ t754 t757 _ ?side1 ?side2 A5.out).mono ?_); (case side1 => repeat (first | exact (Kd.S_reads' HO756.out).2.2 | (with_reducible refine Kd.C_alloc ?_ _) | (with_reducible refine Kd.C_drewN ?_ _) | (with_reducible refine Kd.C_drew ?_))); (case side2 => exact (Kd.S_reads' HO756.out).2.1); rintro e w8 ⟨v758, rfl, ho0, hb⟩; refine ⟨_, rfl, ?_⟩; have n0_ := Aside0.mk (Kd.S_elder' (by (with_reducible repeat (first | apply Kd.S_alloc | apply Kd.S_drewN | apply Kd.S_drew)); exact HO756.out) (Kd.S_base ho0) hb); have n1_ := Aside0.mk (Kd.S_lower (Kd.S_new' ho0 (Kd.S_lt (by (with_reducible repeat (first | apply Kd.S_alloc | apply Kd.S_drewN | apply Kd.S_drew)); exact HO756.out))) (below_size (by repeat (first | (with_reducible first | exact HB.out | apply below_alloc | apply pw_below_drewN | apply below_drew1) | exact HB.out)))); have n2_ := Aside0.mk (below_step (by repeat (first | (with_reducible first | exact HB.out | apply below_alloc | apply pw_below_drewN | apply below_drew1) | exact HB.out)) hb); clear HO756; clear HB; have HO756 := n0_; have HO759 := n1_; have HB := n2_; clear n0_ n1_ n2_; (try clear hb); (try clear hb2); (try clear hk); (try clear hi); (try clear ho0)))
  go_ret2; exact ⟨_, by first | rfl | (simp [errW_none, errW_some] <;> rfl) | (simp [*, errW_none, errW_some] <;> rfl), by (with_reducible repeat (first | apply Kd.S_alloc | apply Kd.S_drewN | apply Kd.S_drew)); exact Kd.S_mono HO759.out (fun _ hk => trivial), by repeat (first | (with_reducible first | exact HB.out | apply below_alloc | apply pw_below_drewN | apply below_drew1) | exact HB.out)⟩
 ·replace c3 := Bool.eq_false_iff.mpr c3
  subst c3
  have H1 : (some (([] : List (List Int)), false)) = some (r1, r2) := by rw [if_neg (show ¬ (false = true) by decide)] at H; exact H
  clear H; have H := H1; clear H1; simp only [Option.some.injEq, Prod.mk.injEq] at H; obtain ⟨rfl, rfl⟩ := H; go_enter Try.func49, Try.ntmps49
  go_wp2_with (first | ((with_reducible refine gate_callee (f := 106) rfl ?_); refine goesL_ (some 5) rfl rfl Try.func106 (by kernel_rfl) rfl #[.int .i64 a0] rfl (by (try simp only [List.map_toArray, List.map_cons, List.map_nil]); first | done | rfl | (simp only [List.length_drop, List.length_take]; rfl)) ?_; (with_reducible refine (spec_heSide.calls a0 false _ A2.out).mono ?_); rintro e w' ⟨rfl, ⟨nd, rfl⟩⟩; refine ⟨_, rfl, ?_⟩))
  go_ret2; exact ⟨_, by first | rfl | (simp [errW_none, errW_some] <;> rfl) | (simp [*, errW_none, errW_some] <;> rfl), by first | exact Kd.S_nil _ _ _ _ _ | exact Kd.N_nil _ _ _ _ _ | exact Kd.V_nil _ _ _ _ _ | exact Kd.Q_nil _ _ _ _ _ | exact Kd.R_nil _ _ _ _ _, by repeat (first | (with_reducible first | exact HB.out | apply below_alloc | apply pw_below_drewN | apply below_drew1) | exact HB.out)⟩
end Go.Proofs.Ytadepmjfhcmkoaa.P
