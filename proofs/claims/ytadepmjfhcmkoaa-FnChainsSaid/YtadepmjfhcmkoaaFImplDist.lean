-- By gp.py (this session's own driver over the kit's print). Not trusted: Lean checks it.
import Derived.Test.YtadepmjfhcmkoaaF0
import Derived.Test.YtadepmjfhcmkoaaB
import Derived.Test.YtadepmjfhcmkoaaTab
import Derived.Test.YtadepmjfhcmkoaaFImplCorn
import Derived.Test.YtadepmjfhcmkoaaFImplIn
namespace Go.Proofs.Ytadepmjfhcmkoaa.P
open Go.Proofs.Ytadepmjfhcmkoaa.B
open Go.RowKit Go.Proofs.YtadepmjfhcmkoaaW.PrintWords Go.Proofs.YtadepmjfhcmkoaaW.PrintLast Go.Proofs.YtadepmjfhcmkoaaW.PrintMore
attribute [local go_sem] max2_int min2_int max_two min_two max_three min_three max_four min_four   -- for this text's walks alone
set_option linter.unusedVariables false
set_option linter.unusedSimpArgs false
/-! ### impl_least: function 104 (given) -/
def impl_least.f (a0 : Int) : Option (List (List Int)) := if 0 ≤ a0 ∧ a0 ≤ 1048576 then some (tabOf a0.toNat a0.toNat fun i j => if i = j then 1 else 0) else none
set_option maxHeartbeats 8000000 in
set_option maxRecDepth 100000 in
theorem impl_least.clo (w : World) (i j : Nat) : Calls Try.prog 147 (#[.int .i64 (i : Int), .int .i64 (j : Int)] ++ #[]) w fun e w' => e = .returned (.int .i64 (if i = j then 1 else 0)) ∧ Drawn0 w w' := by
 have hb : ∀ (b : Bool) w, Calls Try.prog 76 #[.bool b] w fun e w' => e = .returned (.int .i64 (if b = true then 1 else 0)) ∧ Drawn0 w w' := by
  intro b w
  refine (impl_bit.calls b _ w ?_).mono fun _ _ h => h
  unfold impl_bit.f
  cases b <;> simp
 by_cases h : i = j
 ·have h2 : ((i : Int) == (j : Int)) = true := by simp [h]
  rw [if_pos h]; clear h; go_enter Try.func147, Try.ntmps147
  go_wp2_with (go_at_call 76; refine (hb _ _).mono ?_; rintro e w' ⟨rfl, ⟨n2, rfl⟩⟩)
  go_ret; exact ⟨by first | rfl | (simp [*]; done), by repeat (first | exact Drawn0.refl _ | apply Drawn0.step)⟩
 ·have h2 : ((i : Int) == (j : Int)) = false := by simp; omega
  rw [if_neg h]; clear h; go_enter Try.func147, Try.ntmps147
  go_wp2_with (go_at_call 76; refine (hb _ _).mono ?_; rintro e w' ⟨rfl, ⟨n2, rfl⟩⟩)
  go_ret; exact ⟨by first | rfl | (simp [*]; done), by repeat (first | exact Drawn0.refl _ | apply Drawn0.step)⟩
set_option maxHeartbeats 8000000 in
set_option maxRecDepth 100000 in
theorem impl_least.calls (a0 : Int) (r : List (List Int)) (w : World) (h : impl_least.f a0 = some r) :
  Calls Try.prog 104 #[.int .i64 a0] w fun e w' => ∃ v0_ : Value, e = .returned (v0_) ∧ Kd.S (Kd.slice 3 (Kd.int .i64)) 39 w' w.heap.size (fun _ => True) v0_ r ∧ Below w.heap.size w w' := by
 unfold impl_least.f at h
 by_cases hc : 0 ≤ a0 ∧ a0 ≤ 1048576
 ·rw [if_pos hc] at h
  obtain rfl := Option.some.inj h; clear h; obtain ⟨n, rfl⟩ := Int.eq_ofNat_of_zero_le hc.1; have HT := Aside0.mk (table_any 147 #[] (fun i j => if i = j then 1 else 0) n n (by omega) (by omega) w (enters_of Try.func147 (by kernel_rfl) rfl) (fun W _ i j _ _ => impl_least.clo W i j)); clear hc; go_enter Try.func104, Try.ntmps104
  go_wp2_with (go_at_call 146; refine HT.out.mono ?_; rintro e w' ⟨v, rfl, hS, hb⟩; have HS := Aside0.mk hS; have HB := Aside0.mk hb; clear hS hb)
  go_ret; exact ⟨_, rfl, HS.out, HB.out⟩
 ·rw [if_neg hc] at h
  cases h
/-! ### impl_distance: function 108 -/
mutual
def impl_distance.l0 : Nat → List (List Int) → Int → List (List Int) → Int → Int → Option (Int)
 | 0, _, _, _, _, _ => none
 | k + 1, x6, x7, x16, x17, x18 => if x18 < x17 then (if 0 ≤ x18 then (if x18 < (x16.length : Int) then (impl_distance.l1 k x6 x7 x18 x16 x17 x18 (rd_L1 x16 x18) ((rd_L1 x16 x18).length : Int) 0) else (none)) else (none)) else (some (wrap64 (Int.tdiv x7 2)))
def impl_distance.l1 : Nat → List (List Int) → Int → Int → List (List Int) → Int → Int → List Int → Int → Int → Option (Int)
 | 0, _, _, _, _, _, _, _, _, _ => none
 | k + 1, x6, x7, x8, x16, x17, x18, x23, x24, x25 => if x25 < x24 then (if 0 ≤ x25 then (if x25 < (x23.length : Int) then (if 0 ≤ x8 then (if x8 < (x6.length : Int) then (if x25 < ((rd_L1 x6 x8).length : Int) then (impl_distance.l1 k x6 (wrap64 (x7 + (mx (wrap64 ((rd x23 x25) - (rd (rd_L1 x6 x8) x25))) (wrap64 ((rd (rd_L1 x6 x8) x25) - (rd x23 x25)))))) x8 x16 x17 x18 x23 x24 (wrap64 (x25 + 1))) else (none)) else (none)) else (none)) else (none)) else (none)) else (impl_distance.l0 k x6 x7 x16 x17 (wrap64 (x18 + 1)))
end
def impl_distance.f (k : Nat) (l0 : List (List Int)) (l1 : List (List Int)) : Option (Int) := (impl_heights.f k l0).bind fun t765 => ((impl_heights.f k l1).bind fun t768 => (impl_distance.l0 k t768 0 t765 (t765.length : Int) 0))
set_option maxHeartbeats 8000000 in
set_option maxRecDepth 100000 in
theorem impl_distance.calls (k : Nat) (A0 : Option Addr) (c0 : Nat) (l0 : List (List Int)) (A1 : Option Addr) (c1 : Nat) (l1 : List (List Int)) (r : Int) (w : World) (hr0 : Kd.C (Kd.slice 3 (Kd.int .i64)) w A0 l0.length l0) (hc0 : l0.length ≤ c0) (hr1 : Kd.C (Kd.slice 3 (Kd.int .i64)) w A1 l1.length l1) (hc1 : l1.length ≤ c1) (h : impl_distance.f k l0 l1 = some r) :
  Calls Try.prog 108 #[.slice A0 l0.length c0, .slice A1 l1.length c1] w fun e w' => e = .returned (.int .i64 r) ∧ Below w.heap.size w w' := by
 have HR0 := Aside0.mk hr0; have HC0 := Aside0.mk hc0; clear hr0 hc0; have HR1 := Aside0.mk hr1; have HC1 := Aside0.mk hc1; clear hr1 hc1; have HB := Aside0.mk (Below.refl w.heap.size w); have H : ((impl_heights.f k l0).bind fun t765 => ((impl_heights.f k l1).bind fun t768 => (impl_distance.l0 k t768 0 t765 (t765.length : Int) 0))) = some r := h; clear h; replace H := Option.bind_eq_some_iff.mp H; obtain ⟨t765, A30, H⟩ := H; replace H : ((impl_heights.f k l1).bind fun t768 => (impl_distance.l0 k t768 0 t765 (t765.length : Int) 0)) = some r := H; have A3 := Aside0.mk A30; clear A30; replace H := Option.bind_eq_some_iff.mp H; obtain ⟨t768, A40, H⟩ := H; replace H : (impl_distance.l0 k t768 0 t765 (t765.length : Int) 0) = some r := H; have A4 := Aside0.mk A40; clear A40; have H' := Aside0.mk H; clear H; go_enter Try.func108, Try.ntmps108
 go_wp2_with (first | (go_at_call 135; (with_reducible refine (impl_heights.calls k _ _ l0 t765 _ ?side1 ?side2 A3.out).mono ?_); (case side1 => repeat (first | exact HR0.out | (with_reducible refine Kd.C_alloc ?_ _) | (with_reducible refine Kd.C_drewN ?_ _) | (with_reducible refine Kd.C_drew ?_))); (case side2 => exact HC0.out); rintro e w5 ⟨v766, rfl, ho0, hb⟩; have n0_ := Aside0.mk (Kd.S_lower ho0 (below_size (by repeat (first | (with_reducible first | exact HB.out | apply below_alloc | apply pw_below_drewN | apply below_drew1) | exact HB.out)))); have n1_ := Aside0.mk (below_step (by repeat (first | (with_reducible first | exact HB.out | apply below_alloc | apply pw_below_drewN | apply below_drew1) | exact HB.out)) hb); clear HB; have HO767 := n0_; have HB := n1_; clear n0_ n1_; (try clear hb); (try clear hb2); (try clear hk); (try clear hi); (try clear ho0)) | (go_at_call 135; (with_reducible refine (impl_heights.calls k _ _ l1 t768 _ ?side1 ?side2 A4.out).mono ?_); (case side1 => repeat (first | exact (Kd.C_below HR1.out HB.out) | (with_reducible refine Kd.C_alloc ?_ _) | (with_reducible refine Kd.C_drewN ?_ _) | (with_reducible refine Kd.C_drew ?_))); (case side2 => exact HC1.out); rintro e w6 ⟨v769, rfl, ho0, hb⟩; have n0_ := Aside0.mk (Kd.S_elder' (by (with_reducible repeat (first | apply Kd.S_alloc | apply Kd.S_drewN | apply Kd.S_drew)); exact HO767.out) (Kd.S_base ho0) hb); have n1_ := Aside0.mk (Kd.S_lower (Kd.S_new' ho0 (Kd.S_lt (by (with_reducible repeat (first | apply Kd.S_alloc | apply Kd.S_drewN | apply Kd.S_drew)); exact HO767.out))) (below_size (by repeat (first | (with_reducible first | exact HB.out | apply below_alloc | apply pw_below_drewN | apply below_drew1) | exact HB.out)))); have n2_ := Aside0.mk (below_step (by repeat (first | (with_reducible first | exact HB.out | apply below_alloc | apply pw_below_drewN | apply below_drew1) | exact HB.out)) hb); clear HO767; clear HB; have HO767 := n0_; have HO770 := n1_; have HB := n2_; clear n0_ n1_ n2_; (try clear hb); (try clear hb2); (try clear hk); (try clear hi); (try clear ho0); obtain ⟨Ao7, co7, eo7⟩ := Kd.S_slice HO767.out; subst eo7))
 repeat (go_quiet (first | (go_at_call 135; (with_reducible refine (impl_heights.calls k _ _ l0 t765 _ ?side1 ?side2 A3.out).mono ?_); (case side1 => repeat (first | exact HR0.out | (with_reducible refine Kd.C_alloc ?_ _) | (with_reducible refine Kd.C_drewN ?_ _) | (with_reducible refine Kd.C_drew ?_))); (case side2 => exact HC0.out); rintro e w5 ⟨v766, rfl, ho0, hb⟩; have n0_ := Aside0.mk (Kd.S_lower ho0 (below_size (by repeat (first | (with_reducible first | exact HB.out | apply below_alloc | apply pw_below_drewN | apply below_drew1) | exact HB.out)))); have n1_ := Aside0.mk (below_step (by repeat (first | (with_reducible first | exact HB.out | apply below_alloc | apply pw_below_drewN | apply below_drew1) | exact HB.out)) hb); clear HB; have HO767 := n0_; have HB := n1_; clear n0_ n1_; (try clear hb); (try clear hb2); (try clear hk); (try clear hi); (try clear ho0)) | (go_at_call 135; (with_reducible refine (impl_heights.calls k _ _ l1 t768 _ ?side1 ?side2 A4.out).mono ?_); (case side1 => repeat (first | exact (Kd.C_below HR1.out HB.out) | (with_reducible refine Kd.C_alloc ?_ _) | (with_reducible refine Kd.C_drewN ?_ _) | (with_reducible refine Kd.C_drew ?_))); (case side2 => exact HC1.out); rintro e w6 ⟨v769, rfl, ho0, hb⟩; have n0_ := Aside0.mk (Kd.S_elder' (by (with_reducible repeat (first | apply Kd.S_alloc | apply Kd.S_drewN | apply Kd.S_drew)); exact HO767.out) (Kd.S_base ho0) hb); have n1_ := Aside0.mk (Kd.S_lower (Kd.S_new' ho0 (Kd.S_lt (by (with_reducible repeat (first | apply Kd.S_alloc | apply Kd.S_drewN | apply Kd.S_drew)); exact HO767.out))) (below_size (by repeat (first | (with_reducible first | exact HB.out | apply below_alloc | apply pw_below_drewN | apply below_drew1) | exact HB.out)))); have n2_ := Aside0.mk (below_step (by repeat (first | (with_reducible first | exact HB.out | apply below_alloc | apply pw_below_drewN | apply below_drew1) | exact HB.out)) hb); clear HO767; clear HB; have HO767 := n0_; have HO770 := n1_; have HB := n2_; clear n0_ n1_ n2_; (try clear hb); (try clear hb2); (try clear hk); (try clear hi); (try clear ho0); obtain ⟨Ao7, co7, eo7⟩ := Kd.S_slice HO767.out; subst eo7)); try go_wp2_with (first | (go_at_call 135; (with_reducible refine (impl_heights.calls k _ _ l0 t765 _ ?side1 ?side2 A3.out).mono ?_); (case side1 => repeat (first | exact HR0.out | (with_reducible refine Kd.C_alloc ?_ _) | (with_reducible refine Kd.C_drewN ?_ _) | (with_reducible refine Kd.C_drew ?_))); (case side2 => exact HC0.out); rintro e w5 ⟨v766, rfl, ho0, hb⟩; have n0_ := Aside0.mk (Kd.S_lower ho0 (below_size (by repeat (first | (with_reducible first | exact HB.out | apply below_alloc | apply pw_below_drewN | apply below_drew1) | exact HB.out)))); have n1_ := Aside0.mk (below_step (by repeat (first | (with_reducible first | exact HB.out | apply below_alloc | apply pw_below_drewN | apply below_drew1) | exact HB.out)) hb); clear HB; have HO767 := n0_; have HB := n1_; clear n0_ n1_; (try clear hb); (try clear hb2); (try clear hk); (try clear hi); (try clear ho0)) | (go_at_call 135; (with_reducible refine (impl_heights.calls k _ _ l1 t768 _ ?side1 ?side2 A4.out).mono ?_); (case side1 => repeat (first | exact (Kd.C_below HR1.out HB.out) | (with_reducible refine Kd.C_alloc ?_ _) | (with_reducible refine Kd.C_drewN ?_ _) | (with_reducible refine Kd.C_drew ?_))); (case side2 => exact HC1.out); rintro e w6 ⟨v769, rfl, ho0, hb⟩; have n0_ := Aside0.mk (Kd.S_elder' (by (with_reducible repeat (first | apply Kd.S_alloc | apply Kd.S_drewN | apply Kd.S_drew)); exact HO767.out) (Kd.S_base ho0) hb); have n1_ := Aside0.mk (Kd.S_lower (Kd.S_new' ho0 (Kd.S_lt (by (with_reducible repeat (first | apply Kd.S_alloc | apply Kd.S_drewN | apply Kd.S_drew)); exact HO767.out))) (below_size (by repeat (first | (with_reducible first | exact HB.out | apply below_alloc | apply pw_below_drewN | apply below_drew1) | exact HB.out)))); have n2_ := Aside0.mk (below_step (by repeat (first | (with_reducible first | exact HB.out | apply below_alloc | apply pw_below_drewN | apply below_drew1) | exact HB.out)) hb); clear HO767; clear HB; have HO767 := n0_; have HO770 := n1_; have HB := n2_; clear n0_ n1_ n2_; (try clear hb); (try clear hb2); (try clear hk); (try clear hi); (try clear ho0); obtain ⟨Ao7, co7, eo7⟩ := Kd.S_slice HO767.out; subst eo7)))
 go_loopg [7, 18] k (fun kq v7 v18 w' => ∃ (x7_1 : Int) (x18_1 : Int), v7 = .int .i64 x7_1 ∧ v18 = .int .i64 x18_1 ∧ Aside0 (impl_distance.l0 kq t768 x7_1 t765 (t765.length : Int) x18_1 = some r) ∧ Aside0 (kq ≤ k) ∧ Aside0 (Kd.S (Kd.slice 3 (Kd.int .i64)) 39 w' w.heap.size (fun k_ => some k_ ≠ ((.slice Ao7 t765.length co7) : Value).ownBlock) v769 t768) ∧ Aside0 (Kd.S (Kd.slice 3 (Kd.int .i64)) 39 w' w.heap.size (fun k_ => some k_ ≠ (v769 : Value).ownBlock) (.slice Ao7 t765.length co7) t765) ∧ Aside0 (Below w.heap.size w w'))
 case atStart => exact ⟨(0), (0), (by first | rfl | (simp; done) | (simp [*]; done)), (by first | rfl | (simp; done) | (simp [*]; done)), H', ⟨Nat.le_refl _⟩, ⟨by (with_reducible repeat (first | apply Kd.S_alloc | apply Kd.S_drewN | apply Kd.S_drew)); exact Kd.S_mono HO770.out (fun _ hk => hk.2)⟩, ⟨by (with_reducible repeat (first | apply Kd.S_alloc | apply Kd.S_drewN | apply Kd.S_drew)); exact Kd.S_mono HO767.out (fun _ hk => hk.2)⟩, ⟨by repeat (first | (with_reducible first | exact HB.out | apply below_alloc | apply pw_below_drewN | apply below_drew1) | exact HB.out)⟩⟩
 case round =>
  clear H'
  try clear c1
  try clear p2
  obtain ⟨x7_1, x18_1, rfl, rfl, HA, HK1, HO_6, HO_16, HB⟩ := hrel
  cases gk with
  | zero => exact absurd HA.out (by simp [impl_distance.l0])
  | succ k1 =>
   have H := HA.out; clear HA; simp only [impl_distance.l0] at H
   by_cases c8 : x18_1 < (t765.length : Int)
   ·rw [if_pos c8] at H
    have c8b0 : decide (x18_1 < (t765.length : Int)) = true := decide_eq_true c8; clear c8
    by_cases c9 : 0 ≤ x18_1
    ·rw [if_pos c9] at H
     have c9b0 : decide (0 ≤ x18_1) = true := decide_eq_true c9; clear c9
     by_cases c10 : x18_1 < (t765.length : Int)
     ·rw [if_pos c10] at H
      have c10b0 : decide (x18_1 < (t765.length : Int)) = true := decide_eq_true c10; clear c10; have H' := Aside0.mk H; clear H; have p771 : 0 ≤ (x18_1 : Int) := of_decide_eq_true (by first | (with_reducible assumption) | assumption); have q771 : x18_1 < (t765.length : Int) := of_decide_eq_true (by first | (with_reducible assumption) | assumption); obtain ⟨ad771, A771_0, c771_0, e771, hx771_0, hl771_0, hi771_0⟩ := at_L1 (Kd.S_reads' HO_16.out).2.2 x18_1 p771 q771
      cases e771
      obtain ⟨ce771, hce771, hMe771, hcc771⟩ := Kd.S_get HO_16.out [] x18_1 p771 (by first | exact q771 | exact of_decide_eq_true (by first | (with_reducible assumption) | assumption) | (have e_ := (Kd.S_reads' HO_16.out).1; omega)); obtain ⟨ve771_0, rfl, ge771_0⟩ := hMe771; have hv771_0 := hcc771 0 _ rfl; rw [Nat.add_zero, show ((Kd.slice 3 (Kd.int .i64))).sz = 1 from rfl, Nat.mul_one] at hv771_0; replace hv771_0 := Option.some.inj (hv771_0.symm.trans hx771_0); rw [hv771_0] at ge771_0; have HL771_0 := Aside0.mk (show Kd.R (Kd.int .i64) 3 _ _ _ _ (rd_L1 t765 x18_1) from ge771_0); clear hv771_0 ge771_0; clear hcc771 hce771; have HR771_0 := Aside0.mk hi771_0; have HC771_0 := Aside0.mk hl771_0; clear hi771_0 hl771_0; replace p771 := eq_true p771; replace q771 := eq_true q771; go_wp2
      repeat (go_quiet (fail); try go_wp2)
      go_loopg [7, 25] k1 (fun kq v7 v25 w' => ∃ (x7_2 : Int) (x25_2 : Int), v7 = .int .i64 x7_2 ∧ v25 = .int .i64 x25_2 ∧ Aside0 (impl_distance.l1 kq t768 x7_2 x18_1 t765 (t765.length : Int) x18_1 (rd_L1 t765 x18_1) ((rd_L1 t765 x18_1).length : Int) x25_2 = some r) ∧ Aside0 (kq ≤ k1) ∧ Aside0 (Kd.S (Kd.slice 3 (Kd.int .i64)) 39 w' w.heap.size (fun k_ => some k_ ≠ ((.slice (some ad771) t765.length co7) : Value).ownBlock) v769 t768) ∧ Aside0 (Kd.S (Kd.slice 3 (Kd.int .i64)) 39 w' w.heap.size (fun k_ => some k_ ≠ (v769 : Value).ownBlock) (.slice (some ad771) t765.length co7) t765) ∧ Aside0 (Kd.C (Kd.int .i64) w' A771_0 (rd_L1 t765 x18_1).length (rd_L1 t765 x18_1)) ∧ Aside0 (Below w.heap.size w w'))
      case atStart => exact ⟨(x7_1), (0), (by first | rfl | (simp; done) | (simp [*]; done)), (by first | rfl | (simp; done) | (simp [*]; done)), H', ⟨Nat.le_refl _⟩, ⟨by (with_reducible repeat (first | apply Kd.S_alloc | apply Kd.S_drewN | apply Kd.S_drew)); exact HO_6.out⟩, ⟨by (with_reducible repeat (first | apply Kd.S_alloc | apply Kd.S_drewN | apply Kd.S_drew)); exact HO_16.out⟩, ⟨by repeat (first | (with_reducible exact HR771_0.out) | (with_reducible refine Kd.C_alloc ?_ _) | (with_reducible refine Kd.C_drewN ?_ _) | (with_reducible refine Kd.C_drew ?_) | exact HR771_0.out)⟩, ⟨by repeat (first | (with_reducible first | exact HB.out | apply below_alloc | apply pw_below_drewN | apply below_drew1) | exact HB.out)⟩⟩
      case round =>
       clear H'
       try clear c1
       try clear p2
       try clear c7
       try clear p7
       try clear q7
       try clear hx7
       try clear c8
       try clear c8b0
       try clear c9
       try clear c9b0
       try clear c10
       try clear c10b0
       try clear hx771_0
       try clear p2
       try clear p771
       try clear q771
       obtain ⟨x7_2, x25_2, rfl, rfl, HA, HK2, HO_6, HO_16, HR771_0, HB⟩ := hrel
       cases gk with
       | zero => exact absurd HA.out (by simp [impl_distance.l1])
       | succ k2 =>
        have H := HA.out; clear HA; simp only [impl_distance.l1] at H
        by_cases c11 : x25_2 < ((rd_L1 t765 x18_1).length : Int)
        ·rw [if_pos c11] at H
         have c11b0 : decide (x25_2 < ((rd_L1 t765 x18_1).length : Int)) = true := decide_eq_true c11; clear c11
         by_cases c12 : 0 ≤ x25_2
         ·rw [if_pos c12] at H
          have c12b0 : decide (0 ≤ x25_2) = true := decide_eq_true c12; clear c12
          by_cases c13 : x25_2 < ((rd_L1 t765 x18_1).length : Int)
          ·rw [if_pos c13] at H
           have c13b0 : decide (x25_2 < ((rd_L1 t765 x18_1).length : Int)) = true := decide_eq_true c13; clear c13
           by_cases c14 : 0 ≤ x18_1
           ·rw [if_pos c14] at H
            have c14b0 : decide (0 ≤ x18_1) = true := decide_eq_true c14; clear c14
            by_cases c15 : x18_1 < (t768.length : Int)
            ·rw [if_pos c15] at H
             have c15b0 : decide (x18_1 < (t768.length : Int)) = true := decide_eq_true c15; clear c15
             by_cases c16 : x25_2 < ((rd_L1 t768 x18_1).length : Int)
             ·rw [if_pos c16] at H
              have c16b0 : decide (x25_2 < ((rd_L1 t768 x18_1).length : Int)) = true := decide_eq_true c16; clear c16
              obtain ⟨ji17, hji17⟩ : ∃ j_ : Int, (mx (wrap64 ((rd (rd_L1 t765 x18_1) x25_2) - (rd (rd_L1 t768 x18_1) x25_2))) (wrap64 ((rd (rd_L1 t768 x18_1) x25_2) - (rd (rd_L1 t765 x18_1) x25_2)))) = j_ := ⟨_, rfl⟩
              replace H : (impl_distance.l1 k2 t768 (wrap64 (x7_2 + (ji17))) x18_1 t765 (t765.length : Int) x18_1 (rd_L1 t765 x18_1) ((rd_L1 t765 x18_1).length : Int) (wrap64 (x25_2 + 1))) = some r := by first | (rw [hji17] at H; exact H) | (simp only [hji17] at H ⊢; exact H)
              have hji17_ : (if (wrap64 ((rd (rd_L1 t765 x18_1) x25_2) - (rd (rd_L1 t768 x18_1) x25_2))) < (wrap64 ((rd (rd_L1 t768 x18_1) x25_2) - (rd (rd_L1 t765 x18_1) x25_2))) then (wrap64 ((rd (rd_L1 t768 x18_1) x25_2) - (rd (rd_L1 t765 x18_1) x25_2))) else (wrap64 ((rd (rd_L1 t765 x18_1) x25_2) - (rd (rd_L1 t768 x18_1) x25_2)))) = ji17 := hji17; have H' := Aside0.mk H; clear H; have p772 : 0 ≤ (x25_2 : Int) := of_decide_eq_true (by first | (with_reducible assumption) | assumption); have q772 : x25_2 < ((rd_L1 t765 x18_1).length : Int) := of_decide_eq_true (by first | (with_reducible assumption) | assumption); obtain ⟨ad772, e772, hx772_0⟩ := Kd.at_int HR771_0.out x25_2 p772 q772
              cases e772
              (try replace hx772_0 := (HB.out.cell (World.block_lt_of_cell? w _ hx772_0)).trans hx772_0)
              replace p772 := eq_true p772; replace q772 := eq_true q772; obtain ⟨Ao18, co18, eo18⟩ := Kd.S_slice HO_6.out; subst eo18; have p773 : 0 ≤ (x18_1 : Int) := of_decide_eq_true (by first | (with_reducible assumption) | assumption); have q773 : x18_1 < (t768.length : Int) := of_decide_eq_true (by first | (with_reducible assumption) | assumption); obtain ⟨ad773, A773_0, c773_0, e773, hx773_0, hl773_0, hi773_0⟩ := at_L1 (Kd.S_reads' HO_6.out).2.2 x18_1 p773 q773
              cases e773
              obtain ⟨ce773, hce773, hMe773, hcc773⟩ := Kd.S_get HO_6.out [] x18_1 p773 (by first | exact q773 | exact of_decide_eq_true (by first | (with_reducible assumption) | assumption) | (have e_ := (Kd.S_reads' HO_6.out).1; omega)); obtain ⟨ve773_0, rfl, ge773_0⟩ := hMe773; have hv773_0 := hcc773 0 _ rfl; rw [Nat.add_zero, show ((Kd.slice 3 (Kd.int .i64))).sz = 1 from rfl, Nat.mul_one] at hv773_0; replace hv773_0 := Option.some.inj (hv773_0.symm.trans hx773_0); rw [hv773_0] at ge773_0; have HL773_0 := Aside0.mk (show Kd.R (Kd.int .i64) 3 _ _ _ _ (rd_L1 t768 x18_1) from ge773_0); clear hv773_0 ge773_0; clear hcc773 hce773; have HR773_0 := Aside0.mk hi773_0; have HC773_0 := Aside0.mk hl773_0; clear hi773_0 hl773_0; replace p773 := eq_true p773; replace q773 := eq_true q773; have p774 : 0 ≤ (x25_2 : Int) := of_decide_eq_true (by first | (with_reducible assumption) | assumption); have q774 : x25_2 < ((rd_L1 t768 x18_1).length : Int) := of_decide_eq_true (by first | (with_reducible assumption) | assumption); obtain ⟨ad774, e774, hx774_0⟩ := Kd.at_int (by repeat (first | (with_reducible exact HR773_0.out) | (with_reducible refine Kd.C_alloc ?_ _) | (with_reducible refine Kd.C_drewN ?_ _) | (with_reducible refine Kd.C_drew ?_) | exact HR773_0.out)) x25_2 p774 q774
              cases e774
              replace p774 := eq_true p774; replace q774 := eq_true q774; have p775 : 0 ≤ (x18_1 : Int) := of_decide_eq_true (by first | (with_reducible assumption) | assumption); have q775 : x18_1 < (t768.length : Int) := of_decide_eq_true (by first | (with_reducible assumption) | assumption); obtain ⟨ad775, A775_0, c775_0, e775, hx775_0, hl775_0, hi775_0⟩ := at_L1 (Kd.S_reads' HO_6.out).2.2 x18_1 p775 q775
              obtain rfl : ad773 = ad775 := (by injection e775)
              obtain ⟨ce775, hce775, hMe775, hcc775⟩ := Kd.S_get HO_6.out [] x18_1 p775 (by first | exact q775 | exact of_decide_eq_true (by first | (with_reducible assumption) | assumption) | (have e_ := (Kd.S_reads' HO_6.out).1; omega)); obtain ⟨ve775_0, rfl, ge775_0⟩ := hMe775; have hv775_0 := hcc775 0 _ rfl; rw [Nat.add_zero, show ((Kd.slice 3 (Kd.int .i64))).sz = 1 from rfl, Nat.mul_one] at hv775_0; replace hv775_0 := Option.some.inj (hv775_0.symm.trans hx775_0); rw [hv775_0] at ge775_0; have HL775_0 := Aside0.mk (show Kd.R (Kd.int .i64) 3 _ _ _ _ (rd_L1 t768 x18_1) from ge775_0); clear hv775_0 ge775_0; clear hcc775 hce775; have HR775_0 := Aside0.mk hi775_0; have HC775_0 := Aside0.mk hl775_0; clear hi775_0 hl775_0; replace p775 := eq_true p775; replace q775 := eq_true q775; have ea_ := Option.some.inj (hx773_0.symm.trans hx775_0); injection ea_ with ea_ en_ ec_; subst ea_; subst ec_; clear en_; have p776 : 0 ≤ (x25_2 : Int) := of_decide_eq_true (by first | (with_reducible assumption) | assumption); have q776 : x25_2 < ((rd_L1 t768 x18_1).length : Int) := of_decide_eq_true (by first | (with_reducible assumption) | assumption); obtain ⟨ad776, e776, hx776_0⟩ := Kd.at_int (by repeat (first | (with_reducible exact HR775_0.out) | (with_reducible refine Kd.C_alloc ?_ _) | (with_reducible refine Kd.C_drewN ?_ _) | (with_reducible refine Kd.C_drew ?_) | exact HR775_0.out)) x25_2 p776 q776
              cases e776
              replace p776 := eq_true p776; replace q776 := eq_true q776; go_wp2
              repeat (go_quiet (fail); try go_wp2)
              go_roundg k2
              case measure => have := HK1.out; have := HK2.out; omega
              case rel => exact ⟨(wrap64 (x7_2 + (ji17))), (wrap64 (x25_2 + 1)), (by first | rfl | (simp; done) | (simp only [← hji17] <;> (first | rfl | simp)) | (simp [*]; done)), (by first | rfl | (simp; done) | (simp [*]; done)), H', ⟨by have := HK1.out; have := HK2.out; omega⟩, ⟨by (with_reducible repeat (first | apply Kd.S_alloc | apply Kd.S_drewN | apply Kd.S_drew)); exact HO_6.out⟩, ⟨by (with_reducible repeat (first | apply Kd.S_alloc | apply Kd.S_drewN | apply Kd.S_drew)); exact HO_16.out⟩, ⟨by repeat (first | (with_reducible exact HR771_0.out) | (with_reducible refine Kd.C_alloc ?_ _) | (with_reducible refine Kd.C_drewN ?_ _) | (with_reducible refine Kd.C_drew ?_) | exact HR771_0.out)⟩, ⟨by repeat (first | (with_reducible first | exact HB.out | apply below_alloc | apply pw_below_drewN | apply below_drew1) | exact HB.out)⟩⟩
             ·rw [if_neg c16] at H; exact absurd H (by simp)
            ·rw [if_neg c15] at H; exact absurd H (by simp)
           ·rw [if_neg c14] at H; exact absurd H (by simp)
          ·rw [if_neg c13] at H; exact absurd H (by simp)
         ·rw [if_neg c12] at H; exact absurd H (by simp)
        ·rw [if_neg c11] at H
         have c11b0 : decide (x25_2 < ((rd_L1 t765 x18_1).length : Int)) = false := decide_eq_false c11; clear c11; have H' := Aside0.mk H; clear H; go_wp2
         repeat (go_quiet (fail); try go_wp2)
         go_roundg k2
         case measure => have := HK1.out; have := HK2.out; omega
         case rel => exact ⟨(x7_2), (wrap64 (x18_1 + 1)), (by first | rfl | (simp; done) | (simp [*]; done)), (by first | rfl | (simp; done) | (simp [*]; done)), H', ⟨by have := HK1.out; have := HK2.out; omega⟩, ⟨by (with_reducible repeat (first | apply Kd.S_alloc | apply Kd.S_drewN | apply Kd.S_drew)); exact HO_6.out⟩, ⟨by (with_reducible repeat (first | apply Kd.S_alloc | apply Kd.S_drewN | apply Kd.S_drew)); exact HO_16.out⟩, ⟨by repeat (first | (with_reducible first | exact HB.out | apply below_alloc | apply pw_below_drewN | apply below_drew1) | exact HB.out)⟩⟩
     ·rw [if_neg c10] at H; exact absurd H (by simp)
    ·rw [if_neg c9] at H; exact absurd H (by simp)
   ·rw [if_neg c8] at H
    have c8b0 : decide (x18_1 < (t765.length : Int)) = false := decide_eq_false c8; clear c8; obtain rfl := Option.some.inj H; go_wp2
    repeat (go_quiet (fail); try go_wp2)
    go_ret; exact ⟨by first | rfl | (simp [errW_none, errW_some] <;> rfl) | (simp [*, errW_none, errW_some] <;> rfl), by repeat (first | (with_reducible first | exact HB.out | apply below_alloc | apply pw_below_drewN | apply below_drew1) | exact HB.out)⟩
end Go.Proofs.Ytadepmjfhcmkoaa.P
