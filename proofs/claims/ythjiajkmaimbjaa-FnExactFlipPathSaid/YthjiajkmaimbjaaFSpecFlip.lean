-- By gp.py (this session's own driver over the kit's print). Not trusted: Lean checks it.
import Derived.Test.YthjiajkmaimbjaaF0
import Derived.Test.YthjiajkmaimbjaaB
import Derived.Deep.RegionHeld3
import Derived.Test.YthjiajkmaimbjaaFlipSt
import Derived.Test.YthjiajkmaimbjaaFSpecCorn
import Derived.Test.YthjiajkmaimbjaaFSpecDist
import Derived.Test.YthjiajkmaimbjaaFSpecGood
import Derived.Test.YthjiajkmaimbjaaFSpecWay
namespace Go.Proofs.Ythjiajkmaimbjaa.P
open Go.Proofs.Ythjiajkmaimbjaa.B
open Go.RowKit Go.Proofs.YthjiajkmaimbjaaW.PrintWords Go.Proofs.YthjiajkmaimbjaaW.PrintLast Go.Proofs.YthjiajkmaimbjaaW.PrintMore
attribute [local go_sem] max2_int min2_int max_two min_two max_three min_three max_four min_four   -- for this text's walks alone
set_option linter.unusedVariables false
set_option linter.unusedSimpArgs false
/-! ### spec_heFirst: function 90 -/
def spec_heFirst.l0 : Nat → List (List Int) → List (List Int) → Int → List (List Int) → Int → Int → Option (List Int)
 | 0, _, _, _, _, _, _ => none
 | k + 1, x0, x1, x2, x11, x12, x13 => if x13 < x12 then (if 0 ≤ x13 then (if x13 < (x11.length : Int) then (if 0 < ((rd_L1 x11 x13).length : Int) then (if 0 ≤ (rd (rd_L1 x11 x13) 0) then (if (rd (rd_L1 x11 x13) 0) < (x1.length : Int) then (if 1 < ((rd_L1 x11 x13).length : Int) then (if 0 ≤ (rd (rd_L1 x11 x13) 1) then (if (rd (rd_L1 x11 x13) 1) < ((rd_L1 x1 (rd (rd_L1 x11 x13) 0)).length : Int) then (if (rd (rd_L1 x11 x13) 0) < (x0.length : Int) then (if (rd (rd_L1 x11 x13) 1) < ((rd_L1 x0 (rd (rd_L1 x11 x13) 0)).length : Int) then (if (wrap64 (x2 * (wrap64 ((rd (rd_L1 x1 (rd (rd_L1 x11 x13) 0)) (rd (rd_L1 x11 x13) 1)) - (rd (rd_L1 x0 (rd (rd_L1 x11 x13) 0)) (rd (rd_L1 x11 x13) 1)))))) > 0 then (some (rd_L1 x11 x13)) else (spec_heFirst.l0 k x0 x1 x2 x11 x12 (wrap64 (x13 + 1)))) else (none)) else (none)) else (none)) else (none)) else (none)) else (none)) else (none)) else (none)) else (none)) else (none)) else (some ([] : List Int))
def spec_heFirst.f (k : Nat) (l0 : List (List Int)) (l1 : List (List Int)) (a2 : Int) : Option (List Int) := (spec_heFlips.f k l0 a2).bind fun t821 => (spec_heFirst.l0 k l0 l1 a2 t821 (t821.length : Int) 0)
set_option maxHeartbeats 8000000 in
set_option maxRecDepth 100000 in
theorem spec_heFirst.calls (k : Nat) (A0 : Option Addr) (c0 : Nat) (l0 : List (List Int)) (A1 : Option Addr) (c1 : Nat) (l1 : List (List Int)) (a2 : Int) (r : List Int) (w : World) (hr0 : Kd.C (Kd.slice 3 (Kd.int .i64)) w A0 l0.length l0) (hc0 : l0.length ≤ c0) (hr1 : Kd.C (Kd.slice 3 (Kd.int .i64)) w A1 l1.length l1) (hc1 : l1.length ≤ c1) (h : spec_heFirst.f k l0 l1 a2 = some r) :
  Calls Try.prog 90 #[.slice A0 l0.length c0, .slice A1 l1.length c1, .int .i64 a2] w fun e w' => ∃ v0_ : Value, e = .returned (v0_) ∧ Kd.R (Kd.int .i64) 3 w' w.heap.size (fun _ => True) v0_ r ∧ Below w.heap.size w w' := by
 have HR0 := Aside0.mk hr0; have HC0 := Aside0.mk hc0; clear hr0 hc0; have HR1 := Aside0.mk hr1; have HC1 := Aside0.mk hc1; clear hr1 hc1; have HB := Aside0.mk (Below.refl w.heap.size w); have H : ((spec_heFlips.f k l0 a2).bind fun t821 => (spec_heFirst.l0 k l0 l1 a2 t821 (t821.length : Int) 0)) = some r := h; clear h; replace H := Option.bind_eq_some_iff.mp H; obtain ⟨t821, A40, H⟩ := H; replace H : (spec_heFirst.l0 k l0 l1 a2 t821 (t821.length : Int) 0) = some r := H; have A4 := Aside0.mk A40; clear A40; have H' := Aside0.mk H; clear H; go_enter Try.func90, Try.ntmps90
 go_wp2_with (first | (go_at_call 124; (with_reducible refine (spec_heFlips.calls k _ _ l0 a2 t821 _ ?side1 ?side2 A4.out).mono ?_); (case side1 => repeat (first | exact HR0.out | (with_reducible refine Kd.C_alloc ?_ _) | (with_reducible refine Kd.C_drewN ?_ _) | (with_reducible refine Kd.C_drew ?_))); (case side2 => exact HC0.out); rintro e w5 ⟨v822, rfl, ho0, hb⟩; have n0_ := Aside0.mk (Kd.S_lower ho0 (below_size (by repeat (first | (with_reducible first | exact HB.out | apply below_alloc | apply pw_below_drewN | apply below_drew1) | exact HB.out)))); have n1_ := Aside0.mk (below_step (by repeat (first | (with_reducible first | exact HB.out | apply below_alloc | apply pw_below_drewN | apply below_drew1) | exact HB.out)) hb); clear HB; have HO823 := n0_; have HB := n1_; clear n0_ n1_; (try clear hb); (try clear hb2); (try clear hk); (try clear hi); (try clear ho0); obtain ⟨Ao6, co6, eo6⟩ := Kd.S_slice HO823.out; subst eo6))
 repeat (go_quiet (first | (go_at_call 124; (with_reducible refine (spec_heFlips.calls k _ _ l0 a2 t821 _ ?side1 ?side2 A4.out).mono ?_); (case side1 => repeat (first | exact HR0.out | (with_reducible refine Kd.C_alloc ?_ _) | (with_reducible refine Kd.C_drewN ?_ _) | (with_reducible refine Kd.C_drew ?_))); (case side2 => exact HC0.out); rintro e w5 ⟨v822, rfl, ho0, hb⟩; have n0_ := Aside0.mk (Kd.S_lower ho0 (below_size (by repeat (first | (with_reducible first | exact HB.out | apply below_alloc | apply pw_below_drewN | apply below_drew1) | exact HB.out)))); have n1_ := Aside0.mk (below_step (by repeat (first | (with_reducible first | exact HB.out | apply below_alloc | apply pw_below_drewN | apply below_drew1) | exact HB.out)) hb); clear HB; have HO823 := n0_; have HB := n1_; clear n0_ n1_; (try clear hb); (try clear hb2); (try clear hk); (try clear hi); (try clear ho0); obtain ⟨Ao6, co6, eo6⟩ := Kd.S_slice HO823.out; subst eo6)); try go_wp2_with (first | (go_at_call 124; (with_reducible refine (spec_heFlips.calls k _ _ l0 a2 t821 _ ?side1 ?side2 A4.out).mono ?_); (case side1 => repeat (first | exact HR0.out | (with_reducible refine Kd.C_alloc ?_ _) | (with_reducible refine Kd.C_drewN ?_ _) | (with_reducible refine Kd.C_drew ?_))); (case side2 => exact HC0.out); rintro e w5 ⟨v822, rfl, ho0, hb⟩; have n0_ := Aside0.mk (Kd.S_lower ho0 (below_size (by repeat (first | (with_reducible first | exact HB.out | apply below_alloc | apply pw_below_drewN | apply below_drew1) | exact HB.out)))); have n1_ := Aside0.mk (below_step (by repeat (first | (with_reducible first | exact HB.out | apply below_alloc | apply pw_below_drewN | apply below_drew1) | exact HB.out)) hb); clear HB; have HO823 := n0_; have HB := n1_; clear n0_ n1_; (try clear hb); (try clear hb2); (try clear hk); (try clear hi); (try clear ho0); obtain ⟨Ao6, co6, eo6⟩ := Kd.S_slice HO823.out; subst eo6)))
 go_loopg [13] k (fun kq v13 w' => ∃ (x13_1 : Int), v13 = .int .i64 x13_1 ∧ Aside0 (spec_heFirst.l0 kq l0 l1 a2 t821 (t821.length : Int) x13_1 = some r) ∧ Aside0 (kq ≤ k) ∧ Aside0 (Kd.S (Kd.slice 3 (Kd.int .i64)) 22 w' w.heap.size (fun _ => True) (.slice Ao6 t821.length co6) t821) ∧ Aside0 (Below w.heap.size w w'))
 case atStart => exact ⟨(0), (by first | rfl | (simp; done) | (simp [*]; done)), H', ⟨Nat.le_refl _⟩, ⟨by (with_reducible repeat (first | apply Kd.S_alloc | apply Kd.S_drewN | apply Kd.S_drew)); exact HO823.out⟩, ⟨by repeat (first | (with_reducible first | exact HB.out | apply below_alloc | apply pw_below_drewN | apply below_drew1) | exact HB.out)⟩⟩
 case round =>
  clear H'
  try clear c1
  try clear p2
  obtain ⟨x13_1, rfl, HA, HK1, HO_11, HB⟩ := hrel
  cases gk with
  | zero => exact absurd HA.out (by simp [spec_heFirst.l0])
  | succ k1 =>
   have H := HA.out; clear HA; simp only [spec_heFirst.l0] at H
   by_cases c7 : x13_1 < (t821.length : Int)
   ·rw [if_pos c7] at H
    have c7b0 : decide (x13_1 < (t821.length : Int)) = true := decide_eq_true c7; clear c7
    by_cases c8 : 0 ≤ x13_1
    ·rw [if_pos c8] at H
     have c8b0 : decide (0 ≤ x13_1) = true := decide_eq_true c8; clear c8
     by_cases c9 : x13_1 < (t821.length : Int)
     ·rw [if_pos c9] at H
      have c9b0 : decide (x13_1 < (t821.length : Int)) = true := decide_eq_true c9; clear c9
      by_cases c10 : 0 < ((rd_L1 t821 x13_1).length : Int)
      ·rw [if_pos c10] at H
       have c10b0 : decide (0 < ((rd_L1 t821 x13_1).length : Int)) = true := decide_eq_true c10; have c10b1 : decide (0 < (rd_L1 t821 x13_1).length) = true := decide_eq_true (by omega); clear c10
       by_cases c11 : 0 ≤ (rd (rd_L1 t821 x13_1) 0)
       ·rw [if_pos c11] at H
        have c11b0 : decide (0 ≤ (rd (rd_L1 t821 x13_1) 0)) = true := decide_eq_true c11; clear c11
        by_cases c12 : (rd (rd_L1 t821 x13_1) 0) < (l1.length : Int)
        ·rw [if_pos c12] at H
         have c12b0 : decide ((rd (rd_L1 t821 x13_1) 0) < (l1.length : Int)) = true := decide_eq_true c12; clear c12
         by_cases c13 : 1 < ((rd_L1 t821 x13_1).length : Int)
         ·rw [if_pos c13] at H
          have c13b0 : decide (1 < ((rd_L1 t821 x13_1).length : Int)) = true := decide_eq_true c13; have c13b1 : decide (1 < (rd_L1 t821 x13_1).length) = true := decide_eq_true (by omega); clear c13
          by_cases c14 : 0 ≤ (rd (rd_L1 t821 x13_1) 1)
          ·rw [if_pos c14] at H
           have c14b0 : decide (0 ≤ (rd (rd_L1 t821 x13_1) 1)) = true := decide_eq_true c14; clear c14
           by_cases c15 : (rd (rd_L1 t821 x13_1) 1) < ((rd_L1 l1 (rd (rd_L1 t821 x13_1) 0)).length : Int)
           ·rw [if_pos c15] at H
            have c15b0 : decide ((rd (rd_L1 t821 x13_1) 1) < ((rd_L1 l1 (rd (rd_L1 t821 x13_1) 0)).length : Int)) = true := decide_eq_true c15; clear c15
            by_cases c16 : (rd (rd_L1 t821 x13_1) 0) < (l0.length : Int)
            ·rw [if_pos c16] at H
             have c16b0 : decide ((rd (rd_L1 t821 x13_1) 0) < (l0.length : Int)) = true := decide_eq_true c16; clear c16
             by_cases c17 : (rd (rd_L1 t821 x13_1) 1) < ((rd_L1 l0 (rd (rd_L1 t821 x13_1) 0)).length : Int)
             ·rw [if_pos c17] at H
              have c17b0 : decide ((rd (rd_L1 t821 x13_1) 1) < ((rd_L1 l0 (rd (rd_L1 t821 x13_1) 0)).length : Int)) = true := decide_eq_true c17; clear c17
              by_cases c18 : (wrap64 (a2 * (wrap64 ((rd (rd_L1 l1 (rd (rd_L1 t821 x13_1) 0)) (rd (rd_L1 t821 x13_1) 1)) - (rd (rd_L1 l0 (rd (rd_L1 t821 x13_1) 0)) (rd (rd_L1 t821 x13_1) 1)))))) > 0
              ·rw [if_pos c18] at H
               have c18b0 : decide (0 < (wrap64 (a2 * (wrap64 ((rd (rd_L1 l1 (rd (rd_L1 t821 x13_1) 0)) (rd (rd_L1 t821 x13_1) 1)) - (rd (rd_L1 l0 (rd (rd_L1 t821 x13_1) 0)) (rd (rd_L1 t821 x13_1) 1))))))) = true := decide_eq_true c18; clear c18; obtain rfl := Option.some.inj H; have p824 : 0 ≤ (x13_1 : Int) := of_decide_eq_true (by first | (with_reducible assumption) | assumption); have q824 : x13_1 < (t821.length : Int) := of_decide_eq_true (by first | (with_reducible assumption) | assumption); obtain ⟨ad824, A824_0, c824_0, e824, hx824_0, hl824_0, hi824_0⟩ := at_L1 (Kd.S_reads' HO_11.out).2.2 x13_1 p824 q824
               cases e824
               obtain ⟨ce824, hce824, hMe824, hcc824⟩ := Kd.S_get HO_11.out [] x13_1 p824 (by first | exact q824 | exact of_decide_eq_true (by first | (with_reducible assumption) | assumption) | (have e_ := (Kd.S_reads' HO_11.out).1; omega)); obtain ⟨ve824_0, rfl, ge824_0⟩ := hMe824; have hv824_0 := hcc824 0 _ rfl; rw [Nat.add_zero, show ((Kd.slice 3 (Kd.int .i64))).sz = 1 from rfl, Nat.mul_one] at hv824_0; replace hv824_0 := Option.some.inj (hv824_0.symm.trans hx824_0); rw [hv824_0] at ge824_0; have HL824_0 := Aside0.mk (show Kd.R (Kd.int .i64) 3 _ _ _ _ (rd_L1 t821 x13_1) from ge824_0); clear hv824_0 ge824_0; clear hcc824 hce824; have HR824_0 := Aside0.mk hi824_0; have HC824_0 := Aside0.mk hl824_0; clear hi824_0 hl824_0; replace p824 := eq_true p824; replace q824 := eq_true q824
               have p825 : 0 ≤ (0 : Int) := (by omega)
               have q825 : 0 < ((rd_L1 t821 x13_1).length : Int) := of_decide_eq_true (by first | (with_reducible assumption) | assumption); obtain ⟨ad825, e825, hx825_0⟩ := Kd.at_int (by repeat (first | (with_reducible exact HR824_0.out) | (with_reducible refine Kd.C_alloc ?_ _) | (with_reducible refine Kd.C_drewN ?_ _) | (with_reducible refine Kd.C_drew ?_) | exact HR824_0.out)) 0 p825 q825
               cases e825
               have qi825 : (0 < (rd_L1 t821 x13_1).length) = True := eq_true (by omega)
               (try rw [show ((0 : Int)).toNat = 0 from rfl] at hx825_0)
               (try rw [Addr.add_zero'] at hx825_0)
               replace p825 := eq_true p825; replace q825 := eq_true q825; have p826 : 0 ≤ ((rd (rd_L1 t821 x13_1) 0) : Int) := of_decide_eq_true (by first | (with_reducible assumption) | assumption); have q826 : (rd (rd_L1 t821 x13_1) 0) < (l1.length : Int) := of_decide_eq_true (by first | (with_reducible assumption) | assumption); obtain ⟨ad826, A826_0, c826_0, e826, hx826_0, hl826_0, hi826_0⟩ := at_L1 HR1.out (rd (rd_L1 t821 x13_1) 0) p826 q826
               cases e826
               (try replace hx826_0 := (HB.out.cell (World.block_lt_of_cell? w _ hx826_0)).trans hx826_0)
               have HR826_0 := Aside0.mk hi826_0; have HC826_0 := Aside0.mk hl826_0; clear hi826_0 hl826_0; replace p826 := eq_true p826; replace q826 := eq_true q826
               have p827 : 0 ≤ (1 : Int) := (by omega)
               have q827 : 1 < ((rd_L1 t821 x13_1).length : Int) := of_decide_eq_true (by first | (with_reducible assumption) | assumption); obtain ⟨ad827, e827, hx827_0⟩ := Kd.at_int (by repeat (first | (with_reducible exact HR824_0.out) | (with_reducible refine Kd.C_alloc ?_ _) | (with_reducible refine Kd.C_drewN ?_ _) | (with_reducible refine Kd.C_drew ?_) | exact HR824_0.out)) 1 p827 q827
               obtain rfl : ad825 = ad827 := (by injection e827)
               (try simp only [show (1 : Int).toNat = 1 from rfl, Nat.reduceMul, Nat.reduceEqDiff, Go.Addr.add, ↓reduceIte] at hx827_0)
               have qi827 : (1 < (rd_L1 t821 x13_1).length) = True := eq_true (by omega)
               (try rw [show ((1 : Int)).toNat = 1 from rfl] at hx827_0)
               replace p827 := eq_true p827; replace q827 := eq_true q827; have p828 : 0 ≤ ((rd (rd_L1 t821 x13_1) 1) : Int) := of_decide_eq_true (by first | (with_reducible assumption) | assumption); have q828 : (rd (rd_L1 t821 x13_1) 1) < ((rd_L1 l1 (rd (rd_L1 t821 x13_1) 0)).length : Int) := of_decide_eq_true (by first | (with_reducible assumption) | assumption); obtain ⟨ad828, e828, hx828_0⟩ := Kd.at_int HR826_0.out (rd (rd_L1 t821 x13_1) 1) p828 q828
               cases e828
               (try replace hx828_0 := (HB.out.cell (World.block_lt_of_cell? w _ hx828_0)).trans hx828_0)
               replace p828 := eq_true p828; replace q828 := eq_true q828
               have p829 : 0 ≤ (0 : Int) := (by omega)
               have q829 : 0 < ((rd_L1 t821 x13_1).length : Int) := of_decide_eq_true (by first | (with_reducible assumption) | assumption); obtain ⟨ad829, e829, hx829_0⟩ := Kd.at_int (by repeat (first | (with_reducible exact HR824_0.out) | (with_reducible refine Kd.C_alloc ?_ _) | (with_reducible refine Kd.C_drewN ?_ _) | (with_reducible refine Kd.C_drew ?_) | exact HR824_0.out)) 0 p829 q829
               obtain rfl : ad825 = ad829 := (by injection e829)
               have qi829 : (0 < (rd_L1 t821 x13_1).length) = True := eq_true (by omega)
               (try rw [show ((0 : Int)).toNat = 0 from rfl] at hx829_0)
               (try rw [Addr.add_zero'] at hx829_0)
               replace p829 := eq_true p829; replace q829 := eq_true q829; have p830 : 0 ≤ ((rd (rd_L1 t821 x13_1) 0) : Int) := of_decide_eq_true (by first | (with_reducible assumption) | assumption); have q830 : (rd (rd_L1 t821 x13_1) 0) < (l0.length : Int) := of_decide_eq_true (by first | (with_reducible assumption) | assumption); obtain ⟨ad830, A830_0, c830_0, e830, hx830_0, hl830_0, hi830_0⟩ := at_L1 HR0.out (rd (rd_L1 t821 x13_1) 0) p830 q830
               cases e830
               (try replace hx830_0 := (HB.out.cell (World.block_lt_of_cell? w _ hx830_0)).trans hx830_0)
               have HR830_0 := Aside0.mk hi830_0; have HC830_0 := Aside0.mk hl830_0; clear hi830_0 hl830_0; replace p830 := eq_true p830; replace q830 := eq_true q830
               have p831 : 0 ≤ (1 : Int) := (by omega)
               have q831 : 1 < ((rd_L1 t821 x13_1).length : Int) := of_decide_eq_true (by first | (with_reducible assumption) | assumption); obtain ⟨ad831, e831, hx831_0⟩ := Kd.at_int (by repeat (first | (with_reducible exact HR824_0.out) | (with_reducible refine Kd.C_alloc ?_ _) | (with_reducible refine Kd.C_drewN ?_ _) | (with_reducible refine Kd.C_drew ?_) | exact HR824_0.out)) 1 p831 q831
               obtain rfl : ad825 = ad831 := (by injection e831)
               (try simp only [show (1 : Int).toNat = 1 from rfl, Nat.reduceMul, Nat.reduceEqDiff, Go.Addr.add, ↓reduceIte] at hx831_0)
               have qi831 : (1 < (rd_L1 t821 x13_1).length) = True := eq_true (by omega)
               (try rw [show ((1 : Int)).toNat = 1 from rfl] at hx831_0)
               replace p831 := eq_true p831; replace q831 := eq_true q831; have p832 : 0 ≤ ((rd (rd_L1 t821 x13_1) 1) : Int) := of_decide_eq_true (by first | (with_reducible assumption) | assumption); have q832 : (rd (rd_L1 t821 x13_1) 1) < ((rd_L1 l0 (rd (rd_L1 t821 x13_1) 0)).length : Int) := of_decide_eq_true (by first | (with_reducible assumption) | assumption); obtain ⟨ad832, e832, hx832_0⟩ := Kd.at_int HR830_0.out (rd (rd_L1 t821 x13_1) 1) p832 q832
               cases e832
               (try replace hx832_0 := (HB.out.cell (World.block_lt_of_cell? w _ hx832_0)).trans hx832_0)
               replace p832 := eq_true p832; replace q832 := eq_true q832; go_wp2
               repeat (go_quiet (fail); try go_wp2)
               go_ret; exact ⟨_, by first | rfl | (simp [errW_none, errW_some] <;> rfl) | (simp [*, errW_none, errW_some] <;> rfl), by (with_reducible repeat (first | apply Kd.R_alloc | apply Kd.R_drewN | apply Kd.R_drew)); exact Kd.R_mono HL824_0.out (fun _ hk => trivial), by repeat (first | (with_reducible first | exact HB.out | apply below_alloc | apply pw_below_drewN | apply below_drew1) | exact HB.out)⟩
              ·rw [if_neg c18] at H
               have c18b0 : decide (0 < (wrap64 (a2 * (wrap64 ((rd (rd_L1 l1 (rd (rd_L1 t821 x13_1) 0)) (rd (rd_L1 t821 x13_1) 1)) - (rd (rd_L1 l0 (rd (rd_L1 t821 x13_1) 0)) (rd (rd_L1 t821 x13_1) 1))))))) = false := decide_eq_false c18; clear c18; have H' := Aside0.mk H; clear H; have p824 : 0 ≤ (x13_1 : Int) := of_decide_eq_true (by first | (with_reducible assumption) | assumption); have q824 : x13_1 < (t821.length : Int) := of_decide_eq_true (by first | (with_reducible assumption) | assumption); obtain ⟨ad824, A824_0, c824_0, e824, hx824_0, hl824_0, hi824_0⟩ := at_L1 (Kd.S_reads' HO_11.out).2.2 x13_1 p824 q824
               cases e824
               obtain ⟨ce824, hce824, hMe824, hcc824⟩ := Kd.S_get HO_11.out [] x13_1 p824 (by first | exact q824 | exact of_decide_eq_true (by first | (with_reducible assumption) | assumption) | (have e_ := (Kd.S_reads' HO_11.out).1; omega)); obtain ⟨ve824_0, rfl, ge824_0⟩ := hMe824; have hv824_0 := hcc824 0 _ rfl; rw [Nat.add_zero, show ((Kd.slice 3 (Kd.int .i64))).sz = 1 from rfl, Nat.mul_one] at hv824_0; replace hv824_0 := Option.some.inj (hv824_0.symm.trans hx824_0); rw [hv824_0] at ge824_0; have HL824_0 := Aside0.mk (show Kd.R (Kd.int .i64) 3 _ _ _ _ (rd_L1 t821 x13_1) from ge824_0); clear hv824_0 ge824_0; clear hcc824 hce824; have HR824_0 := Aside0.mk hi824_0; have HC824_0 := Aside0.mk hl824_0; clear hi824_0 hl824_0; replace p824 := eq_true p824; replace q824 := eq_true q824
               have p825 : 0 ≤ (0 : Int) := (by omega)
               have q825 : 0 < ((rd_L1 t821 x13_1).length : Int) := of_decide_eq_true (by first | (with_reducible assumption) | assumption); obtain ⟨ad825, e825, hx825_0⟩ := Kd.at_int (by repeat (first | (with_reducible exact HR824_0.out) | (with_reducible refine Kd.C_alloc ?_ _) | (with_reducible refine Kd.C_drewN ?_ _) | (with_reducible refine Kd.C_drew ?_) | exact HR824_0.out)) 0 p825 q825
               cases e825
               have qi825 : (0 < (rd_L1 t821 x13_1).length) = True := eq_true (by omega)
               (try rw [show ((0 : Int)).toNat = 0 from rfl] at hx825_0)
               (try rw [Addr.add_zero'] at hx825_0)
               replace p825 := eq_true p825; replace q825 := eq_true q825; have p826 : 0 ≤ ((rd (rd_L1 t821 x13_1) 0) : Int) := of_decide_eq_true (by first | (with_reducible assumption) | assumption); have q826 : (rd (rd_L1 t821 x13_1) 0) < (l1.length : Int) := of_decide_eq_true (by first | (with_reducible assumption) | assumption); obtain ⟨ad826, A826_0, c826_0, e826, hx826_0, hl826_0, hi826_0⟩ := at_L1 HR1.out (rd (rd_L1 t821 x13_1) 0) p826 q826
               cases e826
               (try replace hx826_0 := (HB.out.cell (World.block_lt_of_cell? w _ hx826_0)).trans hx826_0)
               have HR826_0 := Aside0.mk hi826_0; have HC826_0 := Aside0.mk hl826_0; clear hi826_0 hl826_0; replace p826 := eq_true p826; replace q826 := eq_true q826
               have p827 : 0 ≤ (1 : Int) := (by omega)
               have q827 : 1 < ((rd_L1 t821 x13_1).length : Int) := of_decide_eq_true (by first | (with_reducible assumption) | assumption); obtain ⟨ad827, e827, hx827_0⟩ := Kd.at_int (by repeat (first | (with_reducible exact HR824_0.out) | (with_reducible refine Kd.C_alloc ?_ _) | (with_reducible refine Kd.C_drewN ?_ _) | (with_reducible refine Kd.C_drew ?_) | exact HR824_0.out)) 1 p827 q827
               obtain rfl : ad825 = ad827 := (by injection e827)
               (try simp only [show (1 : Int).toNat = 1 from rfl, Nat.reduceMul, Nat.reduceEqDiff, Go.Addr.add, ↓reduceIte] at hx827_0)
               have qi827 : (1 < (rd_L1 t821 x13_1).length) = True := eq_true (by omega)
               (try rw [show ((1 : Int)).toNat = 1 from rfl] at hx827_0)
               replace p827 := eq_true p827; replace q827 := eq_true q827; have p828 : 0 ≤ ((rd (rd_L1 t821 x13_1) 1) : Int) := of_decide_eq_true (by first | (with_reducible assumption) | assumption); have q828 : (rd (rd_L1 t821 x13_1) 1) < ((rd_L1 l1 (rd (rd_L1 t821 x13_1) 0)).length : Int) := of_decide_eq_true (by first | (with_reducible assumption) | assumption); obtain ⟨ad828, e828, hx828_0⟩ := Kd.at_int HR826_0.out (rd (rd_L1 t821 x13_1) 1) p828 q828
               cases e828
               (try replace hx828_0 := (HB.out.cell (World.block_lt_of_cell? w _ hx828_0)).trans hx828_0)
               replace p828 := eq_true p828; replace q828 := eq_true q828
               have p829 : 0 ≤ (0 : Int) := (by omega)
               have q829 : 0 < ((rd_L1 t821 x13_1).length : Int) := of_decide_eq_true (by first | (with_reducible assumption) | assumption); obtain ⟨ad829, e829, hx829_0⟩ := Kd.at_int (by repeat (first | (with_reducible exact HR824_0.out) | (with_reducible refine Kd.C_alloc ?_ _) | (with_reducible refine Kd.C_drewN ?_ _) | (with_reducible refine Kd.C_drew ?_) | exact HR824_0.out)) 0 p829 q829
               obtain rfl : ad825 = ad829 := (by injection e829)
               have qi829 : (0 < (rd_L1 t821 x13_1).length) = True := eq_true (by omega)
               (try rw [show ((0 : Int)).toNat = 0 from rfl] at hx829_0)
               (try rw [Addr.add_zero'] at hx829_0)
               replace p829 := eq_true p829; replace q829 := eq_true q829; have p830 : 0 ≤ ((rd (rd_L1 t821 x13_1) 0) : Int) := of_decide_eq_true (by first | (with_reducible assumption) | assumption); have q830 : (rd (rd_L1 t821 x13_1) 0) < (l0.length : Int) := of_decide_eq_true (by first | (with_reducible assumption) | assumption); obtain ⟨ad830, A830_0, c830_0, e830, hx830_0, hl830_0, hi830_0⟩ := at_L1 HR0.out (rd (rd_L1 t821 x13_1) 0) p830 q830
               cases e830
               (try replace hx830_0 := (HB.out.cell (World.block_lt_of_cell? w _ hx830_0)).trans hx830_0)
               have HR830_0 := Aside0.mk hi830_0; have HC830_0 := Aside0.mk hl830_0; clear hi830_0 hl830_0; replace p830 := eq_true p830; replace q830 := eq_true q830
               have p831 : 0 ≤ (1 : Int) := (by omega)
               have q831 : 1 < ((rd_L1 t821 x13_1).length : Int) := of_decide_eq_true (by first | (with_reducible assumption) | assumption); obtain ⟨ad831, e831, hx831_0⟩ := Kd.at_int (by repeat (first | (with_reducible exact HR824_0.out) | (with_reducible refine Kd.C_alloc ?_ _) | (with_reducible refine Kd.C_drewN ?_ _) | (with_reducible refine Kd.C_drew ?_) | exact HR824_0.out)) 1 p831 q831
               obtain rfl : ad825 = ad831 := (by injection e831)
               (try simp only [show (1 : Int).toNat = 1 from rfl, Nat.reduceMul, Nat.reduceEqDiff, Go.Addr.add, ↓reduceIte] at hx831_0)
               have qi831 : (1 < (rd_L1 t821 x13_1).length) = True := eq_true (by omega)
               (try rw [show ((1 : Int)).toNat = 1 from rfl] at hx831_0)
               replace p831 := eq_true p831; replace q831 := eq_true q831; have p832 : 0 ≤ ((rd (rd_L1 t821 x13_1) 1) : Int) := of_decide_eq_true (by first | (with_reducible assumption) | assumption); have q832 : (rd (rd_L1 t821 x13_1) 1) < ((rd_L1 l0 (rd (rd_L1 t821 x13_1) 0)).length : Int) := of_decide_eq_true (by first | (with_reducible assumption) | assumption); obtain ⟨ad832, e832, hx832_0⟩ := Kd.at_int HR830_0.out (rd (rd_L1 t821 x13_1) 1) p832 q832
               cases e832
               (try replace hx832_0 := (HB.out.cell (World.block_lt_of_cell? w _ hx832_0)).trans hx832_0)
               replace p832 := eq_true p832; replace q832 := eq_true q832; go_wp2
               repeat (go_quiet (fail); try go_wp2)
               go_roundg k1
               case measure => have := HK1.out; omega
               case rel => exact ⟨(wrap64 (x13_1 + 1)), (by first | rfl | (simp; done) | (simp [*]; done)), H', ⟨by have := HK1.out; omega⟩, ⟨by (with_reducible repeat (first | apply Kd.S_alloc | apply Kd.S_drewN | apply Kd.S_drew)); exact HO_11.out⟩, ⟨by repeat (first | (with_reducible first | exact HB.out | apply below_alloc | apply pw_below_drewN | apply below_drew1) | exact HB.out)⟩⟩
             ·rw [if_neg c17] at H; exact absurd H (by simp)
            ·rw [if_neg c16] at H; exact absurd H (by simp)
           ·rw [if_neg c15] at H; exact absurd H (by simp)
          ·rw [if_neg c14] at H; exact absurd H (by simp)
         ·rw [if_neg c13] at H; exact absurd H (by simp)
        ·rw [if_neg c12] at H; exact absurd H (by simp)
       ·rw [if_neg c11] at H; exact absurd H (by simp)
      ·rw [if_neg c10] at H; exact absurd H (by simp)
     ·rw [if_neg c9] at H; exact absurd H (by simp)
    ·rw [if_neg c8] at H; exact absurd H (by simp)
   ·rw [if_neg c7] at H
    have c7b0 : decide (x13_1 < (t821.length : Int)) = false := decide_eq_false c7; clear c7; obtain rfl := Option.some.inj H; go_wp2
    repeat (go_quiet (fail); try go_wp2)
    go_ret; exact ⟨_, by first | rfl | (simp [errW_none, errW_some] <;> rfl) | (simp [*, errW_none, errW_some] <;> rfl), by first | exact Kd.R_nil _ _ _ _ _ | exact Kd.N_nil _ _ _ _ _ | exact Kd.V_nil _ _ _ _ _ | exact Kd.Q_nil _ _ _ _ _ | exact Kd.S_nil _ _ _ _ _, by repeat (first | (with_reducible first | exact HB.out | apply below_alloc | apply pw_below_drewN | apply below_drew1) | exact HB.out)⟩
/-! ### spec_FlipPath: function 42 (given) -/
def fpPick (k : Nat) (h g : List (List Int)) : Option (List Int × Int) := (spec_heFirst.f k h g 1).bind fun c => if (c.length : Int) = 0 then (spec_heFirst.f k h g (-1)).bind fun d => some (d, -1) else some (c, 1)
def fpIn (h : List (List Int)) (c : List Int) : Prop := 1 < c.length ∧ 0 ≤ rd c 0 ∧ rd c 0 < (h.length : Int) ∧ 0 ≤ rd c 1 ∧ rd c 1 < ((rd_L1 h (rd c 0)).length : Int)
instance (h : List (List Int)) (c : List Int) : Decidable (fpIn h c) := by unfold fpIn; infer_instance
def fpPut (h : List (List Int)) (c : List Int) (v : Int) : List (List Int) := h.set (rd c 0).toNat ((rd_L1 h (rd c 0)).set (rd c 1).toNat (wrap64 (rd (rd_L1 h (rd c 0)) (rd c 1) + v)))
def spec_FlipPath.l0 : Nat → List (List Int) → List (List Int) → List (List Int) → Option (List (List Int))
 | 0, _, _, _ => none
 | k + 1, g, h, out => (spec_heSame.f k h g).bind fun t => if t = true then some out else (fpPick k h g).bind fun cw => if fpIn h cw.1 ∧ out.length < 5864062014805 then spec_FlipPath.l0 k g (fpPut h cw.1 (wrap64 (2 * cw.2))) (out ++ [cw.1]) else none
def spec_FlipPath.f (k : Nat) (l0 l1 : List (List Int)) : Option (List (List Int) × Bool) := (spec_hePair.f k l0 l1).bind fun t => if t = true then (spec_heOf.f k l0).bind fun h => (spec_heOf.f k l1).bind fun g => (spec_FlipPath.l0 k g h ([] : List (List Int))).bind fun o => some (o, true) else some (([] : List (List Int)), false)
set_option maxHeartbeats 8000000 in
set_option maxRecDepth 100000 in
theorem spec_FlipPath.calls (k : Nat) (A0 : Option Addr) (c0 : Nat) (l0 : List (List Int)) (A1 : Option Addr) (c1 : Nat) (l1 : List (List Int)) (r1 : List (List Int)) (r2 : Bool) (w : World) (hr0 : Kd.C (Kd.slice 3 (Kd.int .i64)) w A0 l0.length l0) (hc0 : l0.length ≤ c0) (hr1 : Kd.C (Kd.slice 3 (Kd.int .i64)) w A1 l1.length l1) (hc1 : l1.length ≤ c1) (h : spec_FlipPath.f k l0 l1 = some (r1, r2)) :
  Calls Try.prog 42 #[.slice A0 l0.length c0, .slice A1 l1.length c1] w fun e w' => ∃ v0_ : Value, e = .returned (.tuple #[v0_, .bool r2]) ∧ Kd.N (Kd.slice 3 (Kd.int .i64)) 22 w' w.heap.size (fun k_ => w.heap.size ≤ k_) v0_ r1 ∧ Below w.heap.size w w' := by
 have HR0 := Aside0.mk hr0; have HC0 := Aside0.mk hc0; have HR1 := Aside0.mk hr1; have HC1 := Aside0.mk hc1; have HB0 := Aside0.mk (Below.refl w.heap.size w); obtain ⟨b, hb, h⟩ := Option.bind_eq_some_iff.mp h; have HP := Aside0.mk hb; clear hr0 hc0 hr1 hc1 hb
 cases b with
 | false =>
  rw [if_neg (by decide)] at h; simp only [Option.some.injEq, Prod.mk.injEq] at h; obtain ⟨rfl, rfl⟩ := h; go_enter Try.func42, Try.ntmps42
  go_wp2_with (go_at_call 87; (with_reducible refine (spec_hePair.calls k _ _ l0 _ _ l1 false _ HR0.out HC0.out HR1.out HC1.out HP.out).mono ?_); rintro e w5 ⟨rfl, hb⟩; have HB := Aside0.mk (below_step HB0.out hb); clear hb)
  go_ret2; exact ⟨_, rfl, Kd.N_nil _ _ _ _ _, HB.out⟩
 | true =>
  rw [if_pos rfl] at h; obtain ⟨hh, eh, h⟩ := Option.bind_eq_some_iff.mp h; obtain ⟨gg, eg, h⟩ := Option.bind_eq_some_iff.mp h; obtain ⟨oo, eo, h⟩ := Option.bind_eq_some_iff.mp h; simp only [Option.some.injEq, Prod.mk.injEq] at h; obtain ⟨rfl, rfl⟩ := h; have HH := Aside0.mk eh; have HG := Aside0.mk eg; have HO := Aside0.mk eo; clear eh eg eo; go_enter Try.func42, Try.ntmps42
  go_wp2_with fail
  (with_reducible refine (spec_hePair.calls k _ _ l0 _ _ l1 true _ HR0.out HC0.out HR1.out HC1.out HP.out).mono ?_)
  rintro e w5 ⟨rfl, hb⟩; have HB5 := Aside0.mk (below_step HB0.out hb); clear hb HP
  go_wp2_with fail
  (with_reducible refine (spec_heOf.calls k _ _ l0 hh _ (Kd.C_below HR0.out HB5.out) HC0.out HH.out).mono ?_)
  rintro e w6 ⟨vh, rfl, hS, hb⟩; have HB6 := Aside0.mk (below_step HB5.out hb); have HS6 := Aside0.mk (Seg.of_S hS); have HZ5 := Aside0.mk HB5.out.size; clear hb hS HB5 HH
  go_wp2_with fail
  (with_reducible refine (spec_heOf.calls k _ _ l1 gg _ (Kd.C_below HR1.out HB6.out) HC1.out HG.out).mono ?_)
  rintro e w7 ⟨vg, rfl, hS, hb⟩; have HB7 := Aside0.mk (below_step HB6.out hb); have HS7 := Aside0.mk (HS6.out.below hb); have HG7 := Aside0.mk (Seg.of_S hS); have hs7 := hb.size; obtain ⟨Ah, ch, hvh⟩ := HS7.out.slice; subst hvh; obtain ⟨Ag, cg, hvg⟩ := HG7.out.slice; subst hvg
  obtain ⟨s0, hs0⟩ : ∃ s, s = w5.heap.size := ⟨_, rfl⟩
  obtain ⟨s1, hs1⟩ : ∃ s, s = w6.heap.size := ⟨_, rfl⟩
  obtain ⟨s2, hs2⟩ : ∃ s, s = w7.heap.size := ⟨_, rfl⟩
  rw [← hs0, ← hs1] at HS7; rw [← hs1, ← hs2] at HG7; rw [← hs1, ← hs2] at hs7; rw [← hs0] at HZ5; have HZ := Aside0.mk (show w.heap.size ≤ s2 by have := HB7.out.size; omega); have HZ2 := Aside0.mk (show s2 ≤ w7.heap.size by omega); clear hb hS HS6 HG hs0 hs1 hs2 HB6
  go_wp2_with fail
  have H0 := HO; clear HO h
  go_loopg [8] k (fun kq v8 w' => ∃ (h' out : List (List Int)), Aside0 (spec_FlipPath.l0 kq gg h' out = some oo) ∧ Aside0 (Seg w' s0 s1 (.slice Ah hh.length ch) h') ∧ Aside0 (Seg w' s1 s2 (.slice Ag gg.length cg) gg) ∧ Aside0 (Kd.N (Kd.slice 3 (Kd.int .i64)) 22 w' s2 (fun k_ => s2 ≤ k_) v8 out) ∧ Aside0 (Below w.heap.size w w') ∧ Aside0 (s2 ≤ w'.heap.size))
  case atStart => exact ⟨hh, [], H0, HS7, HG7, ⟨Kd.N_nil _ _ _ _ _⟩, HB7, HZ2⟩
  case round =>
   clear H0 HS7 HG7 HB7 HZ2; obtain ⟨h', out, HA, HS, HG, HO, HB, HZ2⟩ := hrel
   cases gk with
   | zero => exact absurd HA.out (by simp [spec_FlipPath.l0])
   | succ k2 =>
    have H := HA.out; clear HA; simp only [spec_FlipPath.l0] at H; obtain ⟨t, ht, H⟩ := Option.bind_eq_some_iff.mp H; have HT := Aside0.mk ht; have HH := Aside0.mk H; clear ht H
    obtain ⟨nh, hnh⟩ : ∃ n, n = hh.length := ⟨_, rfl⟩
    rw [← hnh] at HS ⊢; have hlh := (HS.out.reads).1; subst hlh; have HNH := Aside0.mk hnh; clear hnh
    go_wp2_with fail
    (with_reducible refine (spec_heSame.calls k2 _ _ h' _ _ gg t _ (HS.out.reads).2.2 (HS.out.reads).2.1 (HG.out.reads).2.2 (HG.out.reads).2.1 HT.out).mono ?_)
    rintro e w8 ⟨rfl, ⟨n8, rfl⟩⟩
    cases t with
    | true =>
     have hoo : oo = out := by have := HH.out; rw [if_pos rfl] at this; exact (Option.some.inj this).symm
     subst hoo; go_wp2; go_ret2; exact ⟨_, rfl, Kd.N_lower (Kd.N_mono (Kd.N_drewN HO.out _) (fun k_ hk => Nat.le_trans HZ.out hk)) HZ.out, below_drewN HB.out _⟩
    | false =>
     have H := HH.out; rw [if_neg (by decide)] at H; clear HH HT; obtain ⟨⟨cc, wy⟩, hpick, H⟩ := Option.bind_eq_some_iff.mp H; have HH := Aside0.mk H; clear H; unfold fpPick at hpick; obtain ⟨cf, hcf, hpick⟩ := Option.bind_eq_some_iff.mp hpick; have HF := Aside0.mk hcf; have HPK := Aside0.mk hpick; clear hcf hpick
     obtain ⟨W, hW⟩ : ∃ W, W = wr.drewN n8 := ⟨_, rfl⟩
     have HSW := Aside0.mk (show Seg W s0 s1 (.slice Ah h'.length ch) h' by rw [hW]; exact Kd.S_drewN HS.out _); have HGW := Aside0.mk (show Seg W s1 s2 (.slice Ag gg.length cg) gg by rw [hW]; exact Kd.S_drewN HG.out _); have HOW := Aside0.mk (show Kd.N (Kd.slice 3 (Kd.int .i64)) 22 W s2 (fun k_ => s2 ≤ k_) u8 out by rw [hW]; exact Kd.N_drewN HO.out _); have HBW := Aside0.mk (show Below w.heap.size w W by rw [hW]; exact below_drewN HB.out _); have HZW := Aside0.mk (show s2 ≤ W.heap.size by rw [hW]; exact HZ2.out); rw [← hW]; clear hW HS HG HO HB HZ2
     go_wp2_with fail
     (with_reducible refine (spec_heFirst.calls k2 _ _ h' _ _ gg 1 cf _ (HSW.out.reads).2.2 (HSW.out.reads).2.1 (HGW.out.reads).2.2 (HGW.out.reads).2.1 HF.out).mono ?_)
     rintro e w9 ⟨v9, rfl, hC9, hb⟩; have HS9 := Aside0.mk (HSW.out.below hb); have HG9 := Aside0.mk (HGW.out.below hb)
     obtain ⟨z, hz⟩ : ∃ z, z = W.heap.size := ⟨_, rfl⟩
     have HO9 := Aside0.mk (show Kd.N (Kd.slice 3 (Kd.int .i64)) 22 w9 s2 (fun k_ => s2 ≤ k_ ∧ k_ < z) u8 out by rw [hz]; exact Kd.N_old HOW.out hb); have HB9 := Aside0.mk (below_step HBW.out hb); have HZS := Aside0.mk (show s2 ≤ z by rw [hz]; exact HZW.out); have HZ9 := Aside0.mk (show z ≤ w9.heap.size by rw [hz]; exact hb.size); have HC9 := Aside0.mk (show Kd.R (Kd.int .i64) 3 w9 z (fun _ => True) v9 cf by rw [hz]; exact hC9); clear hb hC9 hz HSW HGW HOW HBW HZW; obtain ⟨A9, c9, rfl⟩ := Kd.R_slice HC9.out
     go_upto_if 29 with (fail)
     go_cut [9, 10] (fun v9 v10 wc => ∃ (A10 : Option Addr) (c10 : Nat), v9 = .int .i64 wy ∧ v10 = .slice A10 cc.length c10 ∧ Aside0 (Kd.R (Kd.int .i64) 3 wc z (fun _ => True) (.slice A10 cc.length c10) cc) ∧ Aside0 (Seg wc s0 s1 (.slice Ah h'.length ch) h') ∧ Aside0 (Seg wc s1 s2 (.slice Ag gg.length cg) gg) ∧ Aside0 (Kd.N (Kd.slice 3 (Kd.int .i64)) 22 wc s2 (fun k_ => s2 ≤ k_ ∧ k_ < z) u8 out) ∧ Aside0 (Below w.heap.size w wc) ∧ Aside0 (z ≤ wc.heap.size))
     case first =>
      by_cases hc0 : cf.length = 0
      ·have b1 : ((cf.length : Int) == 0) = true := by rw [hc0]; rfl
       have b2 : decide ((cf.length : Int) = 0) = true := decide_eq_true (by omega); have b3 : decide (cf.length = 0) = true := decide_eq_true hc0
       have b4 : (cf.length == 0) = true := by rw [hc0]; rfl
       have hp := HPK.out; rw [if_pos (by omega)] at hp; obtain ⟨dd, hd, hp⟩ := Option.bind_eq_some_iff.mp hp; simp only [Option.some.injEq, Prod.mk.injEq] at hp; obtain ⟨rfl, rfl⟩ := hp; have HD := Aside0.mk hd; clear hd HPK hc0
       go_wp2_with fail
       (with_reducible refine (spec_heFirst.calls k2 _ _ h' _ _ gg (-1) dd _ (HS9.out.reads).2.2 (HS9.out.reads).2.1 (HG9.out.reads).2.2 (HG9.out.reads).2.1 HD.out).mono ?_)
       rintro e w10 ⟨v10, rfl, hC10, hb⟩; have HS10 := Aside0.mk (HS9.out.below hb); have HG10 := Aside0.mk (HG9.out.below hb); have HO10 := Aside0.mk (Kd.N_below HO9.out hb); have HB10 := Aside0.mk (below_step HB9.out hb); have HZ10 := Aside0.mk (Nat.le_trans HZ9.out hb.size); have HC10 := Aside0.mk (Kd.R_lower hC10 HZ9.out); obtain ⟨A10, c10, rfl⟩ := Kd.R_slice hC10; clear hb hC10; go_wp2; go_meet
       case rel => exact ⟨_, _, rfl, rfl, HC10, HS10, HG10, HO10, HB10, HZ10⟩
      ·have b1 : ((cf.length : Int) == 0) = false := beq_false_of_ne (by omega)
       have b2 : decide ((cf.length : Int) = 0) = false := decide_eq_false (by omega); have b3 : decide (cf.length = 0) = false := decide_eq_false hc0; have b4 : (cf.length == 0) = false := beq_false_of_ne hc0; have hp := HPK.out; rw [if_neg (by omega)] at hp; simp only [Option.some.injEq, Prod.mk.injEq] at hp; obtain ⟨rfl, rfl⟩ := hp; clear HPK hc0; go_wp2; go_meet
       case rel => exact ⟨_, _, rfl, rfl, HC9, HS9, HG9, HO9, HB9, HZ9⟩
     case rest =>
      clear HC9 HS9 HG9 HO9 HB9 HZ9 HPK HF; obtain ⟨A10, c10, rfl, rfl, HC, HS, HG, HO, HB, HZ9⟩ := hcut; have hh := HH.out
      by_cases hin : fpIn h' cc ∧ out.length < 5864062014805
      ·rw [if_pos hin] at hh
       have HH' := Aside0.mk hh; obtain ⟨⟨hl, i0, i1, j0, j1⟩, hol⟩ := hin; obtain ⟨i, hi⟩ := Int.eq_ofNat_of_zero_le i0; obtain ⟨j, hj⟩ := Int.eq_ofNat_of_zero_le j0; rw [hi] at i1 j1; rw [hj] at j1; have hC := (Kd.R_reads' HC.out).2.2; obtain ⟨cd, e2, hx0⟩ := Kd.at_int hC 0 (by omega) (by omega); obtain ⟨cd2, e3, hx1⟩ := Kd.at_int hC 1 (by omega) (by omega); rw [e2] at e3; injection e3 with e3; subst e3; subst e2; rw [show (0 : Int).toNat = 0 from rfl, Addr.add_zero', hi] at hx0; rw [show (1 : Int).toNat = 1 from rfl, Addr.add_succ' cd 0, hj] at hx1; replace hx1 : wc.cell? ⟨cd.block, cd.off + 1, none⟩ = some (.int .i64 (j : Int)) := hx1; obtain ⟨ad, g, cr, e4, hg1, hg0, hgl, hput⟩ := S_putB HS.out i j (by omega) (by omega); subst e4; obtain ⟨hrow, hnum, hfz, _⟩ := hput wc (Below.refl _ _)
       have hil : i < h'.length := by omega
       have hjl : j < (rd_L1 h' (i : Int)).length := by omega
       have bi : decide (i < h'.length) = true := decide_eq_true hil; have bj : decide (j < (rd_L1 h' (i : Int)).length) = true := decide_eq_true hjl; have b0 : decide (0 < cc.length) = true := decide_eq_true (by omega); have b1 : decide (1 < cc.length) = true := decide_eq_true hl
       have q0 : 0 < cc.length := by omega
       have q1 : (1 : Int) < (cc.length : Int) := by omega
       obtain ⟨x, hx⟩ : ∃ x, x = rd (rd_L1 h' (i : Int)) (j : Int) := ⟨_, rfl⟩
       rw [← hx] at hnum
       obtain ⟨rl, hrl⟩ : ∃ rl, rl = (rd_L1 h' (i : Int)).length := ⟨_, rfl⟩
       rw [← hrl] at hrow hjl bj; have HPUT := Aside0.mk hput; have HGF := Aside0.mk (And.intro hg1 (And.intro hg0 hgl)); have HEQ := Aside0.mk (And.intro hi (And.intro hj hx)); have HOL := Aside0.mk hol; clear hput hg1 hg0 hgl hi hj hx hrl hol hh HH hC hfz i0 i1 j0 j1
       go_upto_region 11 with fail
       refine start_ (n := 16) (S := fun w' => Below wc.heap.size wc w' ∧ w'.cell? cd = some (.int .i64 (i : Int)) ∧ w'.cell? ⟨cd.block, cd.off + 1, none⟩ = some (.int .i64 (j : Int)) ∧ w'.cell? (ad.add i) = some (.slice (some ⟨g, 0, none⟩) rl cr) ∧ w'.cell? ⟨g, j, none⟩ = some (.int .i64 x)) (ds := [15]) #[fF, fF, fF, fF, fF, fF, fF, fF, fF, fF, fF, fF, fF, fF, fF, fF] (by kernel_rfl) rfl rfl ⟨(below_drew (Below.refl _ _)), hx0, hx1, hrow, hnum⟩ (fun hHeld => ?_); refine pure_ (i := 0) (N := some 34) (v := ?_) (a' := ?_) #[tT, fF, fF, fF, fF, fF, fF, fF, fF, fF, fF, fF, fF, fF, fF, fF] rfl rfl (by kernel_rfl) (fun _ _ _ h => h) (Or.inl ⟨by rfl, ?_⟩) ?_ ?_; rotate_left
       ·intro w'; go_simp; with_reducible rfl
       rotate_left
       ·simp only [Act.put, List.setIfInBounds_toArray, List.set_cons_zero, List.set_cons_succ, i64_w, i32_w]; rfl
       refine pure_ (i := 1) (N := some 35) (v := ?_) (a' := ?_) #[tT, tT, fF, fF, fF, fF, fF, fF, fF, fF, fF, fF, fF, fF, fF, fF] rfl rfl (by kernel_rfl) (fun _ _ _ h => h) (Or.inl ⟨by rfl, ?_⟩) ?_ ?_; rotate_left
       ·intro w'; go_simp; with_reducible rfl
       rotate_left
       ·simp only [Act.put, List.setIfInBounds_toArray, List.set_cons_zero, List.set_cons_succ, i64_w, i32_w]; rfl
       refine pure_ (i := 2) (N := some 36) (v := ?_) (a' := ?_) #[tT, tT, tT, fF, fF, fF, fF, fF, fF, fF, fF, fF, fF, fF, fF, fF] rfl rfl (by kernel_rfl) (fun _ _ _ h => h) (Or.inl ⟨by rfl, ?_⟩) ?_ ?_; rotate_left
       ·intro w'; go_simp; with_reducible rfl
       rotate_left
       ·simp only [Act.put, List.setIfInBounds_toArray, List.set_cons_zero, List.set_cons_succ, i64_w, i32_w]; rfl
       refine pure_ (i := 6) (N := some 40) (v := ?_) (a' := ?_) #[tT, tT, tT, fF, fF, fF, tT, fF, fF, fF, fF, fF, fF, fF, fF, fF] rfl rfl (by kernel_rfl) (fun _ _ _ h => h) (Or.inl ⟨by rfl, ?_⟩) ?_ ?_; rotate_left
       ·intro w'; go_simp; with_reducible rfl
       rotate_left
       ·simp only [Act.put, List.setIfInBounds_toArray, List.set_cons_zero, List.set_cons_succ, i64_w, i32_w]; rfl
       refine pure_ (i := 7) (N := some 41) (v := ?_) (a' := ?_) #[tT, tT, tT, fF, fF, fF, tT, tT, fF, fF, fF, fF, fF, fF, fF, fF] rfl rfl (by kernel_rfl) (fun _ _ _ h => h) (Or.inl ⟨by rfl, ?_⟩) ?_ ?_; rotate_left
       ·intro w'; go_simp; with_reducible rfl
       rotate_left
       ·simp only [Act.put, List.setIfInBounds_toArray, List.set_cons_zero, List.set_cons_succ, i64_w, i32_w]; rfl
       refine pure_ (i := 11) (N := some 45) (v := ?_) (a' := ?_) #[tT, tT, tT, fF, fF, fF, tT, tT, fF, fF, fF, tT, fF, fF, fF, fF] rfl rfl (by kernel_rfl) (fun _ _ _ h => h) (Or.inl ⟨by rfl, ?_⟩) ?_ ?_; rotate_left
       ·intro w'; go_simp; with_reducible rfl
       rotate_left
       ·simp only [Act.put, List.setIfInBounds_toArray, List.set_cons_zero, List.set_cons_succ, i64_w, i32_w]; rfl
       refine pure_ (i := 12) (N := some 46) (v := ?_) (a' := ?_) #[tT, tT, tT, fF, fF, fF, tT, tT, fF, fF, fF, tT, tT, fF, fF, fF] rfl rfl (by kernel_rfl) (fun _ _ _ h => h) (Or.inl ⟨by rfl, ?_⟩) ?_ ?_; rotate_left
       ·intro w'; go_simp; with_reducible rfl
       rotate_left
       ·simp only [Act.put, List.setIfInBounds_toArray, List.set_cons_zero, List.set_cons_succ, i64_w, i32_w]; rfl
       refine take_ (i := 3) (N := some 37) (v := ?_) (a' := ?_) #[tT, tT, tT, tT, fF, fF, tT, tT, fF, fF, fF, tT, tT, fF, fF, fF] rfl rfl (by kernel_rfl) (fun _ _ _ h => h) (Or.inl ⟨by rfl, ?_⟩) hHeld ?_ ?_; rotate_left
       ·rintro w' ⟨s0, s1, s2, s3, s4⟩; go_simp; with_reducible rfl
       rotate_left
       ·simp only [Act.put, List.setIfInBounds_toArray, List.set_cons_zero, List.set_cons_succ, i64_w, i32_w]; rfl
       refine pure_ (i := 4) (N := some 38) (v := ?_) (a' := ?_) #[tT, tT, tT, tT, tT, fF, tT, tT, fF, fF, fF, tT, tT, fF, fF, fF] rfl rfl (by kernel_rfl) (fun _ _ _ h => h) (Or.inl ⟨by rfl, ?_⟩) ?_ ?_; rotate_left
       ·intro w'; go_simp; with_reducible rfl
       rotate_left
       ·simp only [Act.put, List.setIfInBounds_toArray, List.set_cons_zero, List.set_cons_succ, i64_w, i32_w]; rfl
       refine take_ (i := 5) (N := some 39) (v := ?_) (a' := ?_) #[tT, tT, tT, tT, tT, tT, tT, tT, fF, fF, fF, tT, tT, fF, fF, fF] rfl rfl (by kernel_rfl) (fun _ _ _ h => h) (Or.inl ⟨by rfl, ?_⟩) hHeld ?_ ?_; rotate_left
       ·rintro w' ⟨s0, s1, s2, s3, s4⟩; go_simp; with_reducible rfl
       rotate_left
       ·simp only [Act.put, List.setIfInBounds_toArray, List.set_cons_zero, List.set_cons_succ, i64_w, i32_w]; rfl
       refine take_ (i := 8) (N := some 42) (v := ?_) (a' := ?_) #[tT, tT, tT, tT, tT, tT, tT, tT, tT, fF, fF, tT, tT, fF, fF, fF] rfl rfl (by kernel_rfl) (fun _ _ _ h => h) (Or.inl ⟨by rfl, ?_⟩) hHeld ?_ ?_; rotate_left
       ·rintro w' ⟨s0, s1, s2, s3, s4⟩; go_simp; with_reducible rfl
       rotate_left
       ·simp only [Act.put, List.setIfInBounds_toArray, List.set_cons_zero, List.set_cons_succ, i64_w, i32_w]; rfl
       refine pure_ (i := 9) (N := some 43) (v := ?_) (a' := ?_) #[tT, tT, tT, tT, tT, tT, tT, tT, tT, tT, fF, tT, tT, fF, fF, fF] rfl rfl (by kernel_rfl) (fun _ _ _ h => h) (Or.inl ⟨by rfl, ?_⟩) ?_ ?_; rotate_left
       ·intro w'; go_simp; with_reducible rfl
       rotate_left
       ·simp only [Act.put, List.setIfInBounds_toArray, List.set_cons_zero, List.set_cons_succ, i64_w, i32_w]; rfl
       refine take_ (i := 10) (N := some 44) (v := ?_) (a' := ?_) #[tT, tT, tT, tT, tT, tT, tT, tT, tT, tT, tT, tT, tT, fF, fF, fF] rfl rfl (by kernel_rfl) (fun _ _ _ h => h) (Or.inl ⟨by rfl, ?_⟩) hHeld ?_ ?_; rotate_left
       ·rintro w' ⟨s0, s1, s2, s3, s4⟩; go_simp; with_reducible rfl
       rotate_left
       ·simp only [Act.put, List.setIfInBounds_toArray, List.set_cons_zero, List.set_cons_succ, i64_w, i32_w]; rfl
       refine pure_ (i := 13) (N := some 47) (v := ?_) (a' := ?_) #[tT, tT, tT, tT, tT, tT, tT, tT, tT, tT, tT, tT, tT, tT, fF, fF] rfl rfl (by kernel_rfl) (fun _ _ _ h => h) (Or.inl ⟨by rfl, ?_⟩) ?_ ?_; rotate_left
       ·intro w'; go_simp; with_reducible rfl
       rotate_left
       ·simp only [Act.put, List.setIfInBounds_toArray, List.set_cons_zero, List.set_cons_succ, i64_w, i32_w]; rfl
       refine pure_ (i := 14) (N := some 48) (v := ?_) (a' := ?_) #[tT, tT, tT, tT, tT, tT, tT, tT, tT, tT, tT, tT, tT, tT, tT, fF] rfl rfl (by kernel_rfl) (fun _ _ _ h => h) (Or.inl ⟨by rfl, ?_⟩) ?_ ?_; rotate_left
       ·intro w'; go_simp; with_reducible rfl
       rotate_left
       ·simp only [Act.put, List.setIfInBounds_toArray, List.set_cons_zero, List.set_cons_succ, i64_w, i32_w]; rfl
       refine last_ (i := 15) (N := none) #[tT, tT, tT, tT, tT, tT, tT, tT, tT, tT, tT, tT, tT, tT, tT, tT] rfl rfl (by kernel_rfl) (by decide) (fun K hK => ?_); have HWD := Aside0.mk hHeld.1; have hx5 := hHeld.2.1; have hx6 := hHeld.2.2.1; have hx7 := hHeld.2.2.2.1; have hx8 := hHeld.2.2.2.2; have hx9 := (HPUT.out _ hHeld.1).2.2.1; refine skip_ (w1 := ?_) (by rfl) rfl ?_ ?_; rotate_left
       ·go_simp; rfl
       refine hK.out _ _ ?_; clear hK K; refine done_ (by kernel_rfl) ?_
       obtain ⟨ws, hws⟩ : ∃ ws, ws = wc.setCell ⟨g, j, none⟩ (.int .i64 (wrap64 (x + wrap64 (2 * wy)))) := ⟨_, rfl⟩
       have hp := (HPUT.out wc (Below.refl _ _)).2.2.2 (wrap64 (x + wrap64 (2 * wy))); rw [← hws] at hp ⊢; have hgr := hp.2
       have HSs : Seg ws s0 s1 (.slice (some ad) h'.length ch) (fpPut h' cc (wrap64 (2 * wy))) := by
        unfold fpPut; rw [HEQ.out.1, HEQ.out.2.1, Int.toNat_natCast, Int.toNat_natCast, ← HEQ.out.2.2]; exact hp.1
       have HGs : Seg ws s1 s2 (.slice Ag gg.length cg) gg := HG.out.move (lo' := s0) (hi' := s1) ⟨hgr.os, hgr.tape, hgr.output, hgr.size, fun k_ hk hn => hgr.block k_ hk (fun he => hn (by injection he with he; subst he; exact ⟨HGF.out.2.1, HGF.out.1⟩))⟩ (.inr (Nat.le_refl _)); have HOs : Kd.N (Kd.slice 3 (Kd.int .i64)) 22 ws s2 (fun k_ => s2 ≤ k_ ∧ k_ < z) u8 out := Kd.N_grown HO.out hgr (fun k_ hk e_ => by injection e_ with e_; have := HGF.out.1; omega); have HCs : Kd.R (Kd.int .i64) 3 ws z (fun k_ => z ≤ k_) (.slice (some cd) cc.length c10) cc := Kd.R_grown (Kd.R_mono (Kd.R_bound HC.out) (fun k_ hk => hk.2.1)) hgr (fun k_ hk e_ => by injection e_ with e_; have := HGF.out.1; have := HZS.out; omega)
       have HBs : Below w.heap.size w ws := by rw [hws]; exact HB.out.setCell (p := ⟨g, j, none⟩) (by have := HGF.out.2.1; have := HZ5.out; show w.heap.size ≤ g; omega) _
       have HZs : z ≤ ws.heap.size := Nat.le_trans HZ9.out hgr.size
       obtain ⟨wt, hwt⟩ : ∃ wt, wt = ws.drew := ⟨_, rfl⟩
       have HSt := Aside0.mk (show Seg wt s0 s1 (.slice (some ad) h'.length ch) (fpPut h' cc (wrap64 (2 * wy))) by rw [hwt]; exact Kd.S_drew HSs); have HGt := Aside0.mk (show Seg wt s1 s2 (.slice Ag gg.length cg) gg by rw [hwt]; exact Kd.S_drew HGs); have HOt := Aside0.mk (show Kd.N (Kd.slice 3 (Kd.int .i64)) 22 wt s2 (fun k_ => s2 ≤ k_ ∧ k_ < z) u8 out by rw [hwt]; exact Kd.N_drew HOs); have HCt := Aside0.mk (show Kd.R (Kd.int .i64) 3 wt z (fun k_ => z ≤ k_) (.slice (some cd) cc.length c10) cc by rw [hwt]; exact Kd.R_drew HCs); have HBt := Aside0.mk (show Below w.heap.size w wt by rw [hwt]; exact below_drew HBs); have HZt := Aside0.mk (show z ≤ wt.heap.size by rw [hwt]; exact HZs); rw [← hwt]; clear hwt hws HSs HGs HOs HCs HBs HZs hp hgr hx5 hx6 hx7 hx8 hx9 HWD hHeld HC HS HG HO HB HZ9 HPUT hx0 hx1 hrow hnum
       go_wp2_with ((with_reducible refine gate_builtin (b := .append) (xs := #[.tmp 49, .tmp 51]) rfl ?_); at_builtin; refine Kd.N_append (Kd.slice 3 (Kd.int .i64)) (w0 := wt) s2 rfl (.tmp 49) (.tmp 51) 23 22 (.slice none 0 0) 24 rfl Try.underlying23 info22 rfl (by decide) (by omega) u8 out cc [.slice (some cd) cc.length c10] (fun k_ => s2 ≤ k_) (fun k_ => z ≤ k_) rfl rfl ?aP ?aQ ?aF ?aO ?aB ?aS ?aL ?_; (case aP => exact Kd.FK_slice_mk (Kd.R_reads' HCt.out).2.1 (Kd.R_F HCt.out)); (case aQ => exact (fun k_ hk_ => ⟨Nat.le_trans HZS.out hk_, fun e_ => by have := (HOt.out.1 k_ e_.symm).2; omega⟩)); (case aF => exact (fun k_ hk_ => Nat.le_trans (Nat.le_trans HZS.out HZt.out) hk_)); (case aO => exact Kd.N_mono HOt.out (fun k_ hk => hk.1)); (case aB => exact Below.refl _ _); (case aS => exact Nat.le_trans HZS.out HZt.out); (case aL => have := HOL.out; omega); intro v1 w1 ho hb hg hat; have HO1 := Aside0.mk ho; have HB1 := Aside0.mk hb; clear ho hb hg hat)
       rw [HNH.out]
       go_roundg k2
       case measure => omega
       case rel =>
        rw [← HNH.out]; exact ⟨fpPut h' cc (wrap64 (2 * wy)), out ++ [cc], HH', ⟨Kd.S_step HSt.out (fun k_ hk _ => HB1.out.block k_ (by omega))⟩, ⟨Kd.S_step HGt.out (fun k_ hk _ => HB1.out.block k_ (by omega))⟩, HO1, ⟨HBt.out.trans ⟨HB1.out.os, HB1.out.tape, HB1.out.output, HB1.out.size, fun k_ hk => HB1.out.block k_ (by have := HZ.out; omega)⟩⟩, ⟨Nat.le_trans (Nat.le_trans HZS.out HZt.out) HB1.out.size⟩⟩
      ·rw [if_neg hin] at hh
       cases hh
end Go.Proofs.Ythjiajkmaimbjaa.P
