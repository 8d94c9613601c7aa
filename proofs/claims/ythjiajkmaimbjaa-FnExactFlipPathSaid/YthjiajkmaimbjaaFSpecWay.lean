-- By gp.py (this session's own driver over the kit's print). Not trusted: Lean checks it.
import Derived.Test.YthjiajkmaimbjaaF0
import Derived.Test.YthjiajkmaimbjaaB
import Derived.Test.YthjiajkmaimbjaaFSpecIn
namespace Go.Proofs.Ythjiajkmaimbjaa.P
open Go.Proofs.Ythjiajkmaimbjaa.B
open Go.RowKit Go.Proofs.YthjiajkmaimbjaaW.PrintWords Go.Proofs.YthjiajkmaimbjaaW.PrintLast Go.Proofs.YthjiajkmaimbjaaW.PrintMore
attribute [local go_sem] max2_int min2_int max_two min_two max_three min_three max_four min_four   -- for this text's walks alone
set_option linter.unusedVariables false
set_option linter.unusedSimpArgs false
/-! ### spec_heWay: function 148 -/
def spec_heWay.f (k : Nat) (l0 : List (List Int)) (a1 : Int) (a2 : Int) : Option (Int) := if 0 ≤ a1 then (if a1 < (l0.length : Int) then (if 0 ≤ a2 then (if a2 < ((rd_L1 l0 a1).length : Int) then (if 0 ≤ (wrap64 (a1 - 1)) then (if (wrap64 (a1 - 1)) < (l0.length : Int) then (if a2 < ((rd_L1 l0 (wrap64 (a1 - 1))).length : Int) then (if 0 ≤ (wrap64 (a1 + 1)) then (if (wrap64 (a1 + 1)) < (l0.length : Int) then (if a2 < ((rd_L1 l0 (wrap64 (a1 + 1))).length : Int) then (if 0 ≤ (wrap64 (a2 - 1)) then (if (wrap64 (a2 - 1)) < ((rd_L1 l0 a1).length : Int) then (if 0 ≤ (wrap64 (a2 + 1)) then (if (wrap64 (a2 + 1)) < ((rd_L1 l0 a1).length : Int) then ((some (([rd (rd_L1 l0 (wrap64 (a1 - 1))) a2, rd (rd_L1 l0 (wrap64 (a1 + 1))) a2, rd (rd_L1 l0 a1) (wrap64 (a2 - 1)), rd (rd_L1 l0 a1) (wrap64 (a2 + 1))] : List Int) : List Int)).bind fun y809 => ((spec_l1All.f k y809 (wrap64 ((rd (rd_L1 l0 a1) a2) + 1)) (wrap64 ((rd (rd_L1 l0 a1) a2) + 1))).bind fun t812 => (if t812 = true then (some 1) else ((spec_l1All.f k y809 (wrap64 ((rd (rd_L1 l0 a1) a2) - 1)) (wrap64 ((rd (rd_L1 l0 a1) a2) - 1))).bind fun t813 => (if t813 = true then (some (-1)) else (some 0)))))) else (none)) else (none)) else (none)) else (none)) else (none)) else (none)) else (none)) else (none)) else (none)) else (none)) else (none)) else (none)) else (none)) else (none)
def spec_heWay.T2 : Bool × List (List Nat × List Nat) := (true, [([], []), ([], []), ([1], [1]), ([0, 2], [0, 2]), ([3], [3]), ([], []), ([4, 5], [4, 5]), ([6], [6]), ([], []), ([], []), ([9], [9]), ([8, 10], [8, 10]), ([11], [11]), ([], []), ([12, 13], [12, 13]), ([14], [14]), ([], []), ([], []), ([16, 17], [16, 17]), ([18], [18]), ([], []), ([20], [20]), ([19, 21], [19, 21]), ([22], [22]), ([], []), ([], []), ([24, 25], [24, 25]), ([26], [26]), ([], []), ([28], [28]), ([27, 29], [27, 29]), ([30], [30]), ([7, 15, 23, 31], [7, 15, 23, 31]), ([32, 0, 1, 2, 3, 4, 5, 6, 7, 8, 9, 10, 11, 12, 13, 14, 15, 16, 17, 18, 19, 20, 21, 22, 23, 24, 25, 26, 27, 28, 29, 30, 31, 32], [32])])
def spec_heWay.B2 : List Nat := [0, 0, 2, 7, 15, 0, 63, 127, 0, 0, 512, 1792, 3840, 0, 16128, 32512, 0, 0, 196608, 458752, 0, 1048576, 4128768, 8323072, 0, 0, 50331648, 117440512, 0, 268435456, 1056964608, 2130706432, 4294967295, 8589934591]
theorem spec_heWay.tab2 : rtab .any (opsOf Try.f148 2) = spec_heWay.T2 := by kernel_rfl
theorem spec_heWay.bits2 : waitsOk spec_heWay.T2.2 spec_heWay.B2 = true := by kernel_rfl
set_option maxHeartbeats 8000000 in
set_option maxRecDepth 100000 in
theorem spec_heWay.calls (k : Nat) (A0 : Option Addr) (c0 : Nat) (l0 : List (List Int)) (a1 : Int) (a2 : Int) (r : Int) (w : World) (hr0 : Kd.C (Kd.slice 3 (Kd.int .i64)) w A0 l0.length l0) (hc0 : l0.length ≤ c0) (h : spec_heWay.f k l0 a1 a2 = some r) :
  Calls Try.prog 148 #[.slice A0 l0.length c0, .int .i64 a1, .int .i64 a2] w fun e w' => e = .returned (.int .i64 r) ∧ Below w.heap.size w w' := by
 have HR0 := Aside0.mk hr0; have HC0 := Aside0.mk hc0; clear hr0 hc0; have HB := Aside0.mk (Below.refl w.heap.size w); have H : (if 0 ≤ a1 then (if a1 < (l0.length : Int) then (if 0 ≤ a2 then (if a2 < ((rd_L1 l0 a1).length : Int) then (if 0 ≤ (wrap64 (a1 - 1)) then (if (wrap64 (a1 - 1)) < (l0.length : Int) then (if a2 < ((rd_L1 l0 (wrap64 (a1 - 1))).length : Int) then (if 0 ≤ (wrap64 (a1 + 1)) then (if (wrap64 (a1 + 1)) < (l0.length : Int) then (if a2 < ((rd_L1 l0 (wrap64 (a1 + 1))).length : Int) then (if 0 ≤ (wrap64 (a2 - 1)) then (if (wrap64 (a2 - 1)) < ((rd_L1 l0 a1).length : Int) then (if 0 ≤ (wrap64 (a2 + 1)) then (if (wrap64 (a2 + 1)) < ((rd_L1 l0 a1).length : Int) then ((some (([rd (rd_L1 l0 (wrap64 (a1 - 1))) a2, rd (rd_L1 l0 (wrap64 (a1 + 1))) a2, rd (rd_L1 l0 a1) (wrap64 (a2 - 1)), rd (rd_L1 l0 a1) (wrap64 (a2 + 1))] : List Int) : List Int)).bind fun y809 => ((spec_l1All.f k y809 (wrap64 ((rd (rd_L1 l0 a1) a2) + 1)) (wrap64 ((rd (rd_L1 l0 a1) a2) + 1))).bind fun t812 => (if t812 = true then (some 1) else ((spec_l1All.f k y809 (wrap64 ((rd (rd_L1 l0 a1) a2) - 1)) (wrap64 ((rd (rd_L1 l0 a1) a2) - 1))).bind fun t813 => (if t813 = true then (some (-1)) else (some 0)))))) else (none)) else (none)) else (none)) else (none)) else (none)) else (none)) else (none)) else (none)) else (none)) else (none)) else (none)) else (none)) else (none)) else (none)) = some r := h; clear h
 by_cases c4 : 0 ≤ a1
 ·rw [if_pos c4] at H
  have c4b0 : decide (0 ≤ a1) = true := decide_eq_true c4; clear c4
  by_cases c5 : a1 < (l0.length : Int)
  ·rw [if_pos c5] at H
   have c5b0 : decide (a1 < (l0.length : Int)) = true := decide_eq_true c5; clear c5
   by_cases c6 : 0 ≤ a2
   ·rw [if_pos c6] at H
    have c6b0 : decide (0 ≤ a2) = true := decide_eq_true c6; clear c6
    by_cases c7 : a2 < ((rd_L1 l0 a1).length : Int)
    ·rw [if_pos c7] at H
     have c7b0 : decide (a2 < ((rd_L1 l0 a1).length : Int)) = true := decide_eq_true c7; clear c7
     obtain ⟨ji8, hji8⟩ : ∃ j_ : Int, (wrap64 (a1 - 1)) = j_ := ⟨_, rfl⟩
     replace H : (if 0 ≤ (ji8) then (if (ji8) < (l0.length : Int) then (if a2 < ((rd_L1 l0 (ji8)).length : Int) then (if 0 ≤ (wrap64 (a1 + 1)) then (if (wrap64 (a1 + 1)) < (l0.length : Int) then (if a2 < ((rd_L1 l0 (wrap64 (a1 + 1))).length : Int) then (if 0 ≤ (wrap64 (a2 - 1)) then (if (wrap64 (a2 - 1)) < ((rd_L1 l0 a1).length : Int) then (if 0 ≤ (wrap64 (a2 + 1)) then (if (wrap64 (a2 + 1)) < ((rd_L1 l0 a1).length : Int) then ((some (([rd (rd_L1 l0 (ji8)) a2, rd (rd_L1 l0 (wrap64 (a1 + 1))) a2, rd (rd_L1 l0 a1) (wrap64 (a2 - 1)), rd (rd_L1 l0 a1) (wrap64 (a2 + 1))] : List Int) : List Int)).bind fun y809 => ((spec_l1All.f k y809 (wrap64 ((rd (rd_L1 l0 a1) a2) + 1)) (wrap64 ((rd (rd_L1 l0 a1) a2) + 1))).bind fun t812 => (if t812 = true then (some 1) else ((spec_l1All.f k y809 (wrap64 ((rd (rd_L1 l0 a1) a2) - 1)) (wrap64 ((rd (rd_L1 l0 a1) a2) - 1))).bind fun t813 => (if t813 = true then (some (-1)) else (some 0)))))) else (none)) else (none)) else (none)) else (none)) else (none)) else (none)) else (none)) else (none)) else (none)) else (none)) = some r := by first | (rw [hji8] at H; exact H) | (simp only [hji8] at H ⊢; exact H)
     have hji8w : (IntKind.i64.wrap (a1 - 1)) = ji8 := (i64_w _).trans hji8
     by_cases c9 : 0 ≤ (ji8)
     ·rw [if_pos c9] at H
      have c9b0 : decide (0 ≤ (ji8)) = true := decide_eq_true c9; clear c9
      by_cases c10 : (ji8) < (l0.length : Int)
      ·rw [if_pos c10] at H
       have c10b0 : decide ((ji8) < (l0.length : Int)) = true := decide_eq_true c10; clear c10
       by_cases c11 : a2 < ((rd_L1 l0 (ji8)).length : Int)
       ·rw [if_pos c11] at H
        have c11b0 : decide (a2 < ((rd_L1 l0 (ji8)).length : Int)) = true := decide_eq_true c11; clear c11
        obtain ⟨ji12, hji12⟩ : ∃ j_ : Int, (wrap64 (a1 + 1)) = j_ := ⟨_, rfl⟩
        replace H : (if 0 ≤ (ji12) then (if (ji12) < (l0.length : Int) then (if a2 < ((rd_L1 l0 (ji12)).length : Int) then (if 0 ≤ (wrap64 (a2 - 1)) then (if (wrap64 (a2 - 1)) < ((rd_L1 l0 a1).length : Int) then (if 0 ≤ (wrap64 (a2 + 1)) then (if (wrap64 (a2 + 1)) < ((rd_L1 l0 a1).length : Int) then ((some (([rd (rd_L1 l0 (ji8)) a2, rd (rd_L1 l0 (ji12)) a2, rd (rd_L1 l0 a1) (wrap64 (a2 - 1)), rd (rd_L1 l0 a1) (wrap64 (a2 + 1))] : List Int) : List Int)).bind fun y809 => ((spec_l1All.f k y809 (wrap64 ((rd (rd_L1 l0 a1) a2) + 1)) (wrap64 ((rd (rd_L1 l0 a1) a2) + 1))).bind fun t812 => (if t812 = true then (some 1) else ((spec_l1All.f k y809 (wrap64 ((rd (rd_L1 l0 a1) a2) - 1)) (wrap64 ((rd (rd_L1 l0 a1) a2) - 1))).bind fun t813 => (if t813 = true then (some (-1)) else (some 0)))))) else (none)) else (none)) else (none)) else (none)) else (none)) else (none)) else (none)) = some r := by first | (rw [hji12] at H; exact H) | (simp only [hji12] at H ⊢; exact H)
        have hji12w : (IntKind.i64.wrap (a1 + 1)) = ji12 := (i64_w _).trans hji12
        by_cases c13 : 0 ≤ (ji12)
        ·rw [if_pos c13] at H
         have c13b0 : decide (0 ≤ (ji12)) = true := decide_eq_true c13; clear c13
         by_cases c14 : (ji12) < (l0.length : Int)
         ·rw [if_pos c14] at H
          have c14b0 : decide ((ji12) < (l0.length : Int)) = true := decide_eq_true c14; clear c14
          by_cases c15 : a2 < ((rd_L1 l0 (ji12)).length : Int)
          ·rw [if_pos c15] at H
           have c15b0 : decide (a2 < ((rd_L1 l0 (ji12)).length : Int)) = true := decide_eq_true c15; clear c15
           obtain ⟨ji16, hji16⟩ : ∃ j_ : Int, (wrap64 (a2 - 1)) = j_ := ⟨_, rfl⟩
           replace H : (if 0 ≤ (ji16) then (if (ji16) < ((rd_L1 l0 a1).length : Int) then (if 0 ≤ (wrap64 (a2 + 1)) then (if (wrap64 (a2 + 1)) < ((rd_L1 l0 a1).length : Int) then ((some (([rd (rd_L1 l0 (ji8)) a2, rd (rd_L1 l0 (ji12)) a2, rd (rd_L1 l0 a1) (ji16), rd (rd_L1 l0 a1) (wrap64 (a2 + 1))] : List Int) : List Int)).bind fun y809 => ((spec_l1All.f k y809 (wrap64 ((rd (rd_L1 l0 a1) a2) + 1)) (wrap64 ((rd (rd_L1 l0 a1) a2) + 1))).bind fun t812 => (if t812 = true then (some 1) else ((spec_l1All.f k y809 (wrap64 ((rd (rd_L1 l0 a1) a2) - 1)) (wrap64 ((rd (rd_L1 l0 a1) a2) - 1))).bind fun t813 => (if t813 = true then (some (-1)) else (some 0)))))) else (none)) else (none)) else (none)) else (none)) = some r := by first | (rw [hji16] at H; exact H) | (simp only [hji16] at H ⊢; exact H)
           have hji16w : (IntKind.i64.wrap (a2 - 1)) = ji16 := (i64_w _).trans hji16
           by_cases c17 : 0 ≤ (ji16)
           ·rw [if_pos c17] at H
            have c17b0 : decide (0 ≤ (ji16)) = true := decide_eq_true c17; clear c17
            by_cases c18 : (ji16) < ((rd_L1 l0 a1).length : Int)
            ·rw [if_pos c18] at H
             have c18b0 : decide ((ji16) < ((rd_L1 l0 a1).length : Int)) = true := decide_eq_true c18; clear c18
             obtain ⟨ji19, hji19⟩ : ∃ j_ : Int, (wrap64 (a2 + 1)) = j_ := ⟨_, rfl⟩
             replace H : (if 0 ≤ (ji19) then (if (ji19) < ((rd_L1 l0 a1).length : Int) then ((some (([rd (rd_L1 l0 (ji8)) a2, rd (rd_L1 l0 (ji12)) a2, rd (rd_L1 l0 a1) (ji16), rd (rd_L1 l0 a1) (ji19)] : List Int) : List Int)).bind fun y809 => ((spec_l1All.f k y809 (wrap64 ((rd (rd_L1 l0 a1) a2) + 1)) (wrap64 ((rd (rd_L1 l0 a1) a2) + 1))).bind fun t812 => (if t812 = true then (some 1) else ((spec_l1All.f k y809 (wrap64 ((rd (rd_L1 l0 a1) a2) - 1)) (wrap64 ((rd (rd_L1 l0 a1) a2) - 1))).bind fun t813 => (if t813 = true then (some (-1)) else (some 0)))))) else (none)) else (none)) = some r := by first | (rw [hji19] at H; exact H) | (simp only [hji19] at H ⊢; exact H)
             have hji19w : (IntKind.i64.wrap (a2 + 1)) = ji19 := (i64_w _).trans hji19
             by_cases c20 : 0 ≤ (ji19)
             ·rw [if_pos c20] at H
              have c20b0 : decide (0 ≤ (ji19)) = true := decide_eq_true c20; clear c20
              by_cases c21 : (ji19) < ((rd_L1 l0 a1).length : Int)
              ·rw [if_pos c21] at H
               have c21b0 : decide ((ji19) < ((rd_L1 l0 a1).length : Int)) = true := decide_eq_true c21; clear c21
               obtain ⟨y809, hy809⟩ : ∃ y_ : List Int, y_ = (([rd (rd_L1 l0 (ji8)) a2, rd (rd_L1 l0 (ji12)) a2, rd (rd_L1 l0 a1) (ji16), rd (rd_L1 l0 a1) (ji19)] : List Int)) := ⟨_, rfl⟩
               replace H : ((spec_l1All.f k y809 (wrap64 ((rd (rd_L1 l0 a1) a2) + 1)) (wrap64 ((rd (rd_L1 l0 a1) a2) + 1))).bind fun t812 => (if t812 = true then (some 1) else ((spec_l1All.f k y809 (wrap64 ((rd (rd_L1 l0 a1) a2) - 1)) (wrap64 ((rd (rd_L1 l0 a1) a2) - 1))).bind fun t813 => (if t813 = true then (some (-1)) else (some 0))))) = some r := by first | (rw [hy809]; with_reducible exact H) | (have H2_ := (Option.bind_some _ _).symm.trans H; rw [hy809]; with_reducible exact H2_) | (have H2_ := (Option.bind_some _ _).symm.trans H; with_reducible exact H2_) | with_reducible exact H | (rw [hy809]; exact H) | exact H
               have Ny809 := Aside0.mk hy809; clear hy809; replace H := Option.bind_eq_some_iff.mp H; obtain ⟨t812, A220, H⟩ := H; replace H : (if t812 = true then (some 1) else ((spec_l1All.f k y809 (wrap64 ((rd (rd_L1 l0 a1) a2) - 1)) (wrap64 ((rd (rd_L1 l0 a1) a2) - 1))).bind fun t813 => (if t813 = true then (some (-1)) else (some 0)))) = some r := H; have A22 := Aside0.mk A220; clear A220
               by_cases c23 : t812 = true
               ·subst c23
                have H1 : (some 1) = some r := by rw [if_pos rfl] at H; exact H
                clear H; have H := H1; clear H1; obtain rfl := Option.some.inj H; have p799 : 0 ≤ (a1 : Int) := of_decide_eq_true (by first | (with_reducible assumption) | assumption); have q799 : a1 < (l0.length : Int) := of_decide_eq_true (by first | (with_reducible assumption) | assumption); obtain ⟨ad799, A799_0, c799_0, e799, hx799_0, hl799_0, hi799_0⟩ := at_L1 HR0.out a1 p799 q799
                cases e799
                have HR799_0 := Aside0.mk hi799_0; have HC799_0 := Aside0.mk hl799_0; clear hi799_0 hl799_0; replace p799 := eq_true p799; replace q799 := eq_true q799; have p800 : 0 ≤ (a2 : Int) := of_decide_eq_true (by first | (with_reducible assumption) | assumption); have q800 : a2 < ((rd_L1 l0 a1).length : Int) := of_decide_eq_true (by first | (with_reducible assumption) | assumption); obtain ⟨ad800, e800, hx800_0⟩ := Kd.at_int HR799_0.out a2 p800 q800
                cases e800
                replace p800 := eq_true p800; replace q800 := eq_true q800; go_enter Try.func148, Try.ntmps148
                try go_wp2
                have n0_ := Aside0.mk (below_drew1 HB.out); clear HB; have HB := n0_; clear n0_; have p801 : 0 ≤ ((ji8) : Int) := of_decide_eq_true (by first | (with_reducible assumption) | assumption); have q801 : (ji8) < (l0.length : Int) := of_decide_eq_true (by first | (with_reducible assumption) | assumption); obtain ⟨ad801, A801_0, c801_0, e801, hx801_0, hl801_0, hi801_0⟩ := at_L1 HR0.out (ji8) p801 q801; have hw801_0 := hx801_0
                obtain rfl : ad799 = ad801 := (by injection e801)
                (try replace hx801_0 := (HB.out.cell (World.block_lt_of_cell? w _ hx801_0)).trans hx801_0)
                have HR801_0 := Aside0.mk hi801_0; have HC801_0 := Aside0.mk hl801_0; clear hi801_0 hl801_0; replace p801 := eq_true p801; replace q801 := eq_true q801; have p802 : 0 ≤ (a2 : Int) := of_decide_eq_true (by first | (with_reducible assumption) | assumption); have q802 : a2 < ((rd_L1 l0 (ji8)).length : Int) := of_decide_eq_true (by first | (with_reducible assumption) | assumption); obtain ⟨ad802, e802, hx802_0⟩ := Kd.at_int HR801_0.out a2 p802 q802; have hw802_0 := hx802_0
                cases e802
                (try replace hx802_0 := (HB.out.cell (World.block_lt_of_cell? w _ hx802_0)).trans hx802_0)
                replace p802 := eq_true p802; replace q802 := eq_true q802; have p803 : 0 ≤ ((ji12) : Int) := of_decide_eq_true (by first | (with_reducible assumption) | assumption); have q803 : (ji12) < (l0.length : Int) := of_decide_eq_true (by first | (with_reducible assumption) | assumption); obtain ⟨ad803, A803_0, c803_0, e803, hx803_0, hl803_0, hi803_0⟩ := at_L1 HR0.out (ji12) p803 q803; have hw803_0 := hx803_0
                obtain rfl : ad799 = ad803 := (by injection e803)
                (try replace hx803_0 := (HB.out.cell (World.block_lt_of_cell? w _ hx803_0)).trans hx803_0)
                have HR803_0 := Aside0.mk hi803_0; have HC803_0 := Aside0.mk hl803_0; clear hi803_0 hl803_0; replace p803 := eq_true p803; replace q803 := eq_true q803; have p804 : 0 ≤ (a2 : Int) := of_decide_eq_true (by first | (with_reducible assumption) | assumption); have q804 : a2 < ((rd_L1 l0 (ji12)).length : Int) := of_decide_eq_true (by first | (with_reducible assumption) | assumption); obtain ⟨ad804, e804, hx804_0⟩ := Kd.at_int HR803_0.out a2 p804 q804; have hw804_0 := hx804_0
                cases e804
                (try replace hx804_0 := (HB.out.cell (World.block_lt_of_cell? w _ hx804_0)).trans hx804_0)
                replace p804 := eq_true p804; replace q804 := eq_true q804; have p805 : 0 ≤ (a1 : Int) := of_decide_eq_true (by first | (with_reducible assumption) | assumption); have q805 : a1 < (l0.length : Int) := of_decide_eq_true (by first | (with_reducible assumption) | assumption); obtain ⟨ad805, A805_0, c805_0, e805, hx805_0, hl805_0, hi805_0⟩ := at_L1 HR0.out a1 p805 q805; have hw805_0 := hx805_0
                obtain rfl : ad799 = ad805 := (by injection e805)
                (try replace hx805_0 := (HB.out.cell (World.block_lt_of_cell? w _ hx805_0)).trans hx805_0)
                have HR805_0 := Aside0.mk hi805_0; have HC805_0 := Aside0.mk hl805_0; clear hi805_0 hl805_0; replace p805 := eq_true p805; replace q805 := eq_true q805; have p806 : 0 ≤ ((ji16) : Int) := of_decide_eq_true (by first | (with_reducible assumption) | assumption); have q806 : (ji16) < ((rd_L1 l0 a1).length : Int) := of_decide_eq_true (by first | (with_reducible assumption) | assumption); obtain ⟨ad806, e806, hx806_0⟩ := Kd.at_int HR805_0.out (ji16) p806 q806; have hw806_0 := hx806_0
                cases e806
                (try replace hx806_0 := (HB.out.cell (World.block_lt_of_cell? w _ hx806_0)).trans hx806_0)
                replace p806 := eq_true p806; replace q806 := eq_true q806; have p807 : 0 ≤ (a1 : Int) := of_decide_eq_true (by first | (with_reducible assumption) | assumption); have q807 : a1 < (l0.length : Int) := of_decide_eq_true (by first | (with_reducible assumption) | assumption); obtain ⟨ad807, A807_0, c807_0, e807, hx807_0, hl807_0, hi807_0⟩ := at_L1 HR0.out a1 p807 q807; have hw807_0 := hx807_0
                obtain rfl : ad799 = ad807 := (by injection e807)
                (try replace hx807_0 := (HB.out.cell (World.block_lt_of_cell? w _ hx807_0)).trans hx807_0)
                have HR807_0 := Aside0.mk hi807_0; have HC807_0 := Aside0.mk hl807_0; clear hi807_0 hl807_0; replace p807 := eq_true p807; replace q807 := eq_true q807; have ea_ := Option.some.inj (hx805_0.symm.trans hx807_0); injection ea_ with ea_ en_ ec_; subst ea_; subst ec_; clear en_; have p808 : 0 ≤ ((ji19) : Int) := of_decide_eq_true (by first | (with_reducible assumption) | assumption); have q808 : (ji19) < ((rd_L1 l0 a1).length : Int) := of_decide_eq_true (by first | (with_reducible assumption) | assumption); obtain ⟨ad808, e808, hx808_0⟩ := Kd.at_int HR807_0.out (ji19) p808 q808; have hw808_0 := hx808_0
                cases e808
                (try replace hx808_0 := (HB.out.cell (World.block_lt_of_cell? w _ hx808_0)).trans hx808_0)
                replace p808 := eq_true p808; replace q808 := eq_true q808
                refine start_ (n := 34) (S := fun w' => w'.cell? (ad799.add ((ji8)).toNat) = some (.slice (some ad802) (rd_L1 l0 (ji8)).length c801_0) ∧ w'.cell? (ad802.add (a2).toNat) = some (.int .i64 (rd (rd_L1 l0 (ji8)) a2)) ∧ w'.cell? (ad799.add ((ji12)).toNat) = some (.slice (some ad804) (rd_L1 l0 (ji12)).length c803_0) ∧ w'.cell? (ad804.add (a2).toNat) = some (.int .i64 (rd (rd_L1 l0 (ji12)) a2)) ∧ w'.cell? (ad799.add (a1).toNat) = some (.slice (some ad806) (rd_L1 l0 a1).length c805_0) ∧ w'.cell? (ad806.add ((ji16)).toNat) = some (.int .i64 (rd (rd_L1 l0 a1) (ji16))) ∧ w'.cell? (ad799.add (a1).toNat) = some (.slice (some ad806) (rd_L1 l0 a1).length c805_0) ∧ w'.cell? (ad806.add ((ji19)).toNat) = some (.int .i64 (rd (rd_L1 l0 a1) (ji19)))) (ds := []) #[fF, fF, fF, fF, fF, fF, fF, fF, fF, fF, fF, fF, fF, fF, fF, fF, fF, fF, fF, fF, fF, fF, fF, fF, fF, fF, fF, fF, fF, fF, fF, fF, fF, fF] (by kernel_rfl) rfl rfl ⟨((HB.out.cell (World.block_lt_of_cell? w _ hw801_0)).trans hw801_0), ((HB.out.cell (World.block_lt_of_cell? w _ hw802_0)).trans hw802_0), ((HB.out.cell (World.block_lt_of_cell? w _ hw803_0)).trans hw803_0), ((HB.out.cell (World.block_lt_of_cell? w _ hw804_0)).trans hw804_0), ((HB.out.cell (World.block_lt_of_cell? w _ hw805_0)).trans hw805_0), ((HB.out.cell (World.block_lt_of_cell? w _ hw806_0)).trans hw806_0), ((HB.out.cell (World.block_lt_of_cell? w _ hw807_0)).trans hw807_0), ((HB.out.cell (World.block_lt_of_cell? w _ hw808_0)).trans hw808_0)⟩ (fun hHeld => ?_); refine with_tabW spec_heWay.tab2 spec_heWay.bits2 (fun HT_ HW_ => ?_)
                generalize w.drew = w24 at HB HR801_0 HR803_0 HR805_0 HR807_0 hx801_0 hx802_0 hx803_0 hx804_0 hx805_0 hx806_0 hx807_0 hx808_0 hHeld ⊢; refine pure_ (i := 0) (N := some 16) (v := ?_) (a' := ?_) #[tT, fF, fF, fF, fF, fF, fF, fF, fF, fF, fF, fF, fF, fF, fF, fF, fF, fF, fF, fF, fF, fF, fF, fF, fF, fF, fF, fF, fF, fF, fF, fF, fF, fF] rfl rfl (any_of HT_.out (by kernel_rfl)) (fun _ _ _ h => h) (Or.inl ⟨by rfl, ?_⟩) ?_ ?_; rotate_left
                ·intro w'; go_simp; with_reducible rfl
                rotate_left
                ·simp only [Act.put, List.setIfInBounds_toArray, List.set_cons_zero, List.set_cons_succ, i64_w, i32_w]; rfl
                refine pure_ (i := 1) (N := some 17) (v := ?_) (a' := ?_) #[tT, tT, fF, fF, fF, fF, fF, fF, fF, fF, fF, fF, fF, fF, fF, fF, fF, fF, fF, fF, fF, fF, fF, fF, fF, fF, fF, fF, fF, fF, fF, fF, fF, fF] rfl rfl (any_of HT_.out (by kernel_rfl)) (fun _ _ _ h => h) (Or.inl ⟨by rfl, ?_⟩) ?_ ?_; rotate_left
                ·intro w'; go_simp; with_reducible rfl
                rotate_left
                ·simp only [Act.put, List.setIfInBounds_toArray, List.set_cons_zero, List.set_cons_succ, i64_w, i32_w]; rfl
                refine pure_ (i := 2) (N := some 18) (v := ?_) (a' := ?_) #[tT, tT, tT, fF, fF, fF, fF, fF, fF, fF, fF, fF, fF, fF, fF, fF, fF, fF, fF, fF, fF, fF, fF, fF, fF, fF, fF, fF, fF, fF, fF, fF, fF, fF] rfl rfl (any_of HT_.out (by kernel_rfl)) (fun _ _ _ h => h) (Or.inl ⟨by rfl, ?_⟩) ?_ ?_; rotate_left
                ·intro w'; go_simp; with_reducible rfl
                rotate_left
                ·simp only [Act.put, List.setIfInBounds_toArray, List.set_cons_zero, List.set_cons_succ, i64_w, i32_w]; rfl
                refine pure_ (i := 3) (N := some 19) (v := ?_) (a' := ?_) #[tT, tT, tT, tT, fF, fF, fF, fF, fF, fF, fF, fF, fF, fF, fF, fF, fF, fF, fF, fF, fF, fF, fF, fF, fF, fF, fF, fF, fF, fF, fF, fF, fF, fF] rfl rfl (any_of HT_.out (by kernel_rfl)) (fun _ _ _ h => h) (Or.inl ⟨by rfl, ?_⟩) ?_ ?_; rotate_left
                ·intro w'; go_simp; with_reducible rfl
                rotate_left
                ·simp only [Act.put, List.setIfInBounds_toArray, List.set_cons_zero, List.set_cons_succ, i64_w, i32_w]; rfl
                refine pure_ (i := 5) (N := some 21) (v := ?_) (a' := ?_) #[tT, tT, tT, tT, fF, tT, fF, fF, fF, fF, fF, fF, fF, fF, fF, fF, fF, fF, fF, fF, fF, fF, fF, fF, fF, fF, fF, fF, fF, fF, fF, fF, fF, fF] rfl rfl (any_of HT_.out (by kernel_rfl)) (fun _ _ _ h => h) (Or.inl ⟨by rfl, ?_⟩) ?_ ?_; rotate_left
                ·intro w'; go_simp; with_reducible rfl
                rotate_left
                ·simp only [Act.put, List.setIfInBounds_toArray, List.set_cons_zero, List.set_cons_succ, i64_w, i32_w]; rfl
                refine pure_ (i := 8) (N := some 24) (v := ?_) (a' := ?_) #[tT, tT, tT, tT, fF, tT, fF, fF, tT, fF, fF, fF, fF, fF, fF, fF, fF, fF, fF, fF, fF, fF, fF, fF, fF, fF, fF, fF, fF, fF, fF, fF, fF, fF] rfl rfl (any_of HT_.out (by kernel_rfl)) (fun _ _ _ h => h) (Or.inl ⟨by rfl, ?_⟩) ?_ ?_; rotate_left
                ·intro w'; go_simp; with_reducible rfl
                rotate_left
                ·simp only [Act.put, List.setIfInBounds_toArray, List.set_cons_zero, List.set_cons_succ, i64_w, i32_w]; rfl
                refine pure_ (i := 9) (N := some 25) (v := ?_) (a' := ?_) #[tT, tT, tT, tT, fF, tT, fF, fF, tT, tT, fF, fF, fF, fF, fF, fF, fF, fF, fF, fF, fF, fF, fF, fF, fF, fF, fF, fF, fF, fF, fF, fF, fF, fF] rfl rfl (any_of HT_.out (by kernel_rfl)) (fun _ _ _ h => h) (Or.inl ⟨by rfl, ?_⟩) ?_ ?_; rotate_left
                ·intro w'; go_simp; with_reducible rfl
                rotate_left
                ·simp only [Act.put, List.setIfInBounds_toArray, List.set_cons_zero, List.set_cons_succ, i64_w, i32_w]; rfl
                refine pure_ (i := 10) (N := some 26) (v := ?_) (a' := ?_) #[tT, tT, tT, tT, fF, tT, fF, fF, tT, tT, tT, fF, fF, fF, fF, fF, fF, fF, fF, fF, fF, fF, fF, fF, fF, fF, fF, fF, fF, fF, fF, fF, fF, fF] rfl rfl (any_of HT_.out (by kernel_rfl)) (fun _ _ _ h => h) (Or.inl ⟨by rfl, ?_⟩) ?_ ?_; rotate_left
                ·intro w'; go_simp; with_reducible rfl
                rotate_left
                ·simp only [Act.put, List.setIfInBounds_toArray, List.set_cons_zero, List.set_cons_succ, i64_w, i32_w]; rfl
                refine pure_ (i := 11) (N := some 27) (v := ?_) (a' := ?_) #[tT, tT, tT, tT, fF, tT, fF, fF, tT, tT, tT, tT, fF, fF, fF, fF, fF, fF, fF, fF, fF, fF, fF, fF, fF, fF, fF, fF, fF, fF, fF, fF, fF, fF] rfl rfl (any_of HT_.out (by kernel_rfl)) (fun _ _ _ h => h) (Or.inl ⟨by rfl, ?_⟩) ?_ ?_; rotate_left
                ·intro w'; go_simp; with_reducible rfl
                rotate_left
                ·simp only [Act.put, List.setIfInBounds_toArray, List.set_cons_zero, List.set_cons_succ, i64_w, i32_w]; rfl
                refine pure_ (i := 13) (N := some 29) (v := ?_) (a' := ?_) #[tT, tT, tT, tT, fF, tT, fF, fF, tT, tT, tT, tT, fF, tT, fF, fF, fF, fF, fF, fF, fF, fF, fF, fF, fF, fF, fF, fF, fF, fF, fF, fF, fF, fF] rfl rfl (any_of HT_.out (by kernel_rfl)) (fun _ _ _ h => h) (Or.inl ⟨by rfl, ?_⟩) ?_ ?_; rotate_left
                ·intro w'; go_simp; with_reducible rfl
                rotate_left
                ·simp only [Act.put, List.setIfInBounds_toArray, List.set_cons_zero, List.set_cons_succ, i64_w, i32_w]; rfl
                refine pure_ (i := 16) (N := some 32) (v := ?_) (a' := ?_) #[tT, tT, tT, tT, fF, tT, fF, fF, tT, tT, tT, tT, fF, tT, fF, fF, tT, fF, fF, fF, fF, fF, fF, fF, fF, fF, fF, fF, fF, fF, fF, fF, fF, fF] rfl rfl (any_of HT_.out (by kernel_rfl)) (fun _ _ _ h => h) (Or.inl ⟨by rfl, ?_⟩) ?_ ?_; rotate_left
                ·intro w'; go_simp; with_reducible rfl
                rotate_left
                ·simp only [Act.put, List.setIfInBounds_toArray, List.set_cons_zero, List.set_cons_succ, i64_w, i32_w]; rfl
                refine pure_ (i := 17) (N := some 33) (v := ?_) (a' := ?_) #[tT, tT, tT, tT, fF, tT, fF, fF, tT, tT, tT, tT, fF, tT, fF, fF, tT, tT, fF, fF, fF, fF, fF, fF, fF, fF, fF, fF, fF, fF, fF, fF, fF, fF] rfl rfl (any_of HT_.out (by kernel_rfl)) (fun _ _ _ h => h) (Or.inl ⟨by rfl, ?_⟩) ?_ ?_; rotate_left
                ·intro w'; go_simp; with_reducible rfl
                rotate_left
                ·simp only [Act.put, List.setIfInBounds_toArray, List.set_cons_zero, List.set_cons_succ, i64_w, i32_w]; rfl
                refine pure_ (i := 18) (N := some 34) (v := ?_) (a' := ?_) #[tT, tT, tT, tT, fF, tT, fF, fF, tT, tT, tT, tT, fF, tT, fF, fF, tT, tT, tT, fF, fF, fF, fF, fF, fF, fF, fF, fF, fF, fF, fF, fF, fF, fF] rfl rfl (any_of HT_.out (by kernel_rfl)) (fun _ _ _ h => h) (Or.inl ⟨by rfl, ?_⟩) ?_ ?_; rotate_left
                ·intro w'; go_simp; with_reducible rfl
                rotate_left
                ·simp only [Act.put, List.setIfInBounds_toArray, List.set_cons_zero, List.set_cons_succ, i64_w, i32_w]; rfl
                refine pure_ (i := 20) (N := some 36) (v := ?_) (a' := ?_) #[tT, tT, tT, tT, fF, tT, fF, fF, tT, tT, tT, tT, fF, tT, fF, fF, tT, tT, tT, fF, tT, fF, fF, fF, fF, fF, fF, fF, fF, fF, fF, fF, fF, fF] rfl rfl (any_of HT_.out (by kernel_rfl)) (fun _ _ _ h => h) (Or.inl ⟨by rfl, ?_⟩) ?_ ?_; rotate_left
                ·intro w'; go_simp; with_reducible rfl
                rotate_left
                ·simp only [Act.put, List.setIfInBounds_toArray, List.set_cons_zero, List.set_cons_succ, i64_w, i32_w]; rfl
                refine pure_ (i := 21) (N := some 37) (v := ?_) (a' := ?_) #[tT, tT, tT, tT, fF, tT, fF, fF, tT, tT, tT, tT, fF, tT, fF, fF, tT, tT, tT, fF, tT, tT, fF, fF, fF, fF, fF, fF, fF, fF, fF, fF, fF, fF] rfl rfl (any_of HT_.out (by kernel_rfl)) (fun _ _ _ h => h) (Or.inl ⟨by rfl, ?_⟩) ?_ ?_; rotate_left
                ·intro w'; go_simp; with_reducible rfl
                rotate_left
                ·simp only [Act.put, List.setIfInBounds_toArray, List.set_cons_zero, List.set_cons_succ, i64_w, i32_w]; rfl
                refine pure_ (i := 24) (N := some 40) (v := ?_) (a' := ?_) #[tT, tT, tT, tT, fF, tT, fF, fF, tT, tT, tT, tT, fF, tT, fF, fF, tT, tT, tT, fF, tT, tT, fF, fF, tT, fF, fF, fF, fF, fF, fF, fF, fF, fF] rfl rfl (any_of HT_.out (by kernel_rfl)) (fun _ _ _ h => h) (Or.inl ⟨by rfl, ?_⟩) ?_ ?_; rotate_left
                ·intro w'; go_simp; with_reducible rfl
                rotate_left
                ·simp only [Act.put, List.setIfInBounds_toArray, List.set_cons_zero, List.set_cons_succ, i64_w, i32_w]; rfl
                refine pure_ (i := 25) (N := some 41) (v := ?_) (a' := ?_) #[tT, tT, tT, tT, fF, tT, fF, fF, tT, tT, tT, tT, fF, tT, fF, fF, tT, tT, tT, fF, tT, tT, fF, fF, tT, tT, fF, fF, fF, fF, fF, fF, fF, fF] rfl rfl (any_of HT_.out (by kernel_rfl)) (fun _ _ _ h => h) (Or.inl ⟨by rfl, ?_⟩) ?_ ?_; rotate_left
                ·intro w'; go_simp; with_reducible rfl
                rotate_left
                ·simp only [Act.put, List.setIfInBounds_toArray, List.set_cons_zero, List.set_cons_succ, i64_w, i32_w]; rfl
                refine pure_ (i := 26) (N := some 42) (v := ?_) (a' := ?_) #[tT, tT, tT, tT, fF, tT, fF, fF, tT, tT, tT, tT, fF, tT, fF, fF, tT, tT, tT, fF, tT, tT, fF, fF, tT, tT, tT, fF, fF, fF, fF, fF, fF, fF] rfl rfl (any_of HT_.out (by kernel_rfl)) (fun _ _ _ h => h) (Or.inl ⟨by rfl, ?_⟩) ?_ ?_; rotate_left
                ·intro w'; go_simp; with_reducible rfl
                rotate_left
                ·simp only [Act.put, List.setIfInBounds_toArray, List.set_cons_zero, List.set_cons_succ, i64_w, i32_w]; rfl
                refine pure_ (i := 28) (N := some 44) (v := ?_) (a' := ?_) #[tT, tT, tT, tT, fF, tT, fF, fF, tT, tT, tT, tT, fF, tT, fF, fF, tT, tT, tT, fF, tT, tT, fF, fF, tT, tT, tT, fF, tT, fF, fF, fF, fF, fF] rfl rfl (any_of HT_.out (by kernel_rfl)) (fun _ _ _ h => h) (Or.inl ⟨by rfl, ?_⟩) ?_ ?_; rotate_left
                ·intro w'; go_simp; with_reducible rfl
                rotate_left
                ·simp only [Act.put, List.setIfInBounds_toArray, List.set_cons_zero, List.set_cons_succ, i64_w, i32_w]; rfl
                refine pure_ (i := 29) (N := some 45) (v := ?_) (a' := ?_) #[tT, tT, tT, tT, fF, tT, fF, fF, tT, tT, tT, tT, fF, tT, fF, fF, tT, tT, tT, fF, tT, tT, fF, fF, tT, tT, tT, fF, tT, tT, fF, fF, fF, fF] rfl rfl (any_of HT_.out (by kernel_rfl)) (fun _ _ _ h => h) (Or.inl ⟨by rfl, ?_⟩) ?_ ?_; rotate_left
                ·intro w'; go_simp; with_reducible rfl
                rotate_left
                ·simp only [Act.put, List.setIfInBounds_toArray, List.set_cons_zero, List.set_cons_succ, i64_w, i32_w]; rfl
                refine take_ (i := 4) (N := some 20) (v := ?_) (a' := ?_) #[tT, tT, tT, tT, tT, tT, fF, fF, tT, tT, tT, tT, fF, tT, fF, fF, tT, tT, tT, fF, tT, tT, fF, fF, tT, tT, tT, fF, tT, tT, fF, fF, fF, fF] rfl rfl (take_ofW HT_.out HW_.out (by kernel_rfl)) (fun _ _ _ h => h) (Or.inl ⟨by rfl, ?_⟩) hHeld ?_ ?_; rotate_left
                ·rintro w' ⟨s0, s1, s2, s3, s4, s5, s6, s7⟩; go_simp; with_reducible rfl
                rotate_left
                ·simp only [Act.put, List.setIfInBounds_toArray, List.set_cons_zero, List.set_cons_succ, i64_w, i32_w]; rfl
                refine pure_ (i := 6) (N := some 22) (v := ?_) (a' := ?_) #[tT, tT, tT, tT, tT, tT, tT, fF, tT, tT, tT, tT, fF, tT, fF, fF, tT, tT, tT, fF, tT, tT, fF, fF, tT, tT, tT, fF, tT, tT, fF, fF, fF, fF] rfl rfl (any_of HT_.out (by kernel_rfl)) (fun _ _ _ h => h) (Or.inl ⟨by rfl, ?_⟩) ?_ ?_; rotate_left
                ·intro w'; go_simp; with_reducible rfl
                rotate_left
                ·simp only [Act.put, List.setIfInBounds_toArray, List.set_cons_zero, List.set_cons_succ, i64_w, i32_w]; rfl
                refine take_ (i := 7) (N := some 23) (v := ?_) (a' := ?_) #[tT, tT, tT, tT, tT, tT, tT, tT, tT, tT, tT, tT, fF, tT, fF, fF, tT, tT, tT, fF, tT, tT, fF, fF, tT, tT, tT, fF, tT, tT, fF, fF, fF, fF] rfl rfl (take_ofW HT_.out HW_.out (by kernel_rfl)) (fun _ _ _ h => h) (Or.inl ⟨by rfl, ?_⟩) hHeld ?_ ?_; rotate_left
                ·rintro w' ⟨s0, s1, s2, s3, s4, s5, s6, s7⟩; go_simp; with_reducible rfl
                rotate_left
                ·simp only [Act.put, List.setIfInBounds_toArray, List.set_cons_zero, List.set_cons_succ, i64_w, i32_w]; rfl
                refine take_ (i := 12) (N := some 28) (v := ?_) (a' := ?_) #[tT, tT, tT, tT, tT, tT, tT, tT, tT, tT, tT, tT, tT, tT, fF, fF, tT, tT, tT, fF, tT, tT, fF, fF, tT, tT, tT, fF, tT, tT, fF, fF, fF, fF] rfl rfl (take_ofW HT_.out HW_.out (by kernel_rfl)) (fun _ _ _ h => h) (Or.inl ⟨by rfl, ?_⟩) hHeld ?_ ?_; rotate_left
                ·rintro w' ⟨s0, s1, s2, s3, s4, s5, s6, s7⟩; go_simp; with_reducible rfl
                rotate_left
                ·simp only [Act.put, List.setIfInBounds_toArray, List.set_cons_zero, List.set_cons_succ, i64_w, i32_w]; rfl
                refine pure_ (i := 14) (N := some 30) (v := ?_) (a' := ?_) #[tT, tT, tT, tT, tT, tT, tT, tT, tT, tT, tT, tT, tT, tT, tT, fF, tT, tT, tT, fF, tT, tT, fF, fF, tT, tT, tT, fF, tT, tT, fF, fF, fF, fF] rfl rfl (any_of HT_.out (by kernel_rfl)) (fun _ _ _ h => h) (Or.inl ⟨by rfl, ?_⟩) ?_ ?_; rotate_left
                ·intro w'; go_simp; with_reducible rfl
                rotate_left
                ·simp only [Act.put, List.setIfInBounds_toArray, List.set_cons_zero, List.set_cons_succ, i64_w, i32_w]; rfl
                refine take_ (i := 15) (N := some 31) (v := ?_) (a' := ?_) #[tT, tT, tT, tT, tT, tT, tT, tT, tT, tT, tT, tT, tT, tT, tT, tT, tT, tT, tT, fF, tT, tT, fF, fF, tT, tT, tT, fF, tT, tT, fF, fF, fF, fF] rfl rfl (take_ofW HT_.out HW_.out (by kernel_rfl)) (fun _ _ _ h => h) (Or.inl ⟨by rfl, ?_⟩) hHeld ?_ ?_; rotate_left
                ·rintro w' ⟨s0, s1, s2, s3, s4, s5, s6, s7⟩; go_simp; with_reducible rfl
                rotate_left
                ·simp only [Act.put, List.setIfInBounds_toArray, List.set_cons_zero, List.set_cons_succ, i64_w, i32_w]; rfl
                refine take_ (i := 19) (N := some 35) (v := ?_) (a' := ?_) #[tT, tT, tT, tT, tT, tT, tT, tT, tT, tT, tT, tT, tT, tT, tT, tT, tT, tT, tT, tT, tT, tT, fF, fF, tT, tT, tT, fF, tT, tT, fF, fF, fF, fF] rfl rfl (take_ofW HT_.out HW_.out (by kernel_rfl)) (fun _ _ _ h => h) (Or.inl ⟨by rfl, ?_⟩) hHeld ?_ ?_; rotate_left
                ·rintro w' ⟨s0, s1, s2, s3, s4, s5, s6, s7⟩; go_simp; with_reducible rfl
                rotate_left
                ·simp only [Act.put, List.setIfInBounds_toArray, List.set_cons_zero, List.set_cons_succ, i64_w, i32_w]; rfl
                refine pure_ (i := 22) (N := some 38) (v := ?_) (a' := ?_) #[tT, tT, tT, tT, tT, tT, tT, tT, tT, tT, tT, tT, tT, tT, tT, tT, tT, tT, tT, tT, tT, tT, tT, fF, tT, tT, tT, fF, tT, tT, fF, fF, fF, fF] rfl rfl (any_of HT_.out (by kernel_rfl)) (fun _ _ _ h => h) (Or.inl ⟨by rfl, ?_⟩) ?_ ?_; rotate_left
                ·intro w'; go_simp; with_reducible rfl
                rotate_left
                ·simp only [Act.put, List.setIfInBounds_toArray, List.set_cons_zero, List.set_cons_succ, i64_w, i32_w]; rfl
                refine take_ (i := 23) (N := some 39) (v := ?_) (a' := ?_) #[tT, tT, tT, tT, tT, tT, tT, tT, tT, tT, tT, tT, tT, tT, tT, tT, tT, tT, tT, tT, tT, tT, tT, tT, tT, tT, tT, fF, tT, tT, fF, fF, fF, fF] rfl rfl (take_ofW HT_.out HW_.out (by kernel_rfl)) (fun _ _ _ h => h) (Or.inl ⟨by rfl, ?_⟩) hHeld ?_ ?_; rotate_left
                ·rintro w' ⟨s0, s1, s2, s3, s4, s5, s6, s7⟩; go_simp; with_reducible rfl
                rotate_left
                ·simp only [Act.put, List.setIfInBounds_toArray, List.set_cons_zero, List.set_cons_succ, i64_w, i32_w]; rfl
                refine take_ (i := 27) (N := some 43) (v := ?_) (a' := ?_) #[tT, tT, tT, tT, tT, tT, tT, tT, tT, tT, tT, tT, tT, tT, tT, tT, tT, tT, tT, tT, tT, tT, tT, tT, tT, tT, tT, tT, tT, tT, fF, fF, fF, fF] rfl rfl (take_ofW HT_.out HW_.out (by kernel_rfl)) (fun _ _ _ h => h) (Or.inl ⟨by rfl, ?_⟩) hHeld ?_ ?_; rotate_left
                ·rintro w' ⟨s0, s1, s2, s3, s4, s5, s6, s7⟩; go_simp; with_reducible rfl
                rotate_left
                ·simp only [Act.put, List.setIfInBounds_toArray, List.set_cons_zero, List.set_cons_succ, i64_w, i32_w]; rfl
                refine pure_ (i := 30) (N := some 46) (v := ?_) (a' := ?_) #[tT, tT, tT, tT, tT, tT, tT, tT, tT, tT, tT, tT, tT, tT, tT, tT, tT, tT, tT, tT, tT, tT, tT, tT, tT, tT, tT, tT, tT, tT, tT, fF, fF, fF] rfl rfl (any_of HT_.out (by kernel_rfl)) (fun _ _ _ h => h) (Or.inl ⟨by rfl, ?_⟩) ?_ ?_; rotate_left
                ·intro w'; go_simp; with_reducible rfl
                rotate_left
                ·simp only [Act.put, List.setIfInBounds_toArray, List.set_cons_zero, List.set_cons_succ, i64_w, i32_w]; rfl
                refine take_ (i := 31) (N := some 47) (v := ?_) (a' := ?_) #[tT, tT, tT, tT, tT, tT, tT, tT, tT, tT, tT, tT, tT, tT, tT, tT, tT, tT, tT, tT, tT, tT, tT, tT, tT, tT, tT, tT, tT, tT, tT, tT, fF, fF] rfl rfl (take_ofW HT_.out HW_.out (by kernel_rfl)) (fun _ _ _ h => h) (Or.inl ⟨by rfl, ?_⟩) hHeld ?_ ?_; rotate_left
                ·rintro w' ⟨s0, s1, s2, s3, s4, s5, s6, s7⟩; go_simp; with_reducible rfl
                rotate_left
                ·simp only [Act.put, List.setIfInBounds_toArray, List.set_cons_zero, List.set_cons_succ, i64_w, i32_w]; rfl
                refine one_ (i := 32) (N := some 48) #[tT, tT, tT, tT, tT, tT, tT, tT, tT, tT, tT, tT, tT, tT, tT, tT, tT, tT, tT, tT, tT, tT, tT, tT, tT, tT, tT, tT, tT, tT, tT, tT, tT, fF] rfl rfl (one_of HT_.out (by kernel_rfl)) (by decide) (fun K hK => ?_)
                refine Kd.R_lit_step (Kd.int .i64) _ 3 ?hg (N := 48) ?hd (xs := ([rd (rd_L1 l0 (ji8)) a2, rd (rd_L1 l0 (ji12)) a2, rd (rd_L1 l0 a1) (ji16), rd (rd_L1 l0 a1) (ji19)] : List Int)) (inner := [.int .i64 (rd (rd_L1 l0 (ji8)) a2), .int .i64 (rd (rd_L1 l0 (ji12)) a2), .int .i64 (rd (rd_L1 l0 a1) (ji16)), .int .i64 (rd (rd_L1 l0 a1) (ji19))]) (ok := fun _ => True) (okp := fun _ => True) ?hr ?hp (fun _ hk => hk) trivial (Below.refl _ _) (Nat.le_refl _) (by simp) ?_; (case hd => rfl); (case hg => rfl); (case hr => first | (go_simp; done) | (go_simp; rfl)); (case hp => exact (Reps.one (show Kd.M (Kd.int .i64) _ _ _ (rd (rd_L1 l0 (ji8)) a2) [.int .i64 (rd (rd_L1 l0 (ji8)) a2)] from rfl) (Reps.one (show Kd.M (Kd.int .i64) _ _ _ (rd (rd_L1 l0 (ji12)) a2) [.int .i64 (rd (rd_L1 l0 (ji12)) a2)] from rfl) (Reps.one (show Kd.M (Kd.int .i64) _ _ _ (rd (rd_L1 l0 a1) (ji16)) [.int .i64 (rd (rd_L1 l0 a1) (ji16))] from rfl) (Reps.one (show Kd.M (Kd.int .i64) _ _ _ (rd (rd_L1 l0 a1) (ji19)) [.int .i64 (rd (rd_L1 l0 a1) (ji19))] from rfl) (Reps.none _ _))))))
                intro v810 w25 ho26 hb hg_ hnew_; clear hg_ hnew_
                (first | rw [← Ny809.out] at ho26 | (simp only [Int.reduceToNat] at ho26; rw [← Ny809.out] at ho26))
                have n0_ := Aside0.mk (Kd.R_lower ho26 (below_size (by repeat (first | (with_reducible first | exact HB.out | apply below_alloc | apply pw_below_drewN | apply below_drew1) | exact HB.out)))); have n1_ := Aside0.mk (below_step (by repeat (first | (with_reducible first | exact HB.out | apply below_alloc | apply pw_below_drewN | apply below_drew1) | exact HB.out)) hb); clear HB; have HO811 := n0_; have HB := n1_; clear n0_ n1_; clear hb ho26; refine hK.out _ _ ⟨((HB.out.cell (World.block_lt_of_cell? w _ hw801_0)).trans hw801_0), ((HB.out.cell (World.block_lt_of_cell? w _ hw802_0)).trans hw802_0), ((HB.out.cell (World.block_lt_of_cell? w _ hw803_0)).trans hw803_0), ((HB.out.cell (World.block_lt_of_cell? w _ hw804_0)).trans hw804_0), ((HB.out.cell (World.block_lt_of_cell? w _ hw805_0)).trans hw805_0), ((HB.out.cell (World.block_lt_of_cell? w _ hw806_0)).trans hw806_0), ((HB.out.cell (World.block_lt_of_cell? w _ hw807_0)).trans hw807_0), ((HB.out.cell (World.block_lt_of_cell? w _ hw808_0)).trans hw808_0)⟩ (fun hHeld => ?_); clear hK K; refine norm_ (a' := ?_) ?_ ?_; rotate_left
                ·show Act.put _ (some 48) _ = _; simp only [Act.put, List.setIfInBounds_toArray, List.set_cons_zero, List.set_cons_succ, i64_w, i32_w]; rfl
                refine pure_ (i := 33) (N := some 8) (v := ?_) (a' := ?_) #[tT, tT, tT, tT, tT, tT, tT, tT, tT, tT, tT, tT, tT, tT, tT, tT, tT, tT, tT, tT, tT, tT, tT, tT, tT, tT, tT, tT, tT, tT, tT, tT, tT, tT] rfl rfl (any_of HT_.out (by kernel_rfl)) (fun _ _ _ h => h) (Or.inl ⟨by rfl, ?_⟩) ?_ ?_; rotate_left
                ·intro w'; go_simp; with_reducible rfl
                rotate_left
                ·simp only [Act.put, List.setIfInBounds_toArray, List.set_cons_zero, List.set_cons_succ, i64_w, i32_w]; rfl
                refine done_ (done_of HT_.out (by kernel_rfl)) ?_; obtain ⟨Ao27, co27, eo27⟩ := Kd.R_slice HO811.out; subst eo27
                try go_wp2_with (first | ((with_reducible refine gate_callee (f := 82) rfl ?_); refine goesL_ (some 55) rfl rfl Try.func82 (by kernel_rfl) rfl #[.slice Ao27 y809.length co27, .int .i64 (wrap64 ((rd (rd_L1 l0 a1) a2) + 1)), .int .i64 (wrap64 ((rd (rd_L1 l0 a1) a2) + 1))] rfl (by (try simp only [List.map_toArray, List.map_cons, List.map_nil]); first | done | rfl | (simp only [List.length_drop, List.length_take]; rfl)) ?_; (with_reducible refine (spec_l1All.calls k _ _ y809 (wrap64 ((rd (rd_L1 l0 a1) a2) + 1)) (wrap64 ((rd (rd_L1 l0 a1) a2) + 1)) true _ ?side1 ?side2 A22.out).mono ?_); (case side1 => repeat (first | exact (Kd.R_reads' HO811.out).2.2 | (with_reducible refine Kd.C_alloc ?_ _) | (with_reducible refine Kd.C_drewN ?_ _) | (with_reducible refine Kd.C_drew ?_))); (case side2 => exact (Kd.R_reads' HO811.out).2.1); rintro e w' ⟨rfl, ⟨nd, rfl⟩⟩; refine ⟨_, rfl, ?_⟩))
                go_ret; exact ⟨by first | rfl | (simp [errW_none, errW_some] <;> rfl) | (simp only [← hji8, ← hji12, ← hji16, ← hji19]; first | rfl | (simp [errW_none, errW_some] <;> rfl)) | (simp [*, errW_none, errW_some] <;> rfl), by repeat (first | (with_reducible first | exact HB.out | apply below_alloc | apply pw_below_drewN | apply below_drew1) | exact HB.out)⟩
               ·replace c23 := Bool.eq_false_iff.mpr c23
                subst c23
                have H1 : ((spec_l1All.f k y809 (wrap64 ((rd (rd_L1 l0 a1) a2) - 1)) (wrap64 ((rd (rd_L1 l0 a1) a2) - 1))).bind fun t813 => (if t813 = true then (some (-1)) else (some 0))) = some r := by rw [if_neg (show ¬ (false = true) by decide)] at H; exact H
                clear H; have H := H1; clear H1; replace H := Option.bind_eq_some_iff.mp H; obtain ⟨t813, A280, H⟩ := H; replace H : (if t813 = true then (some (-1)) else (some 0)) = some r := H; have A28 := Aside0.mk A280; clear A280
                by_cases c29 : t813 = true
                ·subst c29
                 have H1 : (some (-1)) = some r := by rw [if_pos rfl] at H; exact H
                 clear H; have H := H1; clear H1; obtain rfl := Option.some.inj H; have p799 : 0 ≤ (a1 : Int) := of_decide_eq_true (by first | (with_reducible assumption) | assumption); have q799 : a1 < (l0.length : Int) := of_decide_eq_true (by first | (with_reducible assumption) | assumption); obtain ⟨ad799, A799_0, c799_0, e799, hx799_0, hl799_0, hi799_0⟩ := at_L1 HR0.out a1 p799 q799
                 cases e799
                 have HR799_0 := Aside0.mk hi799_0; have HC799_0 := Aside0.mk hl799_0; clear hi799_0 hl799_0; replace p799 := eq_true p799; replace q799 := eq_true q799; have p800 : 0 ≤ (a2 : Int) := of_decide_eq_true (by first | (with_reducible assumption) | assumption); have q800 : a2 < ((rd_L1 l0 a1).length : Int) := of_decide_eq_true (by first | (with_reducible assumption) | assumption); obtain ⟨ad800, e800, hx800_0⟩ := Kd.at_int HR799_0.out a2 p800 q800
                 cases e800
                 replace p800 := eq_true p800; replace q800 := eq_true q800; go_enter Try.func148, Try.ntmps148
                 try go_wp2
                 have n0_ := Aside0.mk (below_drew1 HB.out); clear HB; have HB := n0_; clear n0_; have p801 : 0 ≤ ((ji8) : Int) := of_decide_eq_true (by first | (with_reducible assumption) | assumption); have q801 : (ji8) < (l0.length : Int) := of_decide_eq_true (by first | (with_reducible assumption) | assumption); obtain ⟨ad801, A801_0, c801_0, e801, hx801_0, hl801_0, hi801_0⟩ := at_L1 HR0.out (ji8) p801 q801; have hw801_0 := hx801_0
                 obtain rfl : ad799 = ad801 := (by injection e801)
                 (try replace hx801_0 := (HB.out.cell (World.block_lt_of_cell? w _ hx801_0)).trans hx801_0)
                 have HR801_0 := Aside0.mk hi801_0; have HC801_0 := Aside0.mk hl801_0; clear hi801_0 hl801_0; replace p801 := eq_true p801; replace q801 := eq_true q801; have p802 : 0 ≤ (a2 : Int) := of_decide_eq_true (by first | (with_reducible assumption) | assumption); have q802 : a2 < ((rd_L1 l0 (ji8)).length : Int) := of_decide_eq_true (by first | (with_reducible assumption) | assumption); obtain ⟨ad802, e802, hx802_0⟩ := Kd.at_int HR801_0.out a2 p802 q802; have hw802_0 := hx802_0
                 cases e802
                 (try replace hx802_0 := (HB.out.cell (World.block_lt_of_cell? w _ hx802_0)).trans hx802_0)
                 replace p802 := eq_true p802; replace q802 := eq_true q802; have p803 : 0 ≤ ((ji12) : Int) := of_decide_eq_true (by first | (with_reducible assumption) | assumption); have q803 : (ji12) < (l0.length : Int) := of_decide_eq_true (by first | (with_reducible assumption) | assumption); obtain ⟨ad803, A803_0, c803_0, e803, hx803_0, hl803_0, hi803_0⟩ := at_L1 HR0.out (ji12) p803 q803; have hw803_0 := hx803_0
                 obtain rfl : ad799 = ad803 := (by injection e803)
                 (try replace hx803_0 := (HB.out.cell (World.block_lt_of_cell? w _ hx803_0)).trans hx803_0)
                 have HR803_0 := Aside0.mk hi803_0; have HC803_0 := Aside0.mk hl803_0; clear hi803_0 hl803_0; replace p803 := eq_true p803; replace q803 := eq_true q803; have p804 : 0 ≤ (a2 : Int) := of_decide_eq_true (by first | (with_reducible assumption) | assumption); have q804 : a2 < ((rd_L1 l0 (ji12)).length : Int) := of_decide_eq_true (by first | (with_reducible assumption) | assumption); obtain ⟨ad804, e804, hx804_0⟩ := Kd.at_int HR803_0.out a2 p804 q804; have hw804_0 := hx804_0
                 cases e804
                 (try replace hx804_0 := (HB.out.cell (World.block_lt_of_cell? w _ hx804_0)).trans hx804_0)
                 replace p804 := eq_true p804; replace q804 := eq_true q804; have p805 : 0 ≤ (a1 : Int) := of_decide_eq_true (by first | (with_reducible assumption) | assumption); have q805 : a1 < (l0.length : Int) := of_decide_eq_true (by first | (with_reducible assumption) | assumption); obtain ⟨ad805, A805_0, c805_0, e805, hx805_0, hl805_0, hi805_0⟩ := at_L1 HR0.out a1 p805 q805; have hw805_0 := hx805_0
                 obtain rfl : ad799 = ad805 := (by injection e805)
                 (try replace hx805_0 := (HB.out.cell (World.block_lt_of_cell? w _ hx805_0)).trans hx805_0)
                 have HR805_0 := Aside0.mk hi805_0; have HC805_0 := Aside0.mk hl805_0; clear hi805_0 hl805_0; replace p805 := eq_true p805; replace q805 := eq_true q805; have p806 : 0 ≤ ((ji16) : Int) := of_decide_eq_true (by first | (with_reducible assumption) | assumption); have q806 : (ji16) < ((rd_L1 l0 a1).length : Int) := of_decide_eq_true (by first | (with_reducible assumption) | assumption); obtain ⟨ad806, e806, hx806_0⟩ := Kd.at_int HR805_0.out (ji16) p806 q806; have hw806_0 := hx806_0
                 cases e806
                 (try replace hx806_0 := (HB.out.cell (World.block_lt_of_cell? w _ hx806_0)).trans hx806_0)
                 replace p806 := eq_true p806; replace q806 := eq_true q806; have p807 : 0 ≤ (a1 : Int) := of_decide_eq_true (by first | (with_reducible assumption) | assumption); have q807 : a1 < (l0.length : Int) := of_decide_eq_true (by first | (with_reducible assumption) | assumption); obtain ⟨ad807, A807_0, c807_0, e807, hx807_0, hl807_0, hi807_0⟩ := at_L1 HR0.out a1 p807 q807; have hw807_0 := hx807_0
                 obtain rfl : ad799 = ad807 := (by injection e807)
                 (try replace hx807_0 := (HB.out.cell (World.block_lt_of_cell? w _ hx807_0)).trans hx807_0)
                 have HR807_0 := Aside0.mk hi807_0; have HC807_0 := Aside0.mk hl807_0; clear hi807_0 hl807_0; replace p807 := eq_true p807; replace q807 := eq_true q807; have ea_ := Option.some.inj (hx805_0.symm.trans hx807_0); injection ea_ with ea_ en_ ec_; subst ea_; subst ec_; clear en_; have p808 : 0 ≤ ((ji19) : Int) := of_decide_eq_true (by first | (with_reducible assumption) | assumption); have q808 : (ji19) < ((rd_L1 l0 a1).length : Int) := of_decide_eq_true (by first | (with_reducible assumption) | assumption); obtain ⟨ad808, e808, hx808_0⟩ := Kd.at_int HR807_0.out (ji19) p808 q808; have hw808_0 := hx808_0
                 cases e808
                 (try replace hx808_0 := (HB.out.cell (World.block_lt_of_cell? w _ hx808_0)).trans hx808_0)
                 replace p808 := eq_true p808; replace q808 := eq_true q808
                 refine start_ (n := 34) (S := fun w' => w'.cell? (ad799.add ((ji8)).toNat) = some (.slice (some ad802) (rd_L1 l0 (ji8)).length c801_0) ∧ w'.cell? (ad802.add (a2).toNat) = some (.int .i64 (rd (rd_L1 l0 (ji8)) a2)) ∧ w'.cell? (ad799.add ((ji12)).toNat) = some (.slice (some ad804) (rd_L1 l0 (ji12)).length c803_0) ∧ w'.cell? (ad804.add (a2).toNat) = some (.int .i64 (rd (rd_L1 l0 (ji12)) a2)) ∧ w'.cell? (ad799.add (a1).toNat) = some (.slice (some ad806) (rd_L1 l0 a1).length c805_0) ∧ w'.cell? (ad806.add ((ji16)).toNat) = some (.int .i64 (rd (rd_L1 l0 a1) (ji16))) ∧ w'.cell? (ad799.add (a1).toNat) = some (.slice (some ad806) (rd_L1 l0 a1).length c805_0) ∧ w'.cell? (ad806.add ((ji19)).toNat) = some (.int .i64 (rd (rd_L1 l0 a1) (ji19)))) (ds := []) #[fF, fF, fF, fF, fF, fF, fF, fF, fF, fF, fF, fF, fF, fF, fF, fF, fF, fF, fF, fF, fF, fF, fF, fF, fF, fF, fF, fF, fF, fF, fF, fF, fF, fF] (by kernel_rfl) rfl rfl ⟨((HB.out.cell (World.block_lt_of_cell? w _ hw801_0)).trans hw801_0), ((HB.out.cell (World.block_lt_of_cell? w _ hw802_0)).trans hw802_0), ((HB.out.cell (World.block_lt_of_cell? w _ hw803_0)).trans hw803_0), ((HB.out.cell (World.block_lt_of_cell? w _ hw804_0)).trans hw804_0), ((HB.out.cell (World.block_lt_of_cell? w _ hw805_0)).trans hw805_0), ((HB.out.cell (World.block_lt_of_cell? w _ hw806_0)).trans hw806_0), ((HB.out.cell (World.block_lt_of_cell? w _ hw807_0)).trans hw807_0), ((HB.out.cell (World.block_lt_of_cell? w _ hw808_0)).trans hw808_0)⟩ (fun hHeld => ?_); refine with_tabW spec_heWay.tab2 spec_heWay.bits2 (fun HT_ HW_ => ?_)
                 generalize w.drew = w30 at HB HR801_0 HR803_0 HR805_0 HR807_0 hx801_0 hx802_0 hx803_0 hx804_0 hx805_0 hx806_0 hx807_0 hx808_0 hHeld ⊢; refine pure_ (i := 0) (N := some 16) (v := ?_) (a' := ?_) #[tT, fF, fF, fF, fF, fF, fF, fF, fF, fF, fF, fF, fF, fF, fF, fF, fF, fF, fF, fF, fF, fF, fF, fF, fF, fF, fF, fF, fF, fF, fF, fF, fF, fF] rfl rfl (any_of HT_.out (by kernel_rfl)) (fun _ _ _ h => h) (Or.inl ⟨by rfl, ?_⟩) ?_ ?_; rotate_left
                 ·intro w'; go_simp; with_reducible rfl
                 rotate_left
                 ·simp only [Act.put, List.setIfInBounds_toArray, List.set_cons_zero, List.set_cons_succ, i64_w, i32_w]; rfl
                 refine pure_ (i := 1) (N := some 17) (v := ?_) (a' := ?_) #[tT, tT, fF, fF, fF, fF, fF, fF, fF, fF, fF, fF, fF, fF, fF, fF, fF, fF, fF, fF, fF, fF, fF, fF, fF, fF, fF, fF, fF, fF, fF, fF, fF, fF] rfl rfl (any_of HT_.out (by kernel_rfl)) (fun _ _ _ h => h) (Or.inl ⟨by rfl, ?_⟩) ?_ ?_; rotate_left
                 ·intro w'; go_simp; with_reducible rfl
                 rotate_left
                 ·simp only [Act.put, List.setIfInBounds_toArray, List.set_cons_zero, List.set_cons_succ, i64_w, i32_w]; rfl
                 refine pure_ (i := 2) (N := some 18) (v := ?_) (a' := ?_) #[tT, tT, tT, fF, fF, fF, fF, fF, fF, fF, fF, fF, fF, fF, fF, fF, fF, fF, fF, fF, fF, fF, fF, fF, fF, fF, fF, fF, fF, fF, fF, fF, fF, fF] rfl rfl (any_of HT_.out (by kernel_rfl)) (fun _ _ _ h => h) (Or.inl ⟨by rfl, ?_⟩) ?_ ?_; rotate_left
                 ·intro w'; go_simp; with_reducible rfl
                 rotate_left
                 ·simp only [Act.put, List.setIfInBounds_toArray, List.set_cons_zero, List.set_cons_succ, i64_w, i32_w]; rfl
                 refine pure_ (i := 3) (N := some 19) (v := ?_) (a' := ?_) #[tT, tT, tT, tT, fF, fF, fF, fF, fF, fF, fF, fF, fF, fF, fF, fF, fF, fF, fF, fF, fF, fF, fF, fF, fF, fF, fF, fF, fF, fF, fF, fF, fF, fF] rfl rfl (any_of HT_.out (by kernel_rfl)) (fun _ _ _ h => h) (Or.inl ⟨by rfl, ?_⟩) ?_ ?_; rotate_left
                 ·intro w'; go_simp; with_reducible rfl
                 rotate_left
                 ·simp only [Act.put, List.setIfInBounds_toArray, List.set_cons_zero, List.set_cons_succ, i64_w, i32_w]; rfl
                 refine pure_ (i := 5) (N := some 21) (v := ?_) (a' := ?_) #[tT, tT, tT, tT, fF, tT, fF, fF, fF, fF, fF, fF, fF, fF, fF, fF, fF, fF, fF, fF, fF, fF, fF, fF, fF, fF, fF, fF, fF, fF, fF, fF, fF, fF] rfl rfl (any_of HT_.out (by kernel_rfl)) (fun _ _ _ h => h) (Or.inl ⟨by rfl, ?_⟩) ?_ ?_; rotate_left
                 ·intro w'; go_simp; with_reducible rfl
                 rotate_left
                 ·simp only [Act.put, List.setIfInBounds_toArray, List.set_cons_zero, List.set_cons_succ, i64_w, i32_w]; rfl
                 refine pure_ (i := 8) (N := some 24) (v := ?_) (a' := ?_) #[tT, tT, tT, tT, fF, tT, fF, fF, tT, fF, fF, fF, fF, fF, fF, fF, fF, fF, fF, fF, fF, fF, fF, fF, fF, fF, fF, fF, fF, fF, fF, fF, fF, fF] rfl rfl (any_of HT_.out (by kernel_rfl)) (fun _ _ _ h => h) (Or.inl ⟨by rfl, ?_⟩) ?_ ?_; rotate_left
                 ·intro w'; go_simp; with_reducible rfl
                 rotate_left
                 ·simp only [Act.put, List.setIfInBounds_toArray, List.set_cons_zero, List.set_cons_succ, i64_w, i32_w]; rfl
                 refine pure_ (i := 9) (N := some 25) (v := ?_) (a' := ?_) #[tT, tT, tT, tT, fF, tT, fF, fF, tT, tT, fF, fF, fF, fF, fF, fF, fF, fF, fF, fF, fF, fF, fF, fF, fF, fF, fF, fF, fF, fF, fF, fF, fF, fF] rfl rfl (any_of HT_.out (by kernel_rfl)) (fun _ _ _ h => h) (Or.inl ⟨by rfl, ?_⟩) ?_ ?_; rotate_left
                 ·intro w'; go_simp; with_reducible rfl
                 rotate_left
                 ·simp only [Act.put, List.setIfInBounds_toArray, List.set_cons_zero, List.set_cons_succ, i64_w, i32_w]; rfl
                 refine pure_ (i := 10) (N := some 26) (v := ?_) (a' := ?_) #[tT, tT, tT, tT, fF, tT, fF, fF, tT, tT, tT, fF, fF, fF, fF, fF, fF, fF, fF, fF, fF, fF, fF, fF, fF, fF, fF, fF, fF, fF, fF, fF, fF, fF] rfl rfl (any_of HT_.out (by kernel_rfl)) (fun _ _ _ h => h) (Or.inl ⟨by rfl, ?_⟩) ?_ ?_; rotate_left
                 ·intro w'; go_simp; with_reducible rfl
                 rotate_left
                 ·simp only [Act.put, List.setIfInBounds_toArray, List.set_cons_zero, List.set_cons_succ, i64_w, i32_w]; rfl
                 refine pure_ (i := 11) (N := some 27) (v := ?_) (a' := ?_) #[tT, tT, tT, tT, fF, tT, fF, fF, tT, tT, tT, tT, fF, fF, fF, fF, fF, fF, fF, fF, fF, fF, fF, fF, fF, fF, fF, fF, fF, fF, fF, fF, fF, fF] rfl rfl (any_of HT_.out (by kernel_rfl)) (fun _ _ _ h => h) (Or.inl ⟨by rfl, ?_⟩) ?_ ?_; rotate_left
                 ·intro w'; go_simp; with_reducible rfl
                 rotate_left
                 ·simp only [Act.put, List.setIfInBounds_toArray, List.set_cons_zero, List.set_cons_succ, i64_w, i32_w]; rfl
                 refine pure_ (i := 13) (N := some 29) (v := ?_) (a' := ?_) #[tT, tT, tT, tT, fF, tT, fF, fF, tT, tT, tT, tT, fF, tT, fF, fF, fF, fF, fF, fF, fF, fF, fF, fF, fF, fF, fF, fF, fF, fF, fF, fF, fF, fF] rfl rfl (any_of HT_.out (by kernel_rfl)) (fun _ _ _ h => h) (Or.inl ⟨by rfl, ?_⟩) ?_ ?_; rotate_left
                 ·intro w'; go_simp; with_reducible rfl
                 rotate_left
                 ·simp only [Act.put, List.setIfInBounds_toArray, List.set_cons_zero, List.set_cons_succ, i64_w, i32_w]; rfl
                 refine pure_ (i := 16) (N := some 32) (v := ?_) (a' := ?_) #[tT, tT, tT, tT, fF, tT, fF, fF, tT, tT, tT, tT, fF, tT, fF, fF, tT, fF, fF, fF, fF, fF, fF, fF, fF, fF, fF, fF, fF, fF, fF, fF, fF, fF] rfl rfl (any_of HT_.out (by kernel_rfl)) (fun _ _ _ h => h) (Or.inl ⟨by rfl, ?_⟩) ?_ ?_; rotate_left
                 ·intro w'; go_simp; with_reducible rfl
                 rotate_left
                 ·simp only [Act.put, List.setIfInBounds_toArray, List.set_cons_zero, List.set_cons_succ, i64_w, i32_w]; rfl
                 refine pure_ (i := 17) (N := some 33) (v := ?_) (a' := ?_) #[tT, tT, tT, tT, fF, tT, fF, fF, tT, tT, tT, tT, fF, tT, fF, fF, tT, tT, fF, fF, fF, fF, fF, fF, fF, fF, fF, fF, fF, fF, fF, fF, fF, fF] rfl rfl (any_of HT_.out (by kernel_rfl)) (fun _ _ _ h => h) (Or.inl ⟨by rfl, ?_⟩) ?_ ?_; rotate_left
                 ·intro w'; go_simp; with_reducible rfl
                 rotate_left
                 ·simp only [Act.put, List.setIfInBounds_toArray, List.set_cons_zero, List.set_cons_succ, i64_w, i32_w]; rfl
                 refine pure_ (i := 18) (N := some 34) (v := ?_) (a' := ?_) #[tT, tT, tT, tT, fF, tT, fF, fF, tT, tT, tT, tT, fF, tT, fF, fF, tT, tT, tT, fF, fF, fF, fF, fF, fF, fF, fF, fF, fF, fF, fF, fF, fF, fF] rfl rfl (any_of HT_.out (by kernel_rfl)) (fun _ _ _ h => h) (Or.inl ⟨by rfl, ?_⟩) ?_ ?_; rotate_left
                 ·intro w'; go_simp; with_reducible rfl
                 rotate_left
                 ·simp only [Act.put, List.setIfInBounds_toArray, List.set_cons_zero, List.set_cons_succ, i64_w, i32_w]; rfl
                 refine pure_ (i := 20) (N := some 36) (v := ?_) (a' := ?_) #[tT, tT, tT, tT, fF, tT, fF, fF, tT, tT, tT, tT, fF, tT, fF, fF, tT, tT, tT, fF, tT, fF, fF, fF, fF, fF, fF, fF, fF, fF, fF, fF, fF, fF] rfl rfl (any_of HT_.out (by kernel_rfl)) (fun _ _ _ h => h) (Or.inl ⟨by rfl, ?_⟩) ?_ ?_; rotate_left
                 ·intro w'; go_simp; with_reducible rfl
                 rotate_left
                 ·simp only [Act.put, List.setIfInBounds_toArray, List.set_cons_zero, List.set_cons_succ, i64_w, i32_w]; rfl
                 refine pure_ (i := 21) (N := some 37) (v := ?_) (a' := ?_) #[tT, tT, tT, tT, fF, tT, fF, fF, tT, tT, tT, tT, fF, tT, fF, fF, tT, tT, tT, fF, tT, tT, fF, fF, fF, fF, fF, fF, fF, fF, fF, fF, fF, fF] rfl rfl (any_of HT_.out (by kernel_rfl)) (fun _ _ _ h => h) (Or.inl ⟨by rfl, ?_⟩) ?_ ?_; rotate_left
                 ·intro w'; go_simp; with_reducible rfl
                 rotate_left
                 ·simp only [Act.put, List.setIfInBounds_toArray, List.set_cons_zero, List.set_cons_succ, i64_w, i32_w]; rfl
                 refine pure_ (i := 24) (N := some 40) (v := ?_) (a' := ?_) #[tT, tT, tT, tT, fF, tT, fF, fF, tT, tT, tT, tT, fF, tT, fF, fF, tT, tT, tT, fF, tT, tT, fF, fF, tT, fF, fF, fF, fF, fF, fF, fF, fF, fF] rfl rfl (any_of HT_.out (by kernel_rfl)) (fun _ _ _ h => h) (Or.inl ⟨by rfl, ?_⟩) ?_ ?_; rotate_left
                 ·intro w'; go_simp; with_reducible rfl
                 rotate_left
                 ·simp only [Act.put, List.setIfInBounds_toArray, List.set_cons_zero, List.set_cons_succ, i64_w, i32_w]; rfl
                 refine pure_ (i := 25) (N := some 41) (v := ?_) (a' := ?_) #[tT, tT, tT, tT, fF, tT, fF, fF, tT, tT, tT, tT, fF, tT, fF, fF, tT, tT, tT, fF, tT, tT, fF, fF, tT, tT, fF, fF, fF, fF, fF, fF, fF, fF] rfl rfl (any_of HT_.out (by kernel_rfl)) (fun _ _ _ h => h) (Or.inl ⟨by rfl, ?_⟩) ?_ ?_; rotate_left
                 ·intro w'; go_simp; with_reducible rfl
                 rotate_left
                 ·simp only [Act.put, List.setIfInBounds_toArray, List.set_cons_zero, List.set_cons_succ, i64_w, i32_w]; rfl
                 refine pure_ (i := 26) (N := some 42) (v := ?_) (a' := ?_) #[tT, tT, tT, tT, fF, tT, fF, fF, tT, tT, tT, tT, fF, tT, fF, fF, tT, tT, tT, fF, tT, tT, fF, fF, tT, tT, tT, fF, fF, fF, fF, fF, fF, fF] rfl rfl (any_of HT_.out (by kernel_rfl)) (fun _ _ _ h => h) (Or.inl ⟨by rfl, ?_⟩) ?_ ?_; rotate_left
                 ·intro w'; go_simp; with_reducible rfl
                 rotate_left
                 ·simp only [Act.put, List.setIfInBounds_toArray, List.set_cons_zero, List.set_cons_succ, i64_w, i32_w]; rfl
                 refine pure_ (i := 28) (N := some 44) (v := ?_) (a' := ?_) #[tT, tT, tT, tT, fF, tT, fF, fF, tT, tT, tT, tT, fF, tT, fF, fF, tT, tT, tT, fF, tT, tT, fF, fF, tT, tT, tT, fF, tT, fF, fF, fF, fF, fF] rfl rfl (any_of HT_.out (by kernel_rfl)) (fun _ _ _ h => h) (Or.inl ⟨by rfl, ?_⟩) ?_ ?_; rotate_left
                 ·intro w'; go_simp; with_reducible rfl
                 rotate_left
                 ·simp only [Act.put, List.setIfInBounds_toArray, List.set_cons_zero, List.set_cons_succ, i64_w, i32_w]; rfl
                 refine pure_ (i := 29) (N := some 45) (v := ?_) (a' := ?_) #[tT, tT, tT, tT, fF, tT, fF, fF, tT, tT, tT, tT, fF, tT, fF, fF, tT, tT, tT, fF, tT, tT, fF, fF, tT, tT, tT, fF, tT, tT, fF, fF, fF, fF] rfl rfl (any_of HT_.out (by kernel_rfl)) (fun _ _ _ h => h) (Or.inl ⟨by rfl, ?_⟩) ?_ ?_; rotate_left
                 ·intro w'; go_simp; with_reducible rfl
                 rotate_left
                 ·simp only [Act.put, List.setIfInBounds_toArray, List.set_cons_zero, List.set_cons_succ, i64_w, i32_w]; rfl
                 refine take_ (i := 4) (N := some 20) (v := ?_) (a' := ?_) #[tT, tT, tT, tT, tT, tT, fF, fF, tT, tT, tT, tT, fF, tT, fF, fF, tT, tT, tT, fF, tT, tT, fF, fF, tT, tT, tT, fF, tT, tT, fF, fF, fF, fF] rfl rfl (take_ofW HT_.out HW_.out (by kernel_rfl)) (fun _ _ _ h => h) (Or.inl ⟨by rfl, ?_⟩) hHeld ?_ ?_; rotate_left
                 ·rintro w' ⟨s0, s1, s2, s3, s4, s5, s6, s7⟩; go_simp; with_reducible rfl
                 rotate_left
                 ·simp only [Act.put, List.setIfInBounds_toArray, List.set_cons_zero, List.set_cons_succ, i64_w, i32_w]; rfl
                 refine pure_ (i := 6) (N := some 22) (v := ?_) (a' := ?_) #[tT, tT, tT, tT, tT, tT, tT, fF, tT, tT, tT, tT, fF, tT, fF, fF, tT, tT, tT, fF, tT, tT, fF, fF, tT, tT, tT, fF, tT, tT, fF, fF, fF, fF] rfl rfl (any_of HT_.out (by kernel_rfl)) (fun _ _ _ h => h) (Or.inl ⟨by rfl, ?_⟩) ?_ ?_; rotate_left
                 ·intro w'; go_simp; with_reducible rfl
                 rotate_left
                 ·simp only [Act.put, List.setIfInBounds_toArray, List.set_cons_zero, List.set_cons_succ, i64_w, i32_w]; rfl
                 refine take_ (i := 7) (N := some 23) (v := ?_) (a' := ?_) #[tT, tT, tT, tT, tT, tT, tT, tT, tT, tT, tT, tT, fF, tT, fF, fF, tT, tT, tT, fF, tT, tT, fF, fF, tT, tT, tT, fF, tT, tT, fF, fF, fF, fF] rfl rfl (take_ofW HT_.out HW_.out (by kernel_rfl)) (fun _ _ _ h => h) (Or.inl ⟨by rfl, ?_⟩) hHeld ?_ ?_; rotate_left
                 ·rintro w' ⟨s0, s1, s2, s3, s4, s5, s6, s7⟩; go_simp; with_reducible rfl
                 rotate_left
                 ·simp only [Act.put, List.setIfInBounds_toArray, List.set_cons_zero, List.set_cons_succ, i64_w, i32_w]; rfl
                 refine take_ (i := 12) (N := some 28) (v := ?_) (a' := ?_) #[tT, tT, tT, tT, tT, tT, tT, tT, tT, tT, tT, tT, tT, tT, fF, fF, tT, tT, tT, fF, tT, tT, fF, fF, tT, tT, tT, fF, tT, tT, fF, fF, fF, fF] rfl rfl (take_ofW HT_.out HW_.out (by kernel_rfl)) (fun _ _ _ h => h) (Or.inl ⟨by rfl, ?_⟩) hHeld ?_ ?_; rotate_left
                 ·rintro w' ⟨s0, s1, s2, s3, s4, s5, s6, s7⟩; go_simp; with_reducible rfl
                 rotate_left
                 ·simp only [Act.put, List.setIfInBounds_toArray, List.set_cons_zero, List.set_cons_succ, i64_w, i32_w]; rfl
                 refine pure_ (i := 14) (N := some 30) (v := ?_) (a' := ?_) #[tT, tT, tT, tT, tT, tT, tT, tT, tT, tT, tT, tT, tT, tT, tT, fF, tT, tT, tT, fF, tT, tT, fF, fF, tT, tT, tT, fF, tT, tT, fF, fF, fF, fF] rfl rfl (any_of HT_.out (by kernel_rfl)) (fun _ _ _ h => h) (Or.inl ⟨by rfl, ?_⟩) ?_ ?_; rotate_left
                 ·intro w'; go_simp; with_reducible rfl
                 rotate_left
                 ·simp only [Act.put, List.setIfInBounds_toArray, List.set_cons_zero, List.set_cons_succ, i64_w, i32_w]; rfl
                 refine take_ (i := 15) (N := some 31) (v := ?_) (a' := ?_) #[tT, tT, tT, tT, tT, tT, tT, tT, tT, tT, tT, tT, tT, tT, tT, tT, tT, tT, tT, fF, tT, tT, fF, fF, tT, tT, tT, fF, tT, tT, fF, fF, fF, fF] rfl rfl (take_ofW HT_.out HW_.out (by kernel_rfl)) (fun _ _ _ h => h) (Or.inl ⟨by rfl, ?_⟩) hHeld ?_ ?_; rotate_left
                 ·rintro w' ⟨s0, s1, s2, s3, s4, s5, s6, s7⟩; go_simp; with_reducible rfl
                 rotate_left
                 ·simp only [Act.put, List.setIfInBounds_toArray, List.set_cons_zero, List.set_cons_succ, i64_w, i32_w]; rfl
                 refine take_ (i := 19) (N := some 35) (v := ?_) (a' := ?_) #[tT, tT, tT, tT, tT, tT, tT, tT, tT, tT, tT, tT, tT, tT, tT, tT, tT, tT, tT, tT, tT, tT, fF, fF, tT, tT, tT, fF, tT, tT, fF, fF, fF, fF] rfl rfl (take_ofW HT_.out HW_.out (by kernel_rfl)) (fun _ _ _ h => h) (Or.inl ⟨by rfl, ?_⟩) hHeld ?_ ?_; rotate_left
                 ·rintro w' ⟨s0, s1, s2, s3, s4, s5, s6, s7⟩; go_simp; with_reducible rfl
                 rotate_left
                 ·simp only [Act.put, List.setIfInBounds_toArray, List.set_cons_zero, List.set_cons_succ, i64_w, i32_w]; rfl
                 refine pure_ (i := 22) (N := some 38) (v := ?_) (a' := ?_) #[tT, tT, tT, tT, tT, tT, tT, tT, tT, tT, tT, tT, tT, tT, tT, tT, tT, tT, tT, tT, tT, tT, tT, fF, tT, tT, tT, fF, tT, tT, fF, fF, fF, fF] rfl rfl (any_of HT_.out (by kernel_rfl)) (fun _ _ _ h => h) (Or.inl ⟨by rfl, ?_⟩) ?_ ?_; rotate_left
                 ·intro w'; go_simp; with_reducible rfl
                 rotate_left
                 ·simp only [Act.put, List.setIfInBounds_toArray, List.set_cons_zero, List.set_cons_succ, i64_w, i32_w]; rfl
                 refine take_ (i := 23) (N := some 39) (v := ?_) (a' := ?_) #[tT, tT, tT, tT, tT, tT, tT, tT, tT, tT, tT, tT, tT, tT, tT, tT, tT, tT, tT, tT, tT, tT, tT, tT, tT, tT, tT, fF, tT, tT, fF, fF, fF, fF] rfl rfl (take_ofW HT_.out HW_.out (by kernel_rfl)) (fun _ _ _ h => h) (Or.inl ⟨by rfl, ?_⟩) hHeld ?_ ?_; rotate_left
                 ·rintro w' ⟨s0, s1, s2, s3, s4, s5, s6, s7⟩; go_simp; with_reducible rfl
                 rotate_left
                 ·simp only [Act.put, List.setIfInBounds_toArray, List.set_cons_zero, List.set_cons_succ, i64_w, i32_w]; rfl
                 refine take_ (i := 27) (N := some 43) (v := ?_) (a' := ?_) #[tT, tT, tT, tT, tT, tT, tT, tT, tT, tT, tT, tT, tT, tT, tT, tT, tT, tT, tT, tT, tT, tT, tT, tT, tT, tT, tT, tT, tT, tT, fF, fF, fF, fF] rfl rfl (take_ofW HT_.out HW_.out (by kernel_rfl)) (fun _ _ _ h => h) (Or.inl ⟨by rfl, ?_⟩) hHeld ?_ ?_; rotate_left
                 ·rintro w' ⟨s0, s1, s2, s3, s4, s5, s6, s7⟩; go_simp; with_reducible rfl
                 rotate_left
                 ·simp only [Act.put, List.setIfInBounds_toArray, List.set_cons_zero, List.set_cons_succ, i64_w, i32_w]; rfl
                 refine pure_ (i := 30) (N := some 46) (v := ?_) (a' := ?_) #[tT, tT, tT, tT, tT, tT, tT, tT, tT, tT, tT, tT, tT, tT, tT, tT, tT, tT, tT, tT, tT, tT, tT, tT, tT, tT, tT, tT, tT, tT, tT, fF, fF, fF] rfl rfl (any_of HT_.out (by kernel_rfl)) (fun _ _ _ h => h) (Or.inl ⟨by rfl, ?_⟩) ?_ ?_; rotate_left
                 ·intro w'; go_simp; with_reducible rfl
                 rotate_left
                 ·simp only [Act.put, List.setIfInBounds_toArray, List.set_cons_zero, List.set_cons_succ, i64_w, i32_w]; rfl
                 refine take_ (i := 31) (N := some 47) (v := ?_) (a' := ?_) #[tT, tT, tT, tT, tT, tT, tT, tT, tT, tT, tT, tT, tT, tT, tT, tT, tT, tT, tT, tT, tT, tT, tT, tT, tT, tT, tT, tT, tT, tT, tT, tT, fF, fF] rfl rfl (take_ofW HT_.out HW_.out (by kernel_rfl)) (fun _ _ _ h => h) (Or.inl ⟨by rfl, ?_⟩) hHeld ?_ ?_; rotate_left
                 ·rintro w' ⟨s0, s1, s2, s3, s4, s5, s6, s7⟩; go_simp; with_reducible rfl
                 rotate_left
                 ·simp only [Act.put, List.setIfInBounds_toArray, List.set_cons_zero, List.set_cons_succ, i64_w, i32_w]; rfl
                 refine one_ (i := 32) (N := some 48) #[tT, tT, tT, tT, tT, tT, tT, tT, tT, tT, tT, tT, tT, tT, tT, tT, tT, tT, tT, tT, tT, tT, tT, tT, tT, tT, tT, tT, tT, tT, tT, tT, tT, fF] rfl rfl (one_of HT_.out (by kernel_rfl)) (by decide) (fun K hK => ?_)
                 refine Kd.R_lit_step (Kd.int .i64) _ 3 ?hg (N := 48) ?hd (xs := ([rd (rd_L1 l0 (ji8)) a2, rd (rd_L1 l0 (ji12)) a2, rd (rd_L1 l0 a1) (ji16), rd (rd_L1 l0 a1) (ji19)] : List Int)) (inner := [.int .i64 (rd (rd_L1 l0 (ji8)) a2), .int .i64 (rd (rd_L1 l0 (ji12)) a2), .int .i64 (rd (rd_L1 l0 a1) (ji16)), .int .i64 (rd (rd_L1 l0 a1) (ji19))]) (ok := fun _ => True) (okp := fun _ => True) ?hr ?hp (fun _ hk => hk) trivial (Below.refl _ _) (Nat.le_refl _) (by simp) ?_; (case hd => rfl); (case hg => rfl); (case hr => first | (go_simp; done) | (go_simp; rfl)); (case hp => exact (Reps.one (show Kd.M (Kd.int .i64) _ _ _ (rd (rd_L1 l0 (ji8)) a2) [.int .i64 (rd (rd_L1 l0 (ji8)) a2)] from rfl) (Reps.one (show Kd.M (Kd.int .i64) _ _ _ (rd (rd_L1 l0 (ji12)) a2) [.int .i64 (rd (rd_L1 l0 (ji12)) a2)] from rfl) (Reps.one (show Kd.M (Kd.int .i64) _ _ _ (rd (rd_L1 l0 a1) (ji16)) [.int .i64 (rd (rd_L1 l0 a1) (ji16))] from rfl) (Reps.one (show Kd.M (Kd.int .i64) _ _ _ (rd (rd_L1 l0 a1) (ji19)) [.int .i64 (rd (rd_L1 l0 a1) (ji19))] from rfl) (Reps.none _ _))))))
                 intro v810 w31 ho32 hb hg_ hnew_; clear hg_ hnew_
                 (first | rw [← Ny809.out] at ho32 | (simp only [Int.reduceToNat] at ho32; rw [← Ny809.out] at ho32))
                 have n0_ := Aside0.mk (Kd.R_lower ho32 (below_size (by repeat (first | (with_reducible first | exact HB.out | apply below_alloc | apply pw_below_drewN | apply below_drew1) | exact HB.out)))); have n1_ := Aside0.mk (below_step (by repeat (first | (with_reducible first | exact HB.out | apply below_alloc | apply pw_below_drewN | apply below_drew1) | exact HB.out)) hb); clear HB; have HO811 := n0_; have HB := n1_; clear n0_ n1_; clear hb ho32; refine hK.out _ _ ⟨((HB.out.cell (World.block_lt_of_cell? w _ hw801_0)).trans hw801_0), ((HB.out.cell (World.block_lt_of_cell? w _ hw802_0)).trans hw802_0), ((HB.out.cell (World.block_lt_of_cell? w _ hw803_0)).trans hw803_0), ((HB.out.cell (World.block_lt_of_cell? w _ hw804_0)).trans hw804_0), ((HB.out.cell (World.block_lt_of_cell? w _ hw805_0)).trans hw805_0), ((HB.out.cell (World.block_lt_of_cell? w _ hw806_0)).trans hw806_0), ((HB.out.cell (World.block_lt_of_cell? w _ hw807_0)).trans hw807_0), ((HB.out.cell (World.block_lt_of_cell? w _ hw808_0)).trans hw808_0)⟩ (fun hHeld => ?_); clear hK K; refine norm_ (a' := ?_) ?_ ?_; rotate_left
                 ·show Act.put _ (some 48) _ = _; simp only [Act.put, List.setIfInBounds_toArray, List.set_cons_zero, List.set_cons_succ, i64_w, i32_w]; rfl
                 refine pure_ (i := 33) (N := some 8) (v := ?_) (a' := ?_) #[tT, tT, tT, tT, tT, tT, tT, tT, tT, tT, tT, tT, tT, tT, tT, tT, tT, tT, tT, tT, tT, tT, tT, tT, tT, tT, tT, tT, tT, tT, tT, tT, tT, tT] rfl rfl (any_of HT_.out (by kernel_rfl)) (fun _ _ _ h => h) (Or.inl ⟨by rfl, ?_⟩) ?_ ?_; rotate_left
                 ·intro w'; go_simp; with_reducible rfl
                 rotate_left
                 ·simp only [Act.put, List.setIfInBounds_toArray, List.set_cons_zero, List.set_cons_succ, i64_w, i32_w]; rfl
                 refine done_ (done_of HT_.out (by kernel_rfl)) ?_; obtain ⟨Ao33, co33, eo33⟩ := Kd.R_slice HO811.out; subst eo33
                 try go_wp2_with (first | ((with_reducible refine gate_callee (f := 82) rfl ?_); refine goesL_ (some 55) rfl rfl Try.func82 (by kernel_rfl) rfl #[.slice Ao33 y809.length co33, .int .i64 (wrap64 ((rd (rd_L1 l0 a1) a2) + 1)), .int .i64 (wrap64 ((rd (rd_L1 l0 a1) a2) + 1))] rfl (by (try simp only [List.map_toArray, List.map_cons, List.map_nil]); first | done | rfl | (simp only [List.length_drop, List.length_take]; rfl)) ?_; (with_reducible refine (spec_l1All.calls k _ _ y809 (wrap64 ((rd (rd_L1 l0 a1) a2) + 1)) (wrap64 ((rd (rd_L1 l0 a1) a2) + 1)) false _ ?side1 ?side2 A22.out).mono ?_); (case side1 => repeat (first | exact (Kd.R_reads' HO811.out).2.2 | (with_reducible refine Kd.C_alloc ?_ _) | (with_reducible refine Kd.C_drewN ?_ _) | (with_reducible refine Kd.C_drew ?_))); (case side2 => exact (Kd.R_reads' HO811.out).2.1); rintro e w' ⟨rfl, ⟨nd, rfl⟩⟩; refine ⟨_, rfl, ?_⟩) | ((with_reducible refine gate_callee (f := 82) rfl ?_); refine goesL_ (some 62) rfl rfl Try.func82 (by kernel_rfl) rfl #[.slice Ao33 y809.length co33, .int .i64 (wrap64 ((rd (rd_L1 l0 a1) a2) - 1)), .int .i64 (wrap64 ((rd (rd_L1 l0 a1) a2) - 1))] rfl (by (try simp only [List.map_toArray, List.map_cons, List.map_nil]); first | done | rfl | (simp only [List.length_drop, List.length_take]; rfl)) ?_; (with_reducible refine (spec_l1All.calls k _ _ y809 (wrap64 ((rd (rd_L1 l0 a1) a2) - 1)) (wrap64 ((rd (rd_L1 l0 a1) a2) - 1)) true _ ?side1 ?side2 A28.out).mono ?_); (case side1 => repeat (first | exact (Kd.R_reads' HO811.out).2.2 | (with_reducible refine Kd.C_alloc ?_ _) | (with_reducible refine Kd.C_drewN ?_ _) | (with_reducible refine Kd.C_drew ?_))); (case side2 => exact (Kd.R_reads' HO811.out).2.1); rintro e w' ⟨rfl, ⟨nd, rfl⟩⟩; refine ⟨_, rfl, ?_⟩))
                 go_ret; exact ⟨by first | rfl | (simp [errW_none, errW_some] <;> rfl) | (simp only [← hji8, ← hji12, ← hji16, ← hji19]; first | rfl | (simp [errW_none, errW_some] <;> rfl)) | (simp [*, errW_none, errW_some] <;> rfl), by repeat (first | (with_reducible first | exact HB.out | apply below_alloc | apply pw_below_drewN | apply below_drew1) | exact HB.out)⟩
                ·replace c29 := Bool.eq_false_iff.mpr c29
                 subst c29
                 have H1 : (some 0) = some r := by rw [if_neg (show ¬ (false = true) by decide)] at H; exact H
                 clear H; have H := H1; clear H1; obtain rfl := Option.some.inj H; have p799 : 0 ≤ (a1 : Int) := of_decide_eq_true (by first | (with_reducible assumption) | assumption); have q799 : a1 < (l0.length : Int) := of_decide_eq_true (by first | (with_reducible assumption) | assumption); obtain ⟨ad799, A799_0, c799_0, e799, hx799_0, hl799_0, hi799_0⟩ := at_L1 HR0.out a1 p799 q799
                 cases e799
                 have HR799_0 := Aside0.mk hi799_0; have HC799_0 := Aside0.mk hl799_0; clear hi799_0 hl799_0; replace p799 := eq_true p799; replace q799 := eq_true q799; have p800 : 0 ≤ (a2 : Int) := of_decide_eq_true (by first | (with_reducible assumption) | assumption); have q800 : a2 < ((rd_L1 l0 a1).length : Int) := of_decide_eq_true (by first | (with_reducible assumption) | assumption); obtain ⟨ad800, e800, hx800_0⟩ := Kd.at_int HR799_0.out a2 p800 q800
                 cases e800
                 replace p800 := eq_true p800; replace q800 := eq_true q800; go_enter Try.func148, Try.ntmps148
                 try go_wp2
                 have n0_ := Aside0.mk (below_drew1 HB.out); clear HB; have HB := n0_; clear n0_; have p801 : 0 ≤ ((ji8) : Int) := of_decide_eq_true (by first | (with_reducible assumption) | assumption); have q801 : (ji8) < (l0.length : Int) := of_decide_eq_true (by first | (with_reducible assumption) | assumption); obtain ⟨ad801, A801_0, c801_0, e801, hx801_0, hl801_0, hi801_0⟩ := at_L1 HR0.out (ji8) p801 q801; have hw801_0 := hx801_0
                 obtain rfl : ad799 = ad801 := (by injection e801)
                 (try replace hx801_0 := (HB.out.cell (World.block_lt_of_cell? w _ hx801_0)).trans hx801_0)
                 have HR801_0 := Aside0.mk hi801_0; have HC801_0 := Aside0.mk hl801_0; clear hi801_0 hl801_0; replace p801 := eq_true p801; replace q801 := eq_true q801; have p802 : 0 ≤ (a2 : Int) := of_decide_eq_true (by first | (with_reducible assumption) | assumption); have q802 : a2 < ((rd_L1 l0 (ji8)).length : Int) := of_decide_eq_true (by first | (with_reducible assumption) | assumption); obtain ⟨ad802, e802, hx802_0⟩ := Kd.at_int HR801_0.out a2 p802 q802; have hw802_0 := hx802_0
                 cases e802
                 (try replace hx802_0 := (HB.out.cell (World.block_lt_of_cell? w _ hx802_0)).trans hx802_0)
                 replace p802 := eq_true p802; replace q802 := eq_true q802; have p803 : 0 ≤ ((ji12) : Int) := of_decide_eq_true (by first | (with_reducible assumption) | assumption); have q803 : (ji12) < (l0.length : Int) := of_decide_eq_true (by first | (with_reducible assumption) | assumption); obtain ⟨ad803, A803_0, c803_0, e803, hx803_0, hl803_0, hi803_0⟩ := at_L1 HR0.out (ji12) p803 q803; have hw803_0 := hx803_0
                 obtain rfl : ad799 = ad803 := (by injection e803)
                 (try replace hx803_0 := (HB.out.cell (World.block_lt_of_cell? w _ hx803_0)).trans hx803_0)
                 have HR803_0 := Aside0.mk hi803_0; have HC803_0 := Aside0.mk hl803_0; clear hi803_0 hl803_0; replace p803 := eq_true p803; replace q803 := eq_true q803; have p804 : 0 ≤ (a2 : Int) := of_decide_eq_true (by first | (with_reducible assumption) | assumption); have q804 : a2 < ((rd_L1 l0 (ji12)).length : Int) := of_decide_eq_true (by first | (with_reducible assumption) | assumption); obtain ⟨ad804, e804, hx804_0⟩ := Kd.at_int HR803_0.out a2 p804 q804; have hw804_0 := hx804_0
                 cases e804
                 (try replace hx804_0 := (HB.out.cell (World.block_lt_of_cell? w _ hx804_0)).trans hx804_0)
                 replace p804 := eq_true p804; replace q804 := eq_true q804; have p805 : 0 ≤ (a1 : Int) := of_decide_eq_true (by first | (with_reducible assumption) | assumption); have q805 : a1 < (l0.length : Int) := of_decide_eq_true (by first | (with_reducible assumption) | assumption); obtain ⟨ad805, A805_0, c805_0, e805, hx805_0, hl805_0, hi805_0⟩ := at_L1 HR0.out a1 p805 q805; have hw805_0 := hx805_0
                 obtain rfl : ad799 = ad805 := (by injection e805)
                 (try replace hx805_0 := (HB.out.cell (World.block_lt_of_cell? w _ hx805_0)).trans hx805_0)
                 have HR805_0 := Aside0.mk hi805_0; have HC805_0 := Aside0.mk hl805_0; clear hi805_0 hl805_0; replace p805 := eq_true p805; replace q805 := eq_true q805; have p806 : 0 ≤ ((ji16) : Int) := of_decide_eq_true (by first | (with_reducible assumption) | assumption); have q806 : (ji16) < ((rd_L1 l0 a1).length : Int) := of_decide_eq_true (by first | (with_reducible assumption) | assumption); obtain ⟨ad806, e806, hx806_0⟩ := Kd.at_int HR805_0.out (ji16) p806 q806; have hw806_0 := hx806_0
                 cases e806
                 (try replace hx806_0 := (HB.out.cell (World.block_lt_of_cell? w _ hx806_0)).trans hx806_0)
                 replace p806 := eq_true p806; replace q806 := eq_true q806; have p807 : 0 ≤ (a1 : Int) := of_decide_eq_true (by first | (with_reducible assumption) | assumption); have q807 : a1 < (l0.length : Int) := of_decide_eq_true (by first | (with_reducible assumption) | assumption); obtain ⟨ad807, A807_0, c807_0, e807, hx807_0, hl807_0, hi807_0⟩ := at_L1 HR0.out a1 p807 q807; have hw807_0 := hx807_0
                 obtain rfl : ad799 = ad807 := (by injection e807)
                 (try replace hx807_0 := (HB.out.cell (World.block_lt_of_cell? w _ hx807_0)).trans hx807_0)
                 have HR807_0 := Aside0.mk hi807_0; have HC807_0 := Aside0.mk hl807_0; clear hi807_0 hl807_0; replace p807 := eq_true p807; replace q807 := eq_true q807; have ea_ := Option.some.inj (hx805_0.symm.trans hx807_0); injection ea_ with ea_ en_ ec_; subst ea_; subst ec_; clear en_; have p808 : 0 ≤ ((ji19) : Int) := of_decide_eq_true (by first | (with_reducible assumption) | assumption); have q808 : (ji19) < ((rd_L1 l0 a1).length : Int) := of_decide_eq_true (by first | (with_reducible assumption) | assumption); obtain ⟨ad808, e808, hx808_0⟩ := Kd.at_int HR807_0.out (ji19) p808 q808; have hw808_0 := hx808_0
                 cases e808
                 (try replace hx808_0 := (HB.out.cell (World.block_lt_of_cell? w _ hx808_0)).trans hx808_0)
                 replace p808 := eq_true p808; replace q808 := eq_true q808
                 refine start_ (n := 34) (S := fun w' => w'.cell? (ad799.add ((ji8)).toNat) = some (.slice (some ad802) (rd_L1 l0 (ji8)).length c801_0) ∧ w'.cell? (ad802.add (a2).toNat) = some (.int .i64 (rd (rd_L1 l0 (ji8)) a2)) ∧ w'.cell? (ad799.add ((ji12)).toNat) = some (.slice (some ad804) (rd_L1 l0 (ji12)).length c803_0) ∧ w'.cell? (ad804.add (a2).toNat) = some (.int .i64 (rd (rd_L1 l0 (ji12)) a2)) ∧ w'.cell? (ad799.add (a1).toNat) = some (.slice (some ad806) (rd_L1 l0 a1).length c805_0) ∧ w'.cell? (ad806.add ((ji16)).toNat) = some (.int .i64 (rd (rd_L1 l0 a1) (ji16))) ∧ w'.cell? (ad799.add (a1).toNat) = some (.slice (some ad806) (rd_L1 l0 a1).length c805_0) ∧ w'.cell? (ad806.add ((ji19)).toNat) = some (.int .i64 (rd (rd_L1 l0 a1) (ji19)))) (ds := []) #[fF, fF, fF, fF, fF, fF, fF, fF, fF, fF, fF, fF, fF, fF, fF, fF, fF, fF, fF, fF, fF, fF, fF, fF, fF, fF, fF, fF, fF, fF, fF, fF, fF, fF] (by kernel_rfl) rfl rfl ⟨((HB.out.cell (World.block_lt_of_cell? w _ hw801_0)).trans hw801_0), ((HB.out.cell (World.block_lt_of_cell? w _ hw802_0)).trans hw802_0), ((HB.out.cell (World.block_lt_of_cell? w _ hw803_0)).trans hw803_0), ((HB.out.cell (World.block_lt_of_cell? w _ hw804_0)).trans hw804_0), ((HB.out.cell (World.block_lt_of_cell? w _ hw805_0)).trans hw805_0), ((HB.out.cell (World.block_lt_of_cell? w _ hw806_0)).trans hw806_0), ((HB.out.cell (World.block_lt_of_cell? w _ hw807_0)).trans hw807_0), ((HB.out.cell (World.block_lt_of_cell? w _ hw808_0)).trans hw808_0)⟩ (fun hHeld => ?_); refine with_tabW spec_heWay.tab2 spec_heWay.bits2 (fun HT_ HW_ => ?_)
                 generalize w.drew = w34 at HB HR801_0 HR803_0 HR805_0 HR807_0 hx801_0 hx802_0 hx803_0 hx804_0 hx805_0 hx806_0 hx807_0 hx808_0 hHeld ⊢; refine pure_ (i := 0) (N := some 16) (v := ?_) (a' := ?_) #[tT, fF, fF, fF, fF, fF, fF, fF, fF, fF, fF, fF, fF, fF, fF, fF, fF, fF, fF, fF, fF, fF, fF, fF, fF, fF, fF, fF, fF, fF, fF, fF, fF, fF] rfl rfl (any_of HT_.out (by kernel_rfl)) (fun _ _ _ h => h) (Or.inl ⟨by rfl, ?_⟩) ?_ ?_; rotate_left
                 ·intro w'; go_simp; with_reducible rfl
                 rotate_left
                 ·simp only [Act.put, List.setIfInBounds_toArray, List.set_cons_zero, List.set_cons_succ, i64_w, i32_w]; rfl
                 refine pure_ (i := 1) (N := some 17) (v := ?_) (a' := ?_) #[tT, tT, fF, fF, fF, fF, fF, fF, fF, fF, fF, fF, fF, fF, fF, fF, fF, fF, fF, fF, fF, fF, fF, fF, fF, fF, fF, fF, fF, fF, fF, fF, fF, fF] rfl rfl (any_of HT_.out (by kernel_rfl)) (fun _ _ _ h => h) (Or.inl ⟨by rfl, ?_⟩) ?_ ?_; rotate_left
                 ·intro w'; go_simp; with_reducible rfl
                 rotate_left
                 ·simp only [Act.put, List.setIfInBounds_toArray, List.set_cons_zero, List.set_cons_succ, i64_w, i32_w]; rfl
                 refine pure_ (i := 2) (N := some 18) (v := ?_) (a' := ?_) #[tT, tT, tT, fF, fF, fF, fF, fF, fF, fF, fF, fF, fF, fF, fF, fF, fF, fF, fF, fF, fF, fF, fF, fF, fF, fF, fF, fF, fF, fF, fF, fF, fF, fF] rfl rfl (any_of HT_.out (by kernel_rfl)) (fun _ _ _ h => h) (Or.inl ⟨by rfl, ?_⟩) ?_ ?_; rotate_left
                 ·intro w'; go_simp; with_reducible rfl
                 rotate_left
                 ·simp only [Act.put, List.setIfInBounds_toArray, List.set_cons_zero, List.set_cons_succ, i64_w, i32_w]; rfl
                 refine pure_ (i := 3) (N := some 19) (v := ?_) (a' := ?_) #[tT, tT, tT, tT, fF, fF, fF, fF, fF, fF, fF, fF, fF, fF, fF, fF, fF, fF, fF, fF, fF, fF, fF, fF, fF, fF, fF, fF, fF, fF, fF, fF, fF, fF] rfl rfl (any_of HT_.out (by kernel_rfl)) (fun _ _ _ h => h) (Or.inl ⟨by rfl, ?_⟩) ?_ ?_; rotate_left
                 ·intro w'; go_simp; with_reducible rfl
                 rotate_left
                 ·simp only [Act.put, List.setIfInBounds_toArray, List.set_cons_zero, List.set_cons_succ, i64_w, i32_w]; rfl
                 refine pure_ (i := 5) (N := some 21) (v := ?_) (a' := ?_) #[tT, tT, tT, tT, fF, tT, fF, fF, fF, fF, fF, fF, fF, fF, fF, fF, fF, fF, fF, fF, fF, fF, fF, fF, fF, fF, fF, fF, fF, fF, fF, fF, fF, fF] rfl rfl (any_of HT_.out (by kernel_rfl)) (fun _ _ _ h => h) (Or.inl ⟨by rfl, ?_⟩) ?_ ?_; rotate_left
                 ·intro w'; go_simp; with_reducible rfl
                 rotate_left
                 ·simp only [Act.put, List.setIfInBounds_toArray, List.set_cons_zero, List.set_cons_succ, i64_w, i32_w]; rfl
                 refine pure_ (i := 8) (N := some 24) (v := ?_) (a' := ?_) #[tT, tT, tT, tT, fF, tT, fF, fF, tT, fF, fF, fF, fF, fF, fF, fF, fF, fF, fF, fF, fF, fF, fF, fF, fF, fF, fF, fF, fF, fF, fF, fF, fF, fF] rfl rfl (any_of HT_.out (by kernel_rfl)) (fun _ _ _ h => h) (Or.inl ⟨by rfl, ?_⟩) ?_ ?_; rotate_left
                 ·intro w'; go_simp; with_reducible rfl
                 rotate_left
                 ·simp only [Act.put, List.setIfInBounds_toArray, List.set_cons_zero, List.set_cons_succ, i64_w, i32_w]; rfl
                 refine pure_ (i := 9) (N := some 25) (v := ?_) (a' := ?_) #[tT, tT, tT, tT, fF, tT, fF, fF, tT, tT, fF, fF, fF, fF, fF, fF, fF, fF, fF, fF, fF, fF, fF, fF, fF, fF, fF, fF, fF, fF, fF, fF, fF, fF] rfl rfl (any_of HT_.out (by kernel_rfl)) (fun _ _ _ h => h) (Or.inl ⟨by rfl, ?_⟩) ?_ ?_; rotate_left
                 ·intro w'; go_simp; with_reducible rfl
                 rotate_left
                 ·simp only [Act.put, List.setIfInBounds_toArray, List.set_cons_zero, List.set_cons_succ, i64_w, i32_w]; rfl
                 refine pure_ (i := 10) (N := some 26) (v := ?_) (a' := ?_) #[tT, tT, tT, tT, fF, tT, fF, fF, tT, tT, tT, fF, fF, fF, fF, fF, fF, fF, fF, fF, fF, fF, fF, fF, fF, fF, fF, fF, fF, fF, fF, fF, fF, fF] rfl rfl (any_of HT_.out (by kernel_rfl)) (fun _ _ _ h => h) (Or.inl ⟨by rfl, ?_⟩) ?_ ?_; rotate_left
                 ·intro w'; go_simp; with_reducible rfl
                 rotate_left
                 ·simp only [Act.put, List.setIfInBounds_toArray, List.set_cons_zero, List.set_cons_succ, i64_w, i32_w]; rfl
                 refine pure_ (i := 11) (N := some 27) (v := ?_) (a' := ?_) #[tT, tT, tT, tT, fF, tT, fF, fF, tT, tT, tT, tT, fF, fF, fF, fF, fF, fF, fF, fF, fF, fF, fF, fF, fF, fF, fF, fF, fF, fF, fF, fF, fF, fF] rfl rfl (any_of HT_.out (by kernel_rfl)) (fun _ _ _ h => h) (Or.inl ⟨by rfl, ?_⟩) ?_ ?_; rotate_left
                 ·intro w'; go_simp; with_reducible rfl
                 rotate_left
                 ·simp only [Act.put, List.setIfInBounds_toArray, List.set_cons_zero, List.set_cons_succ, i64_w, i32_w]; rfl
                 refine pure_ (i := 13) (N := some 29) (v := ?_) (a' := ?_) #[tT, tT, tT, tT, fF, tT, fF, fF, tT, tT, tT, tT, fF, tT, fF, fF, fF, fF, fF, fF, fF, fF, fF, fF, fF, fF, fF, fF, fF, fF, fF, fF, fF, fF] rfl rfl (any_of HT_.out (by kernel_rfl)) (fun _ _ _ h => h) (Or.inl ⟨by rfl, ?_⟩) ?_ ?_; rotate_left
                 ·intro w'; go_simp; with_reducible rfl
                 rotate_left
                 ·simp only [Act.put, List.setIfInBounds_toArray, List.set_cons_zero, List.set_cons_succ, i64_w, i32_w]; rfl
                 refine pure_ (i := 16) (N := some 32) (v := ?_) (a' := ?_) #[tT, tT, tT, tT, fF, tT, fF, fF, tT, tT, tT, tT, fF, tT, fF, fF, tT, fF, fF, fF, fF, fF, fF, fF, fF, fF, fF, fF, fF, fF, fF, fF, fF, fF] rfl rfl (any_of HT_.out (by kernel_rfl)) (fun _ _ _ h => h) (Or.inl ⟨by rfl, ?_⟩) ?_ ?_; rotate_left
                 ·intro w'; go_simp; with_reducible rfl
                 rotate_left
                 ·simp only [Act.put, List.setIfInBounds_toArray, List.set_cons_zero, List.set_cons_succ, i64_w, i32_w]; rfl
                 refine pure_ (i := 17) (N := some 33) (v := ?_) (a' := ?_) #[tT, tT, tT, tT, fF, tT, fF, fF, tT, tT, tT, tT, fF, tT, fF, fF, tT, tT, fF, fF, fF, fF, fF, fF, fF, fF, fF, fF, fF, fF, fF, fF, fF, fF] rfl rfl (any_of HT_.out (by kernel_rfl)) (fun _ _ _ h => h) (Or.inl ⟨by rfl, ?_⟩) ?_ ?_; rotate_left
                 ·intro w'; go_simp; with_reducible rfl
                 rotate_left
                 ·simp only [Act.put, List.setIfInBounds_toArray, List.set_cons_zero, List.set_cons_succ, i64_w, i32_w]; rfl
                 refine pure_ (i := 18) (N := some 34) (v := ?_) (a' := ?_) #[tT, tT, tT, tT, fF, tT, fF, fF, tT, tT, tT, tT, fF, tT, fF, fF, tT, tT, tT, fF, fF, fF, fF, fF, fF, fF, fF, fF, fF, fF, fF, fF, fF, fF] rfl rfl (any_of HT_.out (by kernel_rfl)) (fun _ _ _ h => h) (Or.inl ⟨by rfl, ?_⟩) ?_ ?_; rotate_left
                 ·intro w'; go_simp; with_reducible rfl
                 rotate_left
                 ·simp only [Act.put, List.setIfInBounds_toArray, List.set_cons_zero, List.set_cons_succ, i64_w, i32_w]; rfl
                 refine pure_ (i := 20) (N := some 36) (v := ?_) (a' := ?_) #[tT, tT, tT, tT, fF, tT, fF, fF, tT, tT, tT, tT, fF, tT, fF, fF, tT, tT, tT, fF, tT, fF, fF, fF, fF, fF, fF, fF, fF, fF, fF, fF, fF, fF] rfl rfl (any_of HT_.out (by kernel_rfl)) (fun _ _ _ h => h) (Or.inl ⟨by rfl, ?_⟩) ?_ ?_; rotate_left
                 ·intro w'; go_simp; with_reducible rfl
                 rotate_left
                 ·simp only [Act.put, List.setIfInBounds_toArray, List.set_cons_zero, List.set_cons_succ, i64_w, i32_w]; rfl
                 refine pure_ (i := 21) (N := some 37) (v := ?_) (a' := ?_) #[tT, tT, tT, tT, fF, tT, fF, fF, tT, tT, tT, tT, fF, tT, fF, fF, tT, tT, tT, fF, tT, tT, fF, fF, fF, fF, fF, fF, fF, fF, fF, fF, fF, fF] rfl rfl (any_of HT_.out (by kernel_rfl)) (fun _ _ _ h => h) (Or.inl ⟨by rfl, ?_⟩) ?_ ?_; rotate_left
                 ·intro w'; go_simp; with_reducible rfl
                 rotate_left
                 ·simp only [Act.put, List.setIfInBounds_toArray, List.set_cons_zero, List.set_cons_succ, i64_w, i32_w]; rfl
                 refine pure_ (i := 24) (N := some 40) (v := ?_) (a' := ?_) #[tT, tT, tT, tT, fF, tT, fF, fF, tT, tT, tT, tT, fF, tT, fF, fF, tT, tT, tT, fF, tT, tT, fF, fF, tT, fF, fF, fF, fF, fF, fF, fF, fF, fF] rfl rfl (any_of HT_.out (by kernel_rfl)) (fun _ _ _ h => h) (Or.inl ⟨by rfl, ?_⟩) ?_ ?_; rotate_left
                 ·intro w'; go_simp; with_reducible rfl
                 rotate_left
                 ·simp only [Act.put, List.setIfInBounds_toArray, List.set_cons_zero, List.set_cons_succ, i64_w, i32_w]; rfl
                 refine pure_ (i := 25) (N := some 41) (v := ?_) (a' := ?_) #[tT, tT, tT, tT, fF, tT, fF, fF, tT, tT, tT, tT, fF, tT, fF, fF, tT, tT, tT, fF, tT, tT, fF, fF, tT, tT, fF, fF, fF, fF, fF, fF, fF, fF] rfl rfl (any_of HT_.out (by kernel_rfl)) (fun _ _ _ h => h) (Or.inl ⟨by rfl, ?_⟩) ?_ ?_; rotate_left
                 ·intro w'; go_simp; with_reducible rfl
                 rotate_left
                 ·simp only [Act.put, List.setIfInBounds_toArray, List.set_cons_zero, List.set_cons_succ, i64_w, i32_w]; rfl
                 refine pure_ (i := 26) (N := some 42) (v := ?_) (a' := ?_) #[tT, tT, tT, tT, fF, tT, fF, fF, tT, tT, tT, tT, fF, tT, fF, fF, tT, tT, tT, fF, tT, tT, fF, fF, tT, tT, tT, fF, fF, fF, fF, fF, fF, fF] rfl rfl (any_of HT_.out (by kernel_rfl)) (fun _ _ _ h => h) (Or.inl ⟨by rfl, ?_⟩) ?_ ?_; rotate_left
                 ·intro w'; go_simp; with_reducible rfl
                 rotate_left
                 ·simp only [Act.put, List.setIfInBounds_toArray, List.set_cons_zero, List.set_cons_succ, i64_w, i32_w]; rfl
                 refine pure_ (i := 28) (N := some 44) (v := ?_) (a' := ?_) #[tT, tT, tT, tT, fF, tT, fF, fF, tT, tT, tT, tT, fF, tT, fF, fF, tT, tT, tT, fF, tT, tT, fF, fF, tT, tT, tT, fF, tT, fF, fF, fF, fF, fF] rfl rfl (any_of HT_.out (by kernel_rfl)) (fun _ _ _ h => h) (Or.inl ⟨by rfl, ?_⟩) ?_ ?_; rotate_left
                 ·intro w'; go_simp; with_reducible rfl
                 rotate_left
                 ·simp only [Act.put, List.setIfInBounds_toArray, List.set_cons_zero, List.set_cons_succ, i64_w, i32_w]; rfl
                 refine pure_ (i := 29) (N := some 45) (v := ?_) (a' := ?_) #[tT, tT, tT, tT, fF, tT, fF, fF, tT, tT, tT, tT, fF, tT, fF, fF, tT, tT, tT, fF, tT, tT, fF, fF, tT, tT, tT, fF, tT, tT, fF, fF, fF, fF] rfl rfl (any_of HT_.out (by kernel_rfl)) (fun _ _ _ h => h) (Or.inl ⟨by rfl, ?_⟩) ?_ ?_; rotate_left
                 ·intro w'; go_simp; with_reducible rfl
                 rotate_left
                 ·simp only [Act.put, List.setIfInBounds_toArray, List.set_cons_zero, List.set_cons_succ, i64_w, i32_w]; rfl
                 refine take_ (i := 4) (N := some 20) (v := ?_) (a' := ?_) #[tT, tT, tT, tT, tT, tT, fF, fF, tT, tT, tT, tT, fF, tT, fF, fF, tT, tT, tT, fF, tT, tT, fF, fF, tT, tT, tT, fF, tT, tT, fF, fF, fF, fF] rfl rfl (take_ofW HT_.out HW_.out (by kernel_rfl)) (fun _ _ _ h => h) (Or.inl ⟨by rfl, ?_⟩) hHeld ?_ ?_; rotate_left
                 ·rintro w' ⟨s0, s1, s2, s3, s4, s5, s6, s7⟩; go_simp; with_reducible rfl
                 rotate_left
                 ·simp only [Act.put, List.setIfInBounds_toArray, List.set_cons_zero, List.set_cons_succ, i64_w, i32_w]; rfl
                 refine pure_ (i := 6) (N := some 22) (v := ?_) (a' := ?_) #[tT, tT, tT, tT, tT, tT, tT, fF, tT, tT, tT, tT, fF, tT, fF, fF, tT, tT, tT, fF, tT, tT, fF, fF, tT, tT, tT, fF, tT, tT, fF, fF, fF, fF] rfl rfl (any_of HT_.out (by kernel_rfl)) (fun _ _ _ h => h) (Or.inl ⟨by rfl, ?_⟩) ?_ ?_; rotate_left
                 ·intro w'; go_simp; with_reducible rfl
                 rotate_left
                 ·simp only [Act.put, List.setIfInBounds_toArray, List.set_cons_zero, List.set_cons_succ, i64_w, i32_w]; rfl
                 refine take_ (i := 7) (N := some 23) (v := ?_) (a' := ?_) #[tT, tT, tT, tT, tT, tT, tT, tT, tT, tT, tT, tT, fF, tT, fF, fF, tT, tT, tT, fF, tT, tT, fF, fF, tT, tT, tT, fF, tT, tT, fF, fF, fF, fF] rfl rfl (take_ofW HT_.out HW_.out (by kernel_rfl)) (fun _ _ _ h => h) (Or.inl ⟨by rfl, ?_⟩) hHeld ?_ ?_; rotate_left
                 ·rintro w' ⟨s0, s1, s2, s3, s4, s5, s6, s7⟩; go_simp; with_reducible rfl
                 rotate_left
                 ·simp only [Act.put, List.setIfInBounds_toArray, List.set_cons_zero, List.set_cons_succ, i64_w, i32_w]; rfl
                 refine take_ (i := 12) (N := some 28) (v := ?_) (a' := ?_) #[tT, tT, tT, tT, tT, tT, tT, tT, tT, tT, tT, tT, tT, tT, fF, fF, tT, tT, tT, fF, tT, tT, fF, fF, tT, tT, tT, fF, tT, tT, fF, fF, fF, fF] rfl rfl (take_ofW HT_.out HW_.out (by kernel_rfl)) (fun _ _ _ h => h) (Or.inl ⟨by rfl, ?_⟩) hHeld ?_ ?_; rotate_left
                 ·rintro w' ⟨s0, s1, s2, s3, s4, s5, s6, s7⟩; go_simp; with_reducible rfl
                 rotate_left
                 ·simp only [Act.put, List.setIfInBounds_toArray, List.set_cons_zero, List.set_cons_succ, i64_w, i32_w]; rfl
                 refine pure_ (i := 14) (N := some 30) (v := ?_) (a' := ?_) #[tT, tT, tT, tT, tT, tT, tT, tT, tT, tT, tT, tT, tT, tT, tT, fF, tT, tT, tT, fF, tT, tT, fF, fF, tT, tT, tT, fF, tT, tT, fF, fF, fF, fF] rfl rfl (any_of HT_.out (by kernel_rfl)) (fun _ _ _ h => h) (Or.inl ⟨by rfl, ?_⟩) ?_ ?_; rotate_left
                 ·intro w'; go_simp; with_reducible rfl
                 rotate_left
                 ·simp only [Act.put, List.setIfInBounds_toArray, List.set_cons_zero, List.set_cons_succ, i64_w, i32_w]; rfl
                 refine take_ (i := 15) (N := some 31) (v := ?_) (a' := ?_) #[tT, tT, tT, tT, tT, tT, tT, tT, tT, tT, tT, tT, tT, tT, tT, tT, tT, tT, tT, fF, tT, tT, fF, fF, tT, tT, tT, fF, tT, tT, fF, fF, fF, fF] rfl rfl (take_ofW HT_.out HW_.out (by kernel_rfl)) (fun _ _ _ h => h) (Or.inl ⟨by rfl, ?_⟩) hHeld ?_ ?_; rotate_left
                 ·rintro w' ⟨s0, s1, s2, s3, s4, s5, s6, s7⟩; go_simp; with_reducible rfl
                 rotate_left
                 ·simp only [Act.put, List.setIfInBounds_toArray, List.set_cons_zero, List.set_cons_succ, i64_w, i32_w]; rfl
                 refine take_ (i := 19) (N := some 35) (v := ?_) (a' := ?_) #[tT, tT, tT, tT, tT, tT, tT, tT, tT, tT, tT, tT, tT, tT, tT, tT, tT, tT, tT, tT, tT, tT, fF, fF, tT, tT, tT, fF, tT, tT, fF, fF, fF, fF] rfl rfl (take_ofW HT_.out HW_.out (by kernel_rfl)) (fun _ _ _ h => h) (Or.inl ⟨by rfl, ?_⟩) hHeld ?_ ?_; rotate_left
                 ·rintro w' ⟨s0, s1, s2, s3, s4, s5, s6, s7⟩; go_simp; with_reducible rfl
                 rotate_left
                 ·simp only [Act.put, List.setIfInBounds_toArray, List.set_cons_zero, List.set_cons_succ, i64_w, i32_w]; rfl
                 refine pure_ (i := 22) (N := some 38) (v := ?_) (a' := ?_) #[tT, tT, tT, tT, tT, tT, tT, tT, tT, tT, tT, tT, tT, tT, tT, tT, tT, tT, tT, tT, tT, tT, tT, fF, tT, tT, tT, fF, tT, tT, fF, fF, fF, fF] rfl rfl (any_of HT_.out (by kernel_rfl)) (fun _ _ _ h => h) (Or.inl ⟨by rfl, ?_⟩) ?_ ?_; rotate_left
                 ·intro w'; go_simp; with_reducible rfl
                 rotate_left
                 ·simp only [Act.put, List.setIfInBounds_toArray, List.set_cons_zero, List.set_cons_succ, i64_w, i32_w]; rfl
                 refine take_ (i := 23) (N := some 39) (v := ?_) (a' := ?_) #[tT, tT, tT, tT, tT, tT, tT, tT, tT, tT, tT, tT, tT, tT, tT, tT, tT, tT, tT, tT, tT, tT, tT, tT, tT, tT, tT, fF, tT, tT, fF, fF, fF, fF] rfl rfl (take_ofW HT_.out HW_.out (by kernel_rfl)) (fun _ _ _ h => h) (Or.inl ⟨by rfl, ?_⟩) hHeld ?_ ?_; rotate_left
                 ·rintro w' ⟨s0, s1, s2, s3, s4, s5, s6, s7⟩; go_simp; with_reducible rfl
                 rotate_left
                 ·simp only [Act.put, List.setIfInBounds_toArray, List.set_cons_zero, List.set_cons_succ, i64_w, i32_w]; rfl
                 refine take_ (i := 27) (N := some 43) (v := ?_) (a' := ?_) #[tT, tT, tT, tT, tT, tT, tT, tT, tT, tT, tT, tT, tT, tT, tT, tT, tT, tT, tT, tT, tT, tT, tT, tT, tT, tT, tT, tT, tT, tT, fF, fF, fF, fF] rfl rfl (take_ofW HT_.out HW_.out (by kernel_rfl)) (fun _ _ _ h => h) (Or.inl ⟨by rfl, ?_⟩) hHeld ?_ ?_; rotate_left
                 ·rintro w' ⟨s0, s1, s2, s3, s4, s5, s6, s7⟩; go_simp; with_reducible rfl
                 rotate_left
                 ·simp only [Act.put, List.setIfInBounds_toArray, List.set_cons_zero, List.set_cons_succ, i64_w, i32_w]; rfl
                 refine pure_ (i := 30) (N := some 46) (v := ?_) (a' := ?_) #[tT, tT, tT, tT, tT, tT, tT, tT, tT, tT, tT, tT, tT, tT, tT, tT, tT, tT, tT, tT, tT, tT, tT, tT, tT, tT, tT, tT, tT, tT, tT, fF, fF, fF] rfl rfl (any_of HT_.out (by kernel_rfl)) (fun _ _ _ h => h) (Or.inl ⟨by rfl, ?_⟩) ?_ ?_; rotate_left
                 ·intro w'; go_simp; with_reducible rfl
                 rotate_left
                 ·simp only [Act.put, List.setIfInBounds_toArray, List.set_cons_zero, List.set_cons_succ, i64_w, i32_w]; rfl
                 refine take_ (i := 31) (N := some 47) (v := ?_) (a' := ?_) #[tT, tT, tT, tT, tT, tT, tT, tT, tT, tT, tT, tT, tT, tT, tT, tT, tT, tT, tT, tT, tT, tT, tT, tT, tT, tT, tT, tT, tT, tT, tT, tT, fF, fF] rfl rfl (take_ofW HT_.out HW_.out (by kernel_rfl)) (fun _ _ _ h => h) (Or.inl ⟨by rfl, ?_⟩) hHeld ?_ ?_; rotate_left
                 ·rintro w' ⟨s0, s1, s2, s3, s4, s5, s6, s7⟩; go_simp; with_reducible rfl
                 rotate_left
                 ·simp only [Act.put, List.setIfInBounds_toArray, List.set_cons_zero, List.set_cons_succ, i64_w, i32_w]; rfl
                 refine one_ (i := 32) (N := some 48) #[tT, tT, tT, tT, tT, tT, tT, tT, tT, tT, tT, tT, tT, tT, tT, tT, tT, tT, tT, tT, tT, tT, tT, tT, tT, tT, tT, tT, tT, tT, tT, tT, tT, fF] rfl rfl (one_of HT_.out (by kernel_rfl)) (by decide) (fun K hK => ?_)
                 refine Kd.R_lit_step (Kd.int .i64) _ 3 ?hg (N := 48) ?hd (xs := ([rd (rd_L1 l0 (ji8)) a2, rd (rd_L1 l0 (ji12)) a2, rd (rd_L1 l0 a1) (ji16), rd (rd_L1 l0 a1) (ji19)] : List Int)) (inner := [.int .i64 (rd (rd_L1 l0 (ji8)) a2), .int .i64 (rd (rd_L1 l0 (ji12)) a2), .int .i64 (rd (rd_L1 l0 a1) (ji16)), .int .i64 (rd (rd_L1 l0 a1) (ji19))]) (ok := fun _ => True) (okp := fun _ => True) ?hr ?hp (fun _ hk => hk) trivial (Below.refl _ _) (Nat.le_refl _) (by simp) ?_; (case hd => rfl); (case hg => rfl); (case hr => first | (go_simp; done) | (go_simp; rfl)); (case hp => exact (Reps.one (show Kd.M (Kd.int .i64) _ _ _ (rd (rd_L1 l0 (ji8)) a2) [.int .i64 (rd (rd_L1 l0 (ji8)) a2)] from rfl) (Reps.one (show Kd.M (Kd.int .i64) _ _ _ (rd (rd_L1 l0 (ji12)) a2) [.int .i64 (rd (rd_L1 l0 (ji12)) a2)] from rfl) (Reps.one (show Kd.M (Kd.int .i64) _ _ _ (rd (rd_L1 l0 a1) (ji16)) [.int .i64 (rd (rd_L1 l0 a1) (ji16))] from rfl) (Reps.one (show Kd.M (Kd.int .i64) _ _ _ (rd (rd_L1 l0 a1) (ji19)) [.int .i64 (rd (rd_L1 l0 a1) (ji19))] from rfl) (Reps.none _ _))))))
                 intro v810 w35 ho36 hb hg_ hnew_; clear hg_ hnew_
                 (first | rw [← Ny809.out] at ho36 | (simp only [Int.reduceToNat] at ho36; rw [← Ny809.out] at ho36))
                 have n0_ := Aside0.mk (Kd.R_lower ho36 (below_size (by repeat (first | (with_reducible first | exact HB.out | apply below_alloc | apply pw_below_drewN | apply below_drew1) | exact HB.out)))); have n1_ := Aside0.mk (below_step (by repeat (first | (with_reducible first | exact HB.out | apply below_alloc | apply pw_below_drewN | apply below_drew1) | exact HB.out)) hb); clear HB; have HO811 := n0_; have HB := n1_; clear n0_ n1_; clear hb ho36; refine hK.out _ _ ⟨((HB.out.cell (World.block_lt_of_cell? w _ hw801_0)).trans hw801_0), ((HB.out.cell (World.block_lt_of_cell? w _ hw802_0)).trans hw802_0), ((HB.out.cell (World.block_lt_of_cell? w _ hw803_0)).trans hw803_0), ((HB.out.cell (World.block_lt_of_cell? w _ hw804_0)).trans hw804_0), ((HB.out.cell (World.block_lt_of_cell? w _ hw805_0)).trans hw805_0), ((HB.out.cell (World.block_lt_of_cell? w _ hw806_0)).trans hw806_0), ((HB.out.cell (World.block_lt_of_cell? w _ hw807_0)).trans hw807_0), ((HB.out.cell (World.block_lt_of_cell? w _ hw808_0)).trans hw808_0)⟩ (fun hHeld => ?_); clear hK K; refine norm_ (a' := ?_) ?_ ?_; rotate_left
                 ·show Act.put _ (some 48) _ = _; simp only [Act.put, List.setIfInBounds_toArray, List.set_cons_zero, List.set_cons_succ, i64_w, i32_w]; rfl
                 refine pure_ (i := 33) (N := some 8) (v := ?_) (a' := ?_) #[tT, tT, tT, tT, tT, tT, tT, tT, tT, tT, tT, tT, tT, tT, tT, tT, tT, tT, tT, tT, tT, tT, tT, tT, tT, tT, tT, tT, tT, tT, tT, tT, tT, tT] rfl rfl (any_of HT_.out (by kernel_rfl)) (fun _ _ _ h => h) (Or.inl ⟨by rfl, ?_⟩) ?_ ?_; rotate_left
                 ·intro w'; go_simp; with_reducible rfl
                 rotate_left
                 ·simp only [Act.put, List.setIfInBounds_toArray, List.set_cons_zero, List.set_cons_succ, i64_w, i32_w]; rfl
                 refine done_ (done_of HT_.out (by kernel_rfl)) ?_; obtain ⟨Ao37, co37, eo37⟩ := Kd.R_slice HO811.out; subst eo37
                 try go_wp2_with (first | ((with_reducible refine gate_callee (f := 82) rfl ?_); refine goesL_ (some 55) rfl rfl Try.func82 (by kernel_rfl) rfl #[.slice Ao37 y809.length co37, .int .i64 (wrap64 ((rd (rd_L1 l0 a1) a2) + 1)), .int .i64 (wrap64 ((rd (rd_L1 l0 a1) a2) + 1))] rfl (by (try simp only [List.map_toArray, List.map_cons, List.map_nil]); first | done | rfl | (simp only [List.length_drop, List.length_take]; rfl)) ?_; (with_reducible refine (spec_l1All.calls k _ _ y809 (wrap64 ((rd (rd_L1 l0 a1) a2) + 1)) (wrap64 ((rd (rd_L1 l0 a1) a2) + 1)) false _ ?side1 ?side2 A22.out).mono ?_); (case side1 => repeat (first | exact (Kd.R_reads' HO811.out).2.2 | (with_reducible refine Kd.C_alloc ?_ _) | (with_reducible refine Kd.C_drewN ?_ _) | (with_reducible refine Kd.C_drew ?_))); (case side2 => exact (Kd.R_reads' HO811.out).2.1); rintro e w' ⟨rfl, ⟨nd, rfl⟩⟩; refine ⟨_, rfl, ?_⟩) | ((with_reducible refine gate_callee (f := 82) rfl ?_); refine goesL_ (some 62) rfl rfl Try.func82 (by kernel_rfl) rfl #[.slice Ao37 y809.length co37, .int .i64 (wrap64 ((rd (rd_L1 l0 a1) a2) - 1)), .int .i64 (wrap64 ((rd (rd_L1 l0 a1) a2) - 1))] rfl (by (try simp only [List.map_toArray, List.map_cons, List.map_nil]); first | done | rfl | (simp only [List.length_drop, List.length_take]; rfl)) ?_; (with_reducible refine (spec_l1All.calls k _ _ y809 (wrap64 ((rd (rd_L1 l0 a1) a2) - 1)) (wrap64 ((rd (rd_L1 l0 a1) a2) - 1)) false _ ?side1 ?side2 A28.out).mono ?_); (case side1 => repeat (first | exact (Kd.R_reads' HO811.out).2.2 | (with_reducible refine Kd.C_alloc ?_ _) | (with_reducible refine Kd.C_drewN ?_ _) | (with_reducible refine Kd.C_drew ?_))); (case side2 => exact (Kd.R_reads' HO811.out).2.1); rintro e w' ⟨rfl, ⟨nd, rfl⟩⟩; refine ⟨_, rfl, ?_⟩))
                 go_ret; exact ⟨by first | rfl | (simp [errW_none, errW_some] <;> rfl) | (simp only [← hji8, ← hji12, ← hji16, ← hji19]; first | rfl | (simp [errW_none, errW_some] <;> rfl)) | (simp [*, errW_none, errW_some] <;> rfl), by repeat (first | (with_reducible first | exact HB.out | apply below_alloc | apply pw_below_drewN | apply below_drew1) | exact HB.out)⟩
              ·rw [if_neg c21] at H; exact absurd H (by simp)
             ·rw [if_neg c20] at H; exact absurd H (by simp)
            ·rw [if_neg c18] at H; exact absurd H (by simp)
           ·rw [if_neg c17] at H; exact absurd H (by simp)
          ·rw [if_neg c15] at H; exact absurd H (by simp)
         ·rw [if_neg c14] at H; exact absurd H (by simp)
        ·rw [if_neg c13] at H; exact absurd H (by simp)
       ·rw [if_neg c11] at H; exact absurd H (by simp)
      ·rw [if_neg c10] at H; exact absurd H (by simp)
     ·rw [if_neg c9] at H; exact absurd H (by simp)
    ·rw [if_neg c7] at H; exact absurd H (by simp)
   ·rw [if_neg c6] at H; exact absurd H (by simp)
  ·rw [if_neg c5] at H; exact absurd H (by simp)
 ·rw [if_neg c4] at H; exact absurd H (by simp)
/-! ### spec_heFlips: function 124 -/
mutual
def spec_heFlips.l0 : Nat → List (List Int) → Int → List (List Int) → Int → Option ((List (List Int)))
 | 0, _, _, _, _ => none
 | k + 1, x0, x1, x5, x6 => if x6 < (wrap64 ((x0.length : Int) - 1)) then (spec_heFlips.l1 k x0 x1 x5 x6 1) else (some x5)
def spec_heFlips.l1 : Nat → List (List Int) → Int → List (List Int) → Int → Int → Option ((List (List Int)))
 | 0, _, _, _, _, _ => none
 | k + 1, x0, x1, x5, x6, x7 => if x7 < (wrap64 ((x0.length : Int) - 1)) then ((spec_heWay.f k x0 x6 x7).bind fun t814 => (if t814 = x1 then (if x5.length < 5864062014805 then (spec_heFlips.l1 k x0 x1 (x5 ++ [(([x6, x7] : List Int))]) x6 (wrap64 (x7 + 1))) else (none)) else (spec_heFlips.l1 k x0 x1 x5 x6 (wrap64 (x7 + 1))))) else (spec_heFlips.l0 k x0 x1 x5 (wrap64 (x6 + 1)))
end
def spec_heFlips.f (k : Nat) (l0 : List (List Int)) (a1 : Int) : Option ((List (List Int))) := spec_heFlips.l0 k l0 a1 ([] : List (List Int)) 1
set_option maxHeartbeats 8000000 in
set_option maxRecDepth 100000 in
theorem spec_heFlips.calls (k : Nat) (A0 : Option Addr) (c0 : Nat) (l0 : List (List Int)) (a1 : Int) (r : List (List Int)) (w : World) (hr0 : Kd.C (Kd.slice 3 (Kd.int .i64)) w A0 l0.length l0) (hc0 : l0.length ≤ c0) (h : spec_heFlips.f k l0 a1 = some r) :
  Calls Try.prog 124 #[.slice A0 l0.length c0, .int .i64 a1] w fun e w' => ∃ v0_ : Value, e = .returned (v0_) ∧ Kd.S (Kd.slice 3 (Kd.int .i64)) 22 w' w.heap.size (fun _ => True) v0_ r ∧ Below w.heap.size w w' := by
 have HR0 := Aside0.mk hr0; have HC0 := Aside0.mk hc0; clear hr0 hc0; have HB := Aside0.mk (Below.refl w.heap.size w); have H : (spec_heFlips.l0 k l0 a1 ([] : List (List Int)) 1) = some r := h; clear h; have H' := Aside0.mk H; clear H; go_enter Try.func124, Try.ntmps124; go_wp2
 go_loopg [5, 6] k (fun kq v5 v6 w' => ∃ (x5_1 : List (List Int)) (x6_1 : Int), v6 = .int .i64 x6_1 ∧ Aside0 (spec_heFlips.l0 kq l0 a1 x5_1 x6_1 = some r) ∧ Aside0 (kq ≤ k) ∧ Aside0 (Kd.S (Kd.slice 3 (Kd.int .i64)) 22 w' w.heap.size (fun _ => True) v5 x5_1) ∧ Aside0 (Below w.heap.size w w'))
 case atStart => exact ⟨(([] : List (List Int))), (1), (by first | rfl | (simp; done) | (simp [*]; done)), H', ⟨Nat.le_refl _⟩, ⟨by first | exact Kd.S_nil _ _ _ _ _ | exact Kd.N_nil _ _ _ _ _ | exact Kd.V_nil _ _ _ _ _ | exact Kd.Q_nil _ _ _ _ _ | exact Kd.R_nil _ _ _ _ _⟩, ⟨by repeat (first | (with_reducible first | exact HB.out | apply below_alloc | apply pw_below_drewN | apply below_drew1) | exact HB.out)⟩⟩
 case round =>
  clear H'
  try clear c1
  try clear p2
  obtain ⟨x5_1, x6_1, rfl, HA, HK1, HO_5, HB⟩ := hrel
  cases gk with
  | zero => exact absurd HA.out (by simp [spec_heFlips.l0])
  | succ k1 =>
   have H := HA.out; clear HA; simp only [spec_heFlips.l0] at H
   by_cases c3 : x6_1 < (wrap64 ((l0.length : Int) - 1))
   ·rw [if_pos c3] at H
    have c3b0 : decide (x6_1 < (wrap64 ((l0.length : Int) - 1))) = true := decide_eq_true c3; clear c3; have H' := Aside0.mk H; clear H; go_wp2
    go_loopg [5, 7] k1 (fun kq v5 v7 w' => ∃ (x5_2 : List (List Int)) (x7_2 : Int), v7 = .int .i64 x7_2 ∧ Aside0 (spec_heFlips.l1 kq l0 a1 x5_2 x6_1 x7_2 = some r) ∧ Aside0 (kq ≤ k1) ∧ Aside0 (Kd.S (Kd.slice 3 (Kd.int .i64)) 22 w' w.heap.size (fun _ => True) v5 x5_2) ∧ Aside0 (Below w.heap.size w w'))
    case atStart => exact ⟨(x5_1), (1), (by first | rfl | (simp; done) | (simp [*]; done)), H', ⟨Nat.le_refl _⟩, ⟨by (with_reducible repeat (first | apply Kd.S_alloc | apply Kd.S_drewN | apply Kd.S_drew)); exact HO_5.out⟩, ⟨by repeat (first | (with_reducible first | exact HB.out | apply below_alloc | apply pw_below_drewN | apply below_drew1) | exact HB.out)⟩⟩
    case round =>
     clear H'
     try clear c1
     try clear p2
     try clear c3
     try clear c3b0
     try clear p2
     obtain ⟨x5_2, x7_2, rfl, HA, HK2, HO_5, HB⟩ := hrel
     cases gk with
     | zero => exact absurd HA.out (by simp [spec_heFlips.l1])
     | succ k2 =>
      have H := HA.out; clear HA; simp only [spec_heFlips.l1] at H
      by_cases c4 : x7_2 < (wrap64 ((l0.length : Int) - 1))
      ·rw [if_pos c4] at H
       have c4b0 : decide (x7_2 < (wrap64 ((l0.length : Int) - 1))) = true := decide_eq_true c4; clear c4; replace H := Option.bind_eq_some_iff.mp H; obtain ⟨t814, A50, H⟩ := H; replace H : (if t814 = a1 then (if x5_2.length < 5864062014805 then (spec_heFlips.l1 k2 l0 a1 (x5_2 ++ [(([x6_1, x7_2] : List Int))]) x6_1 (wrap64 (x7_2 + 1))) else (none)) else (spec_heFlips.l1 k2 l0 a1 x5_2 x6_1 (wrap64 (x7_2 + 1)))) = some r := H; have A5 := Aside0.mk A50; clear A50
       by_cases c6 : t814 = a1
       ·rw [if_pos c6] at H
        have c6b0 : (t814 == a1) = true := beq_iff_eq.mpr c6; have c6b1 : (t814 != a1) = false := bne_eq_false_iff_eq.mpr c6; clear c6
        obtain ⟨y815, hy815⟩ : ∃ y_ : List Int, y_ = (([x6_1, x7_2] : List Int)) := ⟨_, rfl⟩
        replace H : (if x5_2.length < 5864062014805 then (spec_heFlips.l1 k2 l0 a1 (x5_2 ++ [y815]) x6_1 (wrap64 (x7_2 + 1))) else (none)) = some r := by first | (rw [hy815]; with_reducible exact H) | (have H2_ := (Option.bind_some _ _).symm.trans H; rw [hy815]; with_reducible exact H2_) | (have H2_ := (Option.bind_some _ _).symm.trans H; with_reducible exact H2_) | with_reducible exact H | (rw [hy815]; exact H) | exact H
        have Ny815 := Aside0.mk hy815; clear hy815
        by_cases c7 : x5_2.length < 5864062014805
        ·rw [if_pos c7] at H
         have LMc7 := Aside0.mk c7; clear c7
         obtain ⟨y818, hy818⟩ : ∃ y_ : List (List Int), y_ = (x5_2 ++ [y815]) := ⟨_, rfl⟩
         replace H : (spec_heFlips.l1 k2 l0 a1 y818 x6_1 (wrap64 (x7_2 + 1))) = some r := by first | (rw [hy818]; with_reducible exact H) | (have H2_ := (Option.bind_some _ _).symm.trans H; rw [hy818]; with_reducible exact H2_) | (have H2_ := (Option.bind_some _ _).symm.trans H; with_reducible exact H2_) | with_reducible exact H | (rw [hy818]; exact H) | exact H
         have Ny818 := Aside0.mk hy818; clear hy818; have H' := Aside0.mk H; clear H
         go_wp2_with (first | ((with_reducible refine gate_callee (f := 148) rfl ?_); refine goesL_ (some 25) rfl rfl Try.func148 (by kernel_rfl) rfl #[.slice A0 l0.length c0, .int .i64 x6_1, .int .i64 x7_2] rfl (by (try simp only [List.map_toArray, List.map_cons, List.map_nil]); first | done | rfl | (simp only [List.length_drop, List.length_take]; rfl)) ?_; (with_reducible refine (spec_heWay.calls k2 _ _ l0 x6_1 x7_2 t814 _ ?side1 ?side2 A5.out).mono ?_); (case side1 => repeat (first | exact (Kd.C_below HR0.out HB.out) | (with_reducible refine Kd.C_alloc ?_ _) | (with_reducible refine Kd.C_drewN ?_ _) | (with_reducible refine Kd.C_drew ?_))); (case side2 => exact HC0.out); rintro e w8 ⟨rfl, hb⟩; refine ⟨_, rfl, ?_⟩; have n0_ := Aside0.mk (Kd.S_below (by (with_reducible repeat (first | apply Kd.S_alloc | apply Kd.S_drewN | apply Kd.S_drew)); exact HO_5.out) hb); have n1_ := Aside0.mk (below_step (by repeat (first | (with_reducible first | exact HB.out | apply below_alloc | apply pw_below_drewN | apply below_drew1) | exact HB.out)) hb); clear HO_5; clear HB; have HO_5 := n0_; have HB := n1_; clear n0_ n1_; (try clear hb); (try clear hb2); (try clear hk); (try clear hi)) | ((with_reducible refine gate_dst (N := 31) rfl ?_); refine Kd.R_lit (Kd.int .i64) _ 3 ?hg (N := 31) ?hd (xs := ([x6_1, x7_2] : List Int)) (inner := [.int .i64 x6_1, .int .i64 x7_2]) (ok := fun _ => True) (okp := fun _ => True) ?hr ?hp (fun _ hk => hk) trivial (Below.refl _ _) (Nat.le_refl _) (by simp) ?_; (case hd => rfl); (case hg => rfl); (case hr => first | (go_simp; done) | (go_simp; rfl)); (case hp => exact (Reps.one (show Kd.M (Kd.int .i64) _ _ _ x6_1 [.int .i64 x6_1] from rfl) (Reps.one (show Kd.M (Kd.int .i64) _ _ _ x7_2 [.int .i64 x7_2] from rfl) (Reps.none _ _)))); intro v816 w9 ho10 hb hg_ hnew_; clear hg_ hnew_; (first | rw [← Ny815.out] at ho10 | (simp only [Int.reduceToNat] at ho10; rw [← Ny815.out] at ho10)); have n0_ := Aside0.mk (Kd.S_elder' (by (with_reducible repeat (first | apply Kd.S_alloc | apply Kd.S_drewN | apply Kd.S_drew)); exact HO_5.out) (Kd.R_base ho10) hb); have n1_ := Aside0.mk (Kd.R_lower ho10 (below_size (by repeat (first | (with_reducible first | exact HB.out | apply below_alloc | apply pw_below_drewN | apply below_drew1) | exact HB.out)))); have n2_ := Aside0.mk (below_step (by repeat (first | (with_reducible first | exact HB.out | apply below_alloc | apply pw_below_drewN | apply below_drew1) | exact HB.out)) hb); clear HO_5; clear HB; have HO_5 := n0_; have HO817 := n1_; have HB := n2_; clear n0_ n1_ n2_; clear hb ho10; obtain ⟨Ao12, co12, eo12⟩ := Kd.R_slice HO817.out; subst eo12) | ((with_reducible refine gate_builtin (b := .append) (xs := #[.tmp 28, .tmp 32]) rfl ?_); at_builtin; refine Kd.S_append (Kd.slice 3 (Kd.int .i64)) (w0 := w) w.heap.size rfl (.tmp 28) (.tmp 32) 23 22 (.slice none 0 0) 24 rfl Try.underlying23 info22 rfl (by decide) (by omega) u5 x5_2 y815 [.slice Ao12 y815.length co12] (fun _ => True) (fun k_ => some k_ = (.slice Ao12 y815.length co12 : Value).ownBlock) rfl rfl ?aP (fun k_ hk_ => ((Kd.R_mono (ok' := fun k_ => ((fun _ => True)) k_ ∧ some k_ ≠ (u5 : Value).ownBlock) (Kd.R_apart' (HO817.out) (Kd.S_typed HO_5.out) (by decide)) (fun k_ hk => ⟨trivial, hk.2⟩))).1 k_ hk_.symm) ?aF ?aO ?aB ?aS ?aL ?_; (case aP => exact Kd.M_row (Kd.R_mono (Kd.R_tight rfl (Kd.R_mono (ok' := fun k_ => ((fun _ => True)) k_ ∧ some k_ ≠ (u5 : Value).ownBlock) (Kd.R_apart' (HO817.out) (Kd.S_typed HO_5.out) (by decide)) (fun k_ hk => ⟨trivial, hk.2⟩))) (fun _ h_ => h_))); (case aB => exact (by repeat (first | (with_reducible first | exact HB.out | apply below_alloc | apply pw_below_drewN | apply below_drew1) | exact HB.out))); (case aF => exact (fun _ _ => trivial)); (case aO => exact (by (with_reducible repeat (first | apply Kd.S_alloc | apply Kd.S_drewN | apply Kd.S_drew)); exact Kd.S_mono HO_5.out (fun k_ hk => ⟨trivial, fun e_ => hk.2 e_⟩))); (case aS => exact (below_size (by repeat (first | (with_reducible first | exact HB.out | apply below_alloc | apply pw_below_drewN | apply below_drew1) | exact HB.out)))); (case aL => have := LMc7.out; omega); intro v819 w11 ho hb hg hat; rw [← Ny818.out] at ho; have n0_ := Aside0.mk (hb); have n1_ := Aside0.mk (ho); clear HB; clear HO_5; clear HO817; have HB := n0_; have HO820 := n1_; clear n0_ n1_; clear ho hb hg hat))
         go_roundg k2
         case measure => have := HK1.out; have := HK2.out; omega
         case rel => exact ⟨(y818), (wrap64 (x7_2 + 1)), (by first | rfl | (simp; done) | (simp [*]; done)), H', ⟨by have := HK1.out; have := HK2.out; omega⟩, ⟨by (with_reducible repeat (first | apply Kd.S_alloc | apply Kd.S_drewN | apply Kd.S_drew)); exact HO820.out⟩, ⟨by repeat (first | (with_reducible first | exact HB.out | apply below_alloc | apply pw_below_drewN | apply below_drew1) | exact HB.out)⟩⟩
        ·rw [if_neg c7] at H; exact absurd H (by simp)
       ·rw [if_neg c6] at H
        have c6b0 : (t814 == a1) = false := beq_eq_false_iff_ne.mpr c6; have c6b1 : (t814 != a1) = true := bne_iff_ne.mpr c6; have H' := Aside0.mk H; clear H
        go_wp2_with (first | ((with_reducible refine gate_callee (f := 148) rfl ?_); refine goesL_ (some 25) rfl rfl Try.func148 (by kernel_rfl) rfl #[.slice A0 l0.length c0, .int .i64 x6_1, .int .i64 x7_2] rfl (by (try simp only [List.map_toArray, List.map_cons, List.map_nil]); first | done | rfl | (simp only [List.length_drop, List.length_take]; rfl)) ?_; (with_reducible refine (spec_heWay.calls k2 _ _ l0 x6_1 x7_2 t814 _ ?side1 ?side2 A5.out).mono ?_); (case side1 => repeat (first | exact (Kd.C_below HR0.out HB.out) | (with_reducible refine Kd.C_alloc ?_ _) | (with_reducible refine Kd.C_drewN ?_ _) | (with_reducible refine Kd.C_drew ?_))); (case side2 => exact HC0.out); rintro e w13 ⟨rfl, hb⟩; refine ⟨_, rfl, ?_⟩; have n0_ := Aside0.mk (Kd.S_below (by (with_reducible repeat (first | apply Kd.S_alloc | apply Kd.S_drewN | apply Kd.S_drew)); exact HO_5.out) hb); have n1_ := Aside0.mk (below_step (by repeat (first | (with_reducible first | exact HB.out | apply below_alloc | apply pw_below_drewN | apply below_drew1) | exact HB.out)) hb); clear HO_5; clear HB; have HO_5 := n0_; have HB := n1_; clear n0_ n1_; (try clear hb); (try clear hb2); (try clear hk); (try clear hi)))
        go_roundg k2
        case measure => have := HK1.out; have := HK2.out; omega
        case rel => exact ⟨(x5_2), (wrap64 (x7_2 + 1)), (by first | rfl | (simp; done) | (simp [*]; done)), H', ⟨by have := HK1.out; have := HK2.out; omega⟩, ⟨by (with_reducible repeat (first | apply Kd.S_alloc | apply Kd.S_drewN | apply Kd.S_drew)); exact HO_5.out⟩, ⟨by repeat (first | (with_reducible first | exact HB.out | apply below_alloc | apply pw_below_drewN | apply below_drew1) | exact HB.out)⟩⟩
      ·rw [if_neg c4] at H
       have c4b0 : decide (x7_2 < (wrap64 ((l0.length : Int) - 1))) = false := decide_eq_false c4; clear c4; have H' := Aside0.mk H; clear H; go_wp2
       go_roundg k2
       case measure => have := HK1.out; have := HK2.out; omega
       case rel => exact ⟨(x5_2), (wrap64 (x6_1 + 1)), (by first | rfl | (simp; done) | (simp [*]; done)), H', ⟨by have := HK1.out; have := HK2.out; omega⟩, ⟨by (with_reducible repeat (first | apply Kd.S_alloc | apply Kd.S_drewN | apply Kd.S_drew)); exact HO_5.out⟩, ⟨by repeat (first | (with_reducible first | exact HB.out | apply below_alloc | apply pw_below_drewN | apply below_drew1) | exact HB.out)⟩⟩
   ·rw [if_neg c3] at H; have c3b0 : decide (x6_1 < (wrap64 ((l0.length : Int) - 1))) = false := decide_eq_false c3; clear c3; obtain rfl := Option.some.inj H; go_wp2; go_ret; exact ⟨_, by first | rfl | (simp [errW_none, errW_some] <;> rfl) | (simp [*, errW_none, errW_some] <;> rfl), by (with_reducible repeat (first | apply Kd.S_alloc | apply Kd.S_drewN | apply Kd.S_drew)); exact HO_5.out, by repeat (first | (with_reducible first | exact HB.out | apply below_alloc | apply pw_below_drewN | apply below_drew1) | exact HB.out)⟩
end Go.Proofs.Ythjiajkmaimbjaa.P
