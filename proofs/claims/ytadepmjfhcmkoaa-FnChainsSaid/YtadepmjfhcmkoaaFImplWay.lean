-- By gp.py (this session's own driver over the kit's print). Not trusted: Lean checks it.
import Derived.Test.YtadepmjfhcmkoaaF0
import Derived.Test.YtadepmjfhcmkoaaB
import Derived.Deep.RegionHeld3
import Derived.Test.YtadepmjfhcmkoaaCells
import Derived.Test.YtadepmjfhcmkoaaFImplCorn
namespace Go.Proofs.Ytadepmjfhcmkoaa.P
open Go.Proofs.Ytadepmjfhcmkoaa.B
open Go.RowKit Go.Proofs.YtadepmjfhcmkoaaW.PrintWords Go.Proofs.YtadepmjfhcmkoaaW.PrintLast Go.Proofs.YtadepmjfhcmkoaaW.PrintMore
attribute [local go_sem] max2_int min2_int max_two min_two max_three min_three max_four min_four   -- for this text's walks alone
set_option linter.unusedVariables false
set_option linter.unusedSimpArgs false
/-! ### slices_Min_int_int: function 160 (given) -/
def slices_Min_int_int.f (l0 : List Int) : Option Int := match l0 with | [] => none | x :: xs => some (xs.foldl mn x)
theorem slices_Min_int_int.fold (x : Int) (xs : List Int) (j : Nat) (hj : j < xs.length) : ((xs.take (j + 1)).foldl mn x) = mn ((xs.take j).foldl mn x) (rd (x :: xs) ((j + 1 : Nat) : Int)) := by
 rw [List.take_succ_eq_append_getElem hj, List.foldl_append]
 have : rd (x :: xs) ((j + 1 : Nat) : Int) = xs[j] := by rw [rd_get _ _ (by simp; omega)]; rfl
 rw [this]; rfl
set_option maxHeartbeats 8000000 in
set_option maxRecDepth 100000 in
theorem slices_Min_int_int.calls (A0 : Option Addr) (c0 : Nat) (l0 : List Int) (r : Int) (w : World) (hr0 : Kd.C (Kd.int .i64) w A0 l0.length l0) (hc0 : l0.length ≤ c0) (h : slices_Min_int_int.f l0 = some r) :
  Calls Try.prog 160 #[.slice A0 l0.length c0] w fun e w' => e = .returned (.int .i64 r) ∧ Drawn0 w w' := by
 cases l0 with
 | nil => cases h
 | cons x xs =>
  obtain rfl := Option.some.inj h; have HR0 := Aside0.mk hr0; have hm := hr0.2.1; obtain ⟨ad, e1, hx1⟩ := Kd.at_int hr0 0 (by omega) (by simp)
  cases e1
  have hx0 : rd (x :: xs) 0 = x := rfl; rw [hx0] at hx1
  obtain ⟨n, hn⟩ : ∃ n, n = (x :: xs).length := ⟨_, rfl⟩
  have hn1 : n = xs.length + 1 := by rw [hn]; rfl
  have HN := Aside0.mk hn; have HN1 := Aside0.mk hn1; rw [← hn] at HR0 hm ⊢
  have hnp : 0 < n := by omega
  have b0 : decide ((n : Int) < 1) = false := by simp; omega
  have b1 : decide (0 < n) = true := by simp; omega
  have hx2 : w.cell? ad = some (.int .i64 x) := by rw [Int.toNat_zero, Addr.add_zero'] at hx1; exact hx1
  clear hx1; clear hr0 h hc0 hn hn1 hx0; go_enter Try.func160, Try.ntmps160; go_wp2
  go_loopg [3, 4] (n + 1) (fun kq v3 v4 w' => ∃ (j : Nat) (y : Int), v4 = .int .i64 y ∧ v3 = .int .i64 ((xs.take j).foldl mn x) ∧ Aside0 (j + 1 ≤ n ∧ kq = n + 1 - j ∧ y = (j : Int) + 1) ∧ 0 ≤ y ∧ y ≤ 9223372036854775807 ∧ Drawn0 w w')
  case atStart => exact ⟨0, 1, rfl, rfl, ⟨⟨by omega, by omega, rfl⟩⟩, by omega, by omega, by repeat (first | exact Drawn0.refl _ | apply Drawn0.step)⟩
  case round =>
   obtain ⟨j, y, rfl, rfl, HA, hy0, hy1, ⟨m1, rfl⟩⟩ := hrel
   by_cases c4 : y < (n : Int)
   ·have c4b0 : decide (y < (n : Int)) = true := decide_eq_true c4
    have hjx : j < xs.length := by have := HA.out; have := HN1.out; omega
    obtain ⟨ad2, e2, hx3⟩ := Kd.at_int (by rw [HN.out] at HR0; exact HR0.out) y hy0 (by rw [← HN.out]; exact c4)
    cases e2
    have hf := slices_Min_int_int.fold x xs j hjx
    have hyj : ((j + 1 : Nat) : Int) = y := by have := HA.out; omega
    rw [hyj] at hf; clear hyj
    obtain ⟨v, hv⟩ : ∃ v, v = rd (x :: xs) y := ⟨_, rfl⟩
    rw [← hv] at hx3 hf; have HV := Aside0.mk hf; clear hf hv
    obtain ⟨u, hu⟩ : ∃ u, u = (xs.take j).foldl mn x := ⟨_, rfl⟩
    rw [← hu] at HV ⊢; clear hu
    by_cases c5 : v < u
    ·have c6 := decide_eq_true c5
     go_wp2
     go_roundg (gk - 1)
     case measure => have := HA.out; omega
     case rel => exact ⟨j + 1, y + 1, by first | rfl | go_num, by rw [HV.out]; unfold mn; first | rw [if_pos c5] | rw [if_neg (by omega)], ⟨⟨by have := HA.out; omega, by have := HA.out; omega, by have := HA.out; omega⟩⟩, by omega, by have := HA.out; omega, by repeat (first | exact Drawn0.refl _ | apply Drawn0.step)⟩
    ·have c6 := decide_eq_false c5
     go_wp2
     go_roundg (gk - 1)
     case measure => have := HA.out; omega
     case rel => exact ⟨j + 1, y + 1, by first | rfl | go_num, by rw [HV.out]; unfold mn; first | rw [if_pos c5] | rw [if_neg (by omega)], ⟨⟨by have := HA.out; omega, by have := HA.out; omega, by have := HA.out; omega⟩⟩, by omega, by have := HA.out; omega, by repeat (first | exact Drawn0.refl _ | apply Drawn0.step)⟩
   ·have c4b0 : decide (y < (n : Int)) = false := decide_eq_false c4; go_wp2; go_ret; exact ⟨by rw [List.take_of_length_le (by have := HN1.out; have := HA.out; omega)]; rfl, by repeat (first | exact Drawn0.refl _ | apply Drawn0.step)⟩
/-! ### slices_Max_int_int: function 161 (given) -/
def slices_Max_int_int.f (l0 : List Int) : Option Int := match l0 with | [] => none | x :: xs => some (xs.foldl mx x)
theorem slices_Max_int_int.fold (x : Int) (xs : List Int) (j : Nat) (hj : j < xs.length) : ((xs.take (j + 1)).foldl mx x) = mx ((xs.take j).foldl mx x) (rd (x :: xs) ((j + 1 : Nat) : Int)) := by
 rw [List.take_succ_eq_append_getElem hj, List.foldl_append]
 have : rd (x :: xs) ((j + 1 : Nat) : Int) = xs[j] := by rw [rd_get _ _ (by simp; omega)]; rfl
 rw [this]; rfl
set_option maxHeartbeats 8000000 in
set_option maxRecDepth 100000 in
theorem slices_Max_int_int.calls (A0 : Option Addr) (c0 : Nat) (l0 : List Int) (r : Int) (w : World) (hr0 : Kd.C (Kd.int .i64) w A0 l0.length l0) (hc0 : l0.length ≤ c0) (h : slices_Max_int_int.f l0 = some r) :
  Calls Try.prog 161 #[.slice A0 l0.length c0] w fun e w' => e = .returned (.int .i64 r) ∧ Drawn0 w w' := by
 cases l0 with
 | nil => cases h
 | cons x xs =>
  obtain rfl := Option.some.inj h; have HR0 := Aside0.mk hr0; have hm := hr0.2.1; obtain ⟨ad, e1, hx1⟩ := Kd.at_int hr0 0 (by omega) (by simp)
  cases e1
  have hx0 : rd (x :: xs) 0 = x := rfl; rw [hx0] at hx1
  obtain ⟨n, hn⟩ : ∃ n, n = (x :: xs).length := ⟨_, rfl⟩
  have hn1 : n = xs.length + 1 := by rw [hn]; rfl
  have HN := Aside0.mk hn; have HN1 := Aside0.mk hn1; rw [← hn] at HR0 hm ⊢
  have hnp : 0 < n := by omega
  have b0 : decide ((n : Int) < 1) = false := by simp; omega
  have b1 : decide (0 < n) = true := by simp; omega
  have hx2 : w.cell? ad = some (.int .i64 x) := by rw [Int.toNat_zero, Addr.add_zero'] at hx1; exact hx1
  clear hx1; clear hr0 h hc0 hn hn1 hx0; go_enter Try.func161, Try.ntmps161; go_wp2
  go_loopg [3, 4] (n + 1) (fun kq v3 v4 w' => ∃ (j : Nat) (y : Int), v4 = .int .i64 y ∧ v3 = .int .i64 ((xs.take j).foldl mx x) ∧ Aside0 (j + 1 ≤ n ∧ kq = n + 1 - j ∧ y = (j : Int) + 1) ∧ 0 ≤ y ∧ y ≤ 9223372036854775807 ∧ Drawn0 w w')
  case atStart => exact ⟨0, 1, rfl, rfl, ⟨⟨by omega, by omega, rfl⟩⟩, by omega, by omega, by repeat (first | exact Drawn0.refl _ | apply Drawn0.step)⟩
  case round =>
   obtain ⟨j, y, rfl, rfl, HA, hy0, hy1, ⟨m1, rfl⟩⟩ := hrel
   by_cases c4 : y < (n : Int)
   ·have c4b0 : decide (y < (n : Int)) = true := decide_eq_true c4
    have hjx : j < xs.length := by have := HA.out; have := HN1.out; omega
    obtain ⟨ad2, e2, hx3⟩ := Kd.at_int (by rw [HN.out] at HR0; exact HR0.out) y hy0 (by rw [← HN.out]; exact c4)
    cases e2
    have hf := slices_Max_int_int.fold x xs j hjx
    have hyj : ((j + 1 : Nat) : Int) = y := by have := HA.out; omega
    rw [hyj] at hf; clear hyj
    obtain ⟨v, hv⟩ : ∃ v, v = rd (x :: xs) y := ⟨_, rfl⟩
    rw [← hv] at hx3 hf; have HV := Aside0.mk hf; clear hf hv
    obtain ⟨u, hu⟩ : ∃ u, u = (xs.take j).foldl mx x := ⟨_, rfl⟩
    rw [← hu] at HV ⊢; clear hu
    by_cases c5 : u < v
    ·have c6 := decide_eq_true c5
     go_wp2
     go_roundg (gk - 1)
     case measure => have := HA.out; omega
     case rel => exact ⟨j + 1, y + 1, by first | rfl | go_num, by rw [HV.out]; unfold mx; first | rw [if_pos c5] | rw [if_neg (by omega)], ⟨⟨by have := HA.out; omega, by have := HA.out; omega, by have := HA.out; omega⟩⟩, by omega, by have := HA.out; omega, by repeat (first | exact Drawn0.refl _ | apply Drawn0.step)⟩
    ·have c6 := decide_eq_false c5
     go_wp2
     go_roundg (gk - 1)
     case measure => have := HA.out; omega
     case rel => exact ⟨j + 1, y + 1, by first | rfl | go_num, by rw [HV.out]; unfold mx; first | rw [if_pos c5] | rw [if_neg (by omega)], ⟨⟨by have := HA.out; omega, by have := HA.out; omega, by have := HA.out; omega⟩⟩, by omega, by have := HA.out; omega, by repeat (first | exact Drawn0.refl _ | apply Drawn0.step)⟩
   ·have c4b0 : decide (y < (n : Int)) = false := decide_eq_false c4; go_wp2; go_ret; exact ⟨by rw [List.take_of_length_le (by have := HN1.out; have := HA.out; omega)]; rfl, by repeat (first | exact Drawn0.refl _ | apply Drawn0.step)⟩
/-! ### impl_way: function 143 -/
def impl_way.f (l0 : List (List Int)) (a1 : Int) (a2 : Int) : Option (Int) := if 0 ≤ (wrap64 (a1 - 1)) then (if (wrap64 (a1 - 1)) < (l0.length : Int) then (if 0 ≤ a2 then (if a2 < ((rd_L1 l0 (wrap64 (a1 - 1))).length : Int) then (if 0 ≤ a1 then (if a1 < (l0.length : Int) then (if 0 ≤ (wrap64 (a2 + 1)) then (if (wrap64 (a2 + 1)) < ((rd_L1 l0 a1).length : Int) then (if 0 ≤ (wrap64 (a1 + 1)) then (if (wrap64 (a1 + 1)) < (l0.length : Int) then (if a2 < ((rd_L1 l0 (wrap64 (a1 + 1))).length : Int) then (if 0 ≤ (wrap64 (a2 - 1)) then (if (wrap64 (a2 - 1)) < ((rd_L1 l0 a1).length : Int) then ((some (([rd (rd_L1 l0 (wrap64 (a1 - 1))) a2, rd (rd_L1 l0 a1) (wrap64 (a2 + 1)), rd (rd_L1 l0 (wrap64 (a1 + 1))) a2, rd (rd_L1 l0 a1) (wrap64 (a2 - 1))] : List Int) : List Int)).bind fun y690 => ((slices_Min_int_int.f y690).bind fun t693 => ((slices_Max_int_int.f y690).bind fun t694 => (if t693 = t694 then (if a2 < ((rd_L1 l0 a1).length : Int) then (some (wrap64 (2 * (wrap64 (t693 - (rd (rd_L1 l0 a1) a2)))))) else (none)) else (some 0))))) else (none)) else (none)) else (none)) else (none)) else (none)) else (none)) else (none)) else (none)) else (none)) else (none)) else (none)) else (none)) else (none)
def impl_way.T1 : Bool × List (List Nat × List Nat) := (true, [([], []), ([], []), ([1], [1]), ([0, 2], [0, 2]), ([3], [3]), ([], []), ([4, 5], [4, 5]), ([6], [6]), ([], []), ([], []), ([8, 9], [8, 9]), ([10], [10]), ([], []), ([12], [12]), ([11, 13], [11, 13]), ([14], [14]), ([], []), ([], []), ([17], [17]), ([16, 18], [16, 18]), ([19], [19]), ([], []), ([20, 21], [20, 21]), ([22], [22]), ([], []), ([], []), ([24, 25], [24, 25]), ([26], [26]), ([], []), ([28], [28]), ([27, 29], [27, 29]), ([30], [30]), ([7, 15, 23, 31], [7, 15, 23, 31]), ([32, 0, 1, 2, 3, 4, 5, 6, 7, 8, 9, 10, 11, 12, 13, 14, 15, 16, 17, 18, 19, 20, 21, 22, 23, 24, 25, 26, 27, 28, 29, 30, 31, 32], [32])])
def impl_way.B1 : List Nat := [0, 0, 2, 7, 15, 0, 63, 127, 0, 0, 768, 1792, 0, 4096, 16128, 32512, 0, 0, 131072, 458752, 983040, 0, 4128768, 8323072, 0, 0, 50331648, 117440512, 0, 268435456, 1056964608, 2130706432, 4294967295, 8589934591]
theorem impl_way.tab1 : rtab .any (opsOf Try.f143 1) = impl_way.T1 := by kernel_rfl
theorem impl_way.bits1 : waitsOk impl_way.T1.2 impl_way.B1 = true := by kernel_rfl
set_option maxHeartbeats 8000000 in
set_option maxRecDepth 100000 in
theorem impl_way.calls (A0 : Option Addr) (c0 : Nat) (l0 : List (List Int)) (a1 : Int) (a2 : Int) (r : Int) (w : World) (hr0 : Kd.C (Kd.slice 3 (Kd.int .i64)) w A0 l0.length l0) (hc0 : l0.length ≤ c0) (h : impl_way.f l0 a1 a2 = some r) :
  Calls Try.prog 143 #[.slice A0 l0.length c0, .int .i64 a1, .int .i64 a2] w fun e w' => e = .returned (.int .i64 r) ∧ Below w.heap.size w w' := by
 have HR0 := Aside0.mk hr0; have HC0 := Aside0.mk hc0; clear hr0 hc0; have HB := Aside0.mk (Below.refl w.heap.size w); have H : (if 0 ≤ (wrap64 (a1 - 1)) then (if (wrap64 (a1 - 1)) < (l0.length : Int) then (if 0 ≤ a2 then (if a2 < ((rd_L1 l0 (wrap64 (a1 - 1))).length : Int) then (if 0 ≤ a1 then (if a1 < (l0.length : Int) then (if 0 ≤ (wrap64 (a2 + 1)) then (if (wrap64 (a2 + 1)) < ((rd_L1 l0 a1).length : Int) then (if 0 ≤ (wrap64 (a1 + 1)) then (if (wrap64 (a1 + 1)) < (l0.length : Int) then (if a2 < ((rd_L1 l0 (wrap64 (a1 + 1))).length : Int) then (if 0 ≤ (wrap64 (a2 - 1)) then (if (wrap64 (a2 - 1)) < ((rd_L1 l0 a1).length : Int) then ((some (([rd (rd_L1 l0 (wrap64 (a1 - 1))) a2, rd (rd_L1 l0 a1) (wrap64 (a2 + 1)), rd (rd_L1 l0 (wrap64 (a1 + 1))) a2, rd (rd_L1 l0 a1) (wrap64 (a2 - 1))] : List Int) : List Int)).bind fun y690 => ((slices_Min_int_int.f y690).bind fun t693 => ((slices_Max_int_int.f y690).bind fun t694 => (if t693 = t694 then (if a2 < ((rd_L1 l0 a1).length : Int) then (some (wrap64 (2 * (wrap64 (t693 - (rd (rd_L1 l0 a1) a2)))))) else (none)) else (some 0))))) else (none)) else (none)) else (none)) else (none)) else (none)) else (none)) else (none)) else (none)) else (none)) else (none)) else (none)) else (none)) else (none)) = some r := h; clear h
 obtain ⟨ji4, hji4⟩ : ∃ j_ : Int, (wrap64 (a1 - 1)) = j_ := ⟨_, rfl⟩
 replace H : (if 0 ≤ (ji4) then (if (ji4) < (l0.length : Int) then (if 0 ≤ a2 then (if a2 < ((rd_L1 l0 (ji4)).length : Int) then (if 0 ≤ a1 then (if a1 < (l0.length : Int) then (if 0 ≤ (wrap64 (a2 + 1)) then (if (wrap64 (a2 + 1)) < ((rd_L1 l0 a1).length : Int) then (if 0 ≤ (wrap64 (a1 + 1)) then (if (wrap64 (a1 + 1)) < (l0.length : Int) then (if a2 < ((rd_L1 l0 (wrap64 (a1 + 1))).length : Int) then (if 0 ≤ (wrap64 (a2 - 1)) then (if (wrap64 (a2 - 1)) < ((rd_L1 l0 a1).length : Int) then ((some (([rd (rd_L1 l0 (ji4)) a2, rd (rd_L1 l0 a1) (wrap64 (a2 + 1)), rd (rd_L1 l0 (wrap64 (a1 + 1))) a2, rd (rd_L1 l0 a1) (wrap64 (a2 - 1))] : List Int) : List Int)).bind fun y690 => ((slices_Min_int_int.f y690).bind fun t693 => ((slices_Max_int_int.f y690).bind fun t694 => (if t693 = t694 then (if a2 < ((rd_L1 l0 a1).length : Int) then (some (wrap64 (2 * (wrap64 (t693 - (rd (rd_L1 l0 a1) a2)))))) else (none)) else (some 0))))) else (none)) else (none)) else (none)) else (none)) else (none)) else (none)) else (none)) else (none)) else (none)) else (none)) else (none)) else (none)) else (none)) = some r := by first | (rw [hji4] at H; exact H) | (simp only [hji4] at H ⊢; exact H)
 have hji4w : (IntKind.i64.wrap (a1 - 1)) = ji4 := (i64_w _).trans hji4
 by_cases c5 : 0 ≤ (ji4)
 ·rw [if_pos c5] at H
  have c5b0 : decide (0 ≤ (ji4)) = true := decide_eq_true c5; clear c5
  by_cases c6 : (ji4) < (l0.length : Int)
  ·rw [if_pos c6] at H
   have c6b0 : decide ((ji4) < (l0.length : Int)) = true := decide_eq_true c6; clear c6
   by_cases c7 : 0 ≤ a2
   ·rw [if_pos c7] at H
    have c7b0 : decide (0 ≤ a2) = true := decide_eq_true c7; clear c7
    by_cases c8 : a2 < ((rd_L1 l0 (ji4)).length : Int)
    ·rw [if_pos c8] at H
     have c8b0 : decide (a2 < ((rd_L1 l0 (ji4)).length : Int)) = true := decide_eq_true c8; clear c8
     by_cases c9 : 0 ≤ a1
     ·rw [if_pos c9] at H
      have c9b0 : decide (0 ≤ a1) = true := decide_eq_true c9; clear c9
      by_cases c10 : a1 < (l0.length : Int)
      ·rw [if_pos c10] at H
       have c10b0 : decide (a1 < (l0.length : Int)) = true := decide_eq_true c10; clear c10
       obtain ⟨ji11, hji11⟩ : ∃ j_ : Int, (wrap64 (a2 + 1)) = j_ := ⟨_, rfl⟩
       replace H : (if 0 ≤ (ji11) then (if (ji11) < ((rd_L1 l0 a1).length : Int) then (if 0 ≤ (wrap64 (a1 + 1)) then (if (wrap64 (a1 + 1)) < (l0.length : Int) then (if a2 < ((rd_L1 l0 (wrap64 (a1 + 1))).length : Int) then (if 0 ≤ (wrap64 (a2 - 1)) then (if (wrap64 (a2 - 1)) < ((rd_L1 l0 a1).length : Int) then ((some (([rd (rd_L1 l0 (ji4)) a2, rd (rd_L1 l0 a1) (ji11), rd (rd_L1 l0 (wrap64 (a1 + 1))) a2, rd (rd_L1 l0 a1) (wrap64 (a2 - 1))] : List Int) : List Int)).bind fun y690 => ((slices_Min_int_int.f y690).bind fun t693 => ((slices_Max_int_int.f y690).bind fun t694 => (if t693 = t694 then (if a2 < ((rd_L1 l0 a1).length : Int) then (some (wrap64 (2 * (wrap64 (t693 - (rd (rd_L1 l0 a1) a2)))))) else (none)) else (some 0))))) else (none)) else (none)) else (none)) else (none)) else (none)) else (none)) else (none)) = some r := by first | (rw [hji11] at H; exact H) | (simp only [hji11] at H ⊢; exact H)
       have hji11w : (IntKind.i64.wrap (a2 + 1)) = ji11 := (i64_w _).trans hji11
       by_cases c12 : 0 ≤ (ji11)
       ·rw [if_pos c12] at H
        have c12b0 : decide (0 ≤ (ji11)) = true := decide_eq_true c12; clear c12
        by_cases c13 : (ji11) < ((rd_L1 l0 a1).length : Int)
        ·rw [if_pos c13] at H
         have c13b0 : decide ((ji11) < ((rd_L1 l0 a1).length : Int)) = true := decide_eq_true c13; clear c13
         obtain ⟨ji14, hji14⟩ : ∃ j_ : Int, (wrap64 (a1 + 1)) = j_ := ⟨_, rfl⟩
         replace H : (if 0 ≤ (ji14) then (if (ji14) < (l0.length : Int) then (if a2 < ((rd_L1 l0 (ji14)).length : Int) then (if 0 ≤ (wrap64 (a2 - 1)) then (if (wrap64 (a2 - 1)) < ((rd_L1 l0 a1).length : Int) then ((some (([rd (rd_L1 l0 (ji4)) a2, rd (rd_L1 l0 a1) (ji11), rd (rd_L1 l0 (ji14)) a2, rd (rd_L1 l0 a1) (wrap64 (a2 - 1))] : List Int) : List Int)).bind fun y690 => ((slices_Min_int_int.f y690).bind fun t693 => ((slices_Max_int_int.f y690).bind fun t694 => (if t693 = t694 then (if a2 < ((rd_L1 l0 a1).length : Int) then (some (wrap64 (2 * (wrap64 (t693 - (rd (rd_L1 l0 a1) a2)))))) else (none)) else (some 0))))) else (none)) else (none)) else (none)) else (none)) else (none)) = some r := by first | (rw [hji14] at H; exact H) | (simp only [hji14] at H ⊢; exact H)
         have hji14w : (IntKind.i64.wrap (a1 + 1)) = ji14 := (i64_w _).trans hji14
         by_cases c15 : 0 ≤ (ji14)
         ·rw [if_pos c15] at H
          have c15b0 : decide (0 ≤ (ji14)) = true := decide_eq_true c15; clear c15
          by_cases c16 : (ji14) < (l0.length : Int)
          ·rw [if_pos c16] at H
           have c16b0 : decide ((ji14) < (l0.length : Int)) = true := decide_eq_true c16; clear c16
           by_cases c17 : a2 < ((rd_L1 l0 (ji14)).length : Int)
           ·rw [if_pos c17] at H
            have c17b0 : decide (a2 < ((rd_L1 l0 (ji14)).length : Int)) = true := decide_eq_true c17; clear c17
            obtain ⟨ji18, hji18⟩ : ∃ j_ : Int, (wrap64 (a2 - 1)) = j_ := ⟨_, rfl⟩
            replace H : (if 0 ≤ (ji18) then (if (ji18) < ((rd_L1 l0 a1).length : Int) then ((some (([rd (rd_L1 l0 (ji4)) a2, rd (rd_L1 l0 a1) (ji11), rd (rd_L1 l0 (ji14)) a2, rd (rd_L1 l0 a1) (ji18)] : List Int) : List Int)).bind fun y690 => ((slices_Min_int_int.f y690).bind fun t693 => ((slices_Max_int_int.f y690).bind fun t694 => (if t693 = t694 then (if a2 < ((rd_L1 l0 a1).length : Int) then (some (wrap64 (2 * (wrap64 (t693 - (rd (rd_L1 l0 a1) a2)))))) else (none)) else (some 0))))) else (none)) else (none)) = some r := by first | (rw [hji18] at H; exact H) | (simp only [hji18] at H ⊢; exact H)
            have hji18w : (IntKind.i64.wrap (a2 - 1)) = ji18 := (i64_w _).trans hji18
            by_cases c19 : 0 ≤ (ji18)
            ·rw [if_pos c19] at H
             have c19b0 : decide (0 ≤ (ji18)) = true := decide_eq_true c19; clear c19
             by_cases c20 : (ji18) < ((rd_L1 l0 a1).length : Int)
             ·rw [if_pos c20] at H
              have c20b0 : decide ((ji18) < ((rd_L1 l0 a1).length : Int)) = true := decide_eq_true c20; clear c20
              obtain ⟨y690, hy690⟩ : ∃ y_ : List Int, y_ = (([rd (rd_L1 l0 (ji4)) a2, rd (rd_L1 l0 a1) (ji11), rd (rd_L1 l0 (ji14)) a2, rd (rd_L1 l0 a1) (ji18)] : List Int)) := ⟨_, rfl⟩
              replace H : ((slices_Min_int_int.f y690).bind fun t693 => ((slices_Max_int_int.f y690).bind fun t694 => (if t693 = t694 then (if a2 < ((rd_L1 l0 a1).length : Int) then (some (wrap64 (2 * (wrap64 (t693 - (rd (rd_L1 l0 a1) a2)))))) else (none)) else (some 0)))) = some r := by first | (rw [hy690]; with_reducible exact H) | (have H2_ := (Option.bind_some _ _).symm.trans H; rw [hy690]; with_reducible exact H2_) | (have H2_ := (Option.bind_some _ _).symm.trans H; with_reducible exact H2_) | with_reducible exact H | (rw [hy690]; exact H) | exact H
              have Ny690 := Aside0.mk hy690; clear hy690; replace H := Option.bind_eq_some_iff.mp H; obtain ⟨t693, A210, H⟩ := H; replace H : ((slices_Max_int_int.f y690).bind fun t694 => (if t693 = t694 then (if a2 < ((rd_L1 l0 a1).length : Int) then (some (wrap64 (2 * (wrap64 (t693 - (rd (rd_L1 l0 a1) a2)))))) else (none)) else (some 0))) = some r := H; have A21 := Aside0.mk A210; clear A210; replace H := Option.bind_eq_some_iff.mp H; obtain ⟨t694, A220, H⟩ := H; replace H : (if t693 = t694 then (if a2 < ((rd_L1 l0 a1).length : Int) then (some (wrap64 (2 * (wrap64 (t693 - (rd (rd_L1 l0 a1) a2)))))) else (none)) else (some 0)) = some r := H; have A22 := Aside0.mk A220; clear A220
              by_cases c23 : t693 = t694
              ·rw [if_pos c23] at H
               have c23b0 : (t693 == t694) = true := beq_iff_eq.mpr c23; have c23b1 : (t693 != t694) = false := bne_eq_false_iff_eq.mpr c23; clear c23
               by_cases c24 : a2 < ((rd_L1 l0 a1).length : Int)
               ·rw [if_pos c24] at H
                have c24b0 : decide (a2 < ((rd_L1 l0 a1).length : Int)) = true := decide_eq_true c24; clear c24; obtain rfl := Option.some.inj H; go_enter Try.func143, Try.ntmps143
                try go_wp2
                have n0_ := Aside0.mk (below_drew1 HB.out); clear HB; have HB := n0_; clear n0_; have p682 : 0 ≤ ((ji4) : Int) := of_decide_eq_true (by first | (with_reducible assumption) | assumption); have q682 : (ji4) < (l0.length : Int) := of_decide_eq_true (by first | (with_reducible assumption) | assumption); obtain ⟨ad682, A682_0, c682_0, e682, hx682_0, hl682_0, hi682_0⟩ := at_L1 HR0.out (ji4) p682 q682; have hw682_0 := hx682_0
                cases e682
                (try replace hx682_0 := (HB.out.cell (World.block_lt_of_cell? w _ hx682_0)).trans hx682_0)
                have HR682_0 := Aside0.mk hi682_0; have HC682_0 := Aside0.mk hl682_0; clear hi682_0 hl682_0; replace p682 := eq_true p682; replace q682 := eq_true q682; have p683 : 0 ≤ (a2 : Int) := of_decide_eq_true (by first | (with_reducible assumption) | assumption); have q683 : a2 < ((rd_L1 l0 (ji4)).length : Int) := of_decide_eq_true (by first | (with_reducible assumption) | assumption); obtain ⟨ad683, e683, hx683_0⟩ := Kd.at_int HR682_0.out a2 p683 q683; have hw683_0 := hx683_0
                cases e683
                (try replace hx683_0 := (HB.out.cell (World.block_lt_of_cell? w _ hx683_0)).trans hx683_0)
                replace p683 := eq_true p683; replace q683 := eq_true q683; have p684 : 0 ≤ (a1 : Int) := of_decide_eq_true (by first | (with_reducible assumption) | assumption); have q684 : a1 < (l0.length : Int) := of_decide_eq_true (by first | (with_reducible assumption) | assumption); obtain ⟨ad684, A684_0, c684_0, e684, hx684_0, hl684_0, hi684_0⟩ := at_L1 HR0.out a1 p684 q684; have hw684_0 := hx684_0
                obtain rfl : ad682 = ad684 := (by injection e684)
                (try replace hx684_0 := (HB.out.cell (World.block_lt_of_cell? w _ hx684_0)).trans hx684_0)
                have HR684_0 := Aside0.mk hi684_0; have HC684_0 := Aside0.mk hl684_0; clear hi684_0 hl684_0; replace p684 := eq_true p684; replace q684 := eq_true q684; have p685 : 0 ≤ ((ji11) : Int) := of_decide_eq_true (by first | (with_reducible assumption) | assumption); have q685 : (ji11) < ((rd_L1 l0 a1).length : Int) := of_decide_eq_true (by first | (with_reducible assumption) | assumption); obtain ⟨ad685, e685, hx685_0⟩ := Kd.at_int HR684_0.out (ji11) p685 q685; have hw685_0 := hx685_0
                cases e685
                (try replace hx685_0 := (HB.out.cell (World.block_lt_of_cell? w _ hx685_0)).trans hx685_0)
                replace p685 := eq_true p685; replace q685 := eq_true q685; have p686 : 0 ≤ ((ji14) : Int) := of_decide_eq_true (by first | (with_reducible assumption) | assumption); have q686 : (ji14) < (l0.length : Int) := of_decide_eq_true (by first | (with_reducible assumption) | assumption); obtain ⟨ad686, A686_0, c686_0, e686, hx686_0, hl686_0, hi686_0⟩ := at_L1 HR0.out (ji14) p686 q686; have hw686_0 := hx686_0
                obtain rfl : ad682 = ad686 := (by injection e686)
                (try replace hx686_0 := (HB.out.cell (World.block_lt_of_cell? w _ hx686_0)).trans hx686_0)
                have HR686_0 := Aside0.mk hi686_0; have HC686_0 := Aside0.mk hl686_0; clear hi686_0 hl686_0; replace p686 := eq_true p686; replace q686 := eq_true q686; have p687 : 0 ≤ (a2 : Int) := of_decide_eq_true (by first | (with_reducible assumption) | assumption); have q687 : a2 < ((rd_L1 l0 (ji14)).length : Int) := of_decide_eq_true (by first | (with_reducible assumption) | assumption); obtain ⟨ad687, e687, hx687_0⟩ := Kd.at_int HR686_0.out a2 p687 q687; have hw687_0 := hx687_0
                cases e687
                (try replace hx687_0 := (HB.out.cell (World.block_lt_of_cell? w _ hx687_0)).trans hx687_0)
                replace p687 := eq_true p687; replace q687 := eq_true q687; have p688 : 0 ≤ (a1 : Int) := of_decide_eq_true (by first | (with_reducible assumption) | assumption); have q688 : a1 < (l0.length : Int) := of_decide_eq_true (by first | (with_reducible assumption) | assumption); obtain ⟨ad688, A688_0, c688_0, e688, hx688_0, hl688_0, hi688_0⟩ := at_L1 HR0.out a1 p688 q688; have hw688_0 := hx688_0
                obtain rfl : ad682 = ad688 := (by injection e688)
                (try replace hx688_0 := (HB.out.cell (World.block_lt_of_cell? w _ hx688_0)).trans hx688_0)
                have HR688_0 := Aside0.mk hi688_0; have HC688_0 := Aside0.mk hl688_0; clear hi688_0 hl688_0; replace p688 := eq_true p688; replace q688 := eq_true q688; have ea_ := Option.some.inj (hx684_0.symm.trans hx688_0); injection ea_ with ea_ en_ ec_; subst ea_; subst ec_; clear en_; have p689 : 0 ≤ ((ji18) : Int) := of_decide_eq_true (by first | (with_reducible assumption) | assumption); have q689 : (ji18) < ((rd_L1 l0 a1).length : Int) := of_decide_eq_true (by first | (with_reducible assumption) | assumption); obtain ⟨ad689, e689, hx689_0⟩ := Kd.at_int HR688_0.out (ji18) p689 q689; have hw689_0 := hx689_0
                cases e689
                (try replace hx689_0 := (HB.out.cell (World.block_lt_of_cell? w _ hx689_0)).trans hx689_0)
                replace p689 := eq_true p689; replace q689 := eq_true q689
                refine start_ (n := 34) (S := fun w' => w'.cell? (ad682.add ((ji4)).toNat) = some (.slice (some ad683) (rd_L1 l0 (ji4)).length c682_0) ∧ w'.cell? (ad683.add (a2).toNat) = some (.int .i64 (rd (rd_L1 l0 (ji4)) a2)) ∧ w'.cell? (ad682.add (a1).toNat) = some (.slice (some ad685) (rd_L1 l0 a1).length c684_0) ∧ w'.cell? (ad685.add ((ji11)).toNat) = some (.int .i64 (rd (rd_L1 l0 a1) (ji11))) ∧ w'.cell? (ad682.add ((ji14)).toNat) = some (.slice (some ad687) (rd_L1 l0 (ji14)).length c686_0) ∧ w'.cell? (ad687.add (a2).toNat) = some (.int .i64 (rd (rd_L1 l0 (ji14)) a2)) ∧ w'.cell? (ad682.add (a1).toNat) = some (.slice (some ad685) (rd_L1 l0 a1).length c684_0) ∧ w'.cell? (ad685.add ((ji18)).toNat) = some (.int .i64 (rd (rd_L1 l0 a1) (ji18)))) (ds := []) #[fF, fF, fF, fF, fF, fF, fF, fF, fF, fF, fF, fF, fF, fF, fF, fF, fF, fF, fF, fF, fF, fF, fF, fF, fF, fF, fF, fF, fF, fF, fF, fF, fF, fF] (by kernel_rfl) rfl rfl ⟨((HB.out.cell (World.block_lt_of_cell? w _ hw682_0)).trans hw682_0), ((HB.out.cell (World.block_lt_of_cell? w _ hw683_0)).trans hw683_0), ((HB.out.cell (World.block_lt_of_cell? w _ hw684_0)).trans hw684_0), ((HB.out.cell (World.block_lt_of_cell? w _ hw685_0)).trans hw685_0), ((HB.out.cell (World.block_lt_of_cell? w _ hw686_0)).trans hw686_0), ((HB.out.cell (World.block_lt_of_cell? w _ hw687_0)).trans hw687_0), ((HB.out.cell (World.block_lt_of_cell? w _ hw688_0)).trans hw688_0), ((HB.out.cell (World.block_lt_of_cell? w _ hw689_0)).trans hw689_0)⟩ (fun hHeld => ?_); refine with_tabW impl_way.tab1 impl_way.bits1 (fun HT_ HW_ => ?_)
                generalize w.drew = w25 at HB HR682_0 HR684_0 HR686_0 HR688_0 hx682_0 hx683_0 hx684_0 hx685_0 hx686_0 hx687_0 hx688_0 hx689_0 hHeld ⊢; refine pure_ (i := 0) (N := some 10) (v := ?_) (a' := ?_) #[tT, fF, fF, fF, fF, fF, fF, fF, fF, fF, fF, fF, fF, fF, fF, fF, fF, fF, fF, fF, fF, fF, fF, fF, fF, fF, fF, fF, fF, fF, fF, fF, fF, fF] rfl rfl (any_of HT_.out (by kernel_rfl)) (fun _ _ _ h => h) (Or.inl ⟨by rfl, ?_⟩) ?_ ?_; rotate_left
                ·intro w'; go_simp; with_reducible rfl
                rotate_left
                ·simp only [Act.put, List.setIfInBounds_toArray, List.set_cons_zero, List.set_cons_succ, i64_w, i32_w]; rfl
                refine pure_ (i := 1) (N := some 11) (v := ?_) (a' := ?_) #[tT, tT, fF, fF, fF, fF, fF, fF, fF, fF, fF, fF, fF, fF, fF, fF, fF, fF, fF, fF, fF, fF, fF, fF, fF, fF, fF, fF, fF, fF, fF, fF, fF, fF] rfl rfl (any_of HT_.out (by kernel_rfl)) (fun _ _ _ h => h) (Or.inl ⟨by rfl, ?_⟩) ?_ ?_; rotate_left
                ·intro w'; go_simp; with_reducible rfl
                rotate_left
                ·simp only [Act.put, List.setIfInBounds_toArray, List.set_cons_zero, List.set_cons_succ, i64_w, i32_w]; rfl
                refine pure_ (i := 2) (N := some 12) (v := ?_) (a' := ?_) #[tT, tT, tT, fF, fF, fF, fF, fF, fF, fF, fF, fF, fF, fF, fF, fF, fF, fF, fF, fF, fF, fF, fF, fF, fF, fF, fF, fF, fF, fF, fF, fF, fF, fF] rfl rfl (any_of HT_.out (by kernel_rfl)) (fun _ _ _ h => h) (Or.inl ⟨by rfl, ?_⟩) ?_ ?_; rotate_left
                ·intro w'; go_simp; with_reducible rfl
                rotate_left
                ·simp only [Act.put, List.setIfInBounds_toArray, List.set_cons_zero, List.set_cons_succ, i64_w, i32_w]; rfl
                refine pure_ (i := 3) (N := some 13) (v := ?_) (a' := ?_) #[tT, tT, tT, tT, fF, fF, fF, fF, fF, fF, fF, fF, fF, fF, fF, fF, fF, fF, fF, fF, fF, fF, fF, fF, fF, fF, fF, fF, fF, fF, fF, fF, fF, fF] rfl rfl (any_of HT_.out (by kernel_rfl)) (fun _ _ _ h => h) (Or.inl ⟨by rfl, ?_⟩) ?_ ?_; rotate_left
                ·intro w'; go_simp; with_reducible rfl
                rotate_left
                ·simp only [Act.put, List.setIfInBounds_toArray, List.set_cons_zero, List.set_cons_succ, i64_w, i32_w]; rfl
                refine pure_ (i := 5) (N := some 15) (v := ?_) (a' := ?_) #[tT, tT, tT, tT, fF, tT, fF, fF, fF, fF, fF, fF, fF, fF, fF, fF, fF, fF, fF, fF, fF, fF, fF, fF, fF, fF, fF, fF, fF, fF, fF, fF, fF, fF] rfl rfl (any_of HT_.out (by kernel_rfl)) (fun _ _ _ h => h) (Or.inl ⟨by rfl, ?_⟩) ?_ ?_; rotate_left
                ·intro w'; go_simp; with_reducible rfl
                rotate_left
                ·simp only [Act.put, List.setIfInBounds_toArray, List.set_cons_zero, List.set_cons_succ, i64_w, i32_w]; rfl
                refine pure_ (i := 8) (N := some 18) (v := ?_) (a' := ?_) #[tT, tT, tT, tT, fF, tT, fF, fF, tT, fF, fF, fF, fF, fF, fF, fF, fF, fF, fF, fF, fF, fF, fF, fF, fF, fF, fF, fF, fF, fF, fF, fF, fF, fF] rfl rfl (any_of HT_.out (by kernel_rfl)) (fun _ _ _ h => h) (Or.inl ⟨by rfl, ?_⟩) ?_ ?_; rotate_left
                ·intro w'; go_simp; with_reducible rfl
                rotate_left
                ·simp only [Act.put, List.setIfInBounds_toArray, List.set_cons_zero, List.set_cons_succ, i64_w, i32_w]; rfl
                refine pure_ (i := 9) (N := some 19) (v := ?_) (a' := ?_) #[tT, tT, tT, tT, fF, tT, fF, fF, tT, tT, fF, fF, fF, fF, fF, fF, fF, fF, fF, fF, fF, fF, fF, fF, fF, fF, fF, fF, fF, fF, fF, fF, fF, fF] rfl rfl (any_of HT_.out (by kernel_rfl)) (fun _ _ _ h => h) (Or.inl ⟨by rfl, ?_⟩) ?_ ?_; rotate_left
                ·intro w'; go_simp; with_reducible rfl
                rotate_left
                ·simp only [Act.put, List.setIfInBounds_toArray, List.set_cons_zero, List.set_cons_succ, i64_w, i32_w]; rfl
                refine pure_ (i := 10) (N := some 20) (v := ?_) (a' := ?_) #[tT, tT, tT, tT, fF, tT, fF, fF, tT, tT, tT, fF, fF, fF, fF, fF, fF, fF, fF, fF, fF, fF, fF, fF, fF, fF, fF, fF, fF, fF, fF, fF, fF, fF] rfl rfl (any_of HT_.out (by kernel_rfl)) (fun _ _ _ h => h) (Or.inl ⟨by rfl, ?_⟩) ?_ ?_; rotate_left
                ·intro w'; go_simp; with_reducible rfl
                rotate_left
                ·simp only [Act.put, List.setIfInBounds_toArray, List.set_cons_zero, List.set_cons_succ, i64_w, i32_w]; rfl
                refine pure_ (i := 12) (N := some 22) (v := ?_) (a' := ?_) #[tT, tT, tT, tT, fF, tT, fF, fF, tT, tT, tT, fF, tT, fF, fF, fF, fF, fF, fF, fF, fF, fF, fF, fF, fF, fF, fF, fF, fF, fF, fF, fF, fF, fF] rfl rfl (any_of HT_.out (by kernel_rfl)) (fun _ _ _ h => h) (Or.inl ⟨by rfl, ?_⟩) ?_ ?_; rotate_left
                ·intro w'; go_simp; with_reducible rfl
                rotate_left
                ·simp only [Act.put, List.setIfInBounds_toArray, List.set_cons_zero, List.set_cons_succ, i64_w, i32_w]; rfl
                refine pure_ (i := 13) (N := some 23) (v := ?_) (a' := ?_) #[tT, tT, tT, tT, fF, tT, fF, fF, tT, tT, tT, fF, tT, tT, fF, fF, fF, fF, fF, fF, fF, fF, fF, fF, fF, fF, fF, fF, fF, fF, fF, fF, fF, fF] rfl rfl (any_of HT_.out (by kernel_rfl)) (fun _ _ _ h => h) (Or.inl ⟨by rfl, ?_⟩) ?_ ?_; rotate_left
                ·intro w'; go_simp; with_reducible rfl
                rotate_left
                ·simp only [Act.put, List.setIfInBounds_toArray, List.set_cons_zero, List.set_cons_succ, i64_w, i32_w]; rfl
                refine pure_ (i := 16) (N := some 26) (v := ?_) (a' := ?_) #[tT, tT, tT, tT, fF, tT, fF, fF, tT, tT, tT, fF, tT, tT, fF, fF, tT, fF, fF, fF, fF, fF, fF, fF, fF, fF, fF, fF, fF, fF, fF, fF, fF, fF] rfl rfl (any_of HT_.out (by kernel_rfl)) (fun _ _ _ h => h) (Or.inl ⟨by rfl, ?_⟩) ?_ ?_; rotate_left
                ·intro w'; go_simp; with_reducible rfl
                rotate_left
                ·simp only [Act.put, List.setIfInBounds_toArray, List.set_cons_zero, List.set_cons_succ, i64_w, i32_w]; rfl
                refine pure_ (i := 17) (N := some 27) (v := ?_) (a' := ?_) #[tT, tT, tT, tT, fF, tT, fF, fF, tT, tT, tT, fF, tT, tT, fF, fF, tT, tT, fF, fF, fF, fF, fF, fF, fF, fF, fF, fF, fF, fF, fF, fF, fF, fF] rfl rfl (any_of HT_.out (by kernel_rfl)) (fun _ _ _ h => h) (Or.inl ⟨by rfl, ?_⟩) ?_ ?_; rotate_left
                ·intro w'; go_simp; with_reducible rfl
                rotate_left
                ·simp only [Act.put, List.setIfInBounds_toArray, List.set_cons_zero, List.set_cons_succ, i64_w, i32_w]; rfl
                refine pure_ (i := 18) (N := some 28) (v := ?_) (a' := ?_) #[tT, tT, tT, tT, fF, tT, fF, fF, tT, tT, tT, fF, tT, tT, fF, fF, tT, tT, tT, fF, fF, fF, fF, fF, fF, fF, fF, fF, fF, fF, fF, fF, fF, fF] rfl rfl (any_of HT_.out (by kernel_rfl)) (fun _ _ _ h => h) (Or.inl ⟨by rfl, ?_⟩) ?_ ?_; rotate_left
                ·intro w'; go_simp; with_reducible rfl
                rotate_left
                ·simp only [Act.put, List.setIfInBounds_toArray, List.set_cons_zero, List.set_cons_succ, i64_w, i32_w]; rfl
                refine pure_ (i := 19) (N := some 29) (v := ?_) (a' := ?_) #[tT, tT, tT, tT, fF, tT, fF, fF, tT, tT, tT, fF, tT, tT, fF, fF, tT, tT, tT, tT, fF, fF, fF, fF, fF, fF, fF, fF, fF, fF, fF, fF, fF, fF] rfl rfl (any_of HT_.out (by kernel_rfl)) (fun _ _ _ h => h) (Or.inl ⟨by rfl, ?_⟩) ?_ ?_; rotate_left
                ·intro w'; go_simp; with_reducible rfl
                rotate_left
                ·simp only [Act.put, List.setIfInBounds_toArray, List.set_cons_zero, List.set_cons_succ, i64_w, i32_w]; rfl
                refine pure_ (i := 21) (N := some 31) (v := ?_) (a' := ?_) #[tT, tT, tT, tT, fF, tT, fF, fF, tT, tT, tT, fF, tT, tT, fF, fF, tT, tT, tT, tT, fF, tT, fF, fF, fF, fF, fF, fF, fF, fF, fF, fF, fF, fF] rfl rfl (any_of HT_.out (by kernel_rfl)) (fun _ _ _ h => h) (Or.inl ⟨by rfl, ?_⟩) ?_ ?_; rotate_left
                ·intro w'; go_simp; with_reducible rfl
                rotate_left
                ·simp only [Act.put, List.setIfInBounds_toArray, List.set_cons_zero, List.set_cons_succ, i64_w, i32_w]; rfl
                refine pure_ (i := 24) (N := some 34) (v := ?_) (a' := ?_) #[tT, tT, tT, tT, fF, tT, fF, fF, tT, tT, tT, fF, tT, tT, fF, fF, tT, tT, tT, tT, fF, tT, fF, fF, tT, fF, fF, fF, fF, fF, fF, fF, fF, fF] rfl rfl (any_of HT_.out (by kernel_rfl)) (fun _ _ _ h => h) (Or.inl ⟨by rfl, ?_⟩) ?_ ?_; rotate_left
                ·intro w'; go_simp; with_reducible rfl
                rotate_left
                ·simp only [Act.put, List.setIfInBounds_toArray, List.set_cons_zero, List.set_cons_succ, i64_w, i32_w]; rfl
                refine pure_ (i := 25) (N := some 35) (v := ?_) (a' := ?_) #[tT, tT, tT, tT, fF, tT, fF, fF, tT, tT, tT, fF, tT, tT, fF, fF, tT, tT, tT, tT, fF, tT, fF, fF, tT, tT, fF, fF, fF, fF, fF, fF, fF, fF] rfl rfl (any_of HT_.out (by kernel_rfl)) (fun _ _ _ h => h) (Or.inl ⟨by rfl, ?_⟩) ?_ ?_; rotate_left
                ·intro w'; go_simp; with_reducible rfl
                rotate_left
                ·simp only [Act.put, List.setIfInBounds_toArray, List.set_cons_zero, List.set_cons_succ, i64_w, i32_w]; rfl
                refine pure_ (i := 26) (N := some 36) (v := ?_) (a' := ?_) #[tT, tT, tT, tT, fF, tT, fF, fF, tT, tT, tT, fF, tT, tT, fF, fF, tT, tT, tT, tT, fF, tT, fF, fF, tT, tT, tT, fF, fF, fF, fF, fF, fF, fF] rfl rfl (any_of HT_.out (by kernel_rfl)) (fun _ _ _ h => h) (Or.inl ⟨by rfl, ?_⟩) ?_ ?_; rotate_left
                ·intro w'; go_simp; with_reducible rfl
                rotate_left
                ·simp only [Act.put, List.setIfInBounds_toArray, List.set_cons_zero, List.set_cons_succ, i64_w, i32_w]; rfl
                refine pure_ (i := 28) (N := some 38) (v := ?_) (a' := ?_) #[tT, tT, tT, tT, fF, tT, fF, fF, tT, tT, tT, fF, tT, tT, fF, fF, tT, tT, tT, tT, fF, tT, fF, fF, tT, tT, tT, fF, tT, fF, fF, fF, fF, fF] rfl rfl (any_of HT_.out (by kernel_rfl)) (fun _ _ _ h => h) (Or.inl ⟨by rfl, ?_⟩) ?_ ?_; rotate_left
                ·intro w'; go_simp; with_reducible rfl
                rotate_left
                ·simp only [Act.put, List.setIfInBounds_toArray, List.set_cons_zero, List.set_cons_succ, i64_w, i32_w]; rfl
                refine pure_ (i := 29) (N := some 39) (v := ?_) (a' := ?_) #[tT, tT, tT, tT, fF, tT, fF, fF, tT, tT, tT, fF, tT, tT, fF, fF, tT, tT, tT, tT, fF, tT, fF, fF, tT, tT, tT, fF, tT, tT, fF, fF, fF, fF] rfl rfl (any_of HT_.out (by kernel_rfl)) (fun _ _ _ h => h) (Or.inl ⟨by rfl, ?_⟩) ?_ ?_; rotate_left
                ·intro w'; go_simp; with_reducible rfl
                rotate_left
                ·simp only [Act.put, List.setIfInBounds_toArray, List.set_cons_zero, List.set_cons_succ, i64_w, i32_w]; rfl
                refine take_ (i := 4) (N := some 14) (v := ?_) (a' := ?_) #[tT, tT, tT, tT, tT, tT, fF, fF, tT, tT, tT, fF, tT, tT, fF, fF, tT, tT, tT, tT, fF, tT, fF, fF, tT, tT, tT, fF, tT, tT, fF, fF, fF, fF] rfl rfl (take_ofW HT_.out HW_.out (by kernel_rfl)) (fun _ _ _ h => h) (Or.inl ⟨by rfl, ?_⟩) hHeld ?_ ?_; rotate_left
                ·rintro w' ⟨s0, s1, s2, s3, s4, s5, s6, s7⟩; go_simp; with_reducible rfl
                rotate_left
                ·simp only [Act.put, List.setIfInBounds_toArray, List.set_cons_zero, List.set_cons_succ, i64_w, i32_w]; rfl
                refine pure_ (i := 6) (N := some 16) (v := ?_) (a' := ?_) #[tT, tT, tT, tT, tT, tT, tT, fF, tT, tT, tT, fF, tT, tT, fF, fF, tT, tT, tT, tT, fF, tT, fF, fF, tT, tT, tT, fF, tT, tT, fF, fF, fF, fF] rfl rfl (any_of HT_.out (by kernel_rfl)) (fun _ _ _ h => h) (Or.inl ⟨by rfl, ?_⟩) ?_ ?_; rotate_left
                ·intro w'; go_simp; with_reducible rfl
                rotate_left
                ·simp only [Act.put, List.setIfInBounds_toArray, List.set_cons_zero, List.set_cons_succ, i64_w, i32_w]; rfl
                refine take_ (i := 7) (N := some 17) (v := ?_) (a' := ?_) #[tT, tT, tT, tT, tT, tT, tT, tT, tT, tT, tT, fF, tT, tT, fF, fF, tT, tT, tT, tT, fF, tT, fF, fF, tT, tT, tT, fF, tT, tT, fF, fF, fF, fF] rfl rfl (take_ofW HT_.out HW_.out (by kernel_rfl)) (fun _ _ _ h => h) (Or.inl ⟨by rfl, ?_⟩) hHeld ?_ ?_; rotate_left
                ·rintro w' ⟨s0, s1, s2, s3, s4, s5, s6, s7⟩; go_simp; with_reducible rfl
                rotate_left
                ·simp only [Act.put, List.setIfInBounds_toArray, List.set_cons_zero, List.set_cons_succ, i64_w, i32_w]; rfl
                refine take_ (i := 11) (N := some 21) (v := ?_) (a' := ?_) #[tT, tT, tT, tT, tT, tT, tT, tT, tT, tT, tT, tT, tT, tT, fF, fF, tT, tT, tT, tT, fF, tT, fF, fF, tT, tT, tT, fF, tT, tT, fF, fF, fF, fF] rfl rfl (take_ofW HT_.out HW_.out (by kernel_rfl)) (fun _ _ _ h => h) (Or.inl ⟨by rfl, ?_⟩) hHeld ?_ ?_; rotate_left
                ·rintro w' ⟨s0, s1, s2, s3, s4, s5, s6, s7⟩; go_simp; with_reducible rfl
                rotate_left
                ·simp only [Act.put, List.setIfInBounds_toArray, List.set_cons_zero, List.set_cons_succ, i64_w, i32_w]; rfl
                refine pure_ (i := 14) (N := some 24) (v := ?_) (a' := ?_) #[tT, tT, tT, tT, tT, tT, tT, tT, tT, tT, tT, tT, tT, tT, tT, fF, tT, tT, tT, tT, fF, tT, fF, fF, tT, tT, tT, fF, tT, tT, fF, fF, fF, fF] rfl rfl (any_of HT_.out (by kernel_rfl)) (fun _ _ _ h => h) (Or.inl ⟨by rfl, ?_⟩) ?_ ?_; rotate_left
                ·intro w'; go_simp; with_reducible rfl
                rotate_left
                ·simp only [Act.put, List.setIfInBounds_toArray, List.set_cons_zero, List.set_cons_succ, i64_w, i32_w]; rfl
                refine take_ (i := 15) (N := some 25) (v := ?_) (a' := ?_) #[tT, tT, tT, tT, tT, tT, tT, tT, tT, tT, tT, tT, tT, tT, tT, tT, tT, tT, tT, tT, fF, tT, fF, fF, tT, tT, tT, fF, tT, tT, fF, fF, fF, fF] rfl rfl (take_ofW HT_.out HW_.out (by kernel_rfl)) (fun _ _ _ h => h) (Or.inl ⟨by rfl, ?_⟩) hHeld ?_ ?_; rotate_left
                ·rintro w' ⟨s0, s1, s2, s3, s4, s5, s6, s7⟩; go_simp; with_reducible rfl
                rotate_left
                ·simp only [Act.put, List.setIfInBounds_toArray, List.set_cons_zero, List.set_cons_succ, i64_w, i32_w]; rfl
                refine take_ (i := 20) (N := some 30) (v := ?_) (a' := ?_) #[tT, tT, tT, tT, tT, tT, tT, tT, tT, tT, tT, tT, tT, tT, tT, tT, tT, tT, tT, tT, tT, tT, fF, fF, tT, tT, tT, fF, tT, tT, fF, fF, fF, fF] rfl rfl (take_ofW HT_.out HW_.out (by kernel_rfl)) (fun _ _ _ h => h) (Or.inl ⟨by rfl, ?_⟩) hHeld ?_ ?_; rotate_left
                ·rintro w' ⟨s0, s1, s2, s3, s4, s5, s6, s7⟩; go_simp; with_reducible rfl
                rotate_left
                ·simp only [Act.put, List.setIfInBounds_toArray, List.set_cons_zero, List.set_cons_succ, i64_w, i32_w]; rfl
                refine pure_ (i := 22) (N := some 32) (v := ?_) (a' := ?_) #[tT, tT, tT, tT, tT, tT, tT, tT, tT, tT, tT, tT, tT, tT, tT, tT, tT, tT, tT, tT, tT, tT, tT, fF, tT, tT, tT, fF, tT, tT, fF, fF, fF, fF] rfl rfl (any_of HT_.out (by kernel_rfl)) (fun _ _ _ h => h) (Or.inl ⟨by rfl, ?_⟩) ?_ ?_; rotate_left
                ·intro w'; go_simp; with_reducible rfl
                rotate_left
                ·simp only [Act.put, List.setIfInBounds_toArray, List.set_cons_zero, List.set_cons_succ, i64_w, i32_w]; rfl
                refine take_ (i := 23) (N := some 33) (v := ?_) (a' := ?_) #[tT, tT, tT, tT, tT, tT, tT, tT, tT, tT, tT, tT, tT, tT, tT, tT, tT, tT, tT, tT, tT, tT, tT, tT, tT, tT, tT, fF, tT, tT, fF, fF, fF, fF] rfl rfl (take_ofW HT_.out HW_.out (by kernel_rfl)) (fun _ _ _ h => h) (Or.inl ⟨by rfl, ?_⟩) hHeld ?_ ?_; rotate_left
                ·rintro w' ⟨s0, s1, s2, s3, s4, s5, s6, s7⟩; go_simp; with_reducible rfl
                rotate_left
                ·simp only [Act.put, List.setIfInBounds_toArray, List.set_cons_zero, List.set_cons_succ, i64_w, i32_w]; rfl
                refine take_ (i := 27) (N := some 37) (v := ?_) (a' := ?_) #[tT, tT, tT, tT, tT, tT, tT, tT, tT, tT, tT, tT, tT, tT, tT, tT, tT, tT, tT, tT, tT, tT, tT, tT, tT, tT, tT, tT, tT, tT, fF, fF, fF, fF] rfl rfl (take_ofW HT_.out HW_.out (by kernel_rfl)) (fun _ _ _ h => h) (Or.inl ⟨by rfl, ?_⟩) hHeld ?_ ?_; rotate_left
                ·rintro w' ⟨s0, s1, s2, s3, s4, s5, s6, s7⟩; go_simp; with_reducible rfl
                rotate_left
                ·simp only [Act.put, List.setIfInBounds_toArray, List.set_cons_zero, List.set_cons_succ, i64_w, i32_w]; rfl
                refine pure_ (i := 30) (N := some 40) (v := ?_) (a' := ?_) #[tT, tT, tT, tT, tT, tT, tT, tT, tT, tT, tT, tT, tT, tT, tT, tT, tT, tT, tT, tT, tT, tT, tT, tT, tT, tT, tT, tT, tT, tT, tT, fF, fF, fF] rfl rfl (any_of HT_.out (by kernel_rfl)) (fun _ _ _ h => h) (Or.inl ⟨by rfl, ?_⟩) ?_ ?_; rotate_left
                ·intro w'; go_simp; with_reducible rfl
                rotate_left
                ·simp only [Act.put, List.setIfInBounds_toArray, List.set_cons_zero, List.set_cons_succ, i64_w, i32_w]; rfl
                refine take_ (i := 31) (N := some 41) (v := ?_) (a' := ?_) #[tT, tT, tT, tT, tT, tT, tT, tT, tT, tT, tT, tT, tT, tT, tT, tT, tT, tT, tT, tT, tT, tT, tT, tT, tT, tT, tT, tT, tT, tT, tT, tT, fF, fF] rfl rfl (take_ofW HT_.out HW_.out (by kernel_rfl)) (fun _ _ _ h => h) (Or.inl ⟨by rfl, ?_⟩) hHeld ?_ ?_; rotate_left
                ·rintro w' ⟨s0, s1, s2, s3, s4, s5, s6, s7⟩; go_simp; with_reducible rfl
                rotate_left
                ·simp only [Act.put, List.setIfInBounds_toArray, List.set_cons_zero, List.set_cons_succ, i64_w, i32_w]; rfl
                refine one_ (i := 32) (N := some 42) #[tT, tT, tT, tT, tT, tT, tT, tT, tT, tT, tT, tT, tT, tT, tT, tT, tT, tT, tT, tT, tT, tT, tT, tT, tT, tT, tT, tT, tT, tT, tT, tT, tT, fF] rfl rfl (one_of HT_.out (by kernel_rfl)) (by decide) (fun K hK => ?_)
                refine Kd.R_lit_step (Kd.int .i64) _ 3 ?hg (N := 42) ?hd (xs := ([rd (rd_L1 l0 (ji4)) a2, rd (rd_L1 l0 a1) (ji11), rd (rd_L1 l0 (ji14)) a2, rd (rd_L1 l0 a1) (ji18)] : List Int)) (inner := [.int .i64 (rd (rd_L1 l0 (ji4)) a2), .int .i64 (rd (rd_L1 l0 a1) (ji11)), .int .i64 (rd (rd_L1 l0 (ji14)) a2), .int .i64 (rd (rd_L1 l0 a1) (ji18))]) (ok := fun _ => True) (okp := fun _ => True) ?hr ?hp (fun _ hk => hk) trivial (Below.refl _ _) (Nat.le_refl _) (by simp) ?_; (case hd => rfl); (case hg => rfl); (case hr => first | (go_simp; done) | (go_simp; rfl)); (case hp => exact (Reps.one (show Kd.M (Kd.int .i64) _ _ _ (rd (rd_L1 l0 (ji4)) a2) [.int .i64 (rd (rd_L1 l0 (ji4)) a2)] from rfl) (Reps.one (show Kd.M (Kd.int .i64) _ _ _ (rd (rd_L1 l0 a1) (ji11)) [.int .i64 (rd (rd_L1 l0 a1) (ji11))] from rfl) (Reps.one (show Kd.M (Kd.int .i64) _ _ _ (rd (rd_L1 l0 (ji14)) a2) [.int .i64 (rd (rd_L1 l0 (ji14)) a2)] from rfl) (Reps.one (show Kd.M (Kd.int .i64) _ _ _ (rd (rd_L1 l0 a1) (ji18)) [.int .i64 (rd (rd_L1 l0 a1) (ji18))] from rfl) (Reps.none _ _))))))
                intro v691 w26 ho27 hb hg_ hnew_; clear hg_ hnew_
                (first | rw [← Ny690.out] at ho27 | (simp only [Int.reduceToNat] at ho27; rw [← Ny690.out] at ho27))
                have n0_ := Aside0.mk (Kd.R_lower ho27 (below_size (by repeat (first | (with_reducible first | exact HB.out | apply below_alloc | apply pw_below_drewN | apply below_drew1) | exact HB.out)))); have n1_ := Aside0.mk (below_step (by repeat (first | (with_reducible first | exact HB.out | apply below_alloc | apply pw_below_drewN | apply below_drew1) | exact HB.out)) hb); clear HB; have HO692 := n0_; have HB := n1_; clear n0_ n1_; clear hb ho27; refine hK.out _ _ ⟨((HB.out.cell (World.block_lt_of_cell? w _ hw682_0)).trans hw682_0), ((HB.out.cell (World.block_lt_of_cell? w _ hw683_0)).trans hw683_0), ((HB.out.cell (World.block_lt_of_cell? w _ hw684_0)).trans hw684_0), ((HB.out.cell (World.block_lt_of_cell? w _ hw685_0)).trans hw685_0), ((HB.out.cell (World.block_lt_of_cell? w _ hw686_0)).trans hw686_0), ((HB.out.cell (World.block_lt_of_cell? w _ hw687_0)).trans hw687_0), ((HB.out.cell (World.block_lt_of_cell? w _ hw688_0)).trans hw688_0), ((HB.out.cell (World.block_lt_of_cell? w _ hw689_0)).trans hw689_0)⟩ (fun hHeld => ?_); clear hK K; refine norm_ (a' := ?_) ?_ ?_; rotate_left
                ·show Act.put _ (some 42) _ = _; simp only [Act.put, List.setIfInBounds_toArray, List.set_cons_zero, List.set_cons_succ, i64_w, i32_w]; rfl
                refine pure_ (i := 33) (N := some 7) (v := ?_) (a' := ?_) #[tT, tT, tT, tT, tT, tT, tT, tT, tT, tT, tT, tT, tT, tT, tT, tT, tT, tT, tT, tT, tT, tT, tT, tT, tT, tT, tT, tT, tT, tT, tT, tT, tT, tT] rfl rfl (any_of HT_.out (by kernel_rfl)) (fun _ _ _ h => h) (Or.inl ⟨by rfl, ?_⟩) ?_ ?_; rotate_left
                ·intro w'; go_simp; with_reducible rfl
                rotate_left
                ·simp only [Act.put, List.setIfInBounds_toArray, List.set_cons_zero, List.set_cons_succ, i64_w, i32_w]; rfl
                refine done_ (done_of HT_.out (by kernel_rfl)) ?_; obtain ⟨Ao28, co28, eo28⟩ := Kd.R_slice HO692.out; subst eo28
                (try (obtain ⟨adL_, eL_, hxL_⟩ := Kd.at_int HR684_0.out a2 (by first | exact of_decide_eq_true (by first | (with_reducible assumption) | assumption) | exact of_eq_true (by assumption)) (by first | exact of_decide_eq_true (by first | (with_reducible assumption) | assumption) | exact of_eq_true (by assumption)); cases eL_; replace hxL_ := (HB.out.cell (World.block_lt_of_cell? w _ hxL_)).trans hxL_))
                try go_wp2_with (first | ((with_reducible refine gate_callee (f := 160) rfl ?_); refine goesL_ (some 44) rfl rfl Try.func160 (by kernel_rfl) rfl #[.slice Ao28 y690.length co28] rfl (by (try simp only [List.map_toArray, List.map_cons, List.map_nil]); first | done | rfl | (simp only [List.length_drop, List.length_take]; rfl)) ?_; (with_reducible refine (slices_Min_int_int.calls _ _ y690 t693 _ ?side1 ?side2 A21.out).mono ?_); (case side1 => repeat (first | exact (Kd.R_reads' HO692.out).2.2 | (with_reducible refine Kd.C_alloc ?_ _) | (with_reducible refine Kd.C_drewN ?_ _) | (with_reducible refine Kd.C_drew ?_))); (case side2 => exact (Kd.R_reads' HO692.out).2.1); rintro e w' ⟨rfl, ⟨nd, rfl⟩⟩; refine ⟨_, rfl, ?_⟩) | ((with_reducible refine gate_callee (f := 161) rfl ?_); refine goesL_ (some 46) rfl rfl Try.func161 (by kernel_rfl) rfl #[.slice Ao28 y690.length co28] rfl (by (try simp only [List.map_toArray, List.map_cons, List.map_nil]); first | done | rfl | (simp only [List.length_drop, List.length_take]; rfl)) ?_; (with_reducible refine (slices_Max_int_int.calls _ _ y690 t694 _ ?side1 ?side2 A22.out).mono ?_); (case side1 => repeat (first | exact (Kd.R_reads' HO692.out).2.2 | (with_reducible refine Kd.C_alloc ?_ _) | (with_reducible refine Kd.C_drewN ?_ _) | (with_reducible refine Kd.C_drew ?_))); (case side2 => exact (Kd.R_reads' HO692.out).2.1); rintro e w' ⟨rfl, ⟨nd, rfl⟩⟩; refine ⟨_, rfl, ?_⟩; have p695 : 0 ≤ (a1 : Int) := of_decide_eq_true (by first | (with_reducible assumption) | assumption); have q695 : a1 < (l0.length : Int) := of_decide_eq_true (by first | (with_reducible assumption) | assumption); obtain ⟨ad695, A695_0, c695_0, e695, hx695_0, hl695_0, hi695_0⟩ := at_L1 HR0.out a1 p695 q695; obtain rfl : ad682 = ad695 := (by injection e695); replace hx695_0 := (HB.out.cell (World.block_lt_of_cell? w _ hx695_0)).trans hx695_0; have HR695_0 := Aside0.mk hi695_0; have HC695_0 := Aside0.mk hl695_0; clear hi695_0 hl695_0; replace p695 := eq_true p695; replace q695 := eq_true q695; have p696 : 0 ≤ (a2 : Int) := of_decide_eq_true (by first | (with_reducible assumption) | assumption); have q696 : a2 < ((rd_L1 l0 a1).length : Int) := of_decide_eq_true (by first | (with_reducible assumption) | assumption); obtain ⟨ad696, e696, hx696_0⟩ := Kd.at_int HR695_0.out a2 p696 q696; cases e696; replace hx696_0 := (HB.out.cell (World.block_lt_of_cell? w _ hx696_0)).trans hx696_0; replace p696 := eq_true p696; replace q696 := eq_true q696))
                go_ret; exact ⟨by first | rfl | (simp [errW_none, errW_some] <;> rfl) | (simp only [← hji4, ← hji11, ← hji14, ← hji18]; first | rfl | (simp [errW_none, errW_some] <;> rfl)) | (simp [*, errW_none, errW_some] <;> rfl), by repeat (first | (with_reducible first | exact HB.out | apply below_alloc | apply pw_below_drewN | apply below_drew1) | exact HB.out)⟩
               ·rw [if_neg c24] at H; exact absurd H (by simp)
              ·rw [if_neg c23] at H
               have c23b0 : (t693 == t694) = false := beq_eq_false_iff_ne.mpr c23; have c23b1 : (t693 != t694) = true := bne_iff_ne.mpr c23; obtain rfl := Option.some.inj H; go_enter Try.func143, Try.ntmps143
               try go_wp2
               have n0_ := Aside0.mk (below_drew1 HB.out); clear HB; have HB := n0_; clear n0_; have p682 : 0 ≤ ((ji4) : Int) := of_decide_eq_true (by first | (with_reducible assumption) | assumption); have q682 : (ji4) < (l0.length : Int) := of_decide_eq_true (by first | (with_reducible assumption) | assumption); obtain ⟨ad682, A682_0, c682_0, e682, hx682_0, hl682_0, hi682_0⟩ := at_L1 HR0.out (ji4) p682 q682; have hw682_0 := hx682_0
               cases e682
               (try replace hx682_0 := (HB.out.cell (World.block_lt_of_cell? w _ hx682_0)).trans hx682_0)
               have HR682_0 := Aside0.mk hi682_0; have HC682_0 := Aside0.mk hl682_0; clear hi682_0 hl682_0; replace p682 := eq_true p682; replace q682 := eq_true q682; have p683 : 0 ≤ (a2 : Int) := of_decide_eq_true (by first | (with_reducible assumption) | assumption); have q683 : a2 < ((rd_L1 l0 (ji4)).length : Int) := of_decide_eq_true (by first | (with_reducible assumption) | assumption); obtain ⟨ad683, e683, hx683_0⟩ := Kd.at_int HR682_0.out a2 p683 q683; have hw683_0 := hx683_0
               cases e683
               (try replace hx683_0 := (HB.out.cell (World.block_lt_of_cell? w _ hx683_0)).trans hx683_0)
               replace p683 := eq_true p683; replace q683 := eq_true q683; have p684 : 0 ≤ (a1 : Int) := of_decide_eq_true (by first | (with_reducible assumption) | assumption); have q684 : a1 < (l0.length : Int) := of_decide_eq_true (by first | (with_reducible assumption) | assumption); obtain ⟨ad684, A684_0, c684_0, e684, hx684_0, hl684_0, hi684_0⟩ := at_L1 HR0.out a1 p684 q684; have hw684_0 := hx684_0
               obtain rfl : ad682 = ad684 := (by injection e684)
               (try replace hx684_0 := (HB.out.cell (World.block_lt_of_cell? w _ hx684_0)).trans hx684_0)
               have HR684_0 := Aside0.mk hi684_0; have HC684_0 := Aside0.mk hl684_0; clear hi684_0 hl684_0; replace p684 := eq_true p684; replace q684 := eq_true q684; have p685 : 0 ≤ ((ji11) : Int) := of_decide_eq_true (by first | (with_reducible assumption) | assumption); have q685 : (ji11) < ((rd_L1 l0 a1).length : Int) := of_decide_eq_true (by first | (with_reducible assumption) | assumption); obtain ⟨ad685, e685, hx685_0⟩ := Kd.at_int HR684_0.out (ji11) p685 q685; have hw685_0 := hx685_0
               cases e685
               (try replace hx685_0 := (HB.out.cell (World.block_lt_of_cell? w _ hx685_0)).trans hx685_0)
               replace p685 := eq_true p685; replace q685 := eq_true q685; have p686 : 0 ≤ ((ji14) : Int) := of_decide_eq_true (by first | (with_reducible assumption) | assumption); have q686 : (ji14) < (l0.length : Int) := of_decide_eq_true (by first | (with_reducible assumption) | assumption); obtain ⟨ad686, A686_0, c686_0, e686, hx686_0, hl686_0, hi686_0⟩ := at_L1 HR0.out (ji14) p686 q686; have hw686_0 := hx686_0
               obtain rfl : ad682 = ad686 := (by injection e686)
               (try replace hx686_0 := (HB.out.cell (World.block_lt_of_cell? w _ hx686_0)).trans hx686_0)
               have HR686_0 := Aside0.mk hi686_0; have HC686_0 := Aside0.mk hl686_0; clear hi686_0 hl686_0; replace p686 := eq_true p686; replace q686 := eq_true q686; have p687 : 0 ≤ (a2 : Int) := of_decide_eq_true (by first | (with_reducible assumption) | assumption); have q687 : a2 < ((rd_L1 l0 (ji14)).length : Int) := of_decide_eq_true (by first | (with_reducible assumption) | assumption); obtain ⟨ad687, e687, hx687_0⟩ := Kd.at_int HR686_0.out a2 p687 q687; have hw687_0 := hx687_0
               cases e687
               (try replace hx687_0 := (HB.out.cell (World.block_lt_of_cell? w _ hx687_0)).trans hx687_0)
               replace p687 := eq_true p687; replace q687 := eq_true q687; have p688 : 0 ≤ (a1 : Int) := of_decide_eq_true (by first | (with_reducible assumption) | assumption); have q688 : a1 < (l0.length : Int) := of_decide_eq_true (by first | (with_reducible assumption) | assumption); obtain ⟨ad688, A688_0, c688_0, e688, hx688_0, hl688_0, hi688_0⟩ := at_L1 HR0.out a1 p688 q688; have hw688_0 := hx688_0
               obtain rfl : ad682 = ad688 := (by injection e688)
               (try replace hx688_0 := (HB.out.cell (World.block_lt_of_cell? w _ hx688_0)).trans hx688_0)
               have HR688_0 := Aside0.mk hi688_0; have HC688_0 := Aside0.mk hl688_0; clear hi688_0 hl688_0; replace p688 := eq_true p688; replace q688 := eq_true q688; have ea_ := Option.some.inj (hx684_0.symm.trans hx688_0); injection ea_ with ea_ en_ ec_; subst ea_; subst ec_; clear en_; have p689 : 0 ≤ ((ji18) : Int) := of_decide_eq_true (by first | (with_reducible assumption) | assumption); have q689 : (ji18) < ((rd_L1 l0 a1).length : Int) := of_decide_eq_true (by first | (with_reducible assumption) | assumption); obtain ⟨ad689, e689, hx689_0⟩ := Kd.at_int HR688_0.out (ji18) p689 q689; have hw689_0 := hx689_0
               cases e689
               (try replace hx689_0 := (HB.out.cell (World.block_lt_of_cell? w _ hx689_0)).trans hx689_0)
               replace p689 := eq_true p689; replace q689 := eq_true q689
               refine start_ (n := 34) (S := fun w' => w'.cell? (ad682.add ((ji4)).toNat) = some (.slice (some ad683) (rd_L1 l0 (ji4)).length c682_0) ∧ w'.cell? (ad683.add (a2).toNat) = some (.int .i64 (rd (rd_L1 l0 (ji4)) a2)) ∧ w'.cell? (ad682.add (a1).toNat) = some (.slice (some ad685) (rd_L1 l0 a1).length c684_0) ∧ w'.cell? (ad685.add ((ji11)).toNat) = some (.int .i64 (rd (rd_L1 l0 a1) (ji11))) ∧ w'.cell? (ad682.add ((ji14)).toNat) = some (.slice (some ad687) (rd_L1 l0 (ji14)).length c686_0) ∧ w'.cell? (ad687.add (a2).toNat) = some (.int .i64 (rd (rd_L1 l0 (ji14)) a2)) ∧ w'.cell? (ad682.add (a1).toNat) = some (.slice (some ad685) (rd_L1 l0 a1).length c684_0) ∧ w'.cell? (ad685.add ((ji18)).toNat) = some (.int .i64 (rd (rd_L1 l0 a1) (ji18)))) (ds := []) #[fF, fF, fF, fF, fF, fF, fF, fF, fF, fF, fF, fF, fF, fF, fF, fF, fF, fF, fF, fF, fF, fF, fF, fF, fF, fF, fF, fF, fF, fF, fF, fF, fF, fF] (by kernel_rfl) rfl rfl ⟨((HB.out.cell (World.block_lt_of_cell? w _ hw682_0)).trans hw682_0), ((HB.out.cell (World.block_lt_of_cell? w _ hw683_0)).trans hw683_0), ((HB.out.cell (World.block_lt_of_cell? w _ hw684_0)).trans hw684_0), ((HB.out.cell (World.block_lt_of_cell? w _ hw685_0)).trans hw685_0), ((HB.out.cell (World.block_lt_of_cell? w _ hw686_0)).trans hw686_0), ((HB.out.cell (World.block_lt_of_cell? w _ hw687_0)).trans hw687_0), ((HB.out.cell (World.block_lt_of_cell? w _ hw688_0)).trans hw688_0), ((HB.out.cell (World.block_lt_of_cell? w _ hw689_0)).trans hw689_0)⟩ (fun hHeld => ?_); refine with_tabW impl_way.tab1 impl_way.bits1 (fun HT_ HW_ => ?_)
               generalize w.drew = w29 at HB HR682_0 HR684_0 HR686_0 HR688_0 hx682_0 hx683_0 hx684_0 hx685_0 hx686_0 hx687_0 hx688_0 hx689_0 hHeld ⊢; refine pure_ (i := 0) (N := some 10) (v := ?_) (a' := ?_) #[tT, fF, fF, fF, fF, fF, fF, fF, fF, fF, fF, fF, fF, fF, fF, fF, fF, fF, fF, fF, fF, fF, fF, fF, fF, fF, fF, fF, fF, fF, fF, fF, fF, fF] rfl rfl (any_of HT_.out (by kernel_rfl)) (fun _ _ _ h => h) (Or.inl ⟨by rfl, ?_⟩) ?_ ?_; rotate_left
               ·intro w'; go_simp; with_reducible rfl
               rotate_left
               ·simp only [Act.put, List.setIfInBounds_toArray, List.set_cons_zero, List.set_cons_succ, i64_w, i32_w]; rfl
               refine pure_ (i := 1) (N := some 11) (v := ?_) (a' := ?_) #[tT, tT, fF, fF, fF, fF, fF, fF, fF, fF, fF, fF, fF, fF, fF, fF, fF, fF, fF, fF, fF, fF, fF, fF, fF, fF, fF, fF, fF, fF, fF, fF, fF, fF] rfl rfl (any_of HT_.out (by kernel_rfl)) (fun _ _ _ h => h) (Or.inl ⟨by rfl, ?_⟩) ?_ ?_; rotate_left
               ·intro w'; go_simp; with_reducible rfl
               rotate_left
               ·simp only [Act.put, List.setIfInBounds_toArray, List.set_cons_zero, List.set_cons_succ, i64_w, i32_w]; rfl
               refine pure_ (i := 2) (N := some 12) (v := ?_) (a' := ?_) #[tT, tT, tT, fF, fF, fF, fF, fF, fF, fF, fF, fF, fF, fF, fF, fF, fF, fF, fF, fF, fF, fF, fF, fF, fF, fF, fF, fF, fF, fF, fF, fF, fF, fF] rfl rfl (any_of HT_.out (by kernel_rfl)) (fun _ _ _ h => h) (Or.inl ⟨by rfl, ?_⟩) ?_ ?_; rotate_left
               ·intro w'; go_simp; with_reducible rfl
               rotate_left
               ·simp only [Act.put, List.setIfInBounds_toArray, List.set_cons_zero, List.set_cons_succ, i64_w, i32_w]; rfl
               refine pure_ (i := 3) (N := some 13) (v := ?_) (a' := ?_) #[tT, tT, tT, tT, fF, fF, fF, fF, fF, fF, fF, fF, fF, fF, fF, fF, fF, fF, fF, fF, fF, fF, fF, fF, fF, fF, fF, fF, fF, fF, fF, fF, fF, fF] rfl rfl (any_of HT_.out (by kernel_rfl)) (fun _ _ _ h => h) (Or.inl ⟨by rfl, ?_⟩) ?_ ?_; rotate_left
               ·intro w'; go_simp; with_reducible rfl
               rotate_left
               ·simp only [Act.put, List.setIfInBounds_toArray, List.set_cons_zero, List.set_cons_succ, i64_w, i32_w]; rfl
               refine pure_ (i := 5) (N := some 15) (v := ?_) (a' := ?_) #[tT, tT, tT, tT, fF, tT, fF, fF, fF, fF, fF, fF, fF, fF, fF, fF, fF, fF, fF, fF, fF, fF, fF, fF, fF, fF, fF, fF, fF, fF, fF, fF, fF, fF] rfl rfl (any_of HT_.out (by kernel_rfl)) (fun _ _ _ h => h) (Or.inl ⟨by rfl, ?_⟩) ?_ ?_; rotate_left
               ·intro w'; go_simp; with_reducible rfl
               rotate_left
               ·simp only [Act.put, List.setIfInBounds_toArray, List.set_cons_zero, List.set_cons_succ, i64_w, i32_w]; rfl
               refine pure_ (i := 8) (N := some 18) (v := ?_) (a' := ?_) #[tT, tT, tT, tT, fF, tT, fF, fF, tT, fF, fF, fF, fF, fF, fF, fF, fF, fF, fF, fF, fF, fF, fF, fF, fF, fF, fF, fF, fF, fF, fF, fF, fF, fF] rfl rfl (any_of HT_.out (by kernel_rfl)) (fun _ _ _ h => h) (Or.inl ⟨by rfl, ?_⟩) ?_ ?_; rotate_left
               ·intro w'; go_simp; with_reducible rfl
               rotate_left
               ·simp only [Act.put, List.setIfInBounds_toArray, List.set_cons_zero, List.set_cons_succ, i64_w, i32_w]; rfl
               refine pure_ (i := 9) (N := some 19) (v := ?_) (a' := ?_) #[tT, tT, tT, tT, fF, tT, fF, fF, tT, tT, fF, fF, fF, fF, fF, fF, fF, fF, fF, fF, fF, fF, fF, fF, fF, fF, fF, fF, fF, fF, fF, fF, fF, fF] rfl rfl (any_of HT_.out (by kernel_rfl)) (fun _ _ _ h => h) (Or.inl ⟨by rfl, ?_⟩) ?_ ?_; rotate_left
               ·intro w'; go_simp; with_reducible rfl
               rotate_left
               ·simp only [Act.put, List.setIfInBounds_toArray, List.set_cons_zero, List.set_cons_succ, i64_w, i32_w]; rfl
               refine pure_ (i := 10) (N := some 20) (v := ?_) (a' := ?_) #[tT, tT, tT, tT, fF, tT, fF, fF, tT, tT, tT, fF, fF, fF, fF, fF, fF, fF, fF, fF, fF, fF, fF, fF, fF, fF, fF, fF, fF, fF, fF, fF, fF, fF] rfl rfl (any_of HT_.out (by kernel_rfl)) (fun _ _ _ h => h) (Or.inl ⟨by rfl, ?_⟩) ?_ ?_; rotate_left
               ·intro w'; go_simp; with_reducible rfl
               rotate_left
               ·simp only [Act.put, List.setIfInBounds_toArray, List.set_cons_zero, List.set_cons_succ, i64_w, i32_w]; rfl
               refine pure_ (i := 12) (N := some 22) (v := ?_) (a' := ?_) #[tT, tT, tT, tT, fF, tT, fF, fF, tT, tT, tT, fF, tT, fF, fF, fF, fF, fF, fF, fF, fF, fF, fF, fF, fF, fF, fF, fF, fF, fF, fF, fF, fF, fF] rfl rfl (any_of HT_.out (by kernel_rfl)) (fun _ _ _ h => h) (Or.inl ⟨by rfl, ?_⟩) ?_ ?_; rotate_left
               ·intro w'; go_simp; with_reducible rfl
               rotate_left
               ·simp only [Act.put, List.setIfInBounds_toArray, List.set_cons_zero, List.set_cons_succ, i64_w, i32_w]; rfl
               refine pure_ (i := 13) (N := some 23) (v := ?_) (a' := ?_) #[tT, tT, tT, tT, fF, tT, fF, fF, tT, tT, tT, fF, tT, tT, fF, fF, fF, fF, fF, fF, fF, fF, fF, fF, fF, fF, fF, fF, fF, fF, fF, fF, fF, fF] rfl rfl (any_of HT_.out (by kernel_rfl)) (fun _ _ _ h => h) (Or.inl ⟨by rfl, ?_⟩) ?_ ?_; rotate_left
               ·intro w'; go_simp; with_reducible rfl
               rotate_left
               ·simp only [Act.put, List.setIfInBounds_toArray, List.set_cons_zero, List.set_cons_succ, i64_w, i32_w]; rfl
               refine pure_ (i := 16) (N := some 26) (v := ?_) (a' := ?_) #[tT, tT, tT, tT, fF, tT, fF, fF, tT, tT, tT, fF, tT, tT, fF, fF, tT, fF, fF, fF, fF, fF, fF, fF, fF, fF, fF, fF, fF, fF, fF, fF, fF, fF] rfl rfl (any_of HT_.out (by kernel_rfl)) (fun _ _ _ h => h) (Or.inl ⟨by rfl, ?_⟩) ?_ ?_; rotate_left
               ·intro w'; go_simp; with_reducible rfl
               rotate_left
               ·simp only [Act.put, List.setIfInBounds_toArray, List.set_cons_zero, List.set_cons_succ, i64_w, i32_w]; rfl
               refine pure_ (i := 17) (N := some 27) (v := ?_) (a' := ?_) #[tT, tT, tT, tT, fF, tT, fF, fF, tT, tT, tT, fF, tT, tT, fF, fF, tT, tT, fF, fF, fF, fF, fF, fF, fF, fF, fF, fF, fF, fF, fF, fF, fF, fF] rfl rfl (any_of HT_.out (by kernel_rfl)) (fun _ _ _ h => h) (Or.inl ⟨by rfl, ?_⟩) ?_ ?_; rotate_left
               ·intro w'; go_simp; with_reducible rfl
               rotate_left
               ·simp only [Act.put, List.setIfInBounds_toArray, List.set_cons_zero, List.set_cons_succ, i64_w, i32_w]; rfl
               refine pure_ (i := 18) (N := some 28) (v := ?_) (a' := ?_) #[tT, tT, tT, tT, fF, tT, fF, fF, tT, tT, tT, fF, tT, tT, fF, fF, tT, tT, tT, fF, fF, fF, fF, fF, fF, fF, fF, fF, fF, fF, fF, fF, fF, fF] rfl rfl (any_of HT_.out (by kernel_rfl)) (fun _ _ _ h => h) (Or.inl ⟨by rfl, ?_⟩) ?_ ?_; rotate_left
               ·intro w'; go_simp; with_reducible rfl
               rotate_left
               ·simp only [Act.put, List.setIfInBounds_toArray, List.set_cons_zero, List.set_cons_succ, i64_w, i32_w]; rfl
               refine pure_ (i := 19) (N := some 29) (v := ?_) (a' := ?_) #[tT, tT, tT, tT, fF, tT, fF, fF, tT, tT, tT, fF, tT, tT, fF, fF, tT, tT, tT, tT, fF, fF, fF, fF, fF, fF, fF, fF, fF, fF, fF, fF, fF, fF] rfl rfl (any_of HT_.out (by kernel_rfl)) (fun _ _ _ h => h) (Or.inl ⟨by rfl, ?_⟩) ?_ ?_; rotate_left
               ·intro w'; go_simp; with_reducible rfl
               rotate_left
               ·simp only [Act.put, List.setIfInBounds_toArray, List.set_cons_zero, List.set_cons_succ, i64_w, i32_w]; rfl
               refine pure_ (i := 21) (N := some 31) (v := ?_) (a' := ?_) #[tT, tT, tT, tT, fF, tT, fF, fF, tT, tT, tT, fF, tT, tT, fF, fF, tT, tT, tT, tT, fF, tT, fF, fF, fF, fF, fF, fF, fF, fF, fF, fF, fF, fF] rfl rfl (any_of HT_.out (by kernel_rfl)) (fun _ _ _ h => h) (Or.inl ⟨by rfl, ?_⟩) ?_ ?_; rotate_left
               ·intro w'; go_simp; with_reducible rfl
               rotate_left
               ·simp only [Act.put, List.setIfInBounds_toArray, List.set_cons_zero, List.set_cons_succ, i64_w, i32_w]; rfl
               refine pure_ (i := 24) (N := some 34) (v := ?_) (a' := ?_) #[tT, tT, tT, tT, fF, tT, fF, fF, tT, tT, tT, fF, tT, tT, fF, fF, tT, tT, tT, tT, fF, tT, fF, fF, tT, fF, fF, fF, fF, fF, fF, fF, fF, fF] rfl rfl (any_of HT_.out (by kernel_rfl)) (fun _ _ _ h => h) (Or.inl ⟨by rfl, ?_⟩) ?_ ?_; rotate_left
               ·intro w'; go_simp; with_reducible rfl
               rotate_left
               ·simp only [Act.put, List.setIfInBounds_toArray, List.set_cons_zero, List.set_cons_succ, i64_w, i32_w]; rfl
               refine pure_ (i := 25) (N := some 35) (v := ?_) (a' := ?_) #[tT, tT, tT, tT, fF, tT, fF, fF, tT, tT, tT, fF, tT, tT, fF, fF, tT, tT, tT, tT, fF, tT, fF, fF, tT, tT, fF, fF, fF, fF, fF, fF, fF, fF] rfl rfl (any_of HT_.out (by kernel_rfl)) (fun _ _ _ h => h) (Or.inl ⟨by rfl, ?_⟩) ?_ ?_; rotate_left
               ·intro w'; go_simp; with_reducible rfl
               rotate_left
               ·simp only [Act.put, List.setIfInBounds_toArray, List.set_cons_zero, List.set_cons_succ, i64_w, i32_w]; rfl
               refine pure_ (i := 26) (N := some 36) (v := ?_) (a' := ?_) #[tT, tT, tT, tT, fF, tT, fF, fF, tT, tT, tT, fF, tT, tT, fF, fF, tT, tT, tT, tT, fF, tT, fF, fF, tT, tT, tT, fF, fF, fF, fF, fF, fF, fF] rfl rfl (any_of HT_.out (by kernel_rfl)) (fun _ _ _ h => h) (Or.inl ⟨by rfl, ?_⟩) ?_ ?_; rotate_left
               ·intro w'; go_simp; with_reducible rfl
               rotate_left
               ·simp only [Act.put, List.setIfInBounds_toArray, List.set_cons_zero, List.set_cons_succ, i64_w, i32_w]; rfl
               refine pure_ (i := 28) (N := some 38) (v := ?_) (a' := ?_) #[tT, tT, tT, tT, fF, tT, fF, fF, tT, tT, tT, fF, tT, tT, fF, fF, tT, tT, tT, tT, fF, tT, fF, fF, tT, tT, tT, fF, tT, fF, fF, fF, fF, fF] rfl rfl (any_of HT_.out (by kernel_rfl)) (fun _ _ _ h => h) (Or.inl ⟨by rfl, ?_⟩) ?_ ?_; rotate_left
               ·intro w'; go_simp; with_reducible rfl
               rotate_left
               ·simp only [Act.put, List.setIfInBounds_toArray, List.set_cons_zero, List.set_cons_succ, i64_w, i32_w]; rfl
               refine pure_ (i := 29) (N := some 39) (v := ?_) (a' := ?_) #[tT, tT, tT, tT, fF, tT, fF, fF, tT, tT, tT, fF, tT, tT, fF, fF, tT, tT, tT, tT, fF, tT, fF, fF, tT, tT, tT, fF, tT, tT, fF, fF, fF, fF] rfl rfl (any_of HT_.out (by kernel_rfl)) (fun _ _ _ h => h) (Or.inl ⟨by rfl, ?_⟩) ?_ ?_; rotate_left
               ·intro w'; go_simp; with_reducible rfl
               rotate_left
               ·simp only [Act.put, List.setIfInBounds_toArray, List.set_cons_zero, List.set_cons_succ, i64_w, i32_w]; rfl
               refine take_ (i := 4) (N := some 14) (v := ?_) (a' := ?_) #[tT, tT, tT, tT, tT, tT, fF, fF, tT, tT, tT, fF, tT, tT, fF, fF, tT, tT, tT, tT, fF, tT, fF, fF, tT, tT, tT, fF, tT, tT, fF, fF, fF, fF] rfl rfl (take_ofW HT_.out HW_.out (by kernel_rfl)) (fun _ _ _ h => h) (Or.inl ⟨by rfl, ?_⟩) hHeld ?_ ?_; rotate_left
               ·rintro w' ⟨s0, s1, s2, s3, s4, s5, s6, s7⟩; go_simp; with_reducible rfl
               rotate_left
               ·simp only [Act.put, List.setIfInBounds_toArray, List.set_cons_zero, List.set_cons_succ, i64_w, i32_w]; rfl
               refine pure_ (i := 6) (N := some 16) (v := ?_) (a' := ?_) #[tT, tT, tT, tT, tT, tT, tT, fF, tT, tT, tT, fF, tT, tT, fF, fF, tT, tT, tT, tT, fF, tT, fF, fF, tT, tT, tT, fF, tT, tT, fF, fF, fF, fF] rfl rfl (any_of HT_.out (by kernel_rfl)) (fun _ _ _ h => h) (Or.inl ⟨by rfl, ?_⟩) ?_ ?_; rotate_left
               ·intro w'; go_simp; with_reducible rfl
               rotate_left
               ·simp only [Act.put, List.setIfInBounds_toArray, List.set_cons_zero, List.set_cons_succ, i64_w, i32_w]; rfl
               refine take_ (i := 7) (N := some 17) (v := ?_) (a' := ?_) #[tT, tT, tT, tT, tT, tT, tT, tT, tT, tT, tT, fF, tT, tT, fF, fF, tT, tT, tT, tT, fF, tT, fF, fF, tT, tT, tT, fF, tT, tT, fF, fF, fF, fF] rfl rfl (take_ofW HT_.out HW_.out (by kernel_rfl)) (fun _ _ _ h => h) (Or.inl ⟨by rfl, ?_⟩) hHeld ?_ ?_; rotate_left
               ·rintro w' ⟨s0, s1, s2, s3, s4, s5, s6, s7⟩; go_simp; with_reducible rfl
               rotate_left
               ·simp only [Act.put, List.setIfInBounds_toArray, List.set_cons_zero, List.set_cons_succ, i64_w, i32_w]; rfl
               refine take_ (i := 11) (N := some 21) (v := ?_) (a' := ?_) #[tT, tT, tT, tT, tT, tT, tT, tT, tT, tT, tT, tT, tT, tT, fF, fF, tT, tT, tT, tT, fF, tT, fF, fF, tT, tT, tT, fF, tT, tT, fF, fF, fF, fF] rfl rfl (take_ofW HT_.out HW_.out (by kernel_rfl)) (fun _ _ _ h => h) (Or.inl ⟨by rfl, ?_⟩) hHeld ?_ ?_; rotate_left
               ·rintro w' ⟨s0, s1, s2, s3, s4, s5, s6, s7⟩; go_simp; with_reducible rfl
               rotate_left
               ·simp only [Act.put, List.setIfInBounds_toArray, List.set_cons_zero, List.set_cons_succ, i64_w, i32_w]; rfl
               refine pure_ (i := 14) (N := some 24) (v := ?_) (a' := ?_) #[tT, tT, tT, tT, tT, tT, tT, tT, tT, tT, tT, tT, tT, tT, tT, fF, tT, tT, tT, tT, fF, tT, fF, fF, tT, tT, tT, fF, tT, tT, fF, fF, fF, fF] rfl rfl (any_of HT_.out (by kernel_rfl)) (fun _ _ _ h => h) (Or.inl ⟨by rfl, ?_⟩) ?_ ?_; rotate_left
               ·intro w'; go_simp; with_reducible rfl
               rotate_left
               ·simp only [Act.put, List.setIfInBounds_toArray, List.set_cons_zero, List.set_cons_succ, i64_w, i32_w]; rfl
               refine take_ (i := 15) (N := some 25) (v := ?_) (a' := ?_) #[tT, tT, tT, tT, tT, tT, tT, tT, tT, tT, tT, tT, tT, tT, tT, tT, tT, tT, tT, tT, fF, tT, fF, fF, tT, tT, tT, fF, tT, tT, fF, fF, fF, fF] rfl rfl (take_ofW HT_.out HW_.out (by kernel_rfl)) (fun _ _ _ h => h) (Or.inl ⟨by rfl, ?_⟩) hHeld ?_ ?_; rotate_left
               ·rintro w' ⟨s0, s1, s2, s3, s4, s5, s6, s7⟩; go_simp; with_reducible rfl
               rotate_left
               ·simp only [Act.put, List.setIfInBounds_toArray, List.set_cons_zero, List.set_cons_succ, i64_w, i32_w]; rfl
               refine take_ (i := 20) (N := some 30) (v := ?_) (a' := ?_) #[tT, tT, tT, tT, tT, tT, tT, tT, tT, tT, tT, tT, tT, tT, tT, tT, tT, tT, tT, tT, tT, tT, fF, fF, tT, tT, tT, fF, tT, tT, fF, fF, fF, fF] rfl rfl (take_ofW HT_.out HW_.out (by kernel_rfl)) (fun _ _ _ h => h) (Or.inl ⟨by rfl, ?_⟩) hHeld ?_ ?_; rotate_left
               ·rintro w' ⟨s0, s1, s2, s3, s4, s5, s6, s7⟩; go_simp; with_reducible rfl
               rotate_left
               ·simp only [Act.put, List.setIfInBounds_toArray, List.set_cons_zero, List.set_cons_succ, i64_w, i32_w]; rfl
               refine pure_ (i := 22) (N := some 32) (v := ?_) (a' := ?_) #[tT, tT, tT, tT, tT, tT, tT, tT, tT, tT, tT, tT, tT, tT, tT, tT, tT, tT, tT, tT, tT, tT, tT, fF, tT, tT, tT, fF, tT, tT, fF, fF, fF, fF] rfl rfl (any_of HT_.out (by kernel_rfl)) (fun _ _ _ h => h) (Or.inl ⟨by rfl, ?_⟩) ?_ ?_; rotate_left
               ·intro w'; go_simp; with_reducible rfl
               rotate_left
               ·simp only [Act.put, List.setIfInBounds_toArray, List.set_cons_zero, List.set_cons_succ, i64_w, i32_w]; rfl
               refine take_ (i := 23) (N := some 33) (v := ?_) (a' := ?_) #[tT, tT, tT, tT, tT, tT, tT, tT, tT, tT, tT, tT, tT, tT, tT, tT, tT, tT, tT, tT, tT, tT, tT, tT, tT, tT, tT, fF, tT, tT, fF, fF, fF, fF] rfl rfl (take_ofW HT_.out HW_.out (by kernel_rfl)) (fun _ _ _ h => h) (Or.inl ⟨by rfl, ?_⟩) hHeld ?_ ?_; rotate_left
               ·rintro w' ⟨s0, s1, s2, s3, s4, s5, s6, s7⟩; go_simp; with_reducible rfl
               rotate_left
               ·simp only [Act.put, List.setIfInBounds_toArray, List.set_cons_zero, List.set_cons_succ, i64_w, i32_w]; rfl
               refine take_ (i := 27) (N := some 37) (v := ?_) (a' := ?_) #[tT, tT, tT, tT, tT, tT, tT, tT, tT, tT, tT, tT, tT, tT, tT, tT, tT, tT, tT, tT, tT, tT, tT, tT, tT, tT, tT, tT, tT, tT, fF, fF, fF, fF] rfl rfl (take_ofW HT_.out HW_.out (by kernel_rfl)) (fun _ _ _ h => h) (Or.inl ⟨by rfl, ?_⟩) hHeld ?_ ?_; rotate_left
               ·rintro w' ⟨s0, s1, s2, s3, s4, s5, s6, s7⟩; go_simp; with_reducible rfl
               rotate_left
               ·simp only [Act.put, List.setIfInBounds_toArray, List.set_cons_zero, List.set_cons_succ, i64_w, i32_w]; rfl
               refine pure_ (i := 30) (N := some 40) (v := ?_) (a' := ?_) #[tT, tT, tT, tT, tT, tT, tT, tT, tT, tT, tT, tT, tT, tT, tT, tT, tT, tT, tT, tT, tT, tT, tT, tT, tT, tT, tT, tT, tT, tT, tT, fF, fF, fF] rfl rfl (any_of HT_.out (by kernel_rfl)) (fun _ _ _ h => h) (Or.inl ⟨by rfl, ?_⟩) ?_ ?_; rotate_left
               ·intro w'; go_simp; with_reducible rfl
               rotate_left
               ·simp only [Act.put, List.setIfInBounds_toArray, List.set_cons_zero, List.set_cons_succ, i64_w, i32_w]; rfl
               refine take_ (i := 31) (N := some 41) (v := ?_) (a' := ?_) #[tT, tT, tT, tT, tT, tT, tT, tT, tT, tT, tT, tT, tT, tT, tT, tT, tT, tT, tT, tT, tT, tT, tT, tT, tT, tT, tT, tT, tT, tT, tT, tT, fF, fF] rfl rfl (take_ofW HT_.out HW_.out (by kernel_rfl)) (fun _ _ _ h => h) (Or.inl ⟨by rfl, ?_⟩) hHeld ?_ ?_; rotate_left
               ·rintro w' ⟨s0, s1, s2, s3, s4, s5, s6, s7⟩; go_simp; with_reducible rfl
               rotate_left
               ·simp only [Act.put, List.setIfInBounds_toArray, List.set_cons_zero, List.set_cons_succ, i64_w, i32_w]; rfl
               refine one_ (i := 32) (N := some 42) #[tT, tT, tT, tT, tT, tT, tT, tT, tT, tT, tT, tT, tT, tT, tT, tT, tT, tT, tT, tT, tT, tT, tT, tT, tT, tT, tT, tT, tT, tT, tT, tT, tT, fF] rfl rfl (one_of HT_.out (by kernel_rfl)) (by decide) (fun K hK => ?_)
               refine Kd.R_lit_step (Kd.int .i64) _ 3 ?hg (N := 42) ?hd (xs := ([rd (rd_L1 l0 (ji4)) a2, rd (rd_L1 l0 a1) (ji11), rd (rd_L1 l0 (ji14)) a2, rd (rd_L1 l0 a1) (ji18)] : List Int)) (inner := [.int .i64 (rd (rd_L1 l0 (ji4)) a2), .int .i64 (rd (rd_L1 l0 a1) (ji11)), .int .i64 (rd (rd_L1 l0 (ji14)) a2), .int .i64 (rd (rd_L1 l0 a1) (ji18))]) (ok := fun _ => True) (okp := fun _ => True) ?hr ?hp (fun _ hk => hk) trivial (Below.refl _ _) (Nat.le_refl _) (by simp) ?_; (case hd => rfl); (case hg => rfl); (case hr => first | (go_simp; done) | (go_simp; rfl)); (case hp => exact (Reps.one (show Kd.M (Kd.int .i64) _ _ _ (rd (rd_L1 l0 (ji4)) a2) [.int .i64 (rd (rd_L1 l0 (ji4)) a2)] from rfl) (Reps.one (show Kd.M (Kd.int .i64) _ _ _ (rd (rd_L1 l0 a1) (ji11)) [.int .i64 (rd (rd_L1 l0 a1) (ji11))] from rfl) (Reps.one (show Kd.M (Kd.int .i64) _ _ _ (rd (rd_L1 l0 (ji14)) a2) [.int .i64 (rd (rd_L1 l0 (ji14)) a2)] from rfl) (Reps.one (show Kd.M (Kd.int .i64) _ _ _ (rd (rd_L1 l0 a1) (ji18)) [.int .i64 (rd (rd_L1 l0 a1) (ji18))] from rfl) (Reps.none _ _))))))
               intro v691 w30 ho31 hb hg_ hnew_; clear hg_ hnew_
               (first | rw [← Ny690.out] at ho31 | (simp only [Int.reduceToNat] at ho31; rw [← Ny690.out] at ho31))
               have n0_ := Aside0.mk (Kd.R_lower ho31 (below_size (by repeat (first | (with_reducible first | exact HB.out | apply below_alloc | apply pw_below_drewN | apply below_drew1) | exact HB.out)))); have n1_ := Aside0.mk (below_step (by repeat (first | (with_reducible first | exact HB.out | apply below_alloc | apply pw_below_drewN | apply below_drew1) | exact HB.out)) hb); clear HB; have HO692 := n0_; have HB := n1_; clear n0_ n1_; clear hb ho31; refine hK.out _ _ ⟨((HB.out.cell (World.block_lt_of_cell? w _ hw682_0)).trans hw682_0), ((HB.out.cell (World.block_lt_of_cell? w _ hw683_0)).trans hw683_0), ((HB.out.cell (World.block_lt_of_cell? w _ hw684_0)).trans hw684_0), ((HB.out.cell (World.block_lt_of_cell? w _ hw685_0)).trans hw685_0), ((HB.out.cell (World.block_lt_of_cell? w _ hw686_0)).trans hw686_0), ((HB.out.cell (World.block_lt_of_cell? w _ hw687_0)).trans hw687_0), ((HB.out.cell (World.block_lt_of_cell? w _ hw688_0)).trans hw688_0), ((HB.out.cell (World.block_lt_of_cell? w _ hw689_0)).trans hw689_0)⟩ (fun hHeld => ?_); clear hK K; refine norm_ (a' := ?_) ?_ ?_; rotate_left
               ·show Act.put _ (some 42) _ = _; simp only [Act.put, List.setIfInBounds_toArray, List.set_cons_zero, List.set_cons_succ, i64_w, i32_w]; rfl
               refine pure_ (i := 33) (N := some 7) (v := ?_) (a' := ?_) #[tT, tT, tT, tT, tT, tT, tT, tT, tT, tT, tT, tT, tT, tT, tT, tT, tT, tT, tT, tT, tT, tT, tT, tT, tT, tT, tT, tT, tT, tT, tT, tT, tT, tT] rfl rfl (any_of HT_.out (by kernel_rfl)) (fun _ _ _ h => h) (Or.inl ⟨by rfl, ?_⟩) ?_ ?_; rotate_left
               ·intro w'; go_simp; with_reducible rfl
               rotate_left
               ·simp only [Act.put, List.setIfInBounds_toArray, List.set_cons_zero, List.set_cons_succ, i64_w, i32_w]; rfl
               refine done_ (done_of HT_.out (by kernel_rfl)) ?_; obtain ⟨Ao32, co32, eo32⟩ := Kd.R_slice HO692.out; subst eo32
               try go_wp2_with (first | ((with_reducible refine gate_callee (f := 160) rfl ?_); refine goesL_ (some 44) rfl rfl Try.func160 (by kernel_rfl) rfl #[.slice Ao32 y690.length co32] rfl (by (try simp only [List.map_toArray, List.map_cons, List.map_nil]); first | done | rfl | (simp only [List.length_drop, List.length_take]; rfl)) ?_; (with_reducible refine (slices_Min_int_int.calls _ _ y690 t693 _ ?side1 ?side2 A21.out).mono ?_); (case side1 => repeat (first | exact (Kd.R_reads' HO692.out).2.2 | (with_reducible refine Kd.C_alloc ?_ _) | (with_reducible refine Kd.C_drewN ?_ _) | (with_reducible refine Kd.C_drew ?_))); (case side2 => exact (Kd.R_reads' HO692.out).2.1); rintro e w' ⟨rfl, ⟨nd, rfl⟩⟩; refine ⟨_, rfl, ?_⟩) | ((with_reducible refine gate_callee (f := 161) rfl ?_); refine goesL_ (some 46) rfl rfl Try.func161 (by kernel_rfl) rfl #[.slice Ao32 y690.length co32] rfl (by (try simp only [List.map_toArray, List.map_cons, List.map_nil]); first | done | rfl | (simp only [List.length_drop, List.length_take]; rfl)) ?_; (with_reducible refine (slices_Max_int_int.calls _ _ y690 t694 _ ?side1 ?side2 A22.out).mono ?_); (case side1 => repeat (first | exact (Kd.R_reads' HO692.out).2.2 | (with_reducible refine Kd.C_alloc ?_ _) | (with_reducible refine Kd.C_drewN ?_ _) | (with_reducible refine Kd.C_drew ?_))); (case side2 => exact (Kd.R_reads' HO692.out).2.1); rintro e w' ⟨rfl, ⟨nd, rfl⟩⟩; refine ⟨_, rfl, ?_⟩))
               go_ret; exact ⟨by first | rfl | (simp [errW_none, errW_some] <;> rfl) | (simp only [← hji4, ← hji11, ← hji14, ← hji18]; first | rfl | (simp [errW_none, errW_some] <;> rfl)) | (simp [*, errW_none, errW_some] <;> rfl), by repeat (first | (with_reducible first | exact HB.out | apply below_alloc | apply pw_below_drewN | apply below_drew1) | exact HB.out)⟩
             ·rw [if_neg c20] at H; exact absurd H (by simp)
            ·rw [if_neg c19] at H; exact absurd H (by simp)
           ·rw [if_neg c17] at H; exact absurd H (by simp)
          ·rw [if_neg c16] at H; exact absurd H (by simp)
         ·rw [if_neg c15] at H; exact absurd H (by simp)
        ·rw [if_neg c13] at H; exact absurd H (by simp)
       ·rw [if_neg c12] at H; exact absurd H (by simp)
      ·rw [if_neg c10] at H; exact absurd H (by simp)
     ·rw [if_neg c9] at H; exact absurd H (by simp)
    ·rw [if_neg c8] at H; exact absurd H (by simp)
   ·rw [if_neg c7] at H; exact absurd H (by simp)
  ·rw [if_neg c6] at H; exact absurd H (by simp)
 ·rw [if_neg c5] at H; exact absurd H (by simp)
/-! ### impl_flips: function 101 (given) -/
def flipP (h : List (List Int)) (up : Bool) (i j : Int) : Bool := let v := (impl_way.f h i j).getD 0; (!decide (v = 0)) && (decide (0 < v) == up)
def impl_flips.f (k : Nat) (l0 : List (List Int)) (a1 : Bool) : Option (List (List Int)) := (impl_heights.f k l0).bind fun h => if l0.length ≤ 1048576 ∧ (∀ i, i < l0.length → 1 ≤ i → ∀ j, j < l0.length → 1 ≤ j → (impl_way.f h (i : Int) (j : Int)).isSome = true) then impl_cells.f k (l0.length : Int) (flipP h a1) else none
set_option maxHeartbeats 8000000 in
set_option maxRecDepth 100000 in
theorem impl_flips.clo (l : List (List Int)) (A : Option Addr) (c : Nat) (g1 g2 : Addr) (up : Bool) (w : World) (hr : Kd.C (Kd.slice 3 (Kd.int .i64)) w A l.length l) (hc : l.length ≤ c) (h1 : w.cell? g1 = some (.slice A l.length c)) (h2 : w.cell? g2 = some (.bool up)) (i j v : Int) (hv : impl_way.f l i j = some v) :
  Calls Try.prog 142 #[.int .i64 i, .int .i64 j, .pointer (some g1), .pointer (some g2)] w fun e w' => e = .returned (.bool (flipP l up i j)) ∧ Below w.heap.size w w' := by
 have hP : flipP l up i j = ((!decide (v = 0)) && (decide (0 < v) == up)) := by
  unfold flipP; rw [hv]; rfl
 rw [hP]; have HR := Aside0.mk hr; have HC := Aside0.mk hc; have HV := Aside0.mk hv; clear hP hr hc hv
 by_cases c1 : v = 0
 ·subst c1
  have d0 : ((0 : Int) != 0) = false := by decide
  have d1 : ((0 : Int) == 0) = true := by decide
  go_enter Try.func142, Try.ntmps142; go_wp2; refine start_ (n := 15) (S := fun w' => Below w.heap.size w w' ∧ w'.cell? g1 = some (.slice A l.length c) ∧ w'.cell? g2 = some (.bool up)) (ds := []) #[fF, fF, fF, fF, fF, fF, fF, fF, fF, fF, fF, fF, fF, fF, fF] (by kernel_rfl) rfl rfl ⟨(by repeat (first | exact Below.refl _ _ | apply below_drew1)), h1, h2⟩ (fun hHeld => ?_); refine pure_ (i := 1) (N := some 8) (v := ?_) (a' := ?_) #[fF, tT, fF, fF, fF, fF, fF, fF, fF, fF, fF, fF, fF, fF, fF] rfl rfl (by kernel_rfl) (fun _ _ _ h => h) (Or.inl ⟨by rfl, ?_⟩) ?_ ?_; rotate_left
  ·intro w'; go_simp; with_reducible rfl
  rotate_left
  ·simp only [Act.put, List.setIfInBounds_toArray, List.set_cons_zero, List.set_cons_succ, i64_w, i32_w]; rfl
  refine pure_ (i := 2) (N := some 9) (v := ?_) (a' := ?_) #[fF, tT, tT, fF, fF, fF, fF, fF, fF, fF, fF, fF, fF, fF, fF] rfl rfl (by kernel_rfl) (fun _ _ _ h => h) (Or.inl ⟨by rfl, ?_⟩) ?_ ?_; rotate_left
  ·intro w'; go_simp; with_reducible rfl
  rotate_left
  ·simp only [Act.put, List.setIfInBounds_toArray, List.set_cons_zero, List.set_cons_succ, i64_w, i32_w]; rfl
  refine take_ (i := 0) (N := some 7) (v := ?_) (a' := ?_) #[tT, tT, tT, fF, fF, fF, fF, fF, fF, fF, fF, fF, fF, fF, fF] rfl rfl (by kernel_rfl) (fun _ _ _ h => h) (Or.inl ⟨by rfl, ?_⟩) hHeld ?_ ?_; rotate_left
  ·rintro w' ⟨s0, s1, s2⟩; go_simp; with_reducible rfl
  rotate_left
  ·simp only [Act.put, List.setIfInBounds_toArray, List.set_cons_zero, List.set_cons_succ, i64_w, i32_w]; rfl
  refine one_ (i := 3) (N := some 10) #[tT, tT, tT, tT, fF, fF, fF, fF, fF, fF, fF, fF, fF, fF, fF] rfl rfl (by kernel_rfl) (by decide) (fun K hK => ?_); refine goes_ Try.func143 (by kernel_rfl) rfl #[.slice A l.length c, .int .i64 i, .int .i64 j] (by rfl) rfl rfl (by simp only [List.map_toArray, List.map_cons, List.map_nil]; rfl) ?_
  with_reducible refine (impl_way.calls _ _ l i j 0 _ (Kd.C_below HR.out hHeld.1) HC.out HV.out).mono ?_
  rintro e w3 ⟨rfl, hb⟩; refine ⟨_, rfl, ?_⟩; have HB3 := Aside0.mk (below_step hHeld.1 hb); refine hK.out _ _ ⟨below_step hHeld.1 hb, pw_cell_below hb hHeld.2.1, pw_cell_below hb hHeld.2.2⟩ (fun hHeld => ?_); clear hK K; refine norm_ (a' := ?_) ?_ ?_; rotate_left
  ·show Act.put _ (some 10) _ = _; simp only [Act.put, List.setIfInBounds_toArray, List.set_cons_zero, List.set_cons_succ, i64_w, i32_w]; rfl
  refine pure_ (i := 4) (N := some 11) (v := ?_) (a' := ?_) #[tT, tT, tT, tT, tT, fF, fF, fF, fF, fF, fF, fF, fF, fF, fF] rfl rfl (by kernel_rfl) (fun _ _ _ h => h) (Or.inl ⟨by rfl, ?_⟩) ?_ ?_; rotate_left
  ·intro w'; go_simp; with_reducible rfl
  rotate_left
  ·simp only [Act.put, List.setIfInBounds_toArray, List.set_cons_zero, List.set_cons_succ, i64_w, i32_w]; rfl
  refine pure_ (i := 5) (N := some 12) (v := ?_) (a' := ?_) #[tT, tT, tT, tT, tT, tT, fF, fF, fF, fF, fF, fF, fF, fF, fF] rfl rfl (by kernel_rfl) (fun _ _ _ h => h) (Or.inl ⟨by rfl, ?_⟩) ?_ ?_; rotate_left
  ·intro w'; go_simp; with_reducible rfl
  rotate_left
  ·simp only [Act.put, List.setIfInBounds_toArray, List.set_cons_zero, List.set_cons_succ, i64_w, i32_w]; rfl
  refine pure_ (i := 6) (N := some 13) (v := undef) (a' := ?_) #[tT, tT, tT, tT, tT, tT, tT, fF, fF, fF, fF, fF, fF, fF, fF] rfl rfl (by kernel_rfl) (fun _ _ _ h => h) (Or.inr ⟨by rfl, rfl⟩) ?_ ?_; rotate_left
  ·simp only [Act.put, List.setIfInBounds_toArray, List.set_cons_zero, List.set_cons_succ, i64_w, i32_w]; rfl
  refine pure_ (i := 7) (N := some 14) (v := undef) (a' := ?_) #[tT, tT, tT, tT, tT, tT, tT, tT, fF, fF, fF, fF, fF, fF, fF] rfl rfl (by kernel_rfl) (fun _ _ _ h => h) (Or.inr ⟨by rfl, rfl⟩) ?_ ?_; rotate_left
  ·simp only [Act.put, List.setIfInBounds_toArray, List.set_cons_zero, List.set_cons_succ, i64_w, i32_w]; rfl
  refine pure_ (i := 8) (N := some 15) (v := undef) (a' := ?_) #[tT, tT, tT, tT, tT, tT, tT, tT, tT, fF, fF, fF, fF, fF, fF] rfl rfl (by kernel_rfl) (fun _ _ _ h => h) (Or.inr ⟨by rfl, rfl⟩) ?_ ?_; rotate_left
  ·simp only [Act.put, List.setIfInBounds_toArray, List.set_cons_zero, List.set_cons_succ, i64_w, i32_w]; rfl
  refine pure_ (i := 9) (N := some 16) (v := undef) (a' := ?_) #[tT, tT, tT, tT, tT, tT, tT, tT, tT, tT, fF, fF, fF, fF, fF] rfl rfl (by kernel_rfl) (fun _ _ _ h => h) (Or.inr ⟨by rfl, rfl⟩) ?_ ?_; rotate_left
  ·simp only [Act.put, List.setIfInBounds_toArray, List.set_cons_zero, List.set_cons_succ, i64_w, i32_w]; rfl
  refine pure_ (i := 10) (N := some 17) (v := undef) (a' := ?_) #[tT, tT, tT, tT, tT, tT, tT, tT, tT, tT, tT, fF, fF, fF, fF] rfl rfl (by kernel_rfl) (fun _ _ _ h => h) (Or.inr ⟨by rfl, rfl⟩) ?_ ?_; rotate_left
  ·simp only [Act.put, List.setIfInBounds_toArray, List.set_cons_zero, List.set_cons_succ, i64_w, i32_w]; rfl
  refine pure_ (i := 11) (N := some 18) (v := undef) (a' := ?_) #[tT, tT, tT, tT, tT, tT, tT, tT, tT, tT, tT, tT, fF, fF, fF] rfl rfl (by kernel_rfl) (fun _ _ _ h => h) (Or.inr ⟨by rfl, rfl⟩) ?_ ?_; rotate_left
  ·simp only [Act.put, List.setIfInBounds_toArray, List.set_cons_zero, List.set_cons_succ, i64_w, i32_w]; rfl
  refine pure_ (i := 12) (N := some 19) (v := undef) (a' := ?_) #[tT, tT, tT, tT, tT, tT, tT, tT, tT, tT, tT, tT, tT, fF, fF] rfl rfl (by kernel_rfl) (fun _ _ _ h => h) (Or.inr ⟨by rfl, rfl⟩) ?_ ?_; rotate_left
  ·simp only [Act.put, List.setIfInBounds_toArray, List.set_cons_zero, List.set_cons_succ, i64_w, i32_w]; rfl
  refine pure_ (i := 13) (N := some 20) (v := ?_) (a' := ?_) #[tT, tT, tT, tT, tT, tT, tT, tT, tT, tT, tT, tT, tT, tT, fF] rfl rfl (by kernel_rfl) (fun _ _ _ h => h) (Or.inl ⟨by rfl, ?_⟩) ?_ ?_; rotate_left
  ·intro w'; go_simp; with_reducible rfl
  rotate_left
  ·simp only [Act.put, List.setIfInBounds_toArray, List.set_cons_zero, List.set_cons_succ, i64_w, i32_w]; rfl
  refine pure_ (i := 14) (N := some 6) (v := ?_) (a' := ?_) #[tT, tT, tT, tT, tT, tT, tT, tT, tT, tT, tT, tT, tT, tT, tT] rfl rfl (by kernel_rfl) (fun _ _ _ h => h) (Or.inl ⟨by rfl, ?_⟩) ?_ ?_; rotate_left
  ·intro w'; go_simp; with_reducible rfl
  rotate_left
  ·simp only [Act.put, List.setIfInBounds_toArray, List.set_cons_zero, List.set_cons_succ, i64_w, i32_w]; rfl
  refine done_ (by kernel_rfl) ?_; go_wp2; go_ret; exact ⟨by first | rfl | (simp; done), HB3.out⟩
 ·have d0 : (v == 0) = false := by simpa using c1
  have d1 : (v != 0) = true := by simpa using c1
  have d4 : decide (v = 0) = false := decide_eq_false c1; rw [d4]; clear c1; go_enter Try.func142, Try.ntmps142; go_wp2; refine start_ (n := 15) (S := fun w' => Below w.heap.size w w' ∧ w'.cell? g1 = some (.slice A l.length c) ∧ w'.cell? g2 = some (.bool up)) (ds := []) #[fF, fF, fF, fF, fF, fF, fF, fF, fF, fF, fF, fF, fF, fF, fF] (by kernel_rfl) rfl rfl ⟨(by repeat (first | exact Below.refl _ _ | apply below_drew1)), h1, h2⟩ (fun hHeld => ?_); refine pure_ (i := 1) (N := some 8) (v := ?_) (a' := ?_) #[fF, tT, fF, fF, fF, fF, fF, fF, fF, fF, fF, fF, fF, fF, fF] rfl rfl (by kernel_rfl) (fun _ _ _ h => h) (Or.inl ⟨by rfl, ?_⟩) ?_ ?_; rotate_left
  ·intro w'; go_simp; with_reducible rfl
  rotate_left
  ·simp only [Act.put, List.setIfInBounds_toArray, List.set_cons_zero, List.set_cons_succ, i64_w, i32_w]; rfl
  refine pure_ (i := 2) (N := some 9) (v := ?_) (a' := ?_) #[fF, tT, tT, fF, fF, fF, fF, fF, fF, fF, fF, fF, fF, fF, fF] rfl rfl (by kernel_rfl) (fun _ _ _ h => h) (Or.inl ⟨by rfl, ?_⟩) ?_ ?_; rotate_left
  ·intro w'; go_simp; with_reducible rfl
  rotate_left
  ·simp only [Act.put, List.setIfInBounds_toArray, List.set_cons_zero, List.set_cons_succ, i64_w, i32_w]; rfl
  refine take_ (i := 0) (N := some 7) (v := ?_) (a' := ?_) #[tT, tT, tT, fF, fF, fF, fF, fF, fF, fF, fF, fF, fF, fF, fF] rfl rfl (by kernel_rfl) (fun _ _ _ h => h) (Or.inl ⟨by rfl, ?_⟩) hHeld ?_ ?_; rotate_left
  ·rintro w' ⟨s0, s1, s2⟩; go_simp; with_reducible rfl
  rotate_left
  ·simp only [Act.put, List.setIfInBounds_toArray, List.set_cons_zero, List.set_cons_succ, i64_w, i32_w]; rfl
  refine one_ (i := 3) (N := some 10) #[tT, tT, tT, tT, fF, fF, fF, fF, fF, fF, fF, fF, fF, fF, fF] rfl rfl (by kernel_rfl) (by decide) (fun K hK => ?_); refine goes_ Try.func143 (by kernel_rfl) rfl #[.slice A l.length c, .int .i64 i, .int .i64 j] (by rfl) rfl rfl (by simp only [List.map_toArray, List.map_cons, List.map_nil]; rfl) ?_
  with_reducible refine (impl_way.calls _ _ l i j v _ (Kd.C_below HR.out hHeld.1) HC.out HV.out).mono ?_
  rintro e w3 ⟨rfl, hb⟩; refine ⟨_, rfl, ?_⟩; have HB3 := Aside0.mk (below_step hHeld.1 hb); refine hK.out _ _ ⟨below_step hHeld.1 hb, pw_cell_below hb hHeld.2.1, pw_cell_below hb hHeld.2.2⟩ (fun hHeld => ?_); clear hK K; refine norm_ (a' := ?_) ?_ ?_; rotate_left
  ·show Act.put _ (some 10) _ = _; simp only [Act.put, List.setIfInBounds_toArray, List.set_cons_zero, List.set_cons_succ, i64_w, i32_w]; rfl
  refine pure_ (i := 4) (N := some 11) (v := ?_) (a' := ?_) #[tT, tT, tT, tT, tT, fF, fF, fF, fF, fF, fF, fF, fF, fF, fF] rfl rfl (by kernel_rfl) (fun _ _ _ h => h) (Or.inl ⟨by rfl, ?_⟩) ?_ ?_; rotate_left
  ·intro w'; go_simp; with_reducible rfl
  rotate_left
  ·simp only [Act.put, List.setIfInBounds_toArray, List.set_cons_zero, List.set_cons_succ, i64_w, i32_w]; rfl
  refine pure_ (i := 5) (N := some 12) (v := ?_) (a' := ?_) #[tT, tT, tT, tT, tT, tT, fF, fF, fF, fF, fF, fF, fF, fF, fF] rfl rfl (by kernel_rfl) (fun _ _ _ h => h) (Or.inl ⟨by rfl, ?_⟩) ?_ ?_; rotate_left
  ·intro w'; go_simp; with_reducible rfl
  rotate_left
  ·simp only [Act.put, List.setIfInBounds_toArray, List.set_cons_zero, List.set_cons_succ, i64_w, i32_w]; rfl
  refine pure_ (i := 7) (N := some 14) (v := ?_) (a' := ?_) #[tT, tT, tT, tT, tT, tT, fF, tT, fF, fF, fF, fF, fF, fF, fF] rfl rfl (by kernel_rfl) (fun _ _ _ h => h) (Or.inl ⟨by rfl, ?_⟩) ?_ ?_; rotate_left
  ·intro w'; go_simp; with_reducible rfl
  rotate_left
  ·simp only [Act.put, List.setIfInBounds_toArray, List.set_cons_zero, List.set_cons_succ, i64_w, i32_w]; rfl
  refine pure_ (i := 8) (N := some 15) (v := ?_) (a' := ?_) #[tT, tT, tT, tT, tT, tT, fF, tT, tT, fF, fF, fF, fF, fF, fF] rfl rfl (by kernel_rfl) (fun _ _ _ h => h) (Or.inl ⟨by rfl, ?_⟩) ?_ ?_; rotate_left
  ·intro w'; go_simp; with_reducible rfl
  rotate_left
  ·simp only [Act.put, List.setIfInBounds_toArray, List.set_cons_zero, List.set_cons_succ, i64_w, i32_w]; rfl
  refine take_ (i := 6) (N := some 13) (v := ?_) (a' := ?_) #[tT, tT, tT, tT, tT, tT, tT, tT, tT, fF, fF, fF, fF, fF, fF] rfl rfl (by kernel_rfl) (fun _ _ _ h => h) (Or.inl ⟨by rfl, ?_⟩) hHeld ?_ ?_; rotate_left
  ·rintro w' ⟨s0, s1, s2⟩; go_simp; with_reducible rfl
  rotate_left
  ·simp only [Act.put, List.setIfInBounds_toArray, List.set_cons_zero, List.set_cons_succ, i64_w, i32_w]; rfl
  refine take_ (i := 11) (N := some 18) (v := ?_) (a' := ?_) #[tT, tT, tT, tT, tT, tT, tT, tT, tT, fF, fF, tT, fF, fF, fF] rfl rfl (by kernel_rfl) (fun _ _ _ h => h) (Or.inl ⟨by rfl, ?_⟩) hHeld ?_ ?_; rotate_left
  ·rintro w' ⟨s0, s1, s2⟩; go_simp; with_reducible rfl
  rotate_left
  ·simp only [Act.put, List.setIfInBounds_toArray, List.set_cons_zero, List.set_cons_succ, i64_w, i32_w]; rfl
  refine one_ (i := 9) (N := some 16) #[tT, tT, tT, tT, tT, tT, tT, tT, tT, tT, fF, tT, fF, fF, fF] rfl rfl (by kernel_rfl) (by decide) (fun K hK => ?_); refine goes_ Try.func143 (by kernel_rfl) rfl #[.slice A l.length c, .int .i64 i, .int .i64 j] (by rfl) rfl rfl (by simp only [List.map_toArray, List.map_cons, List.map_nil]; rfl) ?_
  with_reducible refine (impl_way.calls _ _ l i j v _ (Kd.C_below HR.out hHeld.1) HC.out HV.out).mono ?_
  rintro e w9 ⟨rfl, hb⟩; refine ⟨_, rfl, ?_⟩; have HB9 := Aside0.mk (below_step hHeld.1 hb); refine hK.out _ _ ⟨below_step hHeld.1 hb, pw_cell_below hb hHeld.2.1, pw_cell_below hb hHeld.2.2⟩ (fun hHeld => ?_); clear hK K; refine norm_ (a' := ?_) ?_ ?_; rotate_left
  ·show Act.put _ (some 16) _ = _; simp only [Act.put, List.setIfInBounds_toArray, List.set_cons_zero, List.set_cons_succ, i64_w, i32_w]; rfl
  refine pure_ (i := 10) (N := some 17) (v := ?_) (a' := ?_) #[tT, tT, tT, tT, tT, tT, tT, tT, tT, tT, tT, tT, fF, fF, fF] rfl rfl (by kernel_rfl) (fun _ _ _ h => h) (Or.inl ⟨by rfl, ?_⟩) ?_ ?_; rotate_left
  ·intro w'; go_simp; with_reducible rfl
  rotate_left
  ·simp only [Act.put, List.setIfInBounds_toArray, List.set_cons_zero, List.set_cons_succ, i64_w, i32_w]; rfl
  refine pure_ (i := 12) (N := some 19) (v := ?_) (a' := ?_) #[tT, tT, tT, tT, tT, tT, tT, tT, tT, tT, tT, tT, tT, fF, fF] rfl rfl (by kernel_rfl) (fun _ _ _ h => h) (Or.inl ⟨by rfl, ?_⟩) ?_ ?_; rotate_left
  ·intro w'; go_simp; with_reducible rfl
  rotate_left
  ·simp only [Act.put, List.setIfInBounds_toArray, List.set_cons_zero, List.set_cons_succ, i64_w, i32_w]; rfl
  refine pure_ (i := 13) (N := some 20) (v := ?_) (a' := ?_) #[tT, tT, tT, tT, tT, tT, tT, tT, tT, tT, tT, tT, tT, tT, fF] rfl rfl (by kernel_rfl) (fun _ _ _ h => h) (Or.inl ⟨by rfl, ?_⟩) ?_ ?_; rotate_left
  ·intro w'; go_simp; with_reducible rfl
  rotate_left
  ·simp only [Act.put, List.setIfInBounds_toArray, List.set_cons_zero, List.set_cons_succ, i64_w, i32_w]; rfl
  refine pure_ (i := 14) (N := some 6) (v := ?_) (a' := ?_) #[tT, tT, tT, tT, tT, tT, tT, tT, tT, tT, tT, tT, tT, tT, tT] rfl rfl (by kernel_rfl) (fun _ _ _ h => h) (Or.inl ⟨by rfl, ?_⟩) ?_ ?_; rotate_left
  ·intro w'; go_simp; with_reducible rfl
  rotate_left
  ·simp only [Act.put, List.setIfInBounds_toArray, List.set_cons_zero, List.set_cons_succ, i64_w, i32_w]; rfl
  refine done_ (by kernel_rfl) ?_; go_wp2; go_ret; exact ⟨by first | rfl | (simp; done), HB9.out⟩
set_option maxHeartbeats 8000000 in
set_option maxRecDepth 100000 in
theorem impl_flips.calls (k : Nat) (A0 : Option Addr) (c0 : Nat) (l0 : List (List Int)) (a1 : Bool) (r : List (List Int)) (w : World) (hr0 : Kd.C (Kd.slice 3 (Kd.int .i64)) w A0 l0.length l0) (hc0 : l0.length ≤ c0) (h : impl_flips.f k l0 a1 = some r) :
  Calls Try.prog 101 #[.slice A0 l0.length c0, .bool a1] w fun e w' => ∃ v0_ : Value, e = .returned (v0_) ∧ Kd.S (Kd.slice 3 (Kd.int .i64)) 39 w' w.heap.size (fun _ => True) v0_ r ∧ Below w.heap.size w w' := by
 obtain ⟨hh, hh1, h⟩ := Option.bind_eq_some_iff.mp h
 by_cases hc : l0.length ≤ 1048576 ∧ (∀ i, i < l0.length → 1 ≤ i → ∀ j, j < l0.length → 1 ≤ j → (impl_way.f hh (i : Int) (j : Int)).isSome = true)
 ·rw [if_pos hc] at h
  have HR0 := Aside0.mk hr0; have HC0 := Aside0.mk hc0; have HH := Aside0.mk hh1; have HB0 := Aside0.mk (Below.refl w.heap.size w)
  have HT := Aside0.mk (fun (w6 : World) (Aa : Option Addr) (ca : Nat) (Ca : Kd.C (Kd.slice 3 (Kd.int .i64)) w6 Aa hh.length hh) (lc : hh.length ≤ ca) (W : World) (hb : Below w6.heap.size w6 W) (g1 g2 : Addr) (h1 : W.cell? g1 = some (.slice Aa hh.length ca)) (h2 : W.cell? g2 = some (.bool a1)) =>
   cells_any 142 #[.pointer (some g1), .pointer (some g2)] (enters_of Try.func142 (by kernel_rfl) rfl) k (l0.length : Int) (flipP hh a1) r W (by omega) (fun W' hb' i j a1' a2' a3' a4' => by
    obtain ⟨i, rfl⟩ := Int.eq_ofNat_of_zero_le (show 0 ≤ i by omega); obtain ⟨j, rfl⟩ := Int.eq_ofNat_of_zero_le (show 0 ≤ j by omega); obtain ⟨v, hv⟩ := Option.isSome_iff_exists.mp (hc.2 i (by omega) (by omega) j (by omega) (by omega))
    exact impl_flips.clo hh Aa ca g1 g2 a1 W' (Kd.C_below (Kd.C_below Ca hb) hb') lc (pw_cell_below hb' h1) (pw_cell_below hb' h2) i j v hv) h)
  clear h hc hr0 hc0 hh1
  have hmf : ∀ (fn : Fn) (first cap : Array Value) (w : World), (Instr.makeFunc fn first cap).run Try.prog w = .ok (.func fn first cap) w := fun _ _ _ _ => rfl
  go_enter Try.func101, Try.ntmps101
  go_wp2_with (first | (go_at_call 135; (with_reducible refine (impl_heights.calls k _ _ l0 hh _ (Kd.C_alloc HR0.out _) HC0.out HH.out).mono ?_); rintro e w6 ⟨v6, rfl, hS, hb⟩; obtain ⟨Aa, ca, rfl⟩ := Kd.S_slice hS; have hx6 := pw_cell_below hb (show World.cell? _ ⟨w.heap.size, 0, none⟩ = some (.bool a1) by go_simp); have hx7 : ∀ o, (w6.alloc o).cell? ⟨w.heap.size, 0, none⟩ = some (.bool a1) := fun o => pw_cell_below (by repeat (first | exact Below.refl _ _ | apply below_alloc)) hx6; have HSa := Aside0.mk (Kd.S_reads' hS); have HBa := Aside0.mk (below_step (by repeat (first | exact HB0.out | apply below_alloc | apply pw_below_drewN | apply below_drew1)) hb); clear hb hS) | (go_at_call 141; (with_reducible refine (HT.out w6 Aa ca HSa.out.2.2 HSa.out.2.1 _ ?hb _ ⟨w.heap.size, 0, none⟩ ?h1 ?h2).mono ?_); (case hb => (repeat (first | exact Below.refl _ _ | apply below_alloc | apply pw_below_drewN | apply below_drew1))); (case h1 => go_simp); (case h2 => exact hx7 _); rintro e w' ⟨v, rfl, hS, hb⟩; have HS := Aside0.mk (Kd.S_lower hS (below_size (by repeat (first | exact HBa.out | apply below_alloc | apply pw_below_drewN | apply below_drew1)))); have HB := Aside0.mk (below_step (by repeat (first | exact HBa.out | apply below_alloc | apply pw_below_drewN | apply below_drew1)) hb); clear hS hb))
  go_ret; exact ⟨_, rfl, HS.out, HB.out⟩
 ·rw [if_neg hc] at h
  cases h
end Go.Proofs.Ytadepmjfhcmkoaa.P
