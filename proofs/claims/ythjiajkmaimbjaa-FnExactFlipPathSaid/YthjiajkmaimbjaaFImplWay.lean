-- By gp.py (this session's own driver over the kit's print). Not trusted: Lean checks it.
import Derived.Test.YthjiajkmaimbjaaF0
import Derived.Test.YthjiajkmaimbjaaB
namespace Go.Proofs.Ythjiajkmaimbjaa.P
open Go.Proofs.Ythjiajkmaimbjaa.B
open Go.RowKit Go.Proofs.YthjiajkmaimbjaaW.PrintWords Go.Proofs.YthjiajkmaimbjaaW.PrintLast Go.Proofs.YthjiajkmaimbjaaW.PrintMore
attribute [local go_sem] max2_int min2_int max_two min_two max_three min_three max_four min_four   -- for this text's walks alone
set_option linter.unusedVariables false
set_option linter.unusedSimpArgs false
/-! ### slices_Min_int_int: function 127 (given) -/
def slices_Min_int_int.f (l0 : List Int) : Option Int := match l0 with | [] => none | x :: xs => some (xs.foldl mn x)
theorem slices_Min_int_int.fold (x : Int) (xs : List Int) (j : Nat) (hj : j < xs.length) : ((xs.take (j + 1)).foldl mn x) = mn ((xs.take j).foldl mn x) (rd (x :: xs) ((j + 1 : Nat) : Int)) := by
 rw [List.take_succ_eq_append_getElem hj, List.foldl_append]
 have : rd (x :: xs) ((j + 1 : Nat) : Int) = xs[j] := by rw [rd_get _ _ (by simp; omega)]; rfl
 rw [this]; rfl
set_option maxHeartbeats 8000000 in
set_option maxRecDepth 100000 in
theorem slices_Min_int_int.calls (A0 : Option Addr) (c0 : Nat) (l0 : List Int) (r : Int) (w : World) (hr0 : Kd.C (Kd.int .i64) w A0 l0.length l0) (hc0 : l0.length ≤ c0) (h : slices_Min_int_int.f l0 = some r) :
  Calls Try.prog 127 #[.slice A0 l0.length c0] w fun e w' => e = .returned (.int .i64 r) ∧ Drawn0 w w' := by
 cases l0 with
 | nil => cases h
 | cons x xs =>
  obtain rfl := Option.some.inj h; have HR0 := Aside0.mk hr0; have hm := hr0.2.1; obtain ⟨ad, e1, hx1⟩ := Kd.at_int hr0 0 (by omega) (by simp)
  cases e1
  have hx0 : rd (x :: xs) 0 = x := rfl; rw [hx0] at hx1
  obtain ⟨n, hn⟩ : ∃ n, n = (x :: xs).length := ⟨_, rfl⟩
  have hn1 : n = xs.length + 1 := by rw [hn]; rfl
  have HN := Aside0.mk hn; have HN1 := Aside0.mk hn1; rw [← hn] at HR0 hm ⊢
  have hnp : 0 < n := by omega
  have b0 : decide ((n : Int) < 1) = false := by simp; omega
  have b1 : decide (0 < n) = true := by simp; omega
  have hx2 : w.cell? ad = some (.int .i64 x) := by rw [Int.toNat_zero, Addr.add_zero'] at hx1; exact hx1
  clear hx1; clear hr0 h hc0 hn hn1 hx0; go_enter Try.func127, Try.ntmps127; go_wp2
  go_loopg [3, 4] (n + 1) (fun kq v3 v4 w' => ∃ (j : Nat) (y : Int), v4 = .int .i64 y ∧ v3 = .int .i64 ((xs.take j).foldl mn x) ∧ Aside0 (j + 1 ≤ n ∧ kq = n + 1 - j ∧ y = (j : Int) + 1) ∧ 0 ≤ y ∧ y ≤ 9223372036854775807 ∧ Drawn0 w w')
  case atStart => exact ⟨0, 1, rfl, rfl, ⟨⟨by omega, by omega, rfl⟩⟩, by omega, by omega, by repeat (first | exact Drawn0.refl _ | apply Drawn0.step)⟩
  case round =>
   obtain ⟨j, y, rfl, rfl, HA, hy0, hy1, ⟨m1, rfl⟩⟩ := hrel
   by_cases c4 : y < (n : Int)
   ·have c4b0 : decide (y < (n : Int)) = true := decide_eq_true c4
    have hjx : j < xs.length := by have := HA.out; have := HN1.out; omega
    obtain ⟨ad2, e2, hx3⟩ := Kd.at_int (by rw [HN.out] at HR0; exact HR0.out) y hy0 (by rw [← HN.out]; exact c4)
    cases e2
    have hf := slices_Min_int_int.fold x xs j hjx
    have hyj : ((j + 1 : Nat) : Int) = y := by have := HA.out; omega
    rw [hyj] at hf; clear hyj
    obtain ⟨v, hv⟩ : ∃ v, v = rd (x :: xs) y := ⟨_, rfl⟩
    rw [← hv] at hx3 hf; have HV := Aside0.mk hf; clear hf hv
    obtain ⟨u, hu⟩ : ∃ u, u = (xs.take j).foldl mn x := ⟨_, rfl⟩
    rw [← hu] at HV ⊢; clear hu
    by_cases c5 : v < u
    ·have c6 := decide_eq_true c5
     go_wp2
     go_roundg (gk - 1)
     case measure => have := HA.out; omega
     case rel => exact ⟨j + 1, y + 1, by first | rfl | go_num, by rw [HV.out]; unfold mn; first | rw [if_pos c5] | rw [if_neg (by omega)], ⟨⟨by have := HA.out; omega, by have := HA.out; omega, by have := HA.out; omega⟩⟩, by omega, by have := HA.out; omega, by repeat (first | exact Drawn0.refl _ | apply Drawn0.step)⟩
    ·have c6 := decide_eq_false c5
     go_wp2
     go_roundg (gk - 1)
     case measure => have := HA.out; omega
     case rel => exact ⟨j + 1, y + 1, by first | rfl | go_num, by rw [HV.out]; unfold mn; first | rw [if_pos c5] | rw [if_neg (by omega)], ⟨⟨by have := HA.out; omega, by have := HA.out; omega, by have := HA.out; omega⟩⟩, by omega, by have := HA.out; omega, by repeat (first | exact Drawn0.refl _ | apply Drawn0.step)⟩
   ·have c4b0 : decide (y < (n : Int)) = false := decide_eq_false c4; go_wp2; go_ret; exact ⟨by rw [List.take_of_length_le (by have := HN1.out; have := HA.out; omega)]; rfl, by repeat (first | exact Drawn0.refl _ | apply Drawn0.step)⟩
/-! ### slices_Max_int_int: function 128 (given) -/
def slices_Max_int_int.f (l0 : List Int) : Option Int := match l0 with | [] => none | x :: xs => some (xs.foldl mx x)
theorem slices_Max_int_int.fold (x : Int) (xs : List Int) (j : Nat) (hj : j < xs.length) : ((xs.take (j + 1)).foldl mx x) = mx ((xs.take j).foldl mx x) (rd (x :: xs) ((j + 1 : Nat) : Int)) := by
 rw [List.take_succ_eq_append_getElem hj, List.foldl_append]
 have : rd (x :: xs) ((j + 1 : Nat) : Int) = xs[j] := by rw [rd_get _ _ (by simp; omega)]; rfl
 rw [this]; rfl
set_option maxHeartbeats 8000000 in
set_option maxRecDepth 100000 in
theorem slices_Max_int_int.calls (A0 : Option Addr) (c0 : Nat) (l0 : List Int) (r : Int) (w : World) (hr0 : Kd.C (Kd.int .i64) w A0 l0.length l0) (hc0 : l0.length ≤ c0) (h : slices_Max_int_int.f l0 = some r) :
  Calls Try.prog 128 #[.slice A0 l0.length c0] w fun e w' => e = .returned (.int .i64 r) ∧ Drawn0 w w' := by
 cases l0 with
 | nil => cases h
 | cons x xs =>
  obtain rfl := Option.some.inj h; have HR0 := Aside0.mk hr0; have hm := hr0.2.1; obtain ⟨ad, e1, hx1⟩ := Kd.at_int hr0 0 (by omega) (by simp)
  cases e1
  have hx0 : rd (x :: xs) 0 = x := rfl; rw [hx0] at hx1
  obtain ⟨n, hn⟩ : ∃ n, n = (x :: xs).length := ⟨_, rfl⟩
  have hn1 : n = xs.length + 1 := by rw [hn]; rfl
  have HN := Aside0.mk hn; have HN1 := Aside0.mk hn1; rw [← hn] at HR0 hm ⊢
  have hnp : 0 < n := by omega
  have b0 : decide ((n : Int) < 1) = false := by simp; omega
  have b1 : decide (0 < n) = true := by simp; omega
  have hx2 : w.cell? ad = some (.int .i64 x) := by rw [Int.toNat_zero, Addr.add_zero'] at hx1; exact hx1
  clear hx1; clear hr0 h hc0 hn hn1 hx0; go_enter Try.func128, Try.ntmps128; go_wp2
  go_loopg [3, 4] (n + 1) (fun kq v3 v4 w' => ∃ (j : Nat) (y : Int), v4 = .int .i64 y ∧ v3 = .int .i64 ((xs.take j).foldl mx x) ∧ Aside0 (j + 1 ≤ n ∧ kq = n + 1 - j ∧ y = (j : Int) + 1) ∧ 0 ≤ y ∧ y ≤ 9223372036854775807 ∧ Drawn0 w w')
  case atStart => exact ⟨0, 1, rfl, rfl, ⟨⟨by omega, by omega, rfl⟩⟩, by omega, by omega, by repeat (first | exact Drawn0.refl _ | apply Drawn0.step)⟩
  case round =>
   obtain ⟨j, y, rfl, rfl, HA, hy0, hy1, ⟨m1, rfl⟩⟩ := hrel
   by_cases c4 : y < (n : Int)
   ·have c4b0 : decide (y < (n : Int)) = true := decide_eq_true c4
    have hjx : j < xs.length := by have := HA.out; have := HN1.out; omega
    obtain ⟨ad2, e2, hx3⟩ := Kd.at_int (by rw [HN.out] at HR0; exact HR0.out) y hy0 (by rw [← HN.out]; exact c4)
    cases e2
    have hf := slices_Max_int_int.fold x xs j hjx
    have hyj : ((j + 1 : Nat) : Int) = y := by have := HA.out; omega
    rw [hyj] at hf; clear hyj
    obtain ⟨v, hv⟩ : ∃ v, v = rd (x :: xs) y := ⟨_, rfl⟩
    rw [← hv] at hx3 hf; have HV := Aside0.mk hf; clear hf hv
    obtain ⟨u, hu⟩ : ∃ u, u = (xs.take j).foldl mx x := ⟨_, rfl⟩
    rw [← hu] at HV ⊢; clear hu
    by_cases c5 : u < v
    ·have c6 := decide_eq_true c5
     go_wp2
     go_roundg (gk - 1)
     case measure => have := HA.out; omega
     case rel => exact ⟨j + 1, y + 1, by first | rfl | go_num, by rw [HV.out]; unfold mx; first | rw [if_pos c5] | rw [if_neg (by omega)], ⟨⟨by have := HA.out; omega, by have := HA.out; omega, by have := HA.out; omega⟩⟩, by omega, by have := HA.out; omega, by repeat (first | exact Drawn0.refl _ | apply Drawn0.step)⟩
    ·have c6 := decide_eq_false c5
     go_wp2
     go_roundg (gk - 1)
     case measure => have := HA.out; omega
     case rel => exact ⟨j + 1, y + 1, by first | rfl | go_num, by rw [HV.out]; unfold mx; first | rw [if_pos c5] | rw [if_neg (by omega)], ⟨⟨by have := HA.out; omega, by have := HA.out; omega, by have := HA.out; omega⟩⟩, by omega, by have := HA.out; omega, by repeat (first | exact Drawn0.refl _ | apply Drawn0.step)⟩
   ·have c4b0 : decide (y < (n : Int)) = false := decide_eq_false c4; go_wp2; go_ret; exact ⟨by rw [List.take_of_length_le (by have := HN1.out; have := HA.out; omega)]; rfl, by repeat (first | exact Drawn0.refl _ | apply Drawn0.step)⟩
/-! ### impl_way: function 95 -/
def impl_way.f (l0 : List (List Int)) (a1 : Int) (a2 : Int) : Option (Int) := if 0 ≤ (wrap64 (a1 - 1)) then (if (wrap64 (a1 - 1)) < (l0.length : Int) then (if 0 ≤ a2 then (if a2 < ((rd_L1 l0 (wrap64 (a1 - 1))).length : Int) then (if 0 ≤ a1 then (if a1 < (l0.length : Int) then (if 0 ≤ (wrap64 (a2 + 1)) then (if (wrap64 (a2 + 1)) < ((rd_L1 l0 a1).length : Int) then (if 0 ≤ (wrap64 (a1 + 1)) then (if (wrap64 (a1 + 1)) < (l0.length : Int) then (if a2 < ((rd_L1 l0 (wrap64 (a1 + 1))).length : Int) then (if 0 ≤ (wrap64 (a2 - 1)) then (if (wrap64 (a2 - 1)) < ((rd_L1 l0 a1).length : Int) then ((some (([rd (rd_L1 l0 (wrap64 (a1 - 1))) a2, rd (rd_L1 l0 a1) (wrap64 (a2 + 1)), rd (rd_L1 l0 (wrap64 (a1 + 1))) a2, rd (rd_L1 l0 a1) (wrap64 (a2 - 1))] : List Int) : List Int)).bind fun y850 => ((slices_Min_int_int.f y850).bind fun t853 => ((slices_Max_int_int.f y850).bind fun t854 => (if t853 = t854 then (if a2 < ((rd_L1 l0 a1).length : Int) then (some (wrap64 (2 * (wrap64 (t853 - (rd (rd_L1 l0 a1) a2)))))) else (none)) else (some 0))))) else (none)) else (none)) else (none)) else (none)) else (none)) else (none)) else (none)) else (none)) else (none)) else (none)) else (none)) else (none)) else (none)
def impl_way.T1 : Bool × List (List Nat × List Nat) := (true, [([], []), ([], []), ([1], [1]), ([0, 2], [0, 2]), ([3], [3]), ([], []), ([4, 5], [4, 5]), ([6], [6]), ([], []), ([], []), ([8, 9], [8, 9]), ([10], [10]), ([], []), ([12], [12]), ([11, 13], [11, 13]), ([14], [14]), ([], []), ([], []), ([17], [17]), ([16, 18], [16, 18]), ([19], [19]), ([], []), ([20, 21], [20, 21]), ([22], [22]), ([], []), ([], []), ([24, 25], [24, 25]), ([26], [26]), ([], []), ([28], [28]), ([27, 29], [27, 29]), ([30], [30]), ([7, 15, 23, 31], [7, 15, 23, 31]), ([32, 0, 1, 2, 3, 4, 5, 6, 7, 8, 9, 10, 11, 12, 13, 14, 15, 16, 17, 18, 19, 20, 21, 22, 23, 24, 25, 26, 27, 28, 29, 30, 31, 32], [32])])
def impl_way.B1 : List Nat := [0, 0, 2, 7, 15, 0, 63, 127, 0, 0, 768, 1792, 0, 4096, 16128, 32512, 0, 0, 131072, 458752, 983040, 0, 4128768, 8323072, 0, 0, 50331648, 117440512, 0, 268435456, 1056964608, 2130706432, 4294967295, 8589934591]
theorem impl_way.tab1 : rtab .any (opsOf Try.f95 1) = impl_way.T1 := by kernel_rfl
theorem impl_way.bits1 : waitsOk impl_way.T1.2 impl_way.B1 = true := by kernel_rfl
set_option maxHeartbeats 8000000 in
set_option maxRecDepth 100000 in
theorem impl_way.calls (A0 : Option Addr) (c0 : Nat) (l0 : List (List Int)) (a1 : Int) (a2 : Int) (r : Int) (w : World) (hr0 : Kd.C (Kd.slice 3 (Kd.int .i64)) w A0 l0.length l0) (hc0 : l0.length ≤ c0) (h : impl_way.f l0 a1 a2 = some r) :
  Calls Try.prog 95 #[.slice A0 l0.length c0, .int .i64 a1, .int .i64 a2] w fun e w' => e = .returned (.int .i64 r) ∧ Below w.heap.size w w' := by
 have HR0 := Aside0.mk hr0; have HC0 := Aside0.mk hc0; clear hr0 hc0; have HB := Aside0.mk (Below.refl w.heap.size w); have H : (if 0 ≤ (wrap64 (a1 - 1)) then (if (wrap64 (a1 - 1)) < (l0.length : Int) then (if 0 ≤ a2 then (if a2 < ((rd_L1 l0 (wrap64 (a1 - 1))).length : Int) then (if 0 ≤ a1 then (if a1 < (l0.length : Int) then (if 0 ≤ (wrap64 (a2 + 1)) then (if (wrap64 (a2 + 1)) < ((rd_L1 l0 a1).length : Int) then (if 0 ≤ (wrap64 (a1 + 1)) then (if (wrap64 (a1 + 1)) < (l0.length : Int) then (if a2 < ((rd_L1 l0 (wrap64 (a1 + 1))).length : Int) then (if 0 ≤ (wrap64 (a2 - 1)) then (if (wrap64 (a2 - 1)) < ((rd_L1 l0 a1).length : Int) then ((some (([rd (rd_L1 l0 (wrap64 (a1 - 1))) a2, rd (rd_L1 l0 a1) (wrap64 (a2 + 1)), rd (rd_L1 l0 (wrap64 (a1 + 1))) a2, rd (rd_L1 l0 a1) (wrap64 (a2 - 1))] : List Int) : List Int)).bind fun y850 => ((slices_Min_int_int.f y850).bind fun t853 => ((slices_Max_int_int.f y850).bind fun t854 => (if t853 = t854 then (if a2 < ((rd_L1 l0 a1).length : Int) then (some (wrap64 (2 * (wrap64 (t853 - (rd (rd_L1 l0 a1) a2)))))) else (none)) else (some 0))))) else (none)) else (none)) else (none)) else (none)) else (none)) else (none)) else (none)) else (none)) else (none)) else (none)) else (none)) else (none)) else (none)) = some r := h; clear h
 obtain ⟨ji4, hji4⟩ : ∃ j_ : Int, (wrap64 (a1 - 1)) = j_ := ⟨_, rfl⟩
 replace H : (if 0 ≤ (ji4) then (if (ji4) < (l0.length : Int) then (if 0 ≤ a2 then (if a2 < ((rd_L1 l0 (ji4)).length : Int) then (if 0 ≤ a1 then (if a1 < (l0.length : Int) then (if 0 ≤ (wrap64 (a2 + 1)) then (if (wrap64 (a2 + 1)) < ((rd_L1 l0 a1).length : Int) then (if 0 ≤ (wrap64 (a1 + 1)) then (if (wrap64 (a1 + 1)) < (l0.length : Int) then (if a2 < ((rd_L1 l0 (wrap64 (a1 + 1))).length : Int) then (if 0 ≤ (wrap64 (a2 - 1)) then (if (wrap64 (a2 - 1)) < ((rd_L1 l0 a1).length : Int) then ((some (([rd (rd_L1 l0 (ji4)) a2, rd (rd_L1 l0 a1) (wrap64 (a2 + 1)), rd (rd_L1 l0 (wrap64 (a1 + 1))) a2, rd (rd_L1 l0 a1) (wrap64 (a2 - 1))] : List Int) : List Int)).bind fun y850 => ((slices_Min_int_int.f y850).bind fun t853 => ((slices_Max_int_int.f y850).bind fun t854 => (if t853 = t854 then (if a2 < ((rd_L1 l0 a1).length : Int) then (some (wrap64 (2 * (wrap64 (t853 - (rd (rd_L1 l0 a1) a2)))))) else (none)) else (some 0))))) else (none)) else (none)) else (none)) else (none)) else (none)) else (none)) else (none)) else (none)) else (none)) else (none)) else (none)) else (none)) else (none)) = some r := by first | (rw [hji4] at H; exact H) | (simp only [hji4] at H ⊢; exact H)
 have hji4w : (IntKind.i64.wrap (a1 - 1)) = ji4 := (i64_w _).trans hji4
 by_cases c5 : 0 ≤ (ji4)
 ·rw [if_pos c5] at H
  have c5b0 : decide (0 ≤ (ji4)) = true := decide_eq_true c5; clear c5
  by_cases c6 : (ji4) < (l0.length : Int)
  ·rw [if_pos c6] at H
   have c6b0 : decide ((ji4) < (l0.length : Int)) = true := decide_eq_true c6; clear c6
   by_cases c7 : 0 ≤ a2
   ·rw [if_pos c7] at H
    have c7b0 : decide (0 ≤ a2) = true := decide_eq_true c7; clear c7
    by_cases c8 : a2 < ((rd_L1 l0 (ji4)).length : Int)
    ·rw [if_pos c8] at H
     have c8b0 : decide (a2 < ((rd_L1 l0 (ji4)).length : Int)) = true := decide_eq_true c8; clear c8
     by_cases c9 : 0 ≤ a1
     ·rw [if_pos c9] at H
      have c9b0 : decide (0 ≤ a1) = true := decide_eq_true c9; clear c9
      by_cases c10 : a1 < (l0.length : Int)
      ·rw [if_pos c10] at H
       have c10b0 : decide (a1 < (l0.length : Int)) = true := decide_eq_true c10; clear c10
       obtain ⟨ji11, hji11⟩ : ∃ j_ : Int, (wrap64 (a2 + 1)) = j_ := ⟨_, rfl⟩
       replace H : (if 0 ≤ (ji11) then (if (ji11) < ((rd_L1 l0 a1).length : Int) then (if 0 ≤ (wrap64 (a1 + 1)) then (if (wrap64 (a1 + 1)) < (l0.length : Int) then (if a2 < ((rd_L1 l0 (wrap64 (a1 + 1))).length : Int) then (if 0 ≤ (wrap64 (a2 - 1)) then (if (wrap64 (a2 - 1)) < ((rd_L1 l0 a1).length : Int) then ((some (([rd (rd_L1 l0 (ji4)) a2, rd (rd_L1 l0 a1) (ji11), rd (rd_L1 l0 (wrap64 (a1 + 1))) a2, rd (rd_L1 l0 a1) (wrap64 (a2 - 1))] : List Int) : List Int)).bind fun y850 => ((slices_Min_int_int.f y850).bind fun t853 => ((slices_Max_int_int.f y850).bind fun t854 => (if t853 = t854 then (if a2 < ((rd_L1 l0 a1).length : Int) then (some (wrap64 (2 * (wrap64 (t853 - (rd (rd_L1 l0 a1) a2)))))) else (none)) else (some 0))))) else (none)) else (none)) else (none)) else (none)) else (none)) else (none)) else (none)) = some r := by first | (rw [hji11] at H; exact H) | (simp only [hji11] at H ⊢; exact H)
       have hji11w : (IntKind.i64.wrap (a2 + 1)) = ji11 := (i64_w _).trans hji11
       by_cases c12 : 0 ≤ (ji11)
       ·rw [if_pos c12] at H
        have c12b0 : decide (0 ≤ (ji11)) = true := decide_eq_true c12; clear c12
        by_cases c13 : (ji11) < ((rd_L1 l0 a1).length : Int)
        ·rw [if_pos c13] at H
         have c13b0 : decide ((ji11) < ((rd_L1 l0 a1).length : Int)) = true := decide_eq_true c13; clear c13
         obtain ⟨ji14, hji14⟩ : ∃ j_ : Int, (wrap64 (a1 + 1)) = j_ := ⟨_, rfl⟩
         replace H : (if 0 ≤ (ji14) then (if (ji14) < (l0.length : Int) then (if a2 < ((rd_L1 l0 (ji14)).length : Int) then (if 0 ≤ (wrap64 (a2 - 1)) then (if (wrap64 (a2 - 1)) < ((rd_L1 l0 a1).length : Int) then ((some (([rd (rd_L1 l0 (ji4)) a2, rd (rd_L1 l0 a1) (ji11), rd (rd_L1 l0 (ji14)) a2, rd (rd_L1 l0 a1) (wrap64 (a2 - 1))] : List Int) : List Int)).bind fun y850 => ((slices_Min_int_int.f y850).bind fun t853 => ((slices_Max_int_int.f y850).bind fun t854 => (if t853 = t854 then (if a2 < ((rd_L1 l0 a1).length : Int) then (some (wrap64 (2 * (wrap64 (t853 - (rd (rd_L1 l0 a1) a2)))))) else (none)) else (some 0))))) else (none)) else (none)) else (none)) else (none)) else (none)) = some r := by first | (rw [hji14] at H; exact H) | (simp only [hji14] at H ⊢; exact H)
         have hji14w : (IntKind.i64.wrap (a1 + 1)) = ji14 := (i64_w _).trans hji14
         by_cases c15 : 0 ≤ (ji14)
         ·rw [if_pos c15] at H
          have c15b0 : decide (0 ≤ (ji14)) = true := decide_eq_true c15; clear c15
          by_cases c16 : (ji14) < (l0.length : Int)
          ·rw [if_pos c16] at H
           have c16b0 : decide ((ji14) < (l0.length : Int)) = true := decide_eq_true c16; clear c16
           by_cases c17 : a2 < ((rd_L1 l0 (ji14)).length : Int)
           ·rw [if_pos c17] at H
            have c17b0 : decide (a2 < ((rd_L1 l0 (ji14)).length : Int)) = true := decide_eq_true c17; clear c17
            obtain ⟨ji18, hji18⟩ : ∃ j_ : Int, (wrap64 (a2 - 1)) = j_ := ⟨_, rfl⟩
            replace H : (if 0 ≤ (ji18) then (if (ji18) < ((rd_L1 l0 a1).length : Int) then ((some (([rd (rd_L1 l0 (ji4)) a2, rd (rd_L1 l0 a1) (ji11), rd (rd_L1 l0 (ji14)) a2, rd (rd_L1 l0 a1) (ji18)] : List Int) : List Int)).bind fun y850 => ((slices_Min_int_int.f y850).bind fun t853 => ((slices_Max_int_int.f y850).bind fun t854 => (if t853 = t854 then (if a2 < ((rd_L1 l0 a1).length : Int) then (some (wrap64 (2 * (wrap64 (t853 - (rd (rd_L1 l0 a1) a2)))))) else (none)) else (some 0))))) else (none)) else (none)) = some r := by first | (rw [hji18] at H; exact H) | (simp only [hji18] at H ⊢; exact H)
            have hji18w : (IntKind.i64.wrap (a2 - 1)) = ji18 := (i64_w _).trans hji18
            by_cases c19 : 0 ≤ (ji18)
            ·rw [if_pos c19] at H
             have c19b0 : decide (0 ≤ (ji18)) = true := decide_eq_true c19; clear c19
             by_cases c20 : (ji18) < ((rd_L1 l0 a1).length : Int)
             ·rw [if_pos c20] at H
              have c20b0 : decide ((ji18) < ((rd_L1 l0 a1).length : Int)) = true := decide_eq_true c20; clear c20
              obtain ⟨y850, hy850⟩ : ∃ y_ : List Int, y_ = (([rd (rd_L1 l0 (ji4)) a2, rd (rd_L1 l0 a1) (ji11), rd (rd_L1 l0 (ji14)) a2, rd (rd_L1 l0 a1) (ji18)] : List Int)) := ⟨_, rfl⟩
              replace H : ((slices_Min_int_int.f y850).bind fun t853 => ((slices_Max_int_int.f y850).bind fun t854 => (if t853 = t854 then (if a2 < ((rd_L1 l0 a1).length : Int) then (some (wrap64 (2 * (wrap64 (t853 - (rd (rd_L1 l0 a1) a2)))))) else (none)) else (some 0)))) = some r := by first | (rw [hy850]; with_reducible exact H) | (have H2_ := (Option.bind_some _ _).symm.trans H; rw [hy850]; with_reducible exact H2_) | (have H2_ := (Option.bind_some _ _).symm.trans H; with_reducible exact H2_) | with_reducible exact H | (rw [hy850]; exact H) | exact H
              have Ny850 := Aside0.mk hy850; clear hy850; replace H := Option.bind_eq_some_iff.mp H; obtain ⟨t853, A210, H⟩ := H; replace H : ((slices_Max_int_int.f y850).bind fun t854 => (if t853 = t854 then (if a2 < ((rd_L1 l0 a1).length : Int) then (some (wrap64 (2 * (wrap64 (t853 - (rd (rd_L1 l0 a1) a2)))))) else (none)) else (some 0))) = some r := H; have A21 := Aside0.mk A210; clear A210; replace H := Option.bind_eq_some_iff.mp H; obtain ⟨t854, A220, H⟩ := H; replace H : (if t853 = t854 then (if a2 < ((rd_L1 l0 a1).length : Int) then (some (wrap64 (2 * (wrap64 (t853 - (rd (rd_L1 l0 a1) a2)))))) else (none)) else (some 0)) = some r := H; have A22 := Aside0.mk A220; clear A220
              by_cases c23 : t853 = t854
              ·rw [if_pos c23] at H
               have c23b0 : (t853 == t854) = true := beq_iff_eq.mpr c23; have c23b1 : (t853 != t854) = false := bne_eq_false_iff_eq.mpr c23; clear c23
               by_cases c24 : a2 < ((rd_L1 l0 a1).length : Int)
               ·rw [if_pos c24] at H
                have c24b0 : decide (a2 < ((rd_L1 l0 a1).length : Int)) = true := decide_eq_true c24; clear c24; obtain rfl := Option.some.inj H; go_enter Try.func95, Try.ntmps95
                try go_wp2
                have n0_ := Aside0.mk (below_drew1 HB.out); clear HB; have HB := n0_; clear n0_; have p842 : 0 ≤ ((ji4) : Int) := of_decide_eq_true (by first | (with_reducible assumption) | assumption); have q842 : (ji4) < (l0.length : Int) := of_decide_eq_true (by first | (with_reducible assumption) | assumption); obtain ⟨ad842, A842_0, c842_0, e842, hx842_0, hl842_0, hi842_0⟩ := at_L1 HR0.out (ji4) p842 q842; have hw842_0 := hx842_0
                cases e842
                (try replace hx842_0 := (HB.out.cell (World.block_lt_of_cell? w _ hx842_0)).trans hx842_0)
                have HR842_0 := Aside0.mk hi842_0; have HC842_0 := Aside0.mk hl842_0; clear hi842_0 hl842_0; replace p842 := eq_true p842; replace q842 := eq_true q842; have p843 : 0 ≤ (a2 : Int) := of_decide_eq_true (by first | (with_reducible assumption) | assumption); have q843 : a2 < ((rd_L1 l0 (ji4)).length : Int) := of_decide_eq_true (by first | (with_reducible assumption) | assumption); obtain ⟨ad843, e843, hx843_0⟩ := Kd.at_int HR842_0.out a2 p843 q843; have hw843_0 := hx843_0
                cases e843
                (try replace hx843_0 := (HB.out.cell (World.block_lt_of_cell? w _ hx843_0)).trans hx843_0)
                replace p843 := eq_true p843; replace q843 := eq_true q843; have p844 : 0 ≤ (a1 : Int) := of_decide_eq_true (by first | (with_reducible assumption) | assumption); have q844 : a1 < (l0.length : Int) := of_decide_eq_true (by first | (with_reducible assumption) | assumption); obtain ⟨ad844, A844_0, c844_0, e844, hx844_0, hl844_0, hi844_0⟩ := at_L1 HR0.out a1 p844 q844; have hw844_0 := hx844_0
                obtain rfl : ad842 = ad844 := (by injection e844)
                (try replace hx844_0 := (HB.out.cell (World.block_lt_of_cell? w _ hx844_0)).trans hx844_0)
                have HR844_0 := Aside0.mk hi844_0; have HC844_0 := Aside0.mk hl844_0; clear hi844_0 hl844_0; replace p844 := eq_true p844; replace q844 := eq_true q844; have p845 : 0 ≤ ((ji11) : Int) := of_decide_eq_true (by first | (with_reducible assumption) | assumption); have q845 : (ji11) < ((rd_L1 l0 a1).length : Int) := of_decide_eq_true (by first | (with_reducible assumption) | assumption); obtain ⟨ad845, e845, hx845_0⟩ := Kd.at_int HR844_0.out (ji11) p845 q845; have hw845_0 := hx845_0
                cases e845
                (try replace hx845_0 := (HB.out.cell (World.block_lt_of_cell? w _ hx845_0)).trans hx845_0)
                replace p845 := eq_true p845; replace q845 := eq_true q845; have p846 : 0 ≤ ((ji14) : Int) := of_decide_eq_true (by first | (with_reducible assumption) | assumption); have q846 : (ji14) < (l0.length : Int) := of_decide_eq_true (by first | (with_reducible assumption) | assumption); obtain ⟨ad846, A846_0, c846_0, e846, hx846_0, hl846_0, hi846_0⟩ := at_L1 HR0.out (ji14) p846 q846; have hw846_0 := hx846_0
                obtain rfl : ad842 = ad846 := (by injection e846)
                (try replace hx846_0 := (HB.out.cell (World.block_lt_of_cell? w _ hx846_0)).trans hx846_0)
                have HR846_0 := Aside0.mk hi846_0; have HC846_0 := Aside0.mk hl846_0; clear hi846_0 hl846_0; replace p846 := eq_true p846; replace q846 := eq_true q846; have p847 : 0 ≤ (a2 : Int) := of_decide_eq_true (by first | (with_reducible assumption) | assumption); have q847 : a2 < ((rd_L1 l0 (ji14)).length : Int) := of_decide_eq_true (by first | (with_reducible assumption) | assumption); obtain ⟨ad847, e847, hx847_0⟩ := Kd.at_int HR846_0.out a2 p847 q847; have hw847_0 := hx847_0
                cases e847
                (try replace hx847_0 := (HB.out.cell (World.block_lt_of_cell? w _ hx847_0)).trans hx847_0)
                replace p847 := eq_true p847; replace q847 := eq_true q847; have p848 : 0 ≤ (a1 : Int) := of_decide_eq_true (by first | (with_reducible assumption) | assumption); have q848 : a1 < (l0.length : Int) := of_decide_eq_true (by first | (with_reducible assumption) | assumption); obtain ⟨ad848, A848_0, c848_0, e848, hx848_0, hl848_0, hi848_0⟩ := at_L1 HR0.out a1 p848 q848; have hw848_0 := hx848_0
                obtain rfl : ad842 = ad848 := (by injection e848)
                (try replace hx848_0 := (HB.out.cell (World.block_lt_of_cell? w _ hx848_0)).trans hx848_0)
                have HR848_0 := Aside0.mk hi848_0; have HC848_0 := Aside0.mk hl848_0; clear hi848_0 hl848_0; replace p848 := eq_true p848; replace q848 := eq_true q848; have ea_ := Option.some.inj (hx844_0.symm.trans hx848_0); injection ea_ with ea_ en_ ec_; subst ea_; subst ec_; clear en_; have p849 : 0 ≤ ((ji18) : Int) := of_decide_eq_true (by first | (with_reducible assumption) | assumption); have q849 : (ji18) < ((rd_L1 l0 a1).length : Int) := of_decide_eq_true (by first | (with_reducible assumption) | assumption); obtain ⟨ad849, e849, hx849_0⟩ := Kd.at_int HR848_0.out (ji18) p849 q849; have hw849_0 := hx849_0
                cases e849
                (try replace hx849_0 := (HB.out.cell (World.block_lt_of_cell? w _ hx849_0)).trans hx849_0)
                replace p849 := eq_true p849; replace q849 := eq_true q849
                refine start_ (n := 34) (S := fun w' => w'.cell? (ad842.add ((ji4)).toNat) = some (.slice (some ad843) (rd_L1 l0 (ji4)).length c842_0) ∧ w'.cell? (ad843.add (a2).toNat) = some (.int .i64 (rd (rd_L1 l0 (ji4)) a2)) ∧ w'.cell? (ad842.add (a1).toNat) = some (.slice (some ad845) (rd_L1 l0 a1).length c844_0) ∧ w'.cell? (ad845.add ((ji11)).toNat) = some (.int .i64 (rd (rd_L1 l0 a1) (ji11))) ∧ w'.cell? (ad842.add ((ji14)).toNat) = some (.slice (some ad847) (rd_L1 l0 (ji14)).length c846_0) ∧ w'.cell? (ad847.add (a2).toNat) = some (.int .i64 (rd (rd_L1 l0 (ji14)) a2)) ∧ w'.cell? (ad842.add (a1).toNat) = some (.slice (some ad845) (rd_L1 l0 a1).length c844_0) ∧ w'.cell? (ad845.add ((ji18)).toNat) = some (.int .i64 (rd (rd_L1 l0 a1) (ji18)))) (ds := []) #[fF, fF, fF, fF, fF, fF, fF, fF, fF, fF, fF, fF, fF, fF, fF, fF, fF, fF, fF, fF, fF, fF, fF, fF, fF, fF, fF, fF, fF, fF, fF, fF, fF, fF] (by kernel_rfl) rfl rfl ⟨((HB.out.cell (World.block_lt_of_cell? w _ hw842_0)).trans hw842_0), ((HB.out.cell (World.block_lt_of_cell? w _ hw843_0)).trans hw843_0), ((HB.out.cell (World.block_lt_of_cell? w _ hw844_0)).trans hw844_0), ((HB.out.cell (World.block_lt_of_cell? w _ hw845_0)).trans hw845_0), ((HB.out.cell (World.block_lt_of_cell? w _ hw846_0)).trans hw846_0), ((HB.out.cell (World.block_lt_of_cell? w _ hw847_0)).trans hw847_0), ((HB.out.cell (World.block_lt_of_cell? w _ hw848_0)).trans hw848_0), ((HB.out.cell (World.block_lt_of_cell? w _ hw849_0)).trans hw849_0)⟩ (fun hHeld => ?_); refine with_tabW impl_way.tab1 impl_way.bits1 (fun HT_ HW_ => ?_)
                generalize w.drew = w25 at HB HR842_0 HR844_0 HR846_0 HR848_0 hx842_0 hx843_0 hx844_0 hx845_0 hx846_0 hx847_0 hx848_0 hx849_0 hHeld ⊢; refine pure_ (i := 0) (N := some 10) (v := ?_) (a' := ?_) #[tT, fF, fF, fF, fF, fF, fF, fF, fF, fF, fF, fF, fF, fF, fF, fF, fF, fF, fF, fF, fF, fF, fF, fF, fF, fF, fF, fF, fF, fF, fF, fF, fF, fF] rfl rfl (any_of HT_.out (by kernel_rfl)) (fun _ _ _ h => h) (Or.inl ⟨by rfl, ?_⟩) ?_ ?_; rotate_left
                ·intro w'; go_simp; with_reducible rfl
                rotate_left
                ·simp only [Act.put, List.setIfInBounds_toArray, List.set_cons_zero, List.set_cons_succ, i64_w, i32_w]; rfl
                refine pure_ (i := 1) (N := some 11) (v := ?_) (a' := ?_) #[tT, tT, fF, fF, fF, fF, fF, fF, fF, fF, fF, fF, fF, fF, fF, fF, fF, fF, fF, fF, fF, fF, fF, fF, fF, fF, fF, fF, fF, fF, fF, fF, fF, fF] rfl rfl (any_of HT_.out (by kernel_rfl)) (fun _ _ _ h => h) (Or.inl ⟨by rfl, ?_⟩) ?_ ?_; rotate_left
                ·intro w'; go_simp; with_reducible rfl
                rotate_left
                ·simp only [Act.put, List.setIfInBounds_toArray, List.set_cons_zero, List.set_cons_succ, i64_w, i32_w]; rfl
                refine pure_ (i := 2) (N := some 12) (v := ?_) (a' := ?_) #[tT, tT, tT, fF, fF, fF, fF, fF, fF, fF, fF, fF, fF, fF, fF, fF, fF, fF, fF, fF, fF, fF, fF, fF, fF, fF, fF, fF, fF, fF, fF, fF, fF, fF] rfl rfl (any_of HT_.out (by kernel_rfl)) (fun _ _ _ h => h) (Or.inl ⟨by rfl, ?_⟩) ?_ ?_; rotate_left
                ·intro w'; go_simp; with_reducible rfl
                rotate_left
                ·simp only [Act.put, List.setIfInBounds_toArray, List.set_cons_zero, List.set_cons_succ, i64_w, i32_w]; rfl
                refine pure_ (i := 3) (N := some 13) (v := ?_) (a' := ?_) #[tT, tT, tT, tT, fF, fF, fF, fF, fF, fF, fF, fF, fF, fF, fF, fF, fF, fF, fF, fF, fF, fF, fF, fF, fF, fF, fF, fF, fF, fF, fF, fF, fF, fF] rfl rfl (any_of HT_.out (by kernel_rfl)) (fun _ _ _ h => h) (Or.inl ⟨by rfl, ?_⟩) ?_ ?_; rotate_left
                ·intro w'; go_simp; with_reducible rfl
                rotate_left
                ·simp only [Act.put, List.setIfInBounds_toArray, List.set_cons_zero, List.set_cons_succ, i64_w, i32_w]; rfl
                refine pure_ (i := 5) (N := some 15) (v := ?_) (a' := ?_) #[tT, tT, tT, tT, fF, tT, fF, fF, fF, fF, fF, fF, fF, fF, fF, fF, fF, fF, fF, fF, fF, fF, fF, fF, fF, fF, fF, fF, fF, fF, fF, fF, fF, fF] rfl rfl (any_of HT_.out (by kernel_rfl)) (fun _ _ _ h => h) (Or.inl ⟨by rfl, ?_⟩) ?_ ?_; rotate_left
                ·intro w'; go_simp; with_reducible rfl
                rotate_left
                ·simp only [Act.put, List.setIfInBounds_toArray, List.set_cons_zero, List.set_cons_succ, i64_w, i32_w]; rfl
                refine pure_ (i := 8) (N := some 18) (v := ?_) (a' := ?_) #[tT, tT, tT, tT, fF, tT, fF, fF, tT, fF, fF, fF, fF, fF, fF, fF, fF, fF, fF, fF, fF, fF, fF, fF, fF, fF, fF, fF, fF, fF, fF, fF, fF, fF] rfl rfl (any_of HT_.out (by kernel_rfl)) (fun _ _ _ h => h) (Or.inl ⟨by rfl, ?_⟩) ?_ ?_; rotate_left
                ·intro w'; go_simp; with_reducible rfl
                rotate_left
                ·simp only [Act.put, List.setIfInBounds_toArray, List.set_cons_zero, List.set_cons_succ, i64_w, i32_w]; rfl
                refine pure_ (i := 9) (N := some 19) (v := ?_) (a' := ?_) #[tT, tT, tT, tT, fF, tT, fF, fF, tT, tT, fF, fF, fF, fF, fF, fF, fF, fF, fF, fF, fF, fF, fF, fF, fF, fF, fF, fF, fF, fF, fF, fF, fF, fF] rfl rfl (any_of HT_.out (by kernel_rfl)) (fun _ _ _ h => h) (Or.inl ⟨by rfl, ?_⟩) ?_ ?_; rotate_left
                ·intro w'; go_simp; with_reducible rfl
                rotate_left
                ·simp only [Act.put, List.setIfInBounds_toArray, List.set_cons_zero, List.set_cons_succ, i64_w, i32_w]; rfl
                refine pure_ (i := 10) (N := some 20) (v := ?_) (a' := ?_) #[tT, tT, tT, tT, fF, tT, fF, fF, tT, tT, tT, fF, fF, fF, fF, fF, fF, fF, fF, fF, fF, fF, fF, fF, fF, fF, fF, fF, fF, fF, fF, fF, fF, fF] rfl rfl (any_of HT_.out (by kernel_rfl)) (fun _ _ _ h => h) (Or.inl ⟨by rfl, ?_⟩) ?_ ?_; rotate_left
                ·intro w'; go_simp; with_reducible rfl
                rotate_left
                ·simp only [Act.put, List.setIfInBounds_toArray, List.set_cons_zero, List.set_cons_succ, i64_w, i32_w]; rfl
                refine pure_ (i := 12) (N := some 22) (v := ?_) (a' := ?_) #[tT, tT, tT, tT, fF, tT, fF, fF, tT, tT, tT, fF, tT, fF, fF, fF, fF, fF, fF, fF, fF, fF, fF, fF, fF, fF, fF, fF, fF, fF, fF, fF, fF, fF] rfl rfl (any_of HT_.out (by kernel_rfl)) (fun _ _ _ h => h) (Or.inl ⟨by rfl, ?_⟩) ?_ ?_; rotate_left
                ·intro w'; go_simp; with_reducible rfl
                rotate_left
                ·simp only [Act.put, List.setIfInBounds_toArray, List.set_cons_zero, List.set_cons_succ, i64_w, i32_w]; rfl
                refine pure_ (i := 13) (N := some 23) (v := ?_) (a' := ?_) #[tT, tT, tT, tT, fF, tT, fF, fF, tT, tT, tT, fF, tT, tT, fF, fF, fF, fF, fF, fF, fF, fF, fF, fF, fF, fF, fF, fF, fF, fF, fF, fF, fF, fF] rfl rfl (any_of HT_.out (by kernel_rfl)) (fun _ _ _ h => h) (Or.inl ⟨by rfl, ?_⟩) ?_ ?_; rotate_left
                ·intro w'; go_simp; with_reducible rfl
                rotate_left
                ·simp only [Act.put, List.setIfInBounds_toArray, List.set_cons_zero, List.set_cons_succ, i64_w, i32_w]; rfl
                refine pure_ (i := 16) (N := some 26) (v := ?_) (a' := ?_) #[tT, tT, tT, tT, fF, tT, fF, fF, tT, tT, tT, fF, tT, tT, fF, fF, tT, fF, fF, fF, fF, fF, fF, fF, fF, fF, fF, fF, fF, fF, fF, fF, fF, fF] rfl rfl (any_of HT_.out (by kernel_rfl)) (fun _ _ _ h => h) (Or.inl ⟨by rfl, ?_⟩) ?_ ?_; rotate_left
                ·intro w'; go_simp; with_reducible rfl
                rotate_left
                ·simp only [Act.put, List.setIfInBounds_toArray, List.set_cons_zero, List.set_cons_succ, i64_w, i32_w]; rfl
                refine pure_ (i := 17) (N := some 27) (v := ?_) (a' := ?_) #[tT, tT, tT, tT, fF, tT, fF, fF, tT, tT, tT, fF, tT, tT, fF, fF, tT, tT, fF, fF, fF, fF, fF, fF, fF, fF, fF, fF, fF, fF, fF, fF, fF, fF] rfl rfl (any_of HT_.out (by kernel_rfl)) (fun _ _ _ h => h) (Or.inl ⟨by rfl, ?_⟩) ?_ ?_; rotate_left
                ·intro w'; go_simp; with_reducible rfl
                rotate_left
                ·simp only [Act.put, List.setIfInBounds_toArray, List.set_cons_zero, List.set_cons_succ, i64_w, i32_w]; rfl
                refine pure_ (i := 18) (N := some 28) (v := ?_) (a' := ?_) #[tT, tT, tT, tT, fF, tT, fF, fF, tT, tT, tT, fF, tT, tT, fF, fF, tT, tT, tT, fF, fF, fF, fF, fF, fF, fF, fF, fF, fF, fF, fF, fF, fF, fF] rfl rfl (any_of HT_.out (by kernel_rfl)) (fun _ _ _ h => h) (Or.inl ⟨by rfl, ?_⟩) ?_ ?_; rotate_left
                ·intro w'; go_simp; with_reducible rfl
                rotate_left
                ·simp only [Act.put, List.setIfInBounds_toArray, List.set_cons_zero, List.set_cons_succ, i64_w, i32_w]; rfl
                refine pure_ (i := 19) (N := some 29) (v := ?_) (a' := ?_) #[tT, tT, tT, tT, fF, tT, fF, fF, tT, tT, tT, fF, tT, tT, fF, fF, tT, tT, tT, tT, fF, fF, fF, fF, fF, fF, fF, fF, fF, fF, fF, fF, fF, fF] rfl rfl (any_of HT_.out (by kernel_rfl)) (fun _ _ _ h => h) (Or.inl ⟨by rfl, ?_⟩) ?_ ?_; rotate_left
                ·intro w'; go_simp; with_reducible rfl
                rotate_left
                ·simp only [Act.put, List.setIfInBounds_toArray, List.set_cons_zero, List.set_cons_succ, i64_w, i32_w]; rfl
                refine pure_ (i := 21) (N := some 31) (v := ?_) (a' := ?_) #[tT, tT, tT, tT, fF, tT, fF, fF, tT, tT, tT, fF, tT, tT, fF, fF, tT, tT, tT, tT, fF, tT, fF, fF, fF, fF, fF, fF, fF, fF, fF, fF, fF, fF] rfl rfl (any_of HT_.out (by kernel_rfl)) (fun _ _ _ h => h) (Or.inl ⟨by rfl, ?_⟩) ?_ ?_; rotate_left
                ·intro w'; go_simp; with_reducible rfl
                rotate_left
                ·simp only [Act.put, List.setIfInBounds_toArray, List.set_cons_zero, List.set_cons_succ, i64_w, i32_w]; rfl
                refine pure_ (i := 24) (N := some 34) (v := ?_) (a' := ?_) #[tT, tT, tT, tT, fF, tT, fF, fF, tT, tT, tT, fF, tT, tT, fF, fF, tT, tT, tT, tT, fF, tT, fF, fF, tT, fF, fF, fF, fF, fF, fF, fF, fF, fF] rfl rfl (any_of HT_.out (by kernel_rfl)) (fun _ _ _ h => h) (Or.inl ⟨by rfl, ?_⟩) ?_ ?_; rotate_left
                ·intro w'; go_simp; with_reducible rfl
                rotate_left
                ·simp only [Act.put, List.setIfInBounds_toArray, List.set_cons_zero, List.set_cons_succ, i64_w, i32_w]; rfl
                refine pure_ (i := 25) (N := some 35) (v := ?_) (a' := ?_) #[tT, tT, tT, tT, fF, tT, fF, fF, tT, tT, tT, fF, tT, tT, fF, fF, tT, tT, tT, tT, fF, tT, fF, fF, tT, tT, fF, fF, fF, fF, fF, fF, fF, fF] rfl rfl (any_of HT_.out (by kernel_rfl)) (fun _ _ _ h => h) (Or.inl ⟨by rfl, ?_⟩) ?_ ?_; rotate_left
                ·intro w'; go_simp; with_reducible rfl
                rotate_left
                ·simp only [Act.put, List.setIfInBounds_toArray, List.set_cons_zero, List.set_cons_succ, i64_w, i32_w]; rfl
                refine pure_ (i := 26) (N := some 36) (v := ?_) (a' := ?_) #[tT, tT, tT, tT, fF, tT, fF, fF, tT, tT, tT, fF, tT, tT, fF, fF, tT, tT, tT, tT, fF, tT, fF, fF, tT, tT, tT, fF, fF, fF, fF, fF, fF, fF] rfl rfl (any_of HT_.out (by kernel_rfl)) (fun _ _ _ h => h) (Or.inl ⟨by rfl, ?_⟩) ?_ ?_; rotate_left
                ·intro w'; go_simp; with_reducible rfl
                rotate_left
                ·simp only [Act.put, List.setIfInBounds_toArray, List.set_cons_zero, List.set_cons_succ, i64_w, i32_w]; rfl
                refine pure_ (i := 28) (N := some 38) (v := ?_) (a' := ?_) #[tT, tT, tT, tT, fF, tT, fF, fF, tT, tT, tT, fF, tT, tT, fF, fF, tT, tT, tT, tT, fF, tT, fF, fF, tT, tT, tT, fF, tT, fF, fF, fF, fF, fF] rfl rfl (any_of HT_.out (by kernel_rfl)) (fun _ _ _ h => h) (Or.inl ⟨by rfl, ?_⟩) ?_ ?_; rotate_left
                ·intro w'; go_simp; with_reducible rfl
                rotate_left
                ·simp only [Act.put, List.setIfInBounds_toArray, List.set_cons_zero, List.set_cons_succ, i64_w, i32_w]; rfl
                refine pure_ (i := 29) (N := some 39) (v := ?_) (a' := ?_) #[tT, tT, tT, tT, fF, tT, fF, fF, tT, tT, tT, fF, tT, tT, fF, fF, tT, tT, tT, tT, fF, tT, fF, fF, tT, tT, tT, fF, tT, tT, fF, fF, fF, fF] rfl rfl (any_of HT_.out (by kernel_rfl)) (fun _ _ _ h => h) (Or.inl ⟨by rfl, ?_⟩) ?_ ?_; rotate_left
                ·intro w'; go_simp; with_reducible rfl
                rotate_left
                ·simp only [Act.put, List.setIfInBounds_toArray, List.set_cons_zero, List.set_cons_succ, i64_w, i32_w]; rfl
                refine take_ (i := 4) (N := some 14) (v := ?_) (a' := ?_) #[tT, tT, tT, tT, tT, tT, fF, fF, tT, tT, tT, fF, tT, tT, fF, fF, tT, tT, tT, tT, fF, tT, fF, fF, tT, tT, tT, fF, tT, tT, fF, fF, fF, fF] rfl rfl (take_ofW HT_.out HW_.out (by kernel_rfl)) (fun _ _ _ h => h) (Or.inl ⟨by rfl, ?_⟩) hHeld ?_ ?_; rotate_left
                ·rintro w' ⟨s0, s1, s2, s3, s4, s5, s6, s7⟩; go_simp; with_reducible rfl
                rotate_left
                ·simp only [Act.put, List.setIfInBounds_toArray, List.set_cons_zero, List.set_cons_succ, i64_w, i32_w]; rfl
                refine pure_ (i := 6) (N := some 16) (v := ?_) (a' := ?_) #[tT, tT, tT, tT, tT, tT, tT, fF, tT, tT, tT, fF, tT, tT, fF, fF, tT, tT, tT, tT, fF, tT, fF, fF, tT, tT, tT, fF, tT, tT, fF, fF, fF, fF] rfl rfl (any_of HT_.out (by kernel_rfl)) (fun _ _ _ h => h) (Or.inl ⟨by rfl, ?_⟩) ?_ ?_; rotate_left
                ·intro w'; go_simp; with_reducible rfl
                rotate_left
                ·simp only [Act.put, List.setIfInBounds_toArray, List.set_cons_zero, List.set_cons_succ, i64_w, i32_w]; rfl
                refine take_ (i := 7) (N := some 17) (v := ?_) (a' := ?_) #[tT, tT, tT, tT, tT, tT, tT, tT, tT, tT, tT, fF, tT, tT, fF, fF, tT, tT, tT, tT, fF, tT, fF, fF, tT, tT, tT, fF, tT, tT, fF, fF, fF, fF] rfl rfl (take_ofW HT_.out HW_.out (by kernel_rfl)) (fun _ _ _ h => h) (Or.inl ⟨by rfl, ?_⟩) hHeld ?_ ?_; rotate_left
                ·rintro w' ⟨s0, s1, s2, s3, s4, s5, s6, s7⟩; go_simp; with_reducible rfl
                rotate_left
                ·simp only [Act.put, List.setIfInBounds_toArray, List.set_cons_zero, List.set_cons_succ, i64_w, i32_w]; rfl
                refine take_ (i := 11) (N := some 21) (v := ?_) (a' := ?_) #[tT, tT, tT, tT, tT, tT, tT, tT, tT, tT, tT, tT, tT, tT, fF, fF, tT, tT, tT, tT, fF, tT, fF, fF, tT, tT, tT, fF, tT, tT, fF, fF, fF, fF] rfl rfl (take_ofW HT_.out HW_.out (by kernel_rfl)) (fun _ _ _ h => h) (Or.inl ⟨by rfl, ?_⟩) hHeld ?_ ?_; rotate_left
                ·rintro w' ⟨s0, s1, s2, s3, s4, s5, s6, s7⟩; go_simp; with_reducible rfl
                rotate_left
                ·simp only [Act.put, List.setIfInBounds_toArray, List.set_cons_zero, List.set_cons_succ, i64_w, i32_w]; rfl
                refine pure_ (i := 14) (N := some 24) (v := ?_) (a' := ?_) #[tT, tT, tT, tT, tT, tT, tT, tT, tT, tT, tT, tT, tT, tT, tT, fF, tT, tT, tT, tT, fF, tT, fF, fF, tT, tT, tT, fF, tT, tT, fF, fF, fF, fF] rfl rfl (any_of HT_.out (by kernel_rfl)) (fun _ _ _ h => h) (Or.inl ⟨by rfl, ?_⟩) ?_ ?_; rotate_left
                ·intro w'; go_simp; with_reducible rfl
                rotate_left
                ·simp only [Act.put, List.setIfInBounds_toArray, List.set_cons_zero, List.set_cons_succ, i64_w, i32_w]; rfl
                refine take_ (i := 15) (N := some 25) (v := ?_) (a' := ?_) #[tT, tT, tT, tT, tT, tT, tT, tT, tT, tT, tT, tT, tT, tT, tT, tT, tT, tT, tT, tT, fF, tT, fF, fF, tT, tT, tT, fF, tT, tT, fF, fF, fF, fF] rfl rfl (take_ofW HT_.out HW_.out (by kernel_rfl)) (fun _ _ _ h => h) (Or.inl ⟨by rfl, ?_⟩) hHeld ?_ ?_; rotate_left
                ·rintro w' ⟨s0, s1, s2, s3, s4, s5, s6, s7⟩; go_simp; with_reducible rfl
                rotate_left
                ·simp only [Act.put, List.setIfInBounds_toArray, List.set_cons_zero, List.set_cons_succ, i64_w, i32_w]; rfl
                refine take_ (i := 20) (N := some 30) (v := ?_) (a' := ?_) #[tT, tT, tT, tT, tT, tT, tT, tT, tT, tT, tT, tT, tT, tT, tT, tT, tT, tT, tT, tT, tT, tT, fF, fF, tT, tT, tT, fF, tT, tT, fF, fF, fF, fF] rfl rfl (take_ofW HT_.out HW_.out (by kernel_rfl)) (fun _ _ _ h => h) (Or.inl ⟨by rfl, ?_⟩) hHeld ?_ ?_; rotate_left
                ·rintro w' ⟨s0, s1, s2, s3, s4, s5, s6, s7⟩; go_simp; with_reducible rfl
                rotate_left
                ·simp only [Act.put, List.setIfInBounds_toArray, List.set_cons_zero, List.set_cons_succ, i64_w, i32_w]; rfl
                refine pure_ (i := 22) (N := some 32) (v := ?_) (a' := ?_) #[tT, tT, tT, tT, tT, tT, tT, tT, tT, tT, tT, tT, tT, tT, tT, tT, tT, tT, tT, tT, tT, tT, tT, fF, tT, tT, tT, fF, tT, tT, fF, fF, fF, fF] rfl rfl (any_of HT_.out (by kernel_rfl)) (fun _ _ _ h => h) (Or.inl ⟨by rfl, ?_⟩) ?_ ?_; rotate_left
                ·intro w'; go_simp; with_reducible rfl
                rotate_left
                ·simp only [Act.put, List.setIfInBounds_toArray, List.set_cons_zero, List.set_cons_succ, i64_w, i32_w]; rfl
                refine take_ (i := 23) (N := some 33) (v := ?_) (a' := ?_) #[tT, tT, tT, tT, tT, tT, tT, tT, tT, tT, tT, tT, tT, tT, tT, tT, tT, tT, tT, tT, tT, tT, tT, tT, tT, tT, tT, fF, tT, tT, fF, fF, fF, fF] rfl rfl (take_ofW HT_.out HW_.out (by kernel_rfl)) (fun _ _ _ h => h) (Or.inl ⟨by rfl, ?_⟩) hHeld ?_ ?_; rotate_left
                ·rintro w' ⟨s0, s1, s2, s3, s4, s5, s6, s7⟩; go_simp; with_reducible rfl
                rotate_left
                ·simp only [Act.put, List.setIfInBounds_toArray, List.set_cons_zero, List.set_cons_succ, i64_w, i32_w]; rfl
                refine take_ (i := 27) (N := some 37) (v := ?_) (a' := ?_) #[tT, tT, tT, tT, tT, tT, tT, tT, tT, tT, tT, tT, tT, tT, tT, tT, tT, tT, tT, tT, tT, tT, tT, tT, tT, tT, tT, tT, tT, tT, fF, fF, fF, fF] rfl rfl (take_ofW HT_.out HW_.out (by kernel_rfl)) (fun _ _ _ h => h) (Or.inl ⟨by rfl, ?_⟩) hHeld ?_ ?_; rotate_left
                ·rintro w' ⟨s0, s1, s2, s3, s4, s5, s6, s7⟩; go_simp; with_reducible rfl
                rotate_left
                ·simp only [Act.put, List.setIfInBounds_toArray, List.set_cons_zero, List.set_cons_succ, i64_w, i32_w]; rfl
                refine pure_ (i := 30) (N := some 40) (v := ?_) (a' := ?_) #[tT, tT, tT, tT, tT, tT, tT, tT, tT, tT, tT, tT, tT, tT, tT, tT, tT, tT, tT, tT, tT, tT, tT, tT, tT, tT, tT, tT, tT, tT, tT, fF, fF, fF] rfl rfl (any_of HT_.out (by kernel_rfl)) (fun _ _ _ h => h) (Or.inl ⟨by rfl, ?_⟩) ?_ ?_; rotate_left
                ·intro w'; go_simp; with_reducible rfl
                rotate_left
                ·simp only [Act.put, List.setIfInBounds_toArray, List.set_cons_zero, List.set_cons_succ, i64_w, i32_w]; rfl
                refine take_ (i := 31) (N := some 41) (v := ?_) (a' := ?_) #[tT, tT, tT, tT, tT, tT, tT, tT, tT, tT, tT, tT, tT, tT, tT, tT, tT, tT, tT, tT, tT, tT, tT, tT, tT, tT, tT, tT, tT, tT, tT, tT, fF, fF] rfl rfl (take_ofW HT_.out HW_.out (by kernel_rfl)) (fun _ _ _ h => h) (Or.inl ⟨by rfl, ?_⟩) hHeld ?_ ?_; rotate_left
                ·rintro w' ⟨s0, s1, s2, s3, s4, s5, s6, s7⟩; go_simp; with_reducible rfl
                rotate_left
                ·simp only [Act.put, List.setIfInBounds_toArray, List.set_cons_zero, List.set_cons_succ, i64_w, i32_w]; rfl
                refine one_ (i := 32) (N := some 42) #[tT, tT, tT, tT, tT, tT, tT, tT, tT, tT, tT, tT, tT, tT, tT, tT, tT, tT, tT, tT, tT, tT, tT, tT, tT, tT, tT, tT, tT, tT, tT, tT, tT, fF] rfl rfl (one_of HT_.out (by kernel_rfl)) (by decide) (fun K hK => ?_)
                refine Kd.R_lit_step (Kd.int .i64) _ 3 ?hg (N := 42) ?hd (xs := ([rd (rd_L1 l0 (ji4)) a2, rd (rd_L1 l0 a1) (ji11), rd (rd_L1 l0 (ji14)) a2, rd (rd_L1 l0 a1) (ji18)] : List Int)) (inner := [.int .i64 (rd (rd_L1 l0 (ji4)) a2), .int .i64 (rd (rd_L1 l0 a1) (ji11)), .int .i64 (rd (rd_L1 l0 (ji14)) a2), .int .i64 (rd (rd_L1 l0 a1) (ji18))]) (ok := fun _ => True) (okp := fun _ => True) ?hr ?hp (fun _ hk => hk) trivial (Below.refl _ _) (Nat.le_refl _) (by simp) ?_; (case hd => rfl); (case hg => rfl); (case hr => first | (go_simp; done) | (go_simp; rfl)); (case hp => exact (Reps.one (show Kd.M (Kd.int .i64) _ _ _ (rd (rd_L1 l0 (ji4)) a2) [.int .i64 (rd (rd_L1 l0 (ji4)) a2)] from rfl) (Reps.one (show Kd.M (Kd.int .i64) _ _ _ (rd (rd_L1 l0 a1) (ji11)) [.int .i64 (rd (rd_L1 l0 a1) (ji11))] from rfl) (Reps.one (show Kd.M (Kd.int .i64) _ _ _ (rd (rd_L1 l0 (ji14)) a2) [.int .i64 (rd (rd_L1 l0 (ji14)) a2)] from rfl) (Reps.one (show Kd.M (Kd.int .i64) _ _ _ (rd (rd_L1 l0 a1) (ji18)) [.int .i64 (rd (rd_L1 l0 a1) (ji18))] from rfl) (Reps.none _ _))))))
                intro v851 w26 ho27 hb hg_ hnew_; clear hg_ hnew_
                (first | rw [← Ny850.out] at ho27 | (simp only [Int.reduceToNat] at ho27; rw [← Ny850.out] at ho27))
                have n0_ := Aside0.mk (Kd.R_lower ho27 (below_size (by repeat (first | (with_reducible first | exact HB.out | apply below_alloc | apply pw_below_drewN | apply below_drew1) | exact HB.out)))); have n1_ := Aside0.mk (below_step (by repeat (first | (with_reducible first | exact HB.out | apply below_alloc | apply pw_below_drewN | apply below_drew1) | exact HB.out)) hb); clear HB; have HO852 := n0_; have HB := n1_; clear n0_ n1_; clear hb ho27; refine hK.out _ _ ⟨((HB.out.cell (World.block_lt_of_cell? w _ hw842_0)).trans hw842_0), ((HB.out.cell (World.block_lt_of_cell? w _ hw843_0)).trans hw843_0), ((HB.out.cell (World.block_lt_of_cell? w _ hw844_0)).trans hw844_0), ((HB.out.cell (World.block_lt_of_cell? w _ hw845_0)).trans hw845_0), ((HB.out.cell (World.block_lt_of_cell? w _ hw846_0)).trans hw846_0), ((HB.out.cell (World.block_lt_of_cell? w _ hw847_0)).trans hw847_0), ((HB.out.cell (World.block_lt_of_cell? w _ hw848_0)).trans hw848_0), ((HB.out.cell (World.block_lt_of_cell? w _ hw849_0)).trans hw849_0)⟩ (fun hHeld => ?_); clear hK K; refine norm_ (a' := ?_) ?_ ?_; rotate_left
                ·show Act.put _ (some 42) _ = _; simp only [Act.put, List.setIfInBounds_toArray, List.set_cons_zero, List.set_cons_succ, i64_w, i32_w]; rfl
                refine pure_ (i := 33) (N := some 7) (v := ?_) (a' := ?_) #[tT, tT, tT, tT, tT, tT, tT, tT, tT, tT, tT, tT, tT, tT, tT, tT, tT, tT, tT, tT, tT, tT, tT, tT, tT, tT, tT, tT, tT, tT, tT, tT, tT, tT] rfl rfl (any_of HT_.out (by kernel_rfl)) (fun _ _ _ h => h) (Or.inl ⟨by rfl, ?_⟩) ?_ ?_; rotate_left
                ·intro w'; go_simp; with_reducible rfl
                rotate_left
                ·simp only [Act.put, List.setIfInBounds_toArray, List.set_cons_zero, List.set_cons_succ, i64_w, i32_w]; rfl
                refine done_ (done_of HT_.out (by kernel_rfl)) ?_; obtain ⟨Ao28, co28, eo28⟩ := Kd.R_slice HO852.out; subst eo28
                (try (obtain ⟨adL_, eL_, hxL_⟩ := Kd.at_int HR844_0.out a2 (by first | exact of_decide_eq_true (by first | (with_reducible assumption) | assumption) | exact of_eq_true (by assumption)) (by first | exact of_decide_eq_true (by first | (with_reducible assumption) | assumption) | exact of_eq_true (by assumption)); cases eL_; replace hxL_ := (HB.out.cell (World.block_lt_of_cell? w _ hxL_)).trans hxL_))
                try go_wp2_with (first | ((with_reducible refine gate_callee (f := 127) rfl ?_); refine goesL_ (some 44) rfl rfl Try.func127 (by kernel_rfl) rfl #[.slice Ao28 y850.length co28] rfl (by (try simp only [List.map_toArray, List.map_cons, List.map_nil]); first | done | rfl | (simp only [List.length_drop, List.length_take]; rfl)) ?_; (with_reducible refine (slices_Min_int_int.calls _ _ y850 t853 _ ?side1 ?side2 A21.out).mono ?_); (case side1 => repeat (first | exact (Kd.R_reads' HO852.out).2.2 | (with_reducible refine Kd.C_alloc ?_ _) | (with_reducible refine Kd.C_drewN ?_ _) | (with_reducible refine Kd.C_drew ?_))); (case side2 => exact (Kd.R_reads' HO852.out).2.1); rintro e w' ⟨rfl, ⟨nd, rfl⟩⟩; refine ⟨_, rfl, ?_⟩) | ((with_reducible refine gate_callee (f := 128) rfl ?_); refine goesL_ (some 46) rfl rfl Try.func128 (by kernel_rfl) rfl #[.slice Ao28 y850.length co28] rfl (by (try simp only [List.map_toArray, List.map_cons, List.map_nil]); first | done | rfl | (simp only [List.length_drop, List.length_take]; rfl)) ?_; (with_reducible refine (slices_Max_int_int.calls _ _ y850 t854 _ ?side1 ?side2 A22.out).mono ?_); (case side1 => repeat (first | exact (Kd.R_reads' HO852.out).2.2 | (with_reducible refine Kd.C_alloc ?_ _) | (with_reducible refine Kd.C_drewN ?_ _) | (with_reducible refine Kd.C_drew ?_))); (case side2 => exact (Kd.R_reads' HO852.out).2.1); rintro e w' ⟨rfl, ⟨nd, rfl⟩⟩; refine ⟨_, rfl, ?_⟩; have p855 : 0 ≤ (a1 : Int) := of_decide_eq_true (by first | (with_reducible assumption) | assumption); have q855 : a1 < (l0.length : Int) := of_decide_eq_true (by first | (with_reducible assumption) | assumption); obtain ⟨ad855, A855_0, c855_0, e855, hx855_0, hl855_0, hi855_0⟩ := at_L1 HR0.out a1 p855 q855; obtain rfl : ad842 = ad855 := (by injection e855); replace hx855_0 := (HB.out.cell (World.block_lt_of_cell? w _ hx855_0)).trans hx855_0; have HR855_0 := Aside0.mk hi855_0; have HC855_0 := Aside0.mk hl855_0; clear hi855_0 hl855_0; replace p855 := eq_true p855; replace q855 := eq_true q855; have p856 : 0 ≤ (a2 : Int) := of_decide_eq_true (by first | (with_reducible assumption) | assumption); have q856 : a2 < ((rd_L1 l0 a1).length : Int) := of_decide_eq_true (by first | (with_reducible assumption) | assumption); obtain ⟨ad856, e856, hx856_0⟩ := Kd.at_int HR855_0.out a2 p856 q856; cases e856; replace hx856_0 := (HB.out.cell (World.block_lt_of_cell? w _ hx856_0)).trans hx856_0; replace p856 := eq_true p856; replace q856 := eq_true q856))
                go_ret; exact ⟨by first | rfl | (simp [errW_none, errW_some] <;> rfl) | (simp only [← hji4, ← hji11, ← hji14, ← hji18]; first | rfl | (simp [errW_none, errW_some] <;> rfl)) | (simp [*, errW_none, errW_some] <;> rfl), by repeat (first | (with_reducible first | exact HB.out | apply below_alloc | apply pw_below_drewN | apply below_drew1) | exact HB.out)⟩
               ·rw [if_neg c24] at H; exact absurd H (by simp)
              ·rw [if_neg c23] at H
               have c23b0 : (t853 == t854) = false := beq_eq_false_iff_ne.mpr c23; have c23b1 : (t853 != t854) = true := bne_iff_ne.mpr c23; obtain rfl := Option.some.inj H; go_enter Try.func95, Try.ntmps95
               try go_wp2
               have n0_ := Aside0.mk (below_drew1 HB.out); clear HB; have HB := n0_; clear n0_; have p842 : 0 ≤ ((ji4) : Int) := of_decide_eq_true (by first | (with_reducible assumption) | assumption); have q842 : (ji4) < (l0.length : Int) := of_decide_eq_true (by first | (with_reducible assumption) | assumption); obtain ⟨ad842, A842_0, c842_0, e842, hx842_0, hl842_0, hi842_0⟩ := at_L1 HR0.out (ji4) p842 q842; have hw842_0 := hx842_0
               cases e842
               (try replace hx842_0 := (HB.out.cell (World.block_lt_of_cell? w _ hx842_0)).trans hx842_0)
               have HR842_0 := Aside0.mk hi842_0; have HC842_0 := Aside0.mk hl842_0; clear hi842_0 hl842_0; replace p842 := eq_true p842; replace q842 := eq_true q842; have p843 : 0 ≤ (a2 : Int) := of_decide_eq_true (by first | (with_reducible assumption) | assumption); have q843 : a2 < ((rd_L1 l0 (ji4)).length : Int) := of_decide_eq_true (by first | (with_reducible assumption) | assumption); obtain ⟨ad843, e843, hx843_0⟩ := Kd.at_int HR842_0.out a2 p843 q843; have hw843_0 := hx843_0
               cases e843
               (try replace hx843_0 := (HB.out.cell (World.block_lt_of_cell? w _ hx843_0)).trans hx843_0)
               replace p843 := eq_true p843; replace q843 := eq_true q843; have p844 : 0 ≤ (a1 : Int) := of_decide_eq_true (by first | (with_reducible assumption) | assumption); have q844 : a1 < (l0.length : Int) := of_decide_eq_true (by first | (with_reducible assumption) | assumption); obtain ⟨ad844, A844_0, c844_0, e844, hx844_0, hl844_0, hi844_0⟩ := at_L1 HR0.out a1 p844 q844; have hw844_0 := hx844_0
               obtain rfl : ad842 = ad844 := (by injection e844)
               (try replace hx844_0 := (HB.out.cell (World.block_lt_of_cell? w _ hx844_0)).trans hx844_0)
               have HR844_0 := Aside0.mk hi844_0; have HC844_0 := Aside0.mk hl844_0; clear hi844_0 hl844_0; replace p844 := eq_true p844; replace q844 := eq_true q844; have p845 : 0 ≤ ((ji11) : Int) := of_decide_eq_true (by first | (with_reducible assumption) | assumption); have q845 : (ji11) < ((rd_L1 l0 a1).length : Int) := of_decide_eq_true (by first | (with_reducible assumption) | assumption); obtain ⟨ad845, e845, hx845_0⟩ := Kd.at_int HR844_0.out (ji11) p845 q845; have hw845_0 := hx845_0
               cases e845
               (try replace hx845_0 := (HB.out.cell (World.block_lt_of_cell? w _ hx845_0)).trans hx845_0)
               replace p845 := eq_true p845; replace q845 := eq_true q845; have p846 : 0 ≤ ((ji14) : Int) := of_decide_eq_true (by first | (with_reducible assumption) | assumption); have q846 : (ji14) < (l0.length : Int) := of_decide_eq_true (by first | (with_reducible assumption) | assumption); obtain ⟨ad846, A846_0, c846_0, e846, hx846_0, hl846_0, hi846_0⟩ := at_L1 HR0.out (ji14) p846 q846; have hw846_0 := hx846_0
               obtain rfl : ad842 = ad846 := (by injection e846)
               (try replace hx846_0 := (HB.out.cell (World.block_lt_of_cell? w _ hx846_0)).trans hx846_0)
               have HR846_0 := Aside0.mk hi846_0; have HC846_0 := Aside0.mk hl846_0; clear hi846_0 hl846_0; replace p846 := eq_true p846; replace q846 := eq_true q846; have p847 : 0 ≤ (a2 : Int) := of_decide_eq_true (by first | (with_reducible assumption) | assumption); have q847 : a2 < ((rd_L1 l0 (ji14)).length : Int) := of_decide_eq_true (by first | (with_reducible assumption) | assumption); obtain ⟨ad847, e847, hx847_0⟩ := Kd.at_int HR846_0.out a2 p847 q847; have hw847_0 := hx847_0
               cases e847
               (try replace hx847_0 := (HB.out.cell (World.block_lt_of_cell? w _ hx847_0)).trans hx847_0)
               replace p847 := eq_true p847; replace q847 := eq_true q847; have p848 : 0 ≤ (a1 : Int) := of_decide_eq_true (by first | (with_reducible assumption) | assumption); have q848 : a1 < (l0.length : Int) := of_decide_eq_true (by first | (with_reducible assumption) | assumption); obtain ⟨ad848, A848_0, c848_0, e848, hx848_0, hl848_0, hi848_0⟩ := at_L1 HR0.out a1 p848 q848; have hw848_0 := hx848_0
               obtain rfl : ad842 = ad848 := (by injection e848)
               (try replace hx848_0 := (HB.out.cell (World.block_lt_of_cell? w _ hx848_0)).trans hx848_0)
               have HR848_0 := Aside0.mk hi848_0; have HC848_0 := Aside0.mk hl848_0; clear hi848_0 hl848_0; replace p848 := eq_true p848; replace q848 := eq_true q848; have ea_ := Option.some.inj (hx844_0.symm.trans hx848_0); injection ea_ with ea_ en_ ec_; subst ea_; subst ec_; clear en_; have p849 : 0 ≤ ((ji18) : Int) := of_decide_eq_true (by first | (with_reducible assumption) | assumption); have q849 : (ji18) < ((rd_L1 l0 a1).length : Int) := of_decide_eq_true (by first | (with_reducible assumption) | assumption); obtain ⟨ad849, e849, hx849_0⟩ := Kd.at_int HR848_0.out (ji18) p849 q849; have hw849_0 := hx849_0
               cases e849
               (try replace hx849_0 := (HB.out.cell (World.block_lt_of_cell? w _ hx849_0)).trans hx849_0)
               replace p849 := eq_true p849; replace q849 := eq_true q849
               refine start_ (n := 34) (S := fun w' => w'.cell? (ad842.add ((ji4)).toNat) = some (.slice (some ad843) (rd_L1 l0 (ji4)).length c842_0) ∧ w'.cell? (ad843.add (a2).toNat) = some (.int .i64 (rd (rd_L1 l0 (ji4)) a2)) ∧ w'.cell? (ad842.add (a1).toNat) = some (.slice (some ad845) (rd_L1 l0 a1).length c844_0) ∧ w'.cell? (ad845.add ((ji11)).toNat) = some (.int .i64 (rd (rd_L1 l0 a1) (ji11))) ∧ w'.cell? (ad842.add ((ji14)).toNat) = some (.slice (some ad847) (rd_L1 l0 (ji14)).length c846_0) ∧ w'.cell? (ad847.add (a2).toNat) = some (.int .i64 (rd (rd_L1 l0 (ji14)) a2)) ∧ w'.cell? (ad842.add (a1).toNat) = some (.slice (some ad845) (rd_L1 l0 a1).length c844_0) ∧ w'.cell? (ad845.add ((ji18)).toNat) = some (.int .i64 (rd (rd_L1 l0 a1) (ji18)))) (ds := []) #[fF, fF, fF, fF, fF, fF, fF, fF, fF, fF, fF, fF, fF, fF, fF, fF, fF, fF, fF, fF, fF, fF, fF, fF, fF, fF, fF, fF, fF, fF, fF, fF, fF, fF] (by kernel_rfl) rfl rfl ⟨((HB.out.cell (World.block_lt_of_cell? w _ hw842_0)).trans hw842_0), ((HB.out.cell (World.block_lt_of_cell? w _ hw843_0)).trans hw843_0), ((HB.out.cell (World.block_lt_of_cell? w _ hw844_0)).trans hw844_0), ((HB.out.cell (World.block_lt_of_cell? w _ hw845_0)).trans hw845_0), ((HB.out.cell (World.block_lt_of_cell? w _ hw846_0)).trans hw846_0), ((HB.out.cell (World.block_lt_of_cell? w _ hw847_0)).trans hw847_0), ((HB.out.cell (World.block_lt_of_cell? w _ hw848_0)).trans hw848_0), ((HB.out.cell (World.block_lt_of_cell? w _ hw849_0)).trans hw849_0)⟩ (fun hHeld => ?_); refine with_tabW impl_way.tab1 impl_way.bits1 (fun HT_ HW_ => ?_)
               generalize w.drew = w29 at HB HR842_0 HR844_0 HR846_0 HR848_0 hx842_0 hx843_0 hx844_0 hx845_0 hx846_0 hx847_0 hx848_0 hx849_0 hHeld ⊢; refine pure_ (i := 0) (N := some 10) (v := ?_) (a' := ?_) #[tT, fF, fF, fF, fF, fF, fF, fF, fF, fF, fF, fF, fF, fF, fF, fF, fF, fF, fF, fF, fF, fF, fF, fF, fF, fF, fF, fF, fF, fF, fF, fF, fF, fF] rfl rfl (any_of HT_.out (by kernel_rfl)) (fun _ _ _ h => h) (Or.inl ⟨by rfl, ?_⟩) ?_ ?_; rotate_left
               ·intro w'; go_simp; with_reducible rfl
               rotate_left
               ·simp only [Act.put, List.setIfInBounds_toArray, List.set_cons_zero, List.set_cons_succ, i64_w, i32_w]; rfl
               refine pure_ (i := 1) (N := some 11) (v := ?_) (a' := ?_) #[tT, tT, fF, fF, fF, fF, fF, fF, fF, fF, fF, fF, fF, fF, fF, fF, fF, fF, fF, fF, fF, fF, fF, fF, fF, fF, fF, fF, fF, fF, fF, fF, fF, fF] rfl rfl (any_of HT_.out (by kernel_rfl)) (fun _ _ _ h => h) (Or.inl ⟨by rfl, ?_⟩) ?_ ?_; rotate_left
               ·intro w'; go_simp; with_reducible rfl
               rotate_left
               ·simp only [Act.put, List.setIfInBounds_toArray, List.set_cons_zero, List.set_cons_succ, i64_w, i32_w]; rfl
               refine pure_ (i := 2) (N := some 12) (v := ?_) (a' := ?_) #[tT, tT, tT, fF, fF, fF, fF, fF, fF, fF, fF, fF, fF, fF, fF, fF, fF, fF, fF, fF, fF, fF, fF, fF, fF, fF, fF, fF, fF, fF, fF, fF, fF, fF] rfl rfl (any_of HT_.out (by kernel_rfl)) (fun _ _ _ h => h) (Or.inl ⟨by rfl, ?_⟩) ?_ ?_; rotate_left
               ·intro w'; go_simp; with_reducible rfl
               rotate_left
               ·simp only [Act.put, List.setIfInBounds_toArray, List.set_cons_zero, List.set_cons_succ, i64_w, i32_w]; rfl
               refine pure_ (i := 3) (N := some 13) (v := ?_) (a' := ?_) #[tT, tT, tT, tT, fF, fF, fF, fF, fF, fF, fF, fF, fF, fF, fF, fF, fF, fF, fF, fF, fF, fF, fF, fF, fF, fF, fF, fF, fF, fF, fF, fF, fF, fF] rfl rfl (any_of HT_.out (by kernel_rfl)) (fun _ _ _ h => h) (Or.inl ⟨by rfl, ?_⟩) ?_ ?_; rotate_left
               ·intro w'; go_simp; with_reducible rfl
               rotate_left
               ·simp only [Act.put, List.setIfInBounds_toArray, List.set_cons_zero, List.set_cons_succ, i64_w, i32_w]; rfl
               refine pure_ (i := 5) (N := some 15) (v := ?_) (a' := ?_) #[tT, tT, tT, tT, fF, tT, fF, fF, fF, fF, fF, fF, fF, fF, fF, fF, fF, fF, fF, fF, fF, fF, fF, fF, fF, fF, fF, fF, fF, fF, fF, fF, fF, fF] rfl rfl (any_of HT_.out (by kernel_rfl)) (fun _ _ _ h => h) (Or.inl ⟨by rfl, ?_⟩) ?_ ?_; rotate_left
               ·intro w'; go_simp; with_reducible rfl
               rotate_left
               ·simp only [Act.put, List.setIfInBounds_toArray, List.set_cons_zero, List.set_cons_succ, i64_w, i32_w]; rfl
               refine pure_ (i := 8) (N := some 18) (v := ?_) (a' := ?_) #[tT, tT, tT, tT, fF, tT, fF, fF, tT, fF, fF, fF, fF, fF, fF, fF, fF, fF, fF, fF, fF, fF, fF, fF, fF, fF, fF, fF, fF, fF, fF, fF, fF, fF] rfl rfl (any_of HT_.out (by kernel_rfl)) (fun _ _ _ h => h) (Or.inl ⟨by rfl, ?_⟩) ?_ ?_; rotate_left
               ·intro w'; go_simp; with_reducible rfl
               rotate_left
               ·simp only [Act.put, List.setIfInBounds_toArray, List.set_cons_zero, List.set_cons_succ, i64_w, i32_w]; rfl
               refine pure_ (i := 9) (N := some 19) (v := ?_) (a' := ?_) #[tT, tT, tT, tT, fF, tT, fF, fF, tT, tT, fF, fF, fF, fF, fF, fF, fF, fF, fF, fF, fF, fF, fF, fF, fF, fF, fF, fF, fF, fF, fF, fF, fF, fF] rfl rfl (any_of HT_.out (by kernel_rfl)) (fun _ _ _ h => h) (Or.inl ⟨by rfl, ?_⟩) ?_ ?_; rotate_left
               ·intro w'; go_simp; with_reducible rfl
               rotate_left
               ·simp only [Act.put, List.setIfInBounds_toArray, List.set_cons_zero, List.set_cons_succ, i64_w, i32_w]; rfl
               refine pure_ (i := 10) (N := some 20) (v := ?_) (a' := ?_) #[tT, tT, tT, tT, fF, tT, fF, fF, tT, tT, tT, fF, fF, fF, fF, fF, fF, fF, fF, fF, fF, fF, fF, fF, fF, fF, fF, fF, fF, fF, fF, fF, fF, fF] rfl rfl (any_of HT_.out (by kernel_rfl)) (fun _ _ _ h => h) (Or.inl ⟨by rfl, ?_⟩) ?_ ?_; rotate_left
               ·intro w'; go_simp; with_reducible rfl
               rotate_left
               ·simp only [Act.put, List.setIfInBounds_toArray, List.set_cons_zero, List.set_cons_succ, i64_w, i32_w]; rfl
               refine pure_ (i := 12) (N := some 22) (v := ?_) (a' := ?_) #[tT, tT, tT, tT, fF, tT, fF, fF, tT, tT, tT, fF, tT, fF, fF, fF, fF, fF, fF, fF, fF, fF, fF, fF, fF, fF, fF, fF, fF, fF, fF, fF, fF, fF] rfl rfl (any_of HT_.out (by kernel_rfl)) (fun _ _ _ h => h) (Or.inl ⟨by rfl, ?_⟩) ?_ ?_; rotate_left
               ·intro w'; go_simp; with_reducible rfl
               rotate_left
               ·simp only [Act.put, List.setIfInBounds_toArray, List.set_cons_zero, List.set_cons_succ, i64_w, i32_w]; rfl
               refine pure_ (i := 13) (N := some 23) (v := ?_) (a' := ?_) #[tT, tT, tT, tT, fF, tT, fF, fF, tT, tT, tT, fF, tT, tT, fF, fF, fF, fF, fF, fF, fF, fF, fF, fF, fF, fF, fF, fF, fF, fF, fF, fF, fF, fF] rfl rfl (any_of HT_.out (by kernel_rfl)) (fun _ _ _ h => h) (Or.inl ⟨by rfl, ?_⟩) ?_ ?_; rotate_left
               ·intro w'; go_simp; with_reducible rfl
               rotate_left
               ·simp only [Act.put, List.setIfInBounds_toArray, List.set_cons_zero, List.set_cons_succ, i64_w, i32_w]; rfl
               refine pure_ (i := 16) (N := some 26) (v := ?_) (a' := ?_) #[tT, tT, tT, tT, fF, tT, fF, fF, tT, tT, tT, fF, tT, tT, fF, fF, tT, fF, fF, fF, fF, fF, fF, fF, fF, fF, fF, fF, fF, fF, fF, fF, fF, fF] rfl rfl (any_of HT_.out (by kernel_rfl)) (fun _ _ _ h => h) (Or.inl ⟨by rfl, ?_⟩) ?_ ?_; rotate_left
               ·intro w'; go_simp; with_reducible rfl
               rotate_left
               ·simp only [Act.put, List.setIfInBounds_toArray, List.set_cons_zero, List.set_cons_succ, i64_w, i32_w]; rfl
               refine pure_ (i := 17) (N := some 27) (v := ?_) (a' := ?_) #[tT, tT, tT, tT, fF, tT, fF, fF, tT, tT, tT, fF, tT, tT, fF, fF, tT, tT, fF, fF, fF, fF, fF, fF, fF, fF, fF, fF, fF, fF, fF, fF, fF, fF] rfl rfl (any_of HT_.out (by kernel_rfl)) (fun _ _ _ h => h) (Or.inl ⟨by rfl, ?_⟩) ?_ ?_; rotate_left
               ·intro w'; go_simp; with_reducible rfl
               rotate_left
               ·simp only [Act.put, List.setIfInBounds_toArray, List.set_cons_zero, List.set_cons_succ, i64_w, i32_w]; rfl
               refine pure_ (i := 18) (N := some 28) (v := ?_) (a' := ?_) #[tT, tT, tT, tT, fF, tT, fF, fF, tT, tT, tT, fF, tT, tT, fF, fF, tT, tT, tT, fF, fF, fF, fF, fF, fF, fF, fF, fF, fF, fF, fF, fF, fF, fF] rfl rfl (any_of HT_.out (by kernel_rfl)) (fun _ _ _ h => h) (Or.inl ⟨by rfl, ?_⟩) ?_ ?_; rotate_left
               ·intro w'; go_simp; with_reducible rfl
               rotate_left
               ·simp only [Act.put, List.setIfInBounds_toArray, List.set_cons_zero, List.set_cons_succ, i64_w, i32_w]; rfl
               refine pure_ (i := 19) (N := some 29) (v := ?_) (a' := ?_) #[tT, tT, tT, tT, fF, tT, fF, fF, tT, tT, tT, fF, tT, tT, fF, fF, tT, tT, tT, tT, fF, fF, fF, fF, fF, fF, fF, fF, fF, fF, fF, fF, fF, fF] rfl rfl (any_of HT_.out (by kernel_rfl)) (fun _ _ _ h => h) (Or.inl ⟨by rfl, ?_⟩) ?_ ?_; rotate_left
               ·intro w'; go_simp; with_reducible rfl
               rotate_left
               ·simp only [Act.put, List.setIfInBounds_toArray, List.set_cons_zero, List.set_cons_succ, i64_w, i32_w]; rfl
               refine pure_ (i := 21) (N := some 31) (v := ?_) (a' := ?_) #[tT, tT, tT, tT, fF, tT, fF, fF, tT, tT, tT, fF, tT, tT, fF, fF, tT, tT, tT, tT, fF, tT, fF, fF, fF, fF, fF, fF, fF, fF, fF, fF, fF, fF] rfl rfl (any_of HT_.out (by kernel_rfl)) (fun _ _ _ h => h) (Or.inl ⟨by rfl, ?_⟩) ?_ ?_; rotate_left
               ·intro w'; go_simp; with_reducible rfl
               rotate_left
               ·simp only [Act.put, List.setIfInBounds_toArray, List.set_cons_zero, List.set_cons_succ, i64_w, i32_w]; rfl
               refine pure_ (i := 24) (N := some 34) (v := ?_) (a' := ?_) #[tT, tT, tT, tT, fF, tT, fF, fF, tT, tT, tT, fF, tT, tT, fF, fF, tT, tT, tT, tT, fF, tT, fF, fF, tT, fF, fF, fF, fF, fF, fF, fF, fF, fF] rfl rfl (any_of HT_.out (by kernel_rfl)) (fun _ _ _ h => h) (Or.inl ⟨by rfl, ?_⟩) ?_ ?_; rotate_left
               ·intro w'; go_simp; with_reducible rfl
               rotate_left
               ·simp only [Act.put, List.setIfInBounds_toArray, List.set_cons_zero, List.set_cons_succ, i64_w, i32_w]; rfl
               refine pure_ (i := 25) (N := some 35) (v := ?_) (a' := ?_) #[tT, tT, tT, tT, fF, tT, fF, fF, tT, tT, tT, fF, tT, tT, fF, fF, tT, tT, tT, tT, fF, tT, fF, fF, tT, tT, fF, fF, fF, fF, fF, fF, fF, fF] rfl rfl (any_of HT_.out (by kernel_rfl)) (fun _ _ _ h => h) (Or.inl ⟨by rfl, ?_⟩) ?_ ?_; rotate_left
               ·intro w'; go_simp; with_reducible rfl
               rotate_left
               ·simp only [Act.put, List.setIfInBounds_toArray, List.set_cons_zero, List.set_cons_succ, i64_w, i32_w]; rfl
               refine pure_ (i := 26) (N := some 36) (v := ?_) (a' := ?_) #[tT, tT, tT, tT, fF, tT, fF, fF, tT, tT, tT, fF, tT, tT, fF, fF, tT, tT, tT, tT, fF, tT, fF, fF, tT, tT, tT, fF, fF, fF, fF, fF, fF, fF] rfl rfl (any_of HT_.out (by kernel_rfl)) (fun _ _ _ h => h) (Or.inl ⟨by rfl, ?_⟩) ?_ ?_; rotate_left
               ·intro w'; go_simp; with_reducible rfl
               rotate_left
               ·simp only [Act.put, List.setIfInBounds_toArray, List.set_cons_zero, List.set_cons_succ, i64_w, i32_w]; rfl
               refine pure_ (i := 28) (N := some 38) (v := ?_) (a' := ?_) #[tT, tT, tT, tT, fF, tT, fF, fF, tT, tT, tT, fF, tT, tT, fF, fF, tT, tT, tT, tT, fF, tT, fF, fF, tT, tT, tT, fF, tT, fF, fF, fF, fF, fF] rfl rfl (any_of HT_.out (by kernel_rfl)) (fun _ _ _ h => h) (Or.inl ⟨by rfl, ?_⟩) ?_ ?_; rotate_left
               ·intro w'; go_simp; with_reducible rfl
               rotate_left
               ·simp only [Act.put, List.setIfInBounds_toArray, List.set_cons_zero, List.set_cons_succ, i64_w, i32_w]; rfl
               refine pure_ (i := 29) (N := some 39) (v := ?_) (a' := ?_) #[tT, tT, tT, tT, fF, tT, fF, fF, tT, tT, tT, fF, tT, tT, fF, fF, tT, tT, tT, tT, fF, tT, fF, fF, tT, tT, tT, fF, tT, tT, fF, fF, fF, fF] rfl rfl (any_of HT_.out (by kernel_rfl)) (fun _ _ _ h => h) (Or.inl ⟨by rfl, ?_⟩) ?_ ?_; rotate_left
               ·intro w'; go_simp; with_reducible rfl
               rotate_left
               ·simp only [Act.put, List.setIfInBounds_toArray, List.set_cons_zero, List.set_cons_succ, i64_w, i32_w]; rfl
               refine take_ (i := 4) (N := some 14) (v := ?_) (a' := ?_) #[tT, tT, tT, tT, tT, tT, fF, fF, tT, tT, tT, fF, tT, tT, fF, fF, tT, tT, tT, tT, fF, tT, fF, fF, tT, tT, tT, fF, tT, tT, fF, fF, fF, fF] rfl rfl (take_ofW HT_.out HW_.out (by kernel_rfl)) (fun _ _ _ h => h) (Or.inl ⟨by rfl, ?_⟩) hHeld ?_ ?_; rotate_left
               ·rintro w' ⟨s0, s1, s2, s3, s4, s5, s6, s7⟩; go_simp; with_reducible rfl
               rotate_left
               ·simp only [Act.put, List.setIfInBounds_toArray, List.set_cons_zero, List.set_cons_succ, i64_w, i32_w]; rfl
               refine pure_ (i := 6) (N := some 16) (v := ?_) (a' := ?_) #[tT, tT, tT, tT, tT, tT, tT, fF, tT, tT, tT, fF, tT, tT, fF, fF, tT, tT, tT, tT, fF, tT, fF, fF, tT, tT, tT, fF, tT, tT, fF, fF, fF, fF] rfl rfl (any_of HT_.out (by kernel_rfl)) (fun _ _ _ h => h) (Or.inl ⟨by rfl, ?_⟩) ?_ ?_; rotate_left
               ·intro w'; go_simp; with_reducible rfl
               rotate_left
               ·simp only [Act.put, List.setIfInBounds_toArray, List.set_cons_zero, List.set_cons_succ, i64_w, i32_w]; rfl
               refine take_ (i := 7) (N := some 17) (v := ?_) (a' := ?_) #[tT, tT, tT, tT, tT, tT, tT, tT, tT, tT, tT, fF, tT, tT, fF, fF, tT, tT, tT, tT, fF, tT, fF, fF, tT, tT, tT, fF, tT, tT, fF, fF, fF, fF] rfl rfl (take_ofW HT_.out HW_.out (by kernel_rfl)) (fun _ _ _ h => h) (Or.inl ⟨by rfl, ?_⟩) hHeld ?_ ?_; rotate_left
               ·rintro w' ⟨s0, s1, s2, s3, s4, s5, s6, s7⟩; go_simp; with_reducible rfl
               rotate_left
               ·simp only [Act.put, List.setIfInBounds_toArray, List.set_cons_zero, List.set_cons_succ, i64_w, i32_w]; rfl
               refine take_ (i := 11) (N := some 21) (v := ?_) (a' := ?_) #[tT, tT, tT, tT, tT, tT, tT, tT, tT, tT, tT, tT, tT, tT, fF, fF, tT, tT, tT, tT, fF, tT, fF, fF, tT, tT, tT, fF, tT, tT, fF, fF, fF, fF] rfl rfl (take_ofW HT_.out HW_.out (by kernel_rfl)) (fun _ _ _ h => h) (Or.inl ⟨by rfl, ?_⟩) hHeld ?_ ?_; rotate_left
               ·rintro w' ⟨s0, s1, s2, s3, s4, s5, s6, s7⟩; go_simp; with_reducible rfl
               rotate_left
               ·simp only [Act.put, List.setIfInBounds_toArray, List.set_cons_zero, List.set_cons_succ, i64_w, i32_w]; rfl
               refine pure_ (i := 14) (N := some 24) (v := ?_) (a' := ?_) #[tT, tT, tT, tT, tT, tT, tT, tT, tT, tT, tT, tT, tT, tT, tT, fF, tT, tT, tT, tT, fF, tT, fF, fF, tT, tT, tT, fF, tT, tT, fF, fF, fF, fF] rfl rfl (any_of HT_.out (by kernel_rfl)) (fun _ _ _ h => h) (Or.inl ⟨by rfl, ?_⟩) ?_ ?_; rotate_left
               ·intro w'; go_simp; with_reducible rfl
               rotate_left
               ·simp only [Act.put, List.setIfInBounds_toArray, List.set_cons_zero, List.set_cons_succ, i64_w, i32_w]; rfl
               refine take_ (i := 15) (N := some 25) (v := ?_) (a' := ?_) #[tT, tT, tT, tT, tT, tT, tT, tT, tT, tT, tT, tT, tT, tT, tT, tT, tT, tT, tT, tT, fF, tT, fF, fF, tT, tT, tT, fF, tT, tT, fF, fF, fF, fF] rfl rfl (take_ofW HT_.out HW_.out (by kernel_rfl)) (fun _ _ _ h => h) (Or.inl ⟨by rfl, ?_⟩) hHeld ?_ ?_; rotate_left
               ·rintro w' ⟨s0, s1, s2, s3, s4, s5, s6, s7⟩; go_simp; with_reducible rfl
               rotate_left
               ·simp only [Act.put, List.setIfInBounds_toArray, List.set_cons_zero, List.set_cons_succ, i64_w, i32_w]; rfl
               refine take_ (i := 20) (N := some 30) (v := ?_) (a' := ?_) #[tT, tT, tT, tT, tT, tT, tT, tT, tT, tT, tT, tT, tT, tT, tT, tT, tT, tT, tT, tT, tT, tT, fF, fF, tT, tT, tT, fF, tT, tT, fF, fF, fF, fF] rfl rfl (take_ofW HT_.out HW_.out (by kernel_rfl)) (fun _ _ _ h => h) (Or.inl ⟨by rfl, ?_⟩) hHeld ?_ ?_; rotate_left
               ·rintro w' ⟨s0, s1, s2, s3, s4, s5, s6, s7⟩; go_simp; with_reducible rfl
               rotate_left
               ·simp only [Act.put, List.setIfInBounds_toArray, List.set_cons_zero, List.set_cons_succ, i64_w, i32_w]; rfl
               refine pure_ (i := 22) (N := some 32) (v := ?_) (a' := ?_) #[tT, tT, tT, tT, tT, tT, tT, tT, tT, tT, tT, tT, tT, tT, tT, tT, tT, tT, tT, tT, tT, tT, tT, fF, tT, tT, tT, fF, tT, tT, fF, fF, fF, fF] rfl rfl (any_of HT_.out (by kernel_rfl)) (fun _ _ _ h => h) (Or.inl ⟨by rfl, ?_⟩) ?_ ?_; rotate_left
               ·intro w'; go_simp; with_reducible rfl
               rotate_left
               ·simp only [Act.put, List.setIfInBounds_toArray, List.set_cons_zero, List.set_cons_succ, i64_w, i32_w]; rfl
               refine take_ (i := 23) (N := some 33) (v := ?_) (a' := ?_) #[tT, tT, tT, tT, tT, tT, tT, tT, tT, tT, tT, tT, tT, tT, tT, tT, tT, tT, tT, tT, tT, tT, tT, tT, tT, tT, tT, fF, tT, tT, fF, fF, fF, fF] rfl rfl (take_ofW HT_.out HW_.out (by kernel_rfl)) (fun _ _ _ h => h) (Or.inl ⟨by rfl, ?_⟩) hHeld ?_ ?_; rotate_left
               ·rintro w' ⟨s0, s1, s2, s3, s4, s5, s6, s7⟩; go_simp; with_reducible rfl
               rotate_left
               ·simp only [Act.put, List.setIfInBounds_toArray, List.set_cons_zero, List.set_cons_succ, i64_w, i32_w]; rfl
               refine take_ (i := 27) (N := some 37) (v := ?_) (a' := ?_) #[tT, tT, tT, tT, tT, tT, tT, tT, tT, tT, tT, tT, tT, tT, tT, tT, tT, tT, tT, tT, tT, tT, tT, tT, tT, tT, tT, tT, tT, tT, fF, fF, fF, fF] rfl rfl (take_ofW HT_.out HW_.out (by kernel_rfl)) (fun _ _ _ h => h) (Or.inl ⟨by rfl, ?_⟩) hHeld ?_ ?_; rotate_left
               ·rintro w' ⟨s0, s1, s2, s3, s4, s5, s6, s7⟩; go_simp; with_reducible rfl
               rotate_left
               ·simp only [Act.put, List.setIfInBounds_toArray, List.set_cons_zero, List.set_cons_succ, i64_w, i32_w]; rfl
               refine pure_ (i := 30) (N := some 40) (v := ?_) (a' := ?_) #[tT, tT, tT, tT, tT, tT, tT, tT, tT, tT, tT, tT, tT, tT, tT, tT, tT, tT, tT, tT, tT, tT, tT, tT, tT, tT, tT, tT, tT, tT, tT, fF, fF, fF] rfl rfl (any_of HT_.out (by kernel_rfl)) (fun _ _ _ h => h) (Or.inl ⟨by rfl, ?_⟩) ?_ ?_; rotate_left
               ·intro w'; go_simp; with_reducible rfl
               rotate_left
               ·simp only [Act.put, List.setIfInBounds_toArray, List.set_cons_zero, List.set_cons_succ, i64_w, i32_w]; rfl
               refine take_ (i := 31) (N := some 41) (v := ?_) (a' := ?_) #[tT, tT, tT, tT, tT, tT, tT, tT, tT, tT, tT, tT, tT, tT, tT, tT, tT, tT, tT, tT, tT, tT, tT, tT, tT, tT, tT, tT, tT, tT, tT, tT, fF, fF] rfl rfl (take_ofW HT_.out HW_.out (by kernel_rfl)) (fun _ _ _ h => h) (Or.inl ⟨by rfl, ?_⟩) hHeld ?_ ?_; rotate_left
               ·rintro w' ⟨s0, s1, s2, s3, s4, s5, s6, s7⟩; go_simp; with_reducible rfl
               rotate_left
               ·simp only [Act.put, List.setIfInBounds_toArray, List.set_cons_zero, List.set_cons_succ, i64_w, i32_w]; rfl
               refine one_ (i := 32) (N := some 42) #[tT, tT, tT, tT, tT, tT, tT, tT, tT, tT, tT, tT, tT, tT, tT, tT, tT, tT, tT, tT, tT, tT, tT, tT, tT, tT, tT, tT, tT, tT, tT, tT, tT, fF] rfl rfl (one_of HT_.out (by kernel_rfl)) (by decide) (fun K hK => ?_)
               refine Kd.R_lit_step (Kd.int .i64) _ 3 ?hg (N := 42) ?hd (xs := ([rd (rd_L1 l0 (ji4)) a2, rd (rd_L1 l0 a1) (ji11), rd (rd_L1 l0 (ji14)) a2, rd (rd_L1 l0 a1) (ji18)] : List Int)) (inner := [.int .i64 (rd (rd_L1 l0 (ji4)) a2), .int .i64 (rd (rd_L1 l0 a1) (ji11)), .int .i64 (rd (rd_L1 l0 (ji14)) a2), .int .i64 (rd (rd_L1 l0 a1) (ji18))]) (ok := fun _ => True) (okp := fun _ => True) ?hr ?hp (fun _ hk => hk) trivial (Below.refl _ _) (Nat.le_refl _) (by simp) ?_; (case hd => rfl); (case hg => rfl); (case hr => first | (go_simp; done) | (go_simp; rfl)); (case hp => exact (Reps.one (show Kd.M (Kd.int .i64) _ _ _ (rd (rd_L1 l0 (ji4)) a2) [.int .i64 (rd (rd_L1 l0 (ji4)) a2)] from rfl) (Reps.one (show Kd.M (Kd.int .i64) _ _ _ (rd (rd_L1 l0 a1) (ji11)) [.int .i64 (rd (rd_L1 l0 a1) (ji11))] from rfl) (Reps.one (show Kd.M (Kd.int .i64) _ _ _ (rd (rd_L1 l0 (ji14)) a2) [.int .i64 (rd (rd_L1 l0 (ji14)) a2)] from rfl) (Reps.one (show Kd.M (Kd.int .i64) _ _ _ (rd (rd_L1 l0 a1) (ji18)) [.int .i64 (rd (rd_L1 l0 a1) (ji18))] from rfl) (Reps.none _ _))))))
               intro v851 w30 ho31 hb hg_ hnew_; clear hg_ hnew_
               (first | rw [← Ny850.out] at ho31 | (simp only [Int.reduceToNat] at ho31; rw [← Ny850.out] at ho31))
               have n0_ := Aside0.mk (Kd.R_lower ho31 (below_size (by repeat (first | (with_reducible first | exact HB.out | apply below_alloc | apply pw_below_drewN | apply below_drew1) | exact HB.out)))); have n1_ := Aside0.mk (below_step (by repeat (first | (with_reducible first | exact HB.out | apply below_alloc | apply pw_below_drewN | apply below_drew1) | exact HB.out)) hb); clear HB; have HO852 := n0_; have HB := n1_; clear n0_ n1_; clear hb ho31; refine hK.out _ _ ⟨((HB.out.cell (World.block_lt_of_cell? w _ hw842_0)).trans hw842_0), ((HB.out.cell (World.block_lt_of_cell? w _ hw843_0)).trans hw843_0), ((HB.out.cell (World.block_lt_of_cell? w _ hw844_0)).trans hw844_0), ((HB.out.cell (World.block_lt_of_cell? w _ hw845_0)).trans hw845_0), ((HB.out.cell (World.block_lt_of_cell? w _ hw846_0)).trans hw846_0), ((HB.out.cell (World.block_lt_of_cell? w _ hw847_0)).trans hw847_0), ((HB.out.cell (World.block_lt_of_cell? w _ hw848_0)).trans hw848_0), ((HB.out.cell (World.block_lt_of_cell? w _ hw849_0)).trans hw849_0)⟩ (fun hHeld => ?_); clear hK K; refine norm_ (a' := ?_) ?_ ?_; rotate_left
               ·show Act.put _ (some 42) _ = _; simp only [Act.put, List.setIfInBounds_toArray, List.set_cons_zero, List.set_cons_succ, i64_w, i32_w]; rfl
               refine pure_ (i := 33) (N := some 7) (v := ?_) (a' := ?_) #[tT, tT, tT, tT, tT, tT, tT, tT, tT, tT, tT, tT, tT, tT, tT, tT, tT, tT, tT, tT, tT, tT, tT, tT, tT, tT, tT, tT, tT, tT, tT, tT, tT, tT] rfl rfl (any_of HT_.out (by kernel_rfl)) (fun _ _ _ h => h) (Or.inl ⟨by rfl, ?_⟩) ?_ ?_; rotate_left
               ·intro w'; go_simp; with_reducible rfl
               rotate_left
               ·simp only [Act.put, List.setIfInBounds_toArray, List.set_cons_zero, List.set_cons_succ, i64_w, i32_w]; rfl
               refine done_ (done_of HT_.out (by kernel_rfl)) ?_; obtain ⟨Ao32, co32, eo32⟩ := Kd.R_slice HO852.out; subst eo32
               try go_wp2_with (first | ((with_reducible refine gate_callee (f := 127) rfl ?_); refine goesL_ (some 44) rfl rfl Try.func127 (by kernel_rfl) rfl #[.slice Ao32 y850.length co32] rfl (by (try simp only [List.map_toArray, List.map_cons, List.map_nil]); first | done | rfl | (simp only [List.length_drop, List.length_take]; rfl)) ?_; (with_reducible refine (slices_Min_int_int.calls _ _ y850 t853 _ ?side1 ?side2 A21.out).mono ?_); (case side1 => repeat (first | exact (Kd.R_reads' HO852.out).2.2 | (with_reducible refine Kd.C_alloc ?_ _) | (with_reducible refine Kd.C_drewN ?_ _) | (with_reducible refine Kd.C_drew ?_))); (case side2 => exact (Kd.R_reads' HO852.out).2.1); rintro e w' ⟨rfl, ⟨nd, rfl⟩⟩; refine ⟨_, rfl, ?_⟩) | ((with_reducible refine gate_callee (f := 128) rfl ?_); refine goesL_ (some 46) rfl rfl Try.func128 (by kernel_rfl) rfl #[.slice Ao32 y850.length co32] rfl (by (try simp only [List.map_toArray, List.map_cons, List.map_nil]); first | done | rfl | (simp only [List.length_drop, List.length_take]; rfl)) ?_; (with_reducible refine (slices_Max_int_int.calls _ _ y850 t854 _ ?side1 ?side2 A22.out).mono ?_); (case side1 => repeat (first | exact (Kd.R_reads' HO852.out).2.2 | (with_reducible refine Kd.C_alloc ?_ _) | (with_reducible refine Kd.C_drewN ?_ _) | (with_reducible refine Kd.C_drew ?_))); (case side2 => exact (Kd.R_reads' HO852.out).2.1); rintro e w' ⟨rfl, ⟨nd, rfl⟩⟩; refine ⟨_, rfl, ?_⟩))
               go_ret; exact ⟨by first | rfl | (simp [errW_none, errW_some] <;> rfl) | (simp only [← hji4, ← hji11, ← hji14, ← hji18]; first | rfl | (simp [errW_none, errW_some] <;> rfl)) | (simp [*, errW_none, errW_some] <;> rfl), by repeat (first | (with_reducible first | exact HB.out | apply below_alloc | apply pw_below_drewN | apply below_drew1) | exact HB.out)⟩
             ·rw [if_neg c20] at H; exact absurd H (by simp)
            ·rw [if_neg c19] at H; exact absurd H (by simp)
           ·rw [if_neg c17] at H; exact absurd H (by simp)
          ·rw [if_neg c16] at H; exact absurd H (by simp)
         ·rw [if_neg c15] at H; exact absurd H (by simp)
        ·rw [if_neg c13] at H; exact absurd H (by simp)
       ·rw [if_neg c12] at H; exact absurd H (by simp)
      ·rw [if_neg c10] at H; exact absurd H (by simp)
     ·rw [if_neg c9] at H; exact absurd H (by simp)
    ·rw [if_neg c8] at H; exact absurd H (by simp)
   ·rw [if_neg c7] at H; exact absurd H (by simp)
  ·rw [if_neg c6] at H; exact absurd H (by simp)
 ·rw [if_neg c5] at H; exact absurd H (by simp)
end Go.Proofs.Ythjiajkmaimbjaa.P
