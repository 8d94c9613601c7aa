-- By gp.py (this session's own driver over the kit's print). Not trusted: Lean checks it.
import Derived.Test.YthjiajkmaimbjaaF0
import Derived.Test.YthjiajkmaimbjaaB
import Derived.Test.YthjiajkmaimbjaaTab
namespace Go.Proofs.Ythjiajkmaimbjaa.P
open Go.Proofs.Ythjiajkmaimbjaa.B
open Go.RowKit Go.Proofs.YthjiajkmaimbjaaW.PrintWords Go.Proofs.YthjiajkmaimbjaaW.PrintLast Go.Proofs.YthjiajkmaimbjaaW.PrintMore
attribute [local go_sem] max2_int min2_int max_two min_two max_three min_three max_four min_four   -- for this text's walks alone
set_option linter.unusedVariables false
set_option linter.unusedSimpArgs false
/-! ### impl_sum: function 107 -/
def impl_sum.l0 : Nat → Int → List Int → Int → Int → Option (Int)
 | 0, _, _, _, _ => none
 | k + 1, x3, x6, x7, x8 => if x8 < x7 then (if 0 ≤ x8 then (if x8 < (x6.length : Int) then (impl_sum.l0 k (wrap64 (x3 + (rd x6 x8))) x6 x7 (wrap64 (x8 + 1))) else (none)) else (none)) else (some x3)
def impl_sum.f (k : Nat) (l0 : List Int) : Option (Int) := impl_sum.l0 k 0 l0 (l0.length : Int) 0
set_option maxHeartbeats 8000000 in
set_option maxRecDepth 100000 in
theorem impl_sum.calls (k : Nat) (A0 : Option Addr) (c0 : Nat) (l0 : List Int) (r : Int) (w : World) (hr0 : Kd.C (Kd.int .i64) w A0 l0.length l0) (hc0 : l0.length ≤ c0) (h : impl_sum.f k l0 = some r) :
  Calls Try.prog 107 #[.slice A0 l0.length c0] w fun e w' => e = .returned (.int .i64 r) ∧ Drawn0 w w' := by
 have HR0 := Aside0.mk hr0; have HC0 := Aside0.mk hc0; clear hr0 hc0; have H : (impl_sum.l0 k 0 l0 (l0.length : Int) 0) = some r := h; clear h; have H' := Aside0.mk H; clear H; go_enter Try.func107, Try.ntmps107; go_wp2
 go_loopg [3, 8] k (fun kq v3 v8 w' => ∃ (x3_1 : Int) (x8_1 : Int), v3 = .int .i64 x3_1 ∧ v8 = .int .i64 x8_1 ∧ Aside0 (impl_sum.l0 kq x3_1 l0 (l0.length : Int) x8_1 = some r) ∧ Aside0 (kq ≤ k) ∧ Drawn0 w w')
 case atStart => exact ⟨(0), (0), (by first | rfl | (simp; done) | (simp [*]; done)), (by first | rfl | (simp; done) | (simp [*]; done)), H', ⟨Nat.le_refl _⟩, by repeat (first | exact Drawn0.refl _ | apply Drawn0.step)⟩
 case round =>
  clear H'
  try clear c1
  obtain ⟨x3_1, x8_1, rfl, rfl, HA, HK1, ⟨m1, rfl⟩⟩ := hrel
  cases gk with
  | zero => exact absurd HA.out (by simp [impl_sum.l0])
  | succ k1 =>
   have H := HA.out; clear HA; simp only [impl_sum.l0] at H
   by_cases c2 : x8_1 < (l0.length : Int)
   ·rw [if_pos c2] at H
    have c2b0 : decide (x8_1 < (l0.length : Int)) = true := decide_eq_true c2; clear c2
    by_cases c3 : 0 ≤ x8_1
    ·rw [if_pos c3] at H
     have c3b0 : decide (0 ≤ x8_1) = true := decide_eq_true c3; clear c3
     by_cases c4 : x8_1 < (l0.length : Int)
     ·rw [if_pos c4] at H
      have c4b0 : decide (x8_1 < (l0.length : Int)) = true := decide_eq_true c4; clear c4; have H' := Aside0.mk H; clear H; have p391 : 0 ≤ (x8_1 : Int) := of_decide_eq_true (by first | (with_reducible assumption) | assumption); have q391 : x8_1 < (l0.length : Int) := of_decide_eq_true (by first | (with_reducible assumption) | assumption); obtain ⟨ad391, e391, hx391_0⟩ := Kd.at_int HR0.out x8_1 p391 q391
      cases e391
      replace p391 := eq_true p391; replace q391 := eq_true q391; go_wp2
      go_roundg k1
      case measure => have := HK1.out; omega
      case rel => exact ⟨(wrap64 (x3_1 + (rd l0 x8_1))), (wrap64 (x8_1 + 1)), (by first | rfl | (simp; done) | (simp [*]; done)), (by first | rfl | (simp; done) | (simp [*]; done)), H', ⟨by have := HK1.out; omega⟩, by repeat (first | exact Drawn0.refl _ | apply Drawn0.step)⟩
     ·rw [if_neg c4] at H; exact absurd H (by simp)
    ·rw [if_neg c3] at H; exact absurd H (by simp)
   ·rw [if_neg c2] at H; have c2b0 : decide (x8_1 < (l0.length : Int)) = false := decide_eq_false c2; clear c2; obtain rfl := Option.some.inj H; go_wp2; go_ret; exact ⟨by first | rfl | (simp; done) | (simp [*]; done), by repeat (first | exact Drawn0.refl _ | apply Drawn0.step)⟩
/-! ### impl_cornerSum: function 126 -/
def impl_cornerSum.l0 : Nat → Int → Int → List (List Int) → Int → Int → Option (Int)
 | 0, _, _, _, _, _ => none
 | k + 1, x2, x7, x12, x13, x14 => if x14 < x13 then (if 0 ≤ x14 then (if x14 < (x12.length : Int) then (if 0 ≤ x2 then (if x2 ≤ ((rd_L1 x12 x14).length : Int) then ((impl_sum.f k ((rd_L1 x12 x14).take (x2 : Int).toNat)).bind fun t841 => (impl_cornerSum.l0 k x2 (wrap64 (x7 + t841)) x12 x13 (wrap64 (x14 + 1)))) else (none)) else (none)) else (none)) else (none)) else (some x7)
def impl_cornerSum.f (k : Nat) (l0 : List (List Int)) (a1 : Int) (a2 : Int) : Option (Int) := if 0 ≤ a1 then (if a1 ≤ (l0.length : Int) then ((some (l0.take (a1 : Int).toNat : List (List Int))).bind fun y835 => (impl_cornerSum.l0 k a2 0 y835 (y835.length : Int) 0)) else (none)) else (none)
set_option maxHeartbeats 8000000 in
set_option maxRecDepth 100000 in
theorem impl_cornerSum.calls (k : Nat) (A0 : Option Addr) (c0 : Nat) (l0 : List (List Int)) (a1 : Int) (a2 : Int) (r : Int) (w : World) (hr0 : Kd.C (Kd.slice 3 (Kd.int .i64)) w A0 l0.length l0) (hc0 : l0.length ≤ c0) (h : impl_cornerSum.f k l0 a1 a2 = some r) :
  Calls Try.prog 126 #[.slice A0 l0.length c0, .int .i64 a1, .int .i64 a2] w fun e w' => e = .returned (.int .i64 r) ∧ Drawn0 w w' := by
 have HR0 := Aside0.mk hr0; have HC0 := Aside0.mk hc0; clear hr0 hc0; have H : (if 0 ≤ a1 then (if a1 ≤ (l0.length : Int) then ((some (l0.take (a1 : Int).toNat : List (List Int))).bind fun y835 => (impl_cornerSum.l0 k a2 0 y835 (y835.length : Int) 0)) else (none)) else (none)) = some r := h; clear h
 by_cases c4 : 0 ≤ a1
 ·rw [if_pos c4] at H
  have c4b0 := eq_true c4; have c4b1 : decide (0 ≤ a1) = true := decide_eq_true c4; clear c4
  by_cases c5 : a1 ≤ (l0.length : Int)
  ·rw [if_pos c5] at H
   have c5b0 := eq_true c5; have c5b1 : decide (a1 ≤ (l0.length : Int)) = true := decide_eq_true c5; clear c5
   obtain ⟨y835, hy835⟩ : ∃ y_ : List (List Int), y_ = (l0.take (a1 : Int).toNat) := ⟨_, rfl⟩
   replace H : (impl_cornerSum.l0 k a2 0 y835 (y835.length : Int) 0) = some r := by first | (rw [hy835]; with_reducible exact H) | (have H2_ := (Option.bind_some _ _).symm.trans H; rw [hy835]; with_reducible exact H2_) | (have H2_ := (Option.bind_some _ _).symm.trans H; with_reducible exact H2_) | with_reducible exact H | (rw [hy835]; exact H) | exact H
   have Ny835 := Aside0.mk hy835; clear hy835; have H' := Aside0.mk H; clear H; have q6 : (a1 : Int) ≤ ((l0.length : Int) : Int) := of_decide_eq_true (by first | (with_reducible assumption) | assumption); obtain ⟨i06, hi06, _, hsz6, _⟩ := info_parts info22; have hroom6 : l0.length ≤ c0 := HC0.out; have hC6 : Kd.C (Kd.slice 3 (Kd.int .i64)) _ A0 l0.length l0 := HR0.out; have hcut6 := cut_to (P := Try.prog) 23 22 .i64 Try.underlying23 hi06 A0 l0.length c0 a1 (of_decide_eq_true (by first | (with_reducible assumption) | assumption)) q6 hroom6; have hr6 := Kd.C_take (m := (a1 : Int).toNat) hC6 (by omega)
   have hy6 : y835.length = (a1 : Int).toNat := (by rw [Ny835.out, List.length_take]; omega)
   rw [← Ny835.out] at hr6; rw [← hy6] at hcut6; have HR838 := Aside0.mk hr6; have HC838 := Aside0.mk (show y835.length ≤ c0 from by omega); clear hr6 hC6 hroom6 hi06 hsz6; have KY6 := Aside0.mk hy6; clear hy6; replace q6 := eq_true q6; go_enter Try.func126, Try.ntmps126; go_wp2
   go_loopg [7, 14] k (fun kq v7 v14 w' => ∃ (x7_1 : Int) (x14_1 : Int), v7 = .int .i64 x7_1 ∧ v14 = .int .i64 x14_1 ∧ Aside0 (impl_cornerSum.l0 kq a2 x7_1 y835 (y835.length : Int) x14_1 = some r) ∧ Aside0 (kq ≤ k) ∧ Drawn0 w w')
   case atStart => exact ⟨(0), (0), (by first | rfl | (simp; done) | (simp [*]; done)), (by first | rfl | (simp; done) | (simp [*]; done)), H', ⟨Nat.le_refl _⟩, by repeat (first | exact Drawn0.refl _ | apply Drawn0.step)⟩
   case round =>
    clear H'
    try clear c1
    try clear p2
    try clear c4
    try clear c4b0
    try clear c4b1
    try clear c5
    try clear c5b0
    try clear c5b1
    try clear q6
    try clear q6
    obtain ⟨x7_1, x14_1, rfl, rfl, HA, HK1, ⟨m1, rfl⟩⟩ := hrel
    cases gk with
    | zero => exact absurd HA.out (by simp [impl_cornerSum.l0])
    | succ k1 =>
     have H := HA.out; clear HA; simp only [impl_cornerSum.l0] at H
     by_cases c7 : x14_1 < (y835.length : Int)
     ·rw [if_pos c7] at H
      have c7b0 : decide (x14_1 < (y835.length : Int)) = true := decide_eq_true c7; clear c7
      by_cases c8 : 0 ≤ x14_1
      ·rw [if_pos c8] at H
       have c8b0 : decide (0 ≤ x14_1) = true := decide_eq_true c8; clear c8
       by_cases c9 : x14_1 < (y835.length : Int)
       ·rw [if_pos c9] at H
        have c9b0 : decide (x14_1 < (y835.length : Int)) = true := decide_eq_true c9; clear c9
        by_cases c10 : 0 ≤ a2
        ·rw [if_pos c10] at H
         have c10b0 := eq_true c10; have c10b1 : decide (0 ≤ a2) = true := decide_eq_true c10; clear c10
         by_cases c11 : a2 ≤ ((rd_L1 y835 x14_1).length : Int)
         ·rw [if_pos c11] at H
          have c11b0 := eq_true c11; have c11b1 : decide (a2 ≤ ((rd_L1 y835 x14_1).length : Int)) = true := decide_eq_true c11; clear c11; replace H := Option.bind_eq_some_iff.mp H; obtain ⟨t841, A120, H⟩ := H; replace H : (impl_cornerSum.l0 k1 a2 (wrap64 (x7_1 + t841)) y835 (y835.length : Int) (wrap64 (x14_1 + 1))) = some r := H; have A12 := Aside0.mk A120; clear A120; have H' := Aside0.mk H; clear H; have p839 : 0 ≤ (x14_1 : Int) := of_decide_eq_true (by first | (with_reducible assumption) | assumption); have q839 : x14_1 < (y835.length : Int) := of_decide_eq_true (by first | (with_reducible assumption) | assumption); obtain ⟨ad839, A839_0, c839_0, e839, hx839_0, hl839_0, hi839_0⟩ := at_L1 HR838.out x14_1 p839 q839
          cases e839
          have HR839_0 := Aside0.mk hi839_0; have HC839_0 := Aside0.mk hl839_0; clear hi839_0 hl839_0; replace p839 := eq_true p839; replace q839 := eq_true q839; obtain ⟨i013, hi013, _, hsz13, _⟩ := info_parts info3; obtain ⟨hcut13, hA13, hC13⟩ := print_take_of (P := Try.prog) (Value.int .i64) 0 22 3 .i64 Try.underlying22 hi013 hsz13 A839_0 c839_0 (rd_L1 y835 x14_1) a2 (of_decide_eq_true (by first | (with_reducible assumption) | assumption)) (of_decide_eq_true (by first | (with_reducible assumption) | assumption)) HC839_0.out; have HR840 := Aside0.mk (Kd.C_of_reads (h1 := fun _ => rfl) (hA13 _ (Kd.reads_of_C HR839_0.out))); have HC840 := Aside0.mk hC13; clear hA13 hC13 hi013 hsz13
          go_wp2_with (first | ((with_reducible refine gate_callee (f := 107) rfl ?_); refine goesL_ (some 22) rfl rfl Try.func107 (by kernel_rfl) rfl #[.slice A839_0 ((rd_L1 y835 x14_1).take (a2 : Int).toNat).length c839_0] rfl (by (try simp only [List.map_toArray, List.map_cons, List.map_nil]); first | done | (rw [show ((rd_L1 y835 x14_1).take (a2 : Int).toNat).length = a2.toNat from (by rw [List.length_take]; have h_ : (a2 : Int) ≤ ((rd_L1 y835 x14_1).length : Int) := of_decide_eq_true (by first | (with_reducible assumption) | assumption); omega)] <;> rfl) | rfl | (simp only [List.length_drop, List.length_take]; rfl)) ?_; (with_reducible refine (impl_sum.calls k1 _ _ ((rd_L1 y835 x14_1).take (a2 : Int).toNat) t841 _ ?side1 ?side2 A12.out).mono ?_); (case side1 => repeat (first | exact HR840.out | (with_reducible refine Kd.C_alloc ?_ _) | (with_reducible refine Kd.C_drewN ?_ _) | (with_reducible refine Kd.C_drew ?_))); (case side2 => exact HC840.out); rintro e w' ⟨rfl, ⟨nd, rfl⟩⟩; refine ⟨_, rfl, ?_⟩))
          go_roundg k1
          case measure => have := HK1.out; omega
          case rel => exact ⟨(wrap64 (x7_1 + t841)), (wrap64 (x14_1 + 1)), (by first | rfl | (simp; done) | (simp [*]; done)), (by first | rfl | (simp; done) | (simp [*]; done)), H', ⟨by have := HK1.out; omega⟩, by repeat (first | exact Drawn0.refl _ | apply Drawn0.step)⟩
         ·rw [if_neg c11] at H; exact absurd H (by simp)
        ·rw [if_neg c10] at H; exact absurd H (by simp)
       ·rw [if_neg c9] at H; exact absurd H (by simp)
      ·rw [if_neg c8] at H; exact absurd H (by simp)
     ·rw [if_neg c7] at H; have c7b0 : decide (x14_1 < (y835.length : Int)) = false := decide_eq_false c7; clear c7; obtain rfl := Option.some.inj H; go_wp2; go_ret; exact ⟨by first | rfl | (simp; done) | (simp [*]; done), by repeat (first | exact Drawn0.refl _ | apply Drawn0.step)⟩
  ·rw [if_neg c5] at H; exact absurd H (by simp)
 ·rw [if_neg c4] at H; exact absurd H (by simp)
/-! ### impl_heights: function 92 (given) -/
def impl_heights.f (k : Nat) (l0 : List (List Int)) : Option (List (List Int)) := if l0.length ≤ 1048575 then tabR (l0.length + 1) (l0.length + 1) fun i j => (impl_cornerSum.f k l0 (i : Int) (j : Int)).bind fun s => some (wrap64 ((i : Int) + (j : Int) - wrap64 (2 * s))) else none
set_option maxHeartbeats 8000000 in
set_option maxRecDepth 100000 in
theorem impl_heights.clo (k : Nat) (l : List (List Int)) (A : Option Addr) (c : Nat) (g1 : Addr) (w : World) (hr : Kd.C (Kd.slice 3 (Kd.int .i64)) w A l.length l) (hc : l.length ≤ c) (h1 : w.cell? g1 = some (.slice A l.length c)) (i j : Nat) (hi : i ≤ 1048576) (hj : j ≤ 1048576) (s : Int) (hv : impl_cornerSum.f k l (i : Int) (j : Int) = some s) :
  Calls Try.prog 125 (#[.int .i64 (i : Int), .int .i64 (j : Int)] ++ #[.pointer (some g1)]) w fun e w' => e = .returned (.int .i64 (wrap64 ((i : Int) + (j : Int) - wrap64 (2 * s)))) ∧ Drawn0 w w' := by
 have HR0 := Aside0.mk hr; have HC0 := Aside0.mk hc; have HV := Aside0.mk hv; clear hr hc hv; go_enter Try.func125, Try.ntmps125
 go_wp2_with (go_at_call 126; (with_reducible refine (impl_cornerSum.calls k _ _ l _ _ s _ HR0.out HC0.out HV.out).mono ?_); rintro e w5 ⟨rfl, ⟨n1, rfl⟩⟩)
 go_ret; exact ⟨by first | rfl | (simp only [i64_w]; rfl), (by repeat (first | exact Drawn0.refl _ | apply Drawn0.step))⟩
set_option maxHeartbeats 8000000 in
set_option maxRecDepth 100000 in
theorem impl_heights.calls (k : Nat) (A0 : Option Addr) (c0 : Nat) (l0 : List (List Int)) (r : List (List Int)) (w : World) (hr0 : Kd.C (Kd.slice 3 (Kd.int .i64)) w A0 l0.length l0) (hc0 : l0.length ≤ c0) (h : impl_heights.f k l0 = some r) :
  Calls Try.prog 92 #[.slice A0 l0.length c0] w fun e w' => ∃ v0_ : Value, e = .returned (v0_) ∧ Kd.S (Kd.slice 3 (Kd.int .i64)) 22 w' w.heap.size (fun _ => True) v0_ r ∧ Below w.heap.size w w' := by
 have HR0 := Aside0.mk hr0; have HC0 := Aside0.mk hc0; have HB0 := Aside0.mk (Below.refl w.heap.size w); unfold impl_heights.f at h
 by_cases hl : l0.length ≤ 1048575
 ·rw [if_pos hl] at h
  obtain ⟨f, hf, rfl⟩ := tabR_some h
  have hf2 : ∀ i, i < l0.length + 1 → ∀ j, j < l0.length + 1 → ∃ s, impl_cornerSum.f k l0 (i : Int) (j : Int) = some s ∧ f i j = wrap64 ((i : Int) + (j : Int) - wrap64 (2 * s)) := by
   intro i hi j hj; obtain ⟨s, hs, h2⟩ := Option.bind_eq_some_iff.mp (hf i hi j hj); exact ⟨s, hs, (Option.some.inj h2).symm⟩
  have HT := Aside0.mk (fun (W : World) (hb : Below w.heap.size w W) (g1 : Addr) (h1 : W.cell? g1 = some (.slice A0 l0.length c0)) =>
   table_any 125 #[.pointer (some g1)] f (l0.length + 1) (l0.length + 1) (by omega) (by omega) W (enters_of Try.func125 (by kernel_rfl) rfl)
    (fun W' hb' i j hi hj => by
     obtain ⟨s, hs, he⟩ := hf2 i hi j hj; rw [he]
     exact impl_heights.clo k l0 A0 c0 g1 W' (Kd.C_below (Kd.C_below hr0 hb) hb') hc0 (pw_cell_below hb' h1) i j (by omega) (by omega) s hs))
  have hn : ((l0.length + 1 : Nat) : Int) = (l0.length : Int) + 1 := by omega
  rw [hn] at HT; clear h hf hf2 hr0 hc0 hn
  have hmf : ∀ (fn : Fn) (first cap : Array Value) (w : World), (Instr.makeFunc fn first cap).run Try.prog w = .ok (.func fn first cap) w := fun _ _ _ _ => rfl
  go_enter Try.func92, Try.ntmps92
  go_wp2_with (go_at_call 60; (with_reducible refine (HT.out _ ?hb _ ?h1).mono ?_); (case hb => exact (by repeat (first | exact HB0.out | apply below_alloc | apply pw_below_drewN | apply below_drew1))); (case h1 => go_simp); rintro e w' ⟨v, rfl, hS, hb⟩; have HS := Aside0.mk (Kd.S_lower hS (below_size (by repeat (first | exact HB0.out | apply below_alloc | apply pw_below_drewN | apply below_drew1)))); have HB := Aside0.mk (below_step (by repeat (first | exact HB0.out | apply below_alloc | apply pw_below_drewN | apply below_drew1)) hb); clear hS hb)
  go_ret; exact ⟨_, rfl, HS.out, HB.out⟩
 ·rw [if_neg hl] at h
  cases h
end Go.Proofs.Ythjiajkmaimbjaa.P
