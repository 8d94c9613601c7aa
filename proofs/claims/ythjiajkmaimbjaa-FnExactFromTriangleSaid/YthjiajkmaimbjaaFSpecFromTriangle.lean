-- By gp.py (this session's own driver over the kit's print). Not trusted: Lean checks it.
import Derived.Test.YthjiajkmaimbjaaF0
import Derived.Test.YthjiajkmaimbjaaB
import Derived.Test.YthjiajkmaimbjaaFSpecCorn
import Derived.Test.YthjiajkmaimbjaaFSpecTrGood
namespace Go.Proofs.Ythjiajkmaimbjaa.P
open Go.Proofs.Ythjiajkmaimbjaa.B
open Go.RowKit Go.Proofs.YthjiajkmaimbjaaW.PrintWords Go.Proofs.YthjiajkmaimbjaaW.PrintLast Go.Proofs.YthjiajkmaimbjaaW.PrintMore
attribute [local go_sem] max2_int min2_int max_two min_two max_three min_three max_four min_four   -- for this text's walks alone
set_option linter.unusedVariables false
set_option linter.unusedSimpArgs false

/-! ### spec_FromTriangle: function 29 -/
mutual
def spec_FromTriangle.j0 : Nat → List (List Int) → Bool → Option ((List (List Int)) × Bool)
  | 0, _, _ => none
  | k + 1, x0, x30 => if x30 = true then (some (([] : List (List Int)), false)) else ((spec_sgZero.f k (x0.length : Int)).bind fun t256 => (spec_FromTriangle.l0 k x0 t256 x0 (x0.length : Int) 0))
def spec_FromTriangle.l0 : Nat → List (List Int) → List (List Int) → List (List Int) → Int → Int → Option ((List (List Int)) × Bool)
  | 0, _, _, _, _, _ => none
  | k + 1, x0, x4, x34, x35, x36 => if x36 < x35 then (if 0 ≤ x36 then (if x36 < (x34.length : Int) then (spec_FromTriangle.l1 k x0 x4 x36 x34 x35 x36 (rd_L1 x34 x36) ((rd_L1 x34 x36).length : Int) 0) else (none)) else (none)) else (some (x4, true))
def spec_FromTriangle.l1 : Nat → List (List Int) → List (List Int) → Int → List (List Int) → Int → Int → List Int → Int → Int → Option ((List (List Int)) × Bool)
  | 0, _, _, _, _, _, _, _, _, _ => none
  | k + 1, x0, x4, x5, x34, x35, x36, x41, x42, x43 => if x43 < x42 then (if 0 ≤ x43 then (if x43 < (x41.length : Int) then (if 0 ≤ x5 then (if x5 < (x4.length : Int) then (if 0 ≤ (rd x41 x43) then (if (rd x41 x43) < ((rd_L1 x4 x5).length : Int) then (spec_FromTriangle.l1 k x0 (x4.set (x5 : Int).toNat ((rd_L1 x4 x5).set ((rd x41 x43) : Int).toNat (wrap64 ((rd (rd_L1 x4 x5) (rd x41 x43)) + 1)))) x5 x34 x35 x36 x41 x42 (wrap64 (x43 + 1))) else (none)) else (none)) else (none)) else (none)) else (none)) else (none)) else (if x5 > 0 then (if 0 ≤ (wrap64 (x5 - 1)) then (if (wrap64 (x5 - 1)) < (x0.length : Int) then (spec_FromTriangle.l2 k x0 x4 x5 x34 x35 x36 (rd_L1 x0 (wrap64 (x5 - 1))) ((rd_L1 x0 (wrap64 (x5 - 1))).length : Int) 0) else (none)) else (none)) else (spec_FromTriangle.l0 k x0 x4 x34 x35 (wrap64 (x36 + 1))))
def spec_FromTriangle.l2 : Nat → List (List Int) → List (List Int) → Int → List (List Int) → Int → Int → List Int → Int → Int → Option ((List (List Int)) × Bool)
  | 0, _, _, _, _, _, _, _, _, _ => none
  | k + 1, x0, x4, x5, x34, x35, x36, x63, x64, x65 => if x65 < x64 then (if 0 ≤ x65 then (if x65 < (x63.length : Int) then (if 0 ≤ x5 then (if x5 < (x4.length : Int) then (if 0 ≤ (rd x63 x65) then (if (rd x63 x65) < ((rd_L1 x4 x5).length : Int) then (spec_FromTriangle.l2 k x0 (x4.set (x5 : Int).toNat ((rd_L1 x4 x5).set ((rd x63 x65) : Int).toNat (wrap64 ((rd (rd_L1 x4 x5) (rd x63 x65)) - 1)))) x5 x34 x35 x36 x63 x64 (wrap64 (x65 + 1))) else (none)) else (none)) else (none)) else (none)) else (none)) else (none)) else (spec_FromTriangle.l0 k x0 x4 x34 x35 (wrap64 (x36 + 1)))
end
def spec_FromTriangle.f (k : Nat) (l0 : List (List Int)) : Option ((List (List Int)) × Bool) := (spec_trGood.f k l0).bind fun t253 => (if t253 = true then (if 0 ≤ (wrap64 ((l0.length : Int) - 1)) then (if (wrap64 ((l0.length : Int) - 1)) < (l0.length : Int) then (if (wrap64 ((l0.length : Int) - 1)) < ((rd_L1 l0 (wrap64 ((l0.length : Int) - 1))).length : Int) then (spec_FromTriangle.j0 k l0 ((rd (rd_L1 l0 (wrap64 ((l0.length : Int) - 1))) (wrap64 ((l0.length : Int) - 1))) != (wrap64 ((l0.length : Int) - 1)))) else (none)) else (none)) else (none)) else (spec_FromTriangle.j0 k l0 true))
theorem spec_FromTriangle.mono_l : ∀ k, (∀ y0 y1, LeO (spec_FromTriangle.j0 k y0 y1) (spec_FromTriangle.j0 (k + 1) y0 y1)) ∧ (∀ y0 y1 y2 y3 y4, LeO (spec_FromTriangle.l0 k y0 y1 y2 y3 y4) (spec_FromTriangle.l0 (k + 1) y0 y1 y2 y3 y4)) ∧ (∀ y0 y1 y2 y3 y4 y5 y6 y7 y8, LeO (spec_FromTriangle.l1 k y0 y1 y2 y3 y4 y5 y6 y7 y8) (spec_FromTriangle.l1 (k + 1) y0 y1 y2 y3 y4 y5 y6 y7 y8)) ∧ (∀ y0 y1 y2 y3 y4 y5 y6 y7 y8, LeO (spec_FromTriangle.l2 k y0 y1 y2 y3 y4 y5 y6 y7 y8) (spec_FromTriangle.l2 (k + 1) y0 y1 y2 y3 y4 y5 y6 y7 y8))
  | 0 => ⟨fun _ _ r h => by simp [spec_FromTriangle.j0] at h, fun _ _ _ _ _ r h => by simp [spec_FromTriangle.l0] at h, fun _ _ _ _ _ _ _ _ _ r h => by simp [spec_FromTriangle.l1] at h, fun _ _ _ _ _ _ _ _ _ r h => by simp [spec_FromTriangle.l2] at h⟩
  | k + 1 => by
    obtain ⟨ih0, ih1, ih2, ih3⟩ := spec_FromTriangle.mono_l k
    refine ⟨?_, ?_, ?_, ?_⟩
    · intro y0 y1
      unfold spec_FromTriangle.j0
      repeat' first
      | (with_reducible exact ih0 _ _)
      | (with_reducible exact ih1 _ _ _ _ _)
      | (with_reducible exact ih2 _ _ _ _ _ _ _ _ _)
      | (with_reducible exact ih3 _ _ _ _ _ _ _ _ _)
      | (with_reducible exact spec_sgZero.mono _ _)
      | (with_reducible exact spec_trGood.mono _ _)
      | (with_reducible exact LeO.refl _)
      | (with_reducible exact LeO.none _)
      | (with_reducible refine LeO.ite ?_ ?_)
      | (with_reducible refine LeO.bind ?_ (fun _ => ?_))
      | exact ih0 _ _
      | exact ih1 _ _ _ _ _
      | exact ih2 _ _ _ _ _ _ _ _ _
      | exact ih3 _ _ _ _ _ _ _ _ _
      | exact spec_sgZero.mono _ _
      | exact spec_trGood.mono _ _
      | exact LeO.none _
      | refine LeO.ite ?_ ?_
      | refine LeO.bind ?_ (fun _ => ?_)
    · intro y0 y1 y2 y3 y4
      unfold spec_FromTriangle.l0
      repeat' first
      | (with_reducible exact ih0 _ _)
      | (with_reducible exact ih1 _ _ _ _ _)
      | (with_reducible exact ih2 _ _ _ _ _ _ _ _ _)
      | (with_reducible exact ih3 _ _ _ _ _ _ _ _ _)
      | (with_reducible exact spec_sgZero.mono _ _)
      | (with_reducible exact spec_trGood.mono _ _)
      | (with_reducible exact LeO.refl _)
      | (with_reducible exact LeO.none _)
      | (with_reducible refine LeO.ite ?_ ?_)
      | (with_reducible refine LeO.bind ?_ (fun _ => ?_))
      | exact ih0 _ _
      | exact ih1 _ _ _ _ _
      | exact ih2 _ _ _ _ _ _ _ _ _
      | exact ih3 _ _ _ _ _ _ _ _ _
      | exact spec_sgZero.mono _ _
      | exact spec_trGood.mono _ _
      | exact LeO.none _
      | refine LeO.ite ?_ ?_
      | refine LeO.bind ?_ (fun _ => ?_)
    · intro y0 y1 y2 y3 y4 y5 y6 y7 y8
      unfold spec_FromTriangle.l1
      repeat' first
      | (with_reducible exact ih0 _ _)
      | (with_reducible exact ih1 _ _ _ _ _)
      | (with_reducible exact ih2 _ _ _ _ _ _ _ _ _)
      | (with_reducible exact ih3 _ _ _ _ _ _ _ _ _)
      | (with_reducible exact spec_sgZero.mono _ _)
      | (with_reducible exact spec_trGood.mono _ _)
      | (with_reducible exact LeO.refl _)
      | (with_reducible exact LeO.none _)
      | (with_reducible refine LeO.ite ?_ ?_)
      | (with_reducible refine LeO.bind ?_ (fun _ => ?_))
      | exact ih0 _ _
      | exact ih1 _ _ _ _ _
      | exact ih2 _ _ _ _ _ _ _ _ _
      | exact ih3 _ _ _ _ _ _ _ _ _
      | exact spec_sgZero.mono _ _
      | exact spec_trGood.mono _ _
      | exact LeO.none _
      | refine LeO.ite ?_ ?_
      | refine LeO.bind ?_ (fun _ => ?_)
    · intro y0 y1 y2 y3 y4 y5 y6 y7 y8
      unfold spec_FromTriangle.l2
      repeat' first
      | (with_reducible exact ih0 _ _)
      | (with_reducible exact ih1 _ _ _ _ _)
      | (with_reducible exact ih2 _ _ _ _ _ _ _ _ _)
      | (with_reducible exact ih3 _ _ _ _ _ _ _ _ _)
      | (with_reducible exact spec_sgZero.mono _ _)
      | (with_reducible exact spec_trGood.mono _ _)
      | (with_reducible exact LeO.refl _)
      | (with_reducible exact LeO.none _)
      | (with_reducible refine LeO.ite ?_ ?_)
      | (with_reducible refine LeO.bind ?_ (fun _ => ?_))
      | exact ih0 _ _
      | exact ih1 _ _ _ _ _
      | exact ih2 _ _ _ _ _ _ _ _ _
      | exact ih3 _ _ _ _ _ _ _ _ _
      | exact spec_sgZero.mono _ _
      | exact spec_trGood.mono _ _
      | exact LeO.none _
      | refine LeO.ite ?_ ?_
      | refine LeO.bind ?_ (fun _ => ?_)
theorem spec_FromTriangle.mono : ∀ a0 k, LeO (spec_FromTriangle.f k a0) (spec_FromTriangle.f (k + 1) a0) := by
  intro a0 k
  obtain ⟨ih0, ih1, ih2, ih3⟩ := spec_FromTriangle.mono_l k
  unfold spec_FromTriangle.f
  repeat' first
      | (with_reducible exact ih0 _ _)
      | (with_reducible exact ih1 _ _ _ _ _)
      | (with_reducible exact ih2 _ _ _ _ _ _ _ _ _)
      | (with_reducible exact ih3 _ _ _ _ _ _ _ _ _)
      | (with_reducible exact spec_sgZero.mono _ _)
      | (with_reducible exact spec_trGood.mono _ _)
      | (with_reducible exact LeO.refl _)
      | (with_reducible exact LeO.none _)
      | (with_reducible refine LeO.ite ?_ ?_)
      | (with_reducible refine LeO.bind ?_ (fun _ => ?_))
      | exact ih0 _ _
      | exact ih1 _ _ _ _ _
      | exact ih2 _ _ _ _ _ _ _ _ _
      | exact ih3 _ _ _ _ _ _ _ _ _
      | exact spec_sgZero.mono _ _
      | exact spec_trGood.mono _ _
      | exact LeO.none _
      | refine LeO.ite ?_ ?_
      | refine LeO.bind ?_ (fun _ => ?_)
set_option maxHeartbeats 8000000 in
set_option maxRecDepth 100000 in
theorem spec_FromTriangle.calls (k : Nat) (A0 : Option Addr) (c0 : Nat) (l0 : List (List Int)) (r1 : List (List Int)) (r2 : Bool) (w : World) (hr0 : Kd.C (Kd.slice 3 (Kd.int .i64)) w A0 l0.length l0) (hc0 : l0.length ≤ c0) (h : spec_FromTriangle.f k l0 = some (r1, r2)) :
    Calls Try.prog 29 #[.slice A0 l0.length c0] w fun e w' => ∃ v0_ : Value, e = .returned (.tuple #[v0_, .bool r2]) ∧ Kd.S (Kd.slice 3 (Kd.int .i64)) 22 w' w.heap.size (fun _ => True) v0_ r1 ∧ Below w.heap.size w w' := by
  have HR0 := Aside0.mk hr0
  have HC0 := Aside0.mk hc0
  clear hr0 hc0
  have HB := Aside0.mk (Below.refl w.heap.size w)
  have H : ((spec_trGood.f k l0).bind fun t253 => (if t253 = true then (if 0 ≤ (wrap64 ((l0.length : Int) - 1)) then (if (wrap64 ((l0.length : Int) - 1)) < (l0.length : Int) then (if (wrap64 ((l0.length : Int) - 1)) < ((rd_L1 l0 (wrap64 ((l0.length : Int) - 1))).length : Int) then (spec_FromTriangle.j0 k l0 ((rd (rd_L1 l0 (wrap64 ((l0.length : Int) - 1))) (wrap64 ((l0.length : Int) - 1))) != (wrap64 ((l0.length : Int) - 1)))) else (none)) else (none)) else (none)) else (spec_FromTriangle.j0 k l0 true))) = some (r1, r2) := h
  clear h
  have HC2 := Aside0.mk H
  clear H
  go_enter Try.func29, Try.ntmps29
  go_upto_region 1 with (fail)
  go_cut [30] (fun v30 wc => ∃ (kq : Nat) (x30_1 : Bool), v30 = .bool x30_1 ∧ Aside0 (spec_FromTriangle.j0 kq l0 x30_1 = some (r1, r2)) ∧ Aside0 (kq ≤ k) ∧ Aside0 (Below w.heap.size w wc))
  case first =>
    have H := HC2.out
    clear HC2
    replace H := Option.bind_eq_some_iff.mp H
    obtain ⟨t253, A30, H⟩ := H
    replace H : (if t253 = true then (if 0 ≤ (wrap64 ((l0.length : Int) - 1)) then (if (wrap64 ((l0.length : Int) - 1)) < (l0.length : Int) then (if (wrap64 ((l0.length : Int) - 1)) < ((rd_L1 l0 (wrap64 ((l0.length : Int) - 1))).length : Int) then (spec_FromTriangle.j0 k l0 ((rd (rd_L1 l0 (wrap64 ((l0.length : Int) - 1))) (wrap64 ((l0.length : Int) - 1))) != (wrap64 ((l0.length : Int) - 1)))) else (none)) else (none)) else (none)) else (spec_FromTriangle.j0 k l0 true)) = some (r1, r2) := H
    have A3 := Aside0.mk A30
    clear A30
    by_cases c4 : t253 = true
    · subst c4
      have H1 : (if 0 ≤ (wrap64 ((l0.length : Int) - 1)) then (if (wrap64 ((l0.length : Int) - 1)) < (l0.length : Int) then (if (wrap64 ((l0.length : Int) - 1)) < ((rd_L1 l0 (wrap64 ((l0.length : Int) - 1))).length : Int) then (spec_FromTriangle.j0 k l0 ((rd (rd_L1 l0 (wrap64 ((l0.length : Int) - 1))) (wrap64 ((l0.length : Int) - 1))) != (wrap64 ((l0.length : Int) - 1)))) else (none)) else (none)) else (none)) = some (r1, r2) := by rw [if_pos rfl] at H; exact H
      clear H
      have H := H1
      clear H1
      obtain ⟨ji5, hji5⟩ : ∃ j_ : Int, (wrap64 ((l0.length : Int) - 1)) = j_ := ⟨_, rfl⟩
      replace H : (if 0 ≤ (ji5) then (if (ji5) < (l0.length : Int) then (if (ji5) < ((rd_L1 l0 (ji5)).length : Int) then (spec_FromTriangle.j0 k l0 ((rd (rd_L1 l0 (ji5)) (ji5)) != (ji5))) else (none)) else (none)) else (none)) = some (r1, r2) := by first | (rw [hji5] at H; exact H) | (simp only [hji5] at H ⊢; exact H)
      (try rw [hji5] at A3)
      have hji5w : (IntKind.i64.wrap ((l0.length : Int) - 1)) = ji5 := (i64_w _).trans hji5
      by_cases c6 : 0 ≤ (ji5)
      · rw [if_pos c6] at H
        have c6b0 : decide (0 ≤ (ji5)) = true := decide_eq_true c6
        clear c6
        (first | rw [c6b0] | (simp only [i64_w, i32_w]; rw [c6b0]) | skip)
        by_cases c7 : (ji5) < (l0.length : Int)
        · rw [if_pos c7] at H
          have c7b0 : decide ((ji5) < (l0.length : Int)) = true := decide_eq_true c7
          clear c7
          by_cases c8 : (ji5) < ((rd_L1 l0 (ji5)).length : Int)
          · rw [if_pos c8] at H
            have c8b0 : decide ((ji5) < ((rd_L1 l0 (ji5)).length : Int)) = true := decide_eq_true c8
            clear c8
            have H' := Aside0.mk H
            clear H
            go_wp2_with (first | ((with_reducible refine gate_callee (f := 57) rfl ?_); refine goesL_ (some 12) rfl rfl Try.func57 (by kernel_rfl) rfl #[.slice A0 l0.length c0] rfl (by (try simp only [List.map_toArray, List.map_cons, List.map_nil]); first | done | rfl | (simp only [List.length_drop, List.length_take]; rfl)) ?_; (with_reducible refine (spec_trGood.calls k _ _ l0 true _ ?side1 ?side2 A3.out).mono ?_); (case side1 => repeat (first | exact (Kd.C_below HR0.out HB.out) | (with_reducible refine Kd.C_alloc ?_ _) | (with_reducible refine Kd.C_drewN ?_ _) | (with_reducible refine Kd.C_drew ?_))); (case side2 => exact HC0.out); rintro e w' ⟨rfl, ⟨nd, rfl⟩⟩; refine ⟨_, rfl, ?_⟩; have p254 : 0 ≤ ((ji5) : Int) := of_decide_eq_true (by first | (with_reducible assumption) | assumption); have q254 : (ji5) < (l0.length : Int) := of_decide_eq_true (by first | (with_reducible assumption) | assumption); obtain ⟨ad254, A254_0, c254_0, e254, hx254_0, hl254_0, hi254_0⟩ := at_L1 HR0.out (ji5) p254 q254; cases e254; replace hx254_0 := (HB.out.cell (World.block_lt_of_cell? w _ hx254_0)).trans hx254_0; have HR254_0 := Aside0.mk hi254_0; have HC254_0 := Aside0.mk hl254_0; clear hi254_0 hl254_0; replace p254 := eq_true p254; replace q254 := eq_true q254; have p255 : 0 ≤ ((ji5) : Int) := of_decide_eq_true (by first | (with_reducible assumption) | assumption); have q255 : (ji5) < ((rd_L1 l0 (ji5)).length : Int) := of_decide_eq_true (by first | (with_reducible assumption) | assumption); obtain ⟨ad255, e255, hx255_0⟩ := Kd.at_int HR254_0.out (ji5) p255 q255; cases e255; replace hx255_0 := (HB.out.cell (World.block_lt_of_cell? w _ hx255_0)).trans hx255_0; replace p255 := eq_true p255; replace q255 := eq_true q255))
            go_meet
            case rel => exact ⟨_, (((rd (rd_L1 l0 (ji5)) (ji5)) != (ji5))), (by first | rfl | (simp; done) | (simp only [← hji5] <;> (first | rfl | simp)) | (simp [*]; done)), H', ⟨by first | omega | exact Nat.le_refl _⟩, ⟨by repeat (first | (with_reducible first | exact HB.out | apply below_alloc | apply pw_below_drewN | apply below_drew1) | exact HB.out)⟩⟩
          · rw [if_neg c8] at H
            exact absurd H (by simp)
        · rw [if_neg c7] at H
          exact absurd H (by simp)
      · rw [if_neg c6] at H
        exact absurd H (by simp)
    · replace c4 := Bool.eq_false_iff.mpr c4
      subst c4
      have H1 : (spec_FromTriangle.j0 k l0 true) = some (r1, r2) := by rw [if_neg (show ¬ (false = true) by decide)] at H; exact H
      clear H
      have H := H1
      clear H1
      have H' := Aside0.mk H
      clear H
      go_wp2_with (first | ((with_reducible refine gate_callee (f := 57) rfl ?_); refine goesL_ (some 12) rfl rfl Try.func57 (by kernel_rfl) rfl #[.slice A0 l0.length c0] rfl (by (try simp only [List.map_toArray, List.map_cons, List.map_nil]); first | done | rfl | (simp only [List.length_drop, List.length_take]; rfl)) ?_; (with_reducible refine (spec_trGood.calls k _ _ l0 false _ ?side1 ?side2 A3.out).mono ?_); (case side1 => repeat (first | exact (Kd.C_below HR0.out HB.out) | (with_reducible refine Kd.C_alloc ?_ _) | (with_reducible refine Kd.C_drewN ?_ _) | (with_reducible refine Kd.C_drew ?_))); (case side2 => exact HC0.out); rintro e w' ⟨rfl, ⟨nd, rfl⟩⟩; refine ⟨_, rfl, ?_⟩))
      go_meet
      case rel => exact ⟨_, (true), (by first | rfl | (simp; done) | (simp [*]; done)), H', ⟨by first | omega | exact Nat.le_refl _⟩, ⟨by repeat (first | (with_reducible first | exact HB.out | apply below_alloc | apply pw_below_drewN | apply below_drew1) | exact HB.out)⟩⟩
  case rest =>
    clear HC2
    try clear c2
    try clear p2
    try clear q2
    try clear hx2
    try clear c4
    try clear c5
    try clear c6
    try clear c6b0
    try clear p6
    try clear c7
    try clear c7b0
    try clear c8
    try clear c8b0
    try clear hx254_0
    try clear hx255_0
    try clear p254
    try clear p255
    try clear q254
    try clear q255
    obtain ⟨kq, x30_1, rfl, HA, HJ1, HB⟩ := hcut
    cases kq with
    | zero => exact absurd HA.out (by simp [spec_FromTriangle.j0])
    | succ kj1 =>
      have H := HA.out
      clear HA
      simp only [spec_FromTriangle.j0] at H
      by_cases c9 : x30_1 = true
      · subst c9
        have H1 : (some (([] : List (List Int)), false)) = some (r1, r2) := by rw [if_pos rfl] at H; exact H
        clear H
        have H := H1
        clear H1
        simp only [Option.some.injEq, Prod.mk.injEq] at H
        obtain ⟨rfl, rfl⟩ := H
        go_wp2
        go_ret2
        exact ⟨_, by first | rfl | (simp [errW_none, errW_some] <;> rfl) | (simp [*, errW_none, errW_some] <;> rfl), by first | exact Kd.S_nil _ _ _ _ _ | exact Kd.N_nil _ _ _ _ _ | exact Kd.V_nil _ _ _ _ _ | exact Kd.Q_nil _ _ _ _ _ | exact Kd.R_nil _ _ _ _ _, by repeat (first | (with_reducible first | exact HB.out | apply below_alloc | apply pw_below_drewN | apply below_drew1) | exact HB.out)⟩
      · replace c9 := Bool.eq_false_iff.mpr c9
        subst c9
        have H1 : ((spec_sgZero.f kj1 (l0.length : Int)).bind fun t256 => (spec_FromTriangle.l0 kj1 l0 t256 l0 (l0.length : Int) 0)) = some (r1, r2) := by rw [if_neg (show ¬ (false = true) by decide)] at H; exact H
        clear H
        have H := H1
        clear H1
        replace H := Option.bind_eq_some_iff.mp H
        obtain ⟨t256, A100, H⟩ := H
        replace H : (spec_FromTriangle.l0 kj1 l0 t256 l0 (l0.length : Int) 0) = some (r1, r2) := H
        have A10 := Aside0.mk A100
        clear A100
        have H' := Aside0.mk H
        clear H
        go_wp2_with (first | ((with_reducible refine gate_callee (f := 58) rfl ?_); refine goesL_ (some 33) rfl rfl Try.func58 (by kernel_rfl) rfl #[.int .i64 (l0.length : Int)] rfl (by (try simp only [List.map_toArray, List.map_cons, List.map_nil]); first | done | rfl | (simp only [List.length_drop, List.length_take]; rfl)) ?_; (with_reducible refine (spec_sgZero.calls kj1 (l0.length : Int) t256 _ A10.out).mono ?_); rintro e w11 ⟨v257, rfl, ho0, hb⟩; refine ⟨_, rfl, ?_⟩; have n0_ := Aside0.mk (Kd.S_lower ho0 (below_size (by repeat (first | (with_reducible first | exact HB.out | apply below_alloc | apply pw_below_drewN | apply below_drew1) | exact HB.out)))); have n1_ := Aside0.mk (below_step (by repeat (first | (with_reducible first | exact HB.out | apply below_alloc | apply pw_below_drewN | apply below_drew1) | exact HB.out)) hb); clear HB; have HO258 := n0_; have HB := n1_; clear n0_ n1_; (try clear hb); (try clear hb2); (try clear hk); (try clear hi); (try clear ho0)))
        go_loopg [36] kj1 (fun kq v36 w' => ∃ (x4_2 : List (List Int)) (x36_2 : Int), v36 = .int .i64 x36_2 ∧ Aside0 (spec_FromTriangle.l0 kq l0 x4_2 l0 (l0.length : Int) x36_2 = some (r1, r2)) ∧ Aside0 (kq ≤ kj1) ∧ Aside0 (Kd.S (Kd.slice 3 (Kd.int .i64)) 22 w' w.heap.size (fun _ => True) v257 x4_2) ∧ Aside0 (Below w.heap.size w w'))
        case atStart => exact ⟨(t256), (0), (by first | rfl | (simp; done) | (simp [*]; done)), H', ⟨Nat.le_refl _⟩, ⟨by (with_reducible repeat (first | apply Kd.S_alloc | apply Kd.S_drewN | apply Kd.S_drew)); exact HO258.out⟩, ⟨by repeat (first | (with_reducible first | exact HB.out | apply below_alloc | apply pw_below_drewN | apply below_drew1) | exact HB.out)⟩⟩
        case round =>
          clear H'
          try clear c2
          try clear p2
          try clear q2
          try clear hx2
          try clear c4
          try clear c5
          try clear c6
          try clear c6b0
          try clear p6
          try clear c7
          try clear c7b0
          try clear c8
          try clear c8b0
          try clear c9
          try clear hx254_0
          try clear hx255_0
          try clear p2
          try clear p254
          try clear p255
          try clear p6
          try clear q2
          try clear q254
          try clear q255
          obtain ⟨x4_2, x36_2, rfl, HA, HK2, HO_4, HB⟩ := hrel
          cases gk with
          | zero => exact absurd HA.out (by simp [spec_FromTriangle.l0])
          | succ k2 =>
            have H := HA.out
            clear HA
            simp only [spec_FromTriangle.l0] at H
            by_cases c12 : x36_2 < (l0.length : Int)
            · rw [if_pos c12] at H
              have c12b0 : decide (x36_2 < (l0.length : Int)) = true := decide_eq_true c12
              clear c12
              by_cases c13 : 0 ≤ x36_2
              · rw [if_pos c13] at H
                have c13b0 : decide (0 ≤ x36_2) = true := decide_eq_true c13
                clear c13
                by_cases c14 : x36_2 < (l0.length : Int)
                · rw [if_pos c14] at H
                  have c14b0 : decide (x36_2 < (l0.length : Int)) = true := decide_eq_true c14
                  clear c14
                  have H' := Aside0.mk H
                  clear H
                  have p259 : 0 ≤ (x36_2 : Int) := of_decide_eq_true (by first | (with_reducible assumption) | assumption)
                  have q259 : x36_2 < (l0.length : Int) := of_decide_eq_true (by first | (with_reducible assumption) | assumption)
                  obtain ⟨ad259, A259_0, c259_0, e259, hx259_0, hl259_0, hi259_0⟩ := at_L1 HR0.out x36_2 p259 q259
                  cases e259
                  (try replace hx259_0 := (HB.out.cell (World.block_lt_of_cell? w _ hx259_0)).trans hx259_0)
                  have HR259_0 := Aside0.mk hi259_0
                  have HC259_0 := Aside0.mk hl259_0
                  clear hi259_0 hl259_0
                  replace p259 := eq_true p259
                  replace q259 := eq_true q259
                  go_wp2
                  go_loopg [43] k2 (fun kq v43 w' => ∃ (x4_3 : List (List Int)) (x43_3 : Int), v43 = .int .i64 x43_3 ∧ Aside0 (spec_FromTriangle.l1 kq l0 x4_3 x36_2 l0 (l0.length : Int) x36_2 (rd_L1 l0 x36_2) ((rd_L1 l0 x36_2).length : Int) x43_3 = some (r1, r2)) ∧ Aside0 (kq ≤ k2) ∧ Aside0 (Kd.S (Kd.slice 3 (Kd.int .i64)) 22 w' w.heap.size (fun _ => True) v257 x4_3) ∧ Aside0 (Below w.heap.size w w'))
                  case atStart => exact ⟨(x4_2), (0), (by first | rfl | (simp; done) | (simp [*]; done)), H', ⟨Nat.le_refl _⟩, ⟨by (with_reducible repeat (first | apply Kd.S_alloc | apply Kd.S_drewN | apply Kd.S_drew)); exact HO_4.out⟩, ⟨by repeat (first | (with_reducible first | exact HB.out | apply below_alloc | apply pw_below_drewN | apply below_drew1) | exact HB.out)⟩⟩
                  case round =>
                    clear H'
                    try clear c1
                    try clear c2
                    try clear p2
                    try clear q2
                    try clear hx2
                    try clear c4
                    try clear c5
                    try clear c6
                    try clear c6b0
                    try clear p6
                    try clear c7
                    try clear c7b0
                    try clear c8
                    try clear c8b0
                    try clear c9
                    try clear c12
                    try clear c12b0
                    try clear c13
                    try clear c13b0
                    try clear c14
                    try clear c14b0
                    try clear hx254_0
                    try clear hx255_0
                    try clear hx259_0
                    try clear p2
                    try clear p254
                    try clear p255
                    try clear p259
                    try clear p6
                    try clear q2
                    try clear q254
                    try clear q255
                    try clear q259
                    obtain ⟨x4_3, x43_3, rfl, HA, HK3, HO_4, HB⟩ := hrel
                    cases gk with
                    | zero => exact absurd HA.out (by simp [spec_FromTriangle.l1])
                    | succ k3 =>
                      have H := HA.out
                      clear HA
                      simp only [spec_FromTriangle.l1] at H
                      by_cases c15 : x43_3 < ((rd_L1 l0 x36_2).length : Int)
                      · rw [if_pos c15] at H
                        have c15b0 : decide (x43_3 < ((rd_L1 l0 x36_2).length : Int)) = true := decide_eq_true c15
                        clear c15
                        by_cases c16 : 0 ≤ x43_3
                        · rw [if_pos c16] at H
                          have c16b0 : decide (0 ≤ x43_3) = true := decide_eq_true c16
                          clear c16
                          by_cases c17 : x43_3 < ((rd_L1 l0 x36_2).length : Int)
                          · rw [if_pos c17] at H
                            have c17b0 : decide (x43_3 < ((rd_L1 l0 x36_2).length : Int)) = true := decide_eq_true c17
                            clear c17
                            by_cases c18 : 0 ≤ x36_2
                            · rw [if_pos c18] at H
                              have c18b0 : decide (0 ≤ x36_2) = true := decide_eq_true c18
                              clear c18
                              by_cases c19 : x36_2 < (x4_3.length : Int)
                              · rw [if_pos c19] at H
                                have c19b0 : decide (x36_2 < (x4_3.length : Int)) = true := decide_eq_true c19
                                clear c19
                                by_cases c20 : 0 ≤ (rd (rd_L1 l0 x36_2) x43_3)
                                · rw [if_pos c20] at H
                                  have c20b0 : decide (0 ≤ (rd (rd_L1 l0 x36_2) x43_3)) = true := decide_eq_true c20
                                  clear c20
                                  by_cases c21 : (rd (rd_L1 l0 x36_2) x43_3) < ((rd_L1 x4_3 x36_2).length : Int)
                                  · rw [if_pos c21] at H
                                    have c21b0 : decide ((rd (rd_L1 l0 x36_2) x43_3) < ((rd_L1 x4_3 x36_2).length : Int)) = true := decide_eq_true c21
                                    clear c21
                                    obtain ⟨y263, hy263⟩ : ∃ y_ : List Int, y_ = ((rd_L1 x4_3 x36_2).set ((rd (rd_L1 l0 x36_2) x43_3) : Int).toNat (wrap64 ((rd (rd_L1 x4_3 x36_2) (rd (rd_L1 l0 x36_2) x43_3)) + 1))) := ⟨_, rfl⟩
                                    replace H : (spec_FromTriangle.l1 k3 l0 (x4_3.set (x36_2 : Int).toNat y263) x36_2 l0 (l0.length : Int) x36_2 (rd_L1 l0 x36_2) ((rd_L1 l0 x36_2).length : Int) (wrap64 (x43_3 + 1))) = some (r1, r2) := by first | (rw [hy263]; with_reducible exact H) | (have H2_ := (Option.bind_some _ _).symm.trans H; rw [hy263]; with_reducible exact H2_) | (have H2_ := (Option.bind_some _ _).symm.trans H; with_reducible exact H2_) | with_reducible exact H | (rw [hy263]; exact H) | exact H
                                    have Ny263 := Aside0.mk hy263
                                    clear hy263
                                    obtain ⟨y265, hy265⟩ : ∃ y_ : List (List Int), y_ = (x4_3.set (x36_2 : Int).toNat y263) := ⟨_, rfl⟩
                                    replace H : (spec_FromTriangle.l1 k3 l0 y265 x36_2 l0 (l0.length : Int) x36_2 (rd_L1 l0 x36_2) ((rd_L1 l0 x36_2).length : Int) (wrap64 (x43_3 + 1))) = some (r1, r2) := by first | (rw [hy265]; with_reducible exact H) | (have H2_ := (Option.bind_some _ _).symm.trans H; rw [hy265]; with_reducible exact H2_) | (have H2_ := (Option.bind_some _ _).symm.trans H; with_reducible exact H2_) | with_reducible exact H | (rw [hy265]; exact H) | exact H
                                    have Ny265 := Aside0.mk hy265
                                    clear hy265
                                    have H' := Aside0.mk H
                                    clear H
                                    have p260 : 0 ≤ (x43_3 : Int) := of_decide_eq_true (by first | (with_reducible assumption) | assumption)
                                    have q260 : x43_3 < ((rd_L1 l0 x36_2).length : Int) := of_decide_eq_true (by first | (with_reducible assumption) | assumption)
                                    obtain ⟨ad260, e260, hx260_0⟩ := Kd.at_int HR259_0.out x43_3 p260 q260
                                    cases e260
                                    (try replace hx260_0 := (HB.out.cell (World.block_lt_of_cell? w _ hx260_0)).trans hx260_0)
                                    replace p260 := eq_true p260
                                    replace q260 := eq_true q260
                                    obtain ⟨Ao23, co23, eo23⟩ := Kd.S_slice HO_4.out
                                    subst eo23
                                    have p261 : 0 ≤ (x36_2 : Int) := of_decide_eq_true (by first | (with_reducible assumption) | assumption)
                                    have q261 : x36_2 < (x4_3.length : Int) := of_decide_eq_true (by first | (with_reducible assumption) | assumption)
                                    obtain ⟨ad261, A261_0, c261_0, e261, hx261_0, hl261_0, hi261_0⟩ := at_L1 (Kd.S_reads' HO_4.out).2.2 x36_2 p261 q261
                                    cases e261
                                    obtain ⟨ce261, hce261, hMe261, hcc261⟩ := Kd.S_get HO_4.out [] x36_2 p261 (by first | exact q261 | exact of_decide_eq_true (by first | (with_reducible assumption) | assumption) | (have e_ := (Kd.S_reads' HO_4.out).1; omega))
                                    obtain ⟨ve261_0, rfl, ge261_0⟩ := hMe261
                                    have hv261_0 := hcc261 0 _ rfl
                                    rw [Nat.add_zero, show ((Kd.slice 3 (Kd.int .i64))).sz = 1 from rfl, Nat.mul_one] at hv261_0
                                    replace hv261_0 := Option.some.inj (hv261_0.symm.trans hx261_0)
                                    rw [hv261_0] at ge261_0
                                    have HL261_0 := Aside0.mk (show Kd.R (Kd.int .i64) 3 _ _ _ _ (rd_L1 x4_3 x36_2) from ge261_0)
                                    clear hv261_0 ge261_0
                                    have HX261_0 := Aside0.mk hx261_0
                                    clear hcc261 hce261
                                    have HR261_0 := Aside0.mk hi261_0
                                    have HC261_0 := Aside0.mk hl261_0
                                    clear hi261_0 hl261_0
                                    replace p261 := eq_true p261
                                    replace q261 := eq_true q261
                                    have p262 : 0 ≤ ((rd (rd_L1 l0 x36_2) x43_3) : Int) := of_decide_eq_true (by first | (with_reducible assumption) | assumption)
                                    have q262 : (rd (rd_L1 l0 x36_2) x43_3) < ((rd_L1 x4_3 x36_2).length : Int) := of_decide_eq_true (by first | (with_reducible assumption) | assumption)
                                    obtain ⟨ad262, e262, hx262_0⟩ := Kd.at_int (by repeat (first | (with_reducible exact HR261_0.out) | (with_reducible refine Kd.C_alloc ?_ _) | (with_reducible refine Kd.C_drewN ?_ _) | (with_reducible refine Kd.C_drew ?_) | exact HR261_0.out)) (rd (rd_L1 l0 x36_2) x43_3) p262 q262
                                    cases e262
                                    replace p262 := eq_true p262
                                    replace q262 := eq_true q262
                                    have p22 : 0 ≤ ((rd (rd_L1 l0 x36_2) x43_3) : Int) := of_decide_eq_true (by first | (with_reducible assumption) | assumption)
                                    have q22 : ((rd (rd_L1 l0 x36_2) x43_3) : Int) < (((rd_L1 x4_3 x36_2).length : Int) : Int) := of_decide_eq_true (by first | (with_reducible assumption) | assumption)
                                    obtain ⟨go22, co22, eo22, gb22, gl22, cl22, HG22⟩ := Kd.R_form HL261_0.out (by omega)
                                    (first | cases eo22 | (injection eo22 with ea_ en_ ec_; (first | subst ea_ | (injection ea_ with ea_; subst ea_)); subst ec_; clear en_))
                                    have GB22 := Aside0.mk gb22
                                    have GG22 := Aside0.mk HG22
                                    clear gb22 gl22 HG22
                                    (first | simp only [add_plain] at hx262_0 | skip)
                                    obtain ⟨hx22_0, hf22_0⟩ := Kd.R_celln 0 HL261_0.out ((rd (rd_L1 l0 x36_2) x43_3) : Int) p22 q22
                                    replace p22 := eq_true p22
                                    replace q22 := eq_true q22
                                    have hq24 : (x36_2 : Int) < (x4_3.length : Int) := (by have h_ : (x36_2 : Int) < ((x4_3.length : Int) : Int) := of_decide_eq_true (by first | (with_reducible assumption) | assumption); first | exact h_ | (have e_ := (Kd.S_reads' HO_4.out).1; omega) | simpa only [List.length_set, List.length_set] using h_)
                                    obtain ⟨oki24, ce24, hcl24, hM24, hcc24, hok24, hbk24⟩ := Kd.S_borrow HO_4.out [] (x36_2 : Int) (of_decide_eq_true (by first | (with_reducible assumption) | assumption)) (by first | exact hq24 | (have e_ := (Kd.S_reads' HO_4.out).1; have h_ := hq24; omega))
                                    obtain ⟨ve24_0, rfl, ge24_0⟩ := hM24
                                    have hv24 := hcc24 0 _ rfl
                                    rw [Nat.add_zero, show ((Kd.slice 3 (Kd.int .i64))).sz = 1 from rfl, Nat.mul_one] at hv24
                                    replace hv24 := Option.some.inj (hv24.symm.trans HX261_0.out)
                                    subst hv24
                                    clear hcc24 hcl24
                                    replace ge24_0 := (show Kd.R (Kd.int .i64) 3 _ _ _ _ (rd_L1 x4_3 x36_2) from ge24_0)
                                    have HP24 := Kd.R_putg ge24_0 ((rd (rd_L1 l0 x36_2) x43_3) : Int) (wrap64 ((rd (rd_L1 x4_3 x36_2) (rd (rd_L1 l0 x36_2) x43_3)) + 1))
                                    go_wp2_with (first | ((with_reducible refine gate_store (t := 3) (p := 55) rfl ?_); refine store_event (t := 3) (p := 55) (v := ?vo_w25) (w1 := (wr.setCell ⟨go22, ((rd (rd_L1 l0 x36_2) x43_3) : Int).toNat, none⟩ (.int .i64 (wrap64 ((rd (rd_L1 x4_3 x36_2) (rd (rd_L1 l0 x36_2) x43_3)) + 1))))) ?hg ?ho ?hn ?hr ?_; (case ho => rfl); (case hg => rfl); (case hn => rfl); (case hr => first | (go_simp; done) | (go_simp; rfl)); intro w25 hw; have hg : wr.grownBy w25 (some go22) := (by rw [hw]; exact HP24.2); have hz_ : Kd.R (Kd.int .i64) 3 w25 w.heap.size oki24 (.slice (some ⟨go22, 0, none⟩) (rd_L1 x4_3 x36_2).length c261_0) y263 := (by rw [hw, Ny263.out]; exact HP24.1); have hp_ : Kd.S (Kd.slice 3 (Kd.int .i64)) 22 w25 w.heap.size (fun _ => True) (.slice (some ad261) x4_3.length co23) y265 := (by rw [Ny265.out]; exact hbk24 hg (fun k_ e_ => by injection e_ with e_; subst e_; exact ge24_0.1 _ rfl) (Kd.M_row hz_)); have hm_ := Kd.R_mono hz_ hok24; clear HP24 hbk24; have n0_ := Aside0.mk (hp_); have n1_ := Aside0.mk ((by rw [hw]; exact below_set (HB.out) GB22.out : Below w.heap.size w w25)); have n2_ := Aside0.mk (hm_); have n3_ := Aside0.mk ((Kd.R_reads' hm_).2.1); clear HO_4; clear HB; clear HL261_0; have HO_4 := n0_; have HB := n1_; have HL273 := n2_; have HC264 := n3_; clear n0_ n1_ n2_ n3_; clear hg hw hp_ hz_ hm_ hok24))
                                    go_roundg k3
                                    case measure => have := HJ1.out; have := HK2.out; have := HK3.out; omega
                                    case rel => exact ⟨(y265), (wrap64 (x43_3 + 1)), (by first | rfl | (simp; done) | (simp [*]; done)), H', ⟨by have := HJ1.out; have := HK2.out; have := HK3.out; omega⟩, ⟨by (with_reducible repeat (first | apply Kd.S_alloc | apply Kd.S_drewN | apply Kd.S_drew)); exact HO_4.out⟩, ⟨by repeat (first | (with_reducible first | exact HB.out | apply below_alloc | apply pw_below_drewN | apply below_drew1) | exact HB.out)⟩⟩
                                  · rw [if_neg c21] at H
                                    exact absurd H (by simp)
                                · rw [if_neg c20] at H
                                  exact absurd H (by simp)
                              · rw [if_neg c19] at H
                                exact absurd H (by simp)
                            · rw [if_neg c18] at H
                              exact absurd H (by simp)
                          · rw [if_neg c17] at H
                            exact absurd H (by simp)
                        · rw [if_neg c16] at H
                          exact absurd H (by simp)
                      · rw [if_neg c15] at H
                        have c15b0 : decide (x43_3 < ((rd_L1 l0 x36_2).length : Int)) = false := decide_eq_false c15
                        clear c15
                        by_cases c26 : x36_2 > 0
                        · rw [if_pos c26] at H
                          have c26b0 : decide (0 < x36_2) = true := decide_eq_true c26
                          clear c26
                          obtain ⟨ji27, hji27⟩ : ∃ j_ : Int, (wrap64 (x36_2 - 1)) = j_ := ⟨_, rfl⟩
                          replace H : (if 0 ≤ (ji27) then (if (ji27) < (l0.length : Int) then (spec_FromTriangle.l2 k3 l0 x4_3 x36_2 l0 (l0.length : Int) x36_2 (rd_L1 l0 (ji27)) ((rd_L1 l0 (ji27)).length : Int) 0) else (none)) else (none)) = some (r1, r2) := by first | (rw [hji27] at H; exact H) | (simp only [hji27] at H ⊢; exact H)
                          have hji27w : (IntKind.i64.wrap (x36_2 - 1)) = ji27 := (i64_w _).trans hji27
                          by_cases c28 : 0 ≤ (ji27)
                          · rw [if_pos c28] at H
                            have c28b0 : decide (0 ≤ (ji27)) = true := decide_eq_true c28
                            clear c28
                            by_cases c29 : (ji27) < (l0.length : Int)
                            · rw [if_pos c29] at H
                              have c29b0 : decide ((ji27) < (l0.length : Int)) = true := decide_eq_true c29
                              clear c29
                              have H' := Aside0.mk H
                              clear H
                              have p266 : 0 ≤ ((ji27) : Int) := of_decide_eq_true (by first | (with_reducible assumption) | assumption)
                              have q266 : (ji27) < (l0.length : Int) := of_decide_eq_true (by first | (with_reducible assumption) | assumption)
                              obtain ⟨ad266, A266_0, c266_0, e266, hx266_0, hl266_0, hi266_0⟩ := at_L1 HR0.out (ji27) p266 q266
                              obtain rfl : ad259 = ad266 := (by injection e266)
                              (try replace hx266_0 := (HB.out.cell (World.block_lt_of_cell? w _ hx266_0)).trans hx266_0)
                              have HR266_0 := Aside0.mk hi266_0
                              have HC266_0 := Aside0.mk hl266_0
                              clear hi266_0 hl266_0
                              replace p266 := eq_true p266
                              replace q266 := eq_true q266
                              go_wp2
                              go_loopg [65] k3 (fun kq v65 w' => ∃ (x4_4 : List (List Int)) (x65_4 : Int), v65 = .int .i64 x65_4 ∧ Aside0 (spec_FromTriangle.l2 kq l0 x4_4 x36_2 l0 (l0.length : Int) x36_2 (rd_L1 l0 (ji27)) ((rd_L1 l0 (ji27)).length : Int) x65_4 = some (r1, r2)) ∧ Aside0 (kq ≤ k3) ∧ Aside0 (Kd.S (Kd.slice 3 (Kd.int .i64)) 22 w' w.heap.size (fun _ => True) v257 x4_4) ∧ Aside0 (Below w.heap.size w w'))
                              case atStart => exact ⟨(x4_3), (0), (by first | rfl | (simp; done) | (simp [*]; done)), H', ⟨Nat.le_refl _⟩, ⟨by (with_reducible repeat (first | apply Kd.S_alloc | apply Kd.S_drewN | apply Kd.S_drew)); exact HO_4.out⟩, ⟨by repeat (first | (with_reducible first | exact HB.out | apply below_alloc | apply pw_below_drewN | apply below_drew1) | exact HB.out)⟩⟩
                              case round =>
                                clear H'
                                try clear c1
                                try clear c2
                                try clear p2
                                try clear q2
                                try clear hx2
                                try clear hf2
                                try clear c4
                                try clear c5
                                try clear c6
                                try clear c6b0
                                try clear p6
                                try clear c7
                                try clear c7b0
                                try clear c8
                                try clear c8b0
                                try clear c9
                                try clear c12
                                try clear c12b0
                                try clear c13
                                try clear c13b0
                                try clear c14
                                try clear c14b0
                                try clear c15
                                try clear c15b0
                                try clear c16
                                try clear c16b0
                                try clear c17
                                try clear c17b0
                                try clear c18
                                try clear c18b0
                                try clear c19
                                try clear c19b0
                                try clear c20
                                try clear c20b0
                                try clear c21
                                try clear c21b0
                                try clear p22
                                try clear q22
                                try clear hx22
                                try clear hf22
                                try clear c24
                                try clear q24
                                try clear c25
                                try clear p25
                                try clear q25
                                try clear hx25
                                try clear c26
                                try clear c26b0
                                try clear p26
                                try clear q26
                                try clear hx26
                                try clear c28
                                try clear c28b0
                                try clear c29
                                try clear c29b0
                                try clear hx22_0
                                try clear hx254_0
                                try clear hx255_0
                                try clear hx259_0
                                try clear hx260_0
                                try clear hx261_0
                                try clear hx262_0
                                try clear hx266_0
                                try clear p2
                                try clear p22
                                try clear p254
                                try clear p255
                                try clear p259
                                try clear p260
                                try clear p261
                                try clear p262
                                try clear p266
                                try clear p6
                                try clear q2
                                try clear q22
                                try clear q254
                                try clear q255
                                try clear q259
                                try clear q260
                                try clear q261
                                try clear q262
                                try clear q266
                                obtain ⟨x4_4, x65_4, rfl, HA, HK4, HO_4, HB⟩ := hrel
                                cases gk with
                                | zero => exact absurd HA.out (by simp [spec_FromTriangle.l2])
                                | succ k4 =>
                                  have H := HA.out
                                  clear HA
                                  simp only [spec_FromTriangle.l2] at H
                                  by_cases c30 : x65_4 < ((rd_L1 l0 (ji27)).length : Int)
                                  · rw [if_pos c30] at H
                                    have c30b0 : decide (x65_4 < ((rd_L1 l0 (ji27)).length : Int)) = true := decide_eq_true c30
                                    clear c30
                                    by_cases c31 : 0 ≤ x65_4
                                    · rw [if_pos c31] at H
                                      have c31b0 : decide (0 ≤ x65_4) = true := decide_eq_true c31
                                      clear c31
                                      by_cases c32 : x65_4 < ((rd_L1 l0 (ji27)).length : Int)
                                      · rw [if_pos c32] at H
                                        have c32b0 : decide (x65_4 < ((rd_L1 l0 (ji27)).length : Int)) = true := decide_eq_true c32
                                        clear c32
                                        by_cases c33 : 0 ≤ x36_2
                                        · rw [if_pos c33] at H
                                          have c33b0 : decide (0 ≤ x36_2) = true := decide_eq_true c33
                                          clear c33
                                          by_cases c34 : x36_2 < (x4_4.length : Int)
                                          · rw [if_pos c34] at H
                                            have c34b0 : decide (x36_2 < (x4_4.length : Int)) = true := decide_eq_true c34
                                            clear c34
                                            by_cases c35 : 0 ≤ (rd (rd_L1 l0 (ji27)) x65_4)
                                            · rw [if_pos c35] at H
                                              have c35b0 : decide (0 ≤ (rd (rd_L1 l0 (ji27)) x65_4)) = true := decide_eq_true c35
                                              clear c35
                                              by_cases c36 : (rd (rd_L1 l0 (ji27)) x65_4) < ((rd_L1 x4_4 x36_2).length : Int)
                                              · rw [if_pos c36] at H
                                                have c36b0 : decide ((rd (rd_L1 l0 (ji27)) x65_4) < ((rd_L1 x4_4 x36_2).length : Int)) = true := decide_eq_true c36
                                                clear c36
                                                obtain ⟨y270, hy270⟩ : ∃ y_ : List Int, y_ = ((rd_L1 x4_4 x36_2).set ((rd (rd_L1 l0 (ji27)) x65_4) : Int).toNat (wrap64 ((rd (rd_L1 x4_4 x36_2) (rd (rd_L1 l0 (ji27)) x65_4)) - 1))) := ⟨_, rfl⟩
                                                replace H : (spec_FromTriangle.l2 k4 l0 (x4_4.set (x36_2 : Int).toNat y270) x36_2 l0 (l0.length : Int) x36_2 (rd_L1 l0 (ji27)) ((rd_L1 l0 (ji27)).length : Int) (wrap64 (x65_4 + 1))) = some (r1, r2) := by first | (rw [hy270]; with_reducible exact H) | (have H2_ := (Option.bind_some _ _).symm.trans H; rw [hy270]; with_reducible exact H2_) | (have H2_ := (Option.bind_some _ _).symm.trans H; with_reducible exact H2_) | with_reducible exact H | (rw [hy270]; exact H) | exact H
                                                have Ny270 := Aside0.mk hy270
                                                clear hy270
                                                obtain ⟨y272, hy272⟩ : ∃ y_ : List (List Int), y_ = (x4_4.set (x36_2 : Int).toNat y270) := ⟨_, rfl⟩
                                                replace H : (spec_FromTriangle.l2 k4 l0 y272 x36_2 l0 (l0.length : Int) x36_2 (rd_L1 l0 (ji27)) ((rd_L1 l0 (ji27)).length : Int) (wrap64 (x65_4 + 1))) = some (r1, r2) := by first | (rw [hy272]; with_reducible exact H) | (have H2_ := (Option.bind_some _ _).symm.trans H; rw [hy272]; with_reducible exact H2_) | (have H2_ := (Option.bind_some _ _).symm.trans H; with_reducible exact H2_) | with_reducible exact H | (rw [hy272]; exact H) | exact H
                                                have Ny272 := Aside0.mk hy272
                                                clear hy272
                                                have H' := Aside0.mk H
                                                clear H
                                                have p267 : 0 ≤ (x65_4 : Int) := of_decide_eq_true (by first | (with_reducible assumption) | assumption)
                                                have q267 : x65_4 < ((rd_L1 l0 (ji27)).length : Int) := of_decide_eq_true (by first | (with_reducible assumption) | assumption)
                                                obtain ⟨ad267, e267, hx267_0⟩ := Kd.at_int HR266_0.out x65_4 p267 q267
                                                cases e267
                                                (try replace hx267_0 := (HB.out.cell (World.block_lt_of_cell? w _ hx267_0)).trans hx267_0)
                                                replace p267 := eq_true p267
                                                replace q267 := eq_true q267
                                                obtain ⟨Ao38, co38, eo38⟩ := Kd.S_slice HO_4.out
                                                subst eo38
                                                have p268 : 0 ≤ (x36_2 : Int) := of_decide_eq_true (by first | (with_reducible assumption) | assumption)
                                                have q268 : x36_2 < (x4_4.length : Int) := of_decide_eq_true (by first | (with_reducible assumption) | assumption)
                                                obtain ⟨ad268, A268_0, c268_0, e268, hx268_0, hl268_0, hi268_0⟩ := at_L1 (Kd.S_reads' HO_4.out).2.2 x36_2 p268 q268
                                                cases e268
                                                obtain ⟨ce268, hce268, hMe268, hcc268⟩ := Kd.S_get HO_4.out [] x36_2 p268 (by first | exact q268 | exact of_decide_eq_true (by first | (with_reducible assumption) | assumption) | (have e_ := (Kd.S_reads' HO_4.out).1; omega))
                                                obtain ⟨ve268_0, rfl, ge268_0⟩ := hMe268
                                                have hv268_0 := hcc268 0 _ rfl
                                                rw [Nat.add_zero, show ((Kd.slice 3 (Kd.int .i64))).sz = 1 from rfl, Nat.mul_one] at hv268_0
                                                replace hv268_0 := Option.some.inj (hv268_0.symm.trans hx268_0)
                                                rw [hv268_0] at ge268_0
                                                have HL268_0 := Aside0.mk (show Kd.R (Kd.int .i64) 3 _ _ _ _ (rd_L1 x4_4 x36_2) from ge268_0)
                                                clear hv268_0 ge268_0
                                                have HX268_0 := Aside0.mk hx268_0
                                                clear hcc268 hce268
                                                have HR268_0 := Aside0.mk hi268_0
                                                have HC268_0 := Aside0.mk hl268_0
                                                clear hi268_0 hl268_0
                                                replace p268 := eq_true p268
                                                replace q268 := eq_true q268
                                                have p269 : 0 ≤ ((rd (rd_L1 l0 (ji27)) x65_4) : Int) := of_decide_eq_true (by first | (with_reducible assumption) | assumption)
                                                have q269 : (rd (rd_L1 l0 (ji27)) x65_4) < ((rd_L1 x4_4 x36_2).length : Int) := of_decide_eq_true (by first | (with_reducible assumption) | assumption)
                                                obtain ⟨ad269, e269, hx269_0⟩ := Kd.at_int (by repeat (first | (with_reducible exact HR268_0.out) | (with_reducible refine Kd.C_alloc ?_ _) | (with_reducible refine Kd.C_drewN ?_ _) | (with_reducible refine Kd.C_drew ?_) | exact HR268_0.out)) (rd (rd_L1 l0 (ji27)) x65_4) p269 q269
                                                cases e269
                                                replace p269 := eq_true p269
                                                replace q269 := eq_true q269
                                                have p37 : 0 ≤ ((rd (rd_L1 l0 (ji27)) x65_4) : Int) := of_decide_eq_true (by first | (with_reducible assumption) | assumption)
                                                have q37 : ((rd (rd_L1 l0 (ji27)) x65_4) : Int) < (((rd_L1 x4_4 x36_2).length : Int) : Int) := of_decide_eq_true (by first | (with_reducible assumption) | assumption)
                                                obtain ⟨go37, co37, eo37, gb37, gl37, cl37, HG37⟩ := Kd.R_form HL268_0.out (by omega)
                                                (first | cases eo37 | (injection eo37 with ea_ en_ ec_; (first | subst ea_ | (injection ea_ with ea_; subst ea_)); subst ec_; clear en_))
                                                have GB37 := Aside0.mk gb37
                                                have GG37 := Aside0.mk HG37
                                                clear gb37 gl37 HG37
                                                (first | simp only [add_plain] at hx269_0 | skip)
                                                obtain ⟨hx37_0, hf37_0⟩ := Kd.R_celln 0 HL268_0.out ((rd (rd_L1 l0 (ji27)) x65_4) : Int) p37 q37
                                                replace p37 := eq_true p37
                                                replace q37 := eq_true q37
                                                have hq39 : (x36_2 : Int) < (x4_4.length : Int) := (by have h_ : (x36_2 : Int) < ((x4_4.length : Int) : Int) := of_decide_eq_true (by first | (with_reducible assumption) | assumption); first | exact h_ | (have e_ := (Kd.S_reads' HO_4.out).1; omega) | simpa only [List.length_set, List.length_set] using h_)
                                                obtain ⟨oki39, ce39, hcl39, hM39, hcc39, hok39, hbk39⟩ := Kd.S_borrow HO_4.out [] (x36_2 : Int) (of_decide_eq_true (by first | (with_reducible assumption) | assumption)) (by first | exact hq39 | (have e_ := (Kd.S_reads' HO_4.out).1; have h_ := hq39; omega))
                                                obtain ⟨ve39_0, rfl, ge39_0⟩ := hM39
                                                have hv39 := hcc39 0 _ rfl
                                                rw [Nat.add_zero, show ((Kd.slice 3 (Kd.int .i64))).sz = 1 from rfl, Nat.mul_one] at hv39
                                                replace hv39 := Option.some.inj (hv39.symm.trans HX268_0.out)
                                                subst hv39
                                                clear hcc39 hcl39
                                                replace ge39_0 := (show Kd.R (Kd.int .i64) 3 _ _ _ _ (rd_L1 x4_4 x36_2) from ge39_0)
                                                have HP39 := Kd.R_putg ge39_0 ((rd (rd_L1 l0 (ji27)) x65_4) : Int) (wrap64 ((rd (rd_L1 x4_4 x36_2) (rd (rd_L1 l0 (ji27)) x65_4)) - 1))
                                                go_wp2_with (first | ((with_reducible refine gate_store (t := 3) (p := 77) rfl ?_); refine store_event (t := 3) (p := 77) (v := ?vo_w40) (w1 := (wr.setCell ⟨go37, ((rd (rd_L1 l0 (ji27)) x65_4) : Int).toNat, none⟩ (.int .i64 (wrap64 ((rd (rd_L1 x4_4 x36_2) (rd (rd_L1 l0 (ji27)) x65_4)) - 1))))) ?hg ?ho ?hn ?hr ?_; (case ho => rfl); (case hg => rfl); (case hn => rfl); (case hr => first | (go_simp; done) | (go_simp; rfl)); intro w40 hw; have hg : wr.grownBy w40 (some go37) := (by rw [hw]; exact HP39.2); have hz_ : Kd.R (Kd.int .i64) 3 w40 w.heap.size oki39 (.slice (some ⟨go37, 0, none⟩) (rd_L1 x4_4 x36_2).length c268_0) y270 := (by rw [hw, Ny270.out]; exact HP39.1); have hp_ : Kd.S (Kd.slice 3 (Kd.int .i64)) 22 w40 w.heap.size (fun _ => True) (.slice (some ad268) x4_4.length co38) y272 := (by rw [Ny272.out]; exact hbk39 hg (fun k_ e_ => by injection e_ with e_; subst e_; exact ge39_0.1 _ rfl) (Kd.M_row hz_)); have hm_ := Kd.R_mono hz_ hok39; clear HP39 hbk39; have n0_ := Aside0.mk (hp_); have n1_ := Aside0.mk ((by rw [hw]; exact below_set (HB.out) GB37.out : Below w.heap.size w w40)); have n2_ := Aside0.mk (hm_); have n3_ := Aside0.mk ((Kd.R_reads' hm_).2.1); clear HO_4; clear HB; clear HL268_0; have HO_4 := n0_; have HB := n1_; have HL274 := n2_; have HC271 := n3_; clear n0_ n1_ n2_ n3_; clear hg hw hp_ hz_ hm_ hok39))
                                                go_roundg k4
                                                case measure => have := HJ1.out; have := HK2.out; have := HK3.out; have := HK4.out; omega
                                                case rel => exact ⟨(y272), (wrap64 (x65_4 + 1)), (by first | rfl | (simp; done) | (simp [*]; done)), H', ⟨by have := HJ1.out; have := HK2.out; have := HK3.out; have := HK4.out; omega⟩, ⟨by (with_reducible repeat (first | apply Kd.S_alloc | apply Kd.S_drewN | apply Kd.S_drew)); exact HO_4.out⟩, ⟨by repeat (first | (with_reducible first | exact HB.out | apply below_alloc | apply pw_below_drewN | apply below_drew1) | exact HB.out)⟩⟩
                                              · rw [if_neg c36] at H
                                                exact absurd H (by simp)
                                            · rw [if_neg c35] at H
                                              exact absurd H (by simp)
                                          · rw [if_neg c34] at H
                                            exact absurd H (by simp)
                                        · rw [if_neg c33] at H
                                          exact absurd H (by simp)
                                      · rw [if_neg c32] at H
                                        exact absurd H (by simp)
                                    · rw [if_neg c31] at H
                                      exact absurd H (by simp)
                                  · rw [if_neg c30] at H
                                    have c30b0 : decide (x65_4 < ((rd_L1 l0 (ji27)).length : Int)) = false := decide_eq_false c30
                                    clear c30
                                    have H' := Aside0.mk H
                                    clear H
                                    go_wp2
                                    go_roundg k4
                                    case measure => have := HJ1.out; have := HK2.out; have := HK3.out; have := HK4.out; omega
                                    case rel => exact ⟨(x4_4), (wrap64 (x36_2 + 1)), (by first | rfl | (simp; done) | (simp [*]; done)), H', ⟨by have := HJ1.out; have := HK2.out; have := HK3.out; have := HK4.out; omega⟩, ⟨by (with_reducible repeat (first | apply Kd.S_alloc | apply Kd.S_drewN | apply Kd.S_drew)); exact HO_4.out⟩, ⟨by repeat (first | (with_reducible first | exact HB.out | apply below_alloc | apply pw_below_drewN | apply below_drew1) | exact HB.out)⟩⟩
                            · rw [if_neg c29] at H
                              exact absurd H (by simp)
                          · rw [if_neg c28] at H
                            exact absurd H (by simp)
                        · rw [if_neg c26] at H
                          have c26b0 : decide (0 < x36_2) = false := decide_eq_false c26
                          clear c26
                          have H' := Aside0.mk H
                          clear H
                          go_wp2
                          go_roundg k3
                          case measure => have := HJ1.out; have := HK2.out; have := HK3.out; omega
                          case rel => exact ⟨(x4_3), (wrap64 (x36_2 + 1)), (by first | rfl | (simp; done) | (simp [*]; done)), H', ⟨by have := HJ1.out; have := HK2.out; have := HK3.out; omega⟩, ⟨by (with_reducible repeat (first | apply Kd.S_alloc | apply Kd.S_drewN | apply Kd.S_drew)); exact HO_4.out⟩, ⟨by repeat (first | (with_reducible first | exact HB.out | apply below_alloc | apply pw_below_drewN | apply below_drew1) | exact HB.out)⟩⟩
                · rw [if_neg c14] at H
                  exact absurd H (by simp)
              · rw [if_neg c13] at H
                exact absurd H (by simp)
            · rw [if_neg c12] at H
              have c12b0 : decide (x36_2 < (l0.length : Int)) = false := decide_eq_false c12
              clear c12
              simp only [Option.some.injEq, Prod.mk.injEq] at H
              obtain ⟨rfl, rfl⟩ := H
              go_wp2
              go_ret2
              exact ⟨_, by first | rfl | (simp [errW_none, errW_some] <;> rfl) | (simp [*, errW_none, errW_some] <;> rfl), by (with_reducible repeat (first | apply Kd.S_alloc | apply Kd.S_drewN | apply Kd.S_drew)); exact HO_4.out, by repeat (first | (with_reducible first | exact HB.out | apply below_alloc | apply pw_below_drewN | apply below_drew1) | exact HB.out)⟩

end Go.Proofs.Ythjiajkmaimbjaa.P
