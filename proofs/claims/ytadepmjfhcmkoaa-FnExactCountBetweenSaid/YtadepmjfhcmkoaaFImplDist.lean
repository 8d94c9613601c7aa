-- By gp.py (this session's own driver over the kit's print). Not trusted: Lean checks it.
import Derived.Test.YtadepmjfhcmkoaaF0
import Derived.Test.YtadepmjfhcmkoaaB
import Derived.Test.YtadepmjfhcmkoaaTab
import Derived.Test.YtadepmjfhcmkoaaFImplCorn
import Derived.Test.YtadepmjfhcmkoaaFImplIn
namespace Go.Proofs.Ytadepmjfhcmkoaa.P
open Go.Proofs.Ytadepmjfhcmkoaa.B
open Go.RowKit Go.Proofs.YtadepmjfhcmkoaaW.PrintWords Go.Proofs.YtadepmjfhcmkoaaW.PrintLast Go.Proofs.YtadepmjfhcmkoaaW.PrintMore
attribute [local go_sem] max2_int min2_int max_two min_two max_three min_three max_four min_four   -- for this text's walks alone
set_option linter.unusedVariables false
set_option linter.unusedSimpArgs false

/-! ### impl_isBelow: function 93 -/
mutual
def impl_isBelow.l0 : Nat → List (List Int) → List (List Int) → Int → Int → Option (Bool)
  | 0, _, _, _, _ => none
  | k + 1, x6, x15, x16, x17 => if x17 < x16 then (if 0 ≤ x17 then (if x17 < (x15.length : Int) then (impl_isBelow.l1 k x6 x17 x15 x16 x17 (rd_L1 x15 x17) ((rd_L1 x15 x17).length : Int) 0) else (none)) else (none)) else (some true)
def impl_isBelow.l1 : Nat → List (List Int) → Int → List (List Int) → Int → Int → List Int → Int → Int → Option (Bool)
  | 0, _, _, _, _, _, _, _, _ => none
  | k + 1, x6, x7, x15, x16, x17, x22, x23, x24 => if x24 < x23 then (if 0 ≤ x24 then (if x24 < (x22.length : Int) then (if 0 ≤ x7 then (if x7 < (x6.length : Int) then (if x24 < ((rd_L1 x6 x7).length : Int) then (if (rd x22 x24) > (rd (rd_L1 x6 x7) x24) then (some false) else (impl_isBelow.l1 k x6 x7 x15 x16 x17 x22 x23 (wrap64 (x24 + 1)))) else (none)) else (none)) else (none)) else (none)) else (none)) else (impl_isBelow.l0 k x6 x15 x16 (wrap64 (x17 + 1)))
end
def impl_isBelow.f (k : Nat) (l0 : List (List Int)) (l1 : List (List Int)) : Option (Bool) := (impl_heights.f k l0).bind fun t191 => ((impl_heights.f k l1).bind fun t194 => (impl_isBelow.l0 k t194 t191 (t191.length : Int) 0))
theorem impl_isBelow.mono_l : ∀ k, (∀ y0 y1 y2 y3, LeO (impl_isBelow.l0 k y0 y1 y2 y3) (impl_isBelow.l0 (k + 1) y0 y1 y2 y3)) ∧ (∀ y0 y1 y2 y3 y4 y5 y6 y7, LeO (impl_isBelow.l1 k y0 y1 y2 y3 y4 y5 y6 y7) (impl_isBelow.l1 (k + 1) y0 y1 y2 y3 y4 y5 y6 y7))
  | 0 => ⟨fun _ _ _ _ r h => by simp [impl_isBelow.l0] at h, fun _ _ _ _ _ _ _ _ r h => by simp [impl_isBelow.l1] at h⟩
  | k + 1 => by
    obtain ⟨ih0, ih1⟩ := impl_isBelow.mono_l k
    refine ⟨?_, ?_⟩
    · intro y0 y1 y2 y3
      unfold impl_isBelow.l0
      repeat' first
      | (with_reducible exact ih0 _ _ _ _)
      | (with_reducible exact ih1 _ _ _ _ _ _ _ _)
      | (with_reducible exact impl_heights.mono _ _)
      | (with_reducible exact LeO.refl _)
      | (with_reducible exact LeO.none _)
      | (with_reducible refine LeO.ite ?_ ?_)
      | (with_reducible refine LeO.bind ?_ (fun _ => ?_))
      | exact ih0 _ _ _ _
      | exact ih1 _ _ _ _ _ _ _ _
      | exact impl_heights.mono _ _
      | exact LeO.none _
      | refine LeO.ite ?_ ?_
      | refine LeO.bind ?_ (fun _ => ?_)
    · intro y0 y1 y2 y3 y4 y5 y6 y7
      unfold impl_isBelow.l1
      repeat' first
      | (with_reducible exact ih0 _ _ _ _)
      | (with_reducible exact ih1 _ _ _ _ _ _ _ _)
      | (with_reducible exact impl_heights.mono _ _)
      | (with_reducible exact LeO.refl _)
      | (with_reducible exact LeO.none _)
      | (with_reducible refine LeO.ite ?_ ?_)
      | (with_reducible refine LeO.bind ?_ (fun _ => ?_))
      | exact ih0 _ _ _ _
      | exact ih1 _ _ _ _ _ _ _ _
      | exact impl_heights.mono _ _
      | exact LeO.none _
      | refine LeO.ite ?_ ?_
      | refine LeO.bind ?_ (fun _ => ?_)
theorem impl_isBelow.mono : ∀ a0 a1 k, LeO (impl_isBelow.f k a0 a1) (impl_isBelow.f (k + 1) a0 a1) := by
  intro a0 a1 k
  obtain ⟨ih0, ih1⟩ := impl_isBelow.mono_l k
  unfold impl_isBelow.f
  repeat' first
      | (with_reducible exact ih0 _ _ _ _)
      | (with_reducible exact ih1 _ _ _ _ _ _ _ _)
      | (with_reducible exact impl_heights.mono _ _)
      | (with_reducible exact LeO.refl _)
      | (with_reducible exact LeO.none _)
      | (with_reducible refine LeO.ite ?_ ?_)
      | (with_reducible refine LeO.bind ?_ (fun _ => ?_))
      | exact ih0 _ _ _ _
      | exact ih1 _ _ _ _ _ _ _ _
      | exact impl_heights.mono _ _
      | exact LeO.none _
      | refine LeO.ite ?_ ?_
      | refine LeO.bind ?_ (fun _ => ?_)
set_option maxHeartbeats 8000000 in
set_option maxRecDepth 100000 in
theorem impl_isBelow.calls (k : Nat) (A0 : Option Addr) (c0 : Nat) (l0 : List (List Int)) (A1 : Option Addr) (c1 : Nat) (l1 : List (List Int)) (r : Bool) (w : World) (hr0 : Kd.C (Kd.slice 3 (Kd.int .i64)) w A0 l0.length l0) (hc0 : l0.length ≤ c0) (hr1 : Kd.C (Kd.slice 3 (Kd.int .i64)) w A1 l1.length l1) (hc1 : l1.length ≤ c1) (h : impl_isBelow.f k l0 l1 = some r) :
    Calls Try.prog 93 #[.slice A0 l0.length c0, .slice A1 l1.length c1] w fun e w' => e = .returned (.bool r) ∧ Below w.heap.size w w' := by
  have HR0 := Aside0.mk hr0
  have HC0 := Aside0.mk hc0
  clear hr0 hc0
  have HR1 := Aside0.mk hr1
  have HC1 := Aside0.mk hc1
  clear hr1 hc1
  have HB := Aside0.mk (Below.refl w.heap.size w)
  have H : ((impl_heights.f k l0).bind fun t191 => ((impl_heights.f k l1).bind fun t194 => (impl_isBelow.l0 k t194 t191 (t191.length : Int) 0))) = some r := h
  clear h
  replace H := Option.bind_eq_some_iff.mp H
  obtain ⟨t191, A30, H⟩ := H
  replace H : ((impl_heights.f k l1).bind fun t194 => (impl_isBelow.l0 k t194 t191 (t191.length : Int) 0)) = some r := H
  have A3 := Aside0.mk A30
  clear A30
  replace H := Option.bind_eq_some_iff.mp H
  obtain ⟨t194, A40, H⟩ := H
  replace H : (impl_isBelow.l0 k t194 t191 (t191.length : Int) 0) = some r := H
  have A4 := Aside0.mk A40
  clear A40
  have H' := Aside0.mk H
  clear H
  go_enter Try.func93, Try.ntmps93
  go_wp2_with (first | ((with_reducible refine gate_callee (f := 135) rfl ?_); refine goesL_ (some 12) rfl rfl Try.func135 (by kernel_rfl) rfl #[.slice A0 l0.length c0] rfl (by (try simp only [List.map_toArray, List.map_cons, List.map_nil]); first | done | rfl | (simp only [List.length_drop, List.length_take]; rfl)) ?_; (with_reducible refine (impl_heights.calls k _ _ l0 t191 _ ?side1 ?side2 A3.out).mono ?_); (case side1 => repeat (first | exact HR0.out | (with_reducible refine Kd.C_alloc ?_ _) | (with_reducible refine Kd.C_drewN ?_ _) | (with_reducible refine Kd.C_drew ?_))); (case side2 => exact HC0.out); rintro e w5 ⟨v192, rfl, ho0, hb⟩; refine ⟨_, rfl, ?_⟩; have n0_ := Aside0.mk (Kd.S_lower ho0 (below_size (by repeat (first | (with_reducible first | exact HB.out | apply below_alloc | apply pw_below_drewN | apply below_drew1) | exact HB.out)))); have n1_ := Aside0.mk (below_step (by repeat (first | (with_reducible first | exact HB.out | apply below_alloc | apply pw_below_drewN | apply below_drew1) | exact HB.out)) hb); clear HB; have HO193 := n0_; have HB := n1_; clear n0_ n1_; (try clear hb); (try clear hb2); (try clear hk); (try clear hi); (try clear ho0)) | ((with_reducible refine gate_callee (f := 135) rfl ?_); refine goesL_ (some 14) rfl rfl Try.func135 (by kernel_rfl) rfl #[.slice A1 l1.length c1] rfl (by (try simp only [List.map_toArray, List.map_cons, List.map_nil]); first | done | rfl | (simp only [List.length_drop, List.length_take]; rfl)) ?_; (with_reducible refine (impl_heights.calls k _ _ l1 t194 _ ?side1 ?side2 A4.out).mono ?_); (case side1 => repeat (first | exact (Kd.C_below HR1.out HB.out) | (with_reducible refine Kd.C_alloc ?_ _) | (with_reducible refine Kd.C_drewN ?_ _) | (with_reducible refine Kd.C_drew ?_))); (case side2 => exact HC1.out); rintro e w6 ⟨v195, rfl, ho0, hb⟩; refine ⟨_, rfl, ?_⟩; have n0_ := Aside0.mk (Kd.S_elder' (by (with_reducible repeat (first | apply Kd.S_alloc | apply Kd.S_drewN | apply Kd.S_drew)); exact HO193.out) (Kd.S_base ho0) hb); have n1_ := Aside0.mk (Kd.S_lower (Kd.S_new' ho0 (Kd.S_lt (by (with_reducible repeat (first | apply Kd.S_alloc | apply Kd.S_drewN | apply Kd.S_drew)); exact HO193.out))) (below_size (by repeat (first | (with_reducible first | exact HB.out | apply below_alloc | apply pw_below_drewN | apply below_drew1) | exact HB.out)))); have n2_ := Aside0.mk (below_step (by repeat (first | (with_reducible first | exact HB.out | apply below_alloc | apply pw_below_drewN | apply below_drew1) | exact HB.out)) hb); clear HO193; clear HB; have HO193 := n0_; have HO196 := n1_; have HB := n2_; clear n0_ n1_ n2_; (try clear hb); (try clear hb2); (try clear hk); (try clear hi); (try clear ho0); obtain ⟨Ao7, co7, eo7⟩ := Kd.S_slice HO193.out; subst eo7))
  go_loopg [17] k (fun kq v17 w' => ∃ (x17_1 : Int), v17 = .int .i64 x17_1 ∧ Aside0 (impl_isBelow.l0 kq t194 t191 (t191.length : Int) x17_1 = some r) ∧ Aside0 (kq ≤ k) ∧ Aside0 (Kd.S (Kd.slice 3 (Kd.int .i64)) 39 w' w.heap.size (fun k_ => some k_ ≠ ((.slice Ao7 t191.length co7) : Value).ownBlock) v195 t194) ∧ Aside0 (Kd.S (Kd.slice 3 (Kd.int .i64)) 39 w' w.heap.size (fun k_ => some k_ ≠ (v195 : Value).ownBlock) (.slice Ao7 t191.length co7) t191) ∧ Aside0 (Below w.heap.size w w'))
  case atStart => exact ⟨(0), (by first | rfl | (simp; done) | (simp [*]; done)), H', ⟨Nat.le_refl _⟩, ⟨by (with_reducible repeat (first | apply Kd.S_alloc | apply Kd.S_drewN | apply Kd.S_drew)); exact Kd.S_mono HO196.out (fun _ hk => hk.2)⟩, ⟨by (with_reducible repeat (first | apply Kd.S_alloc | apply Kd.S_drewN | apply Kd.S_drew)); exact Kd.S_mono HO193.out (fun _ hk => hk.2)⟩, ⟨by repeat (first | (with_reducible first | exact HB.out | apply below_alloc | apply pw_below_drewN | apply below_drew1) | exact HB.out)⟩⟩
  case round =>
    clear H'
    try clear c1
    try clear p2
    obtain ⟨x17_1, rfl, HA, HK1, HO_6, HO_15, HB⟩ := hrel
    cases gk with
    | zero => exact absurd HA.out (by simp [impl_isBelow.l0])
    | succ k1 =>
      have H := HA.out
      clear HA
      simp only [impl_isBelow.l0] at H
      by_cases c8 : x17_1 < (t191.length : Int)
      · rw [if_pos c8] at H
        have c8b0 : decide (x17_1 < (t191.length : Int)) = true := decide_eq_true c8
        clear c8
        by_cases c9 : 0 ≤ x17_1
        · rw [if_pos c9] at H
          have c9b0 : decide (0 ≤ x17_1) = true := decide_eq_true c9
          clear c9
          by_cases c10 : x17_1 < (t191.length : Int)
          · rw [if_pos c10] at H
            have c10b0 : decide (x17_1 < (t191.length : Int)) = true := decide_eq_true c10
            clear c10
            have H' := Aside0.mk H
            clear H
            have p197 : 0 ≤ (x17_1 : Int) := of_decide_eq_true (by first | (with_reducible assumption) | assumption)
            have q197 : x17_1 < (t191.length : Int) := of_decide_eq_true (by first | (with_reducible assumption) | assumption)
            obtain ⟨ad197, A197_0, c197_0, e197, hx197_0, hl197_0, hi197_0⟩ := at_L1 (Kd.S_reads' HO_15.out).2.2 x17_1 p197 q197
            cases e197
            obtain ⟨ce197, hce197, hMe197, hcc197⟩ := Kd.S_get HO_15.out [] x17_1 p197 (by first | exact q197 | exact of_decide_eq_true (by first | (with_reducible assumption) | assumption) | (have e_ := (Kd.S_reads' HO_15.out).1; omega))
            obtain ⟨ve197_0, rfl, ge197_0⟩ := hMe197
            have hv197_0 := hcc197 0 _ rfl
            rw [Nat.add_zero, show ((Kd.slice 3 (Kd.int .i64))).sz = 1 from rfl, Nat.mul_one] at hv197_0
            replace hv197_0 := Option.some.inj (hv197_0.symm.trans hx197_0)
            rw [hv197_0] at ge197_0
            have HL197_0 := Aside0.mk (show Kd.R (Kd.int .i64) 3 _ _ _ _ (rd_L1 t191 x17_1) from ge197_0)
            clear hv197_0 ge197_0
            clear hcc197 hce197
            have HR197_0 := Aside0.mk hi197_0
            have HC197_0 := Aside0.mk hl197_0
            clear hi197_0 hl197_0
            replace p197 := eq_true p197
            replace q197 := eq_true q197
            go_wp2
            go_loopg [24] k1 (fun kq v24 w' => ∃ (x24_2 : Int), v24 = .int .i64 x24_2 ∧ Aside0 (impl_isBelow.l1 kq t194 x17_1 t191 (t191.length : Int) x17_1 (rd_L1 t191 x17_1) ((rd_L1 t191 x17_1).length : Int) x24_2 = some r) ∧ Aside0 (kq ≤ k1) ∧ Aside0 (Kd.S (Kd.slice 3 (Kd.int .i64)) 39 w' w.heap.size (fun k_ => some k_ ≠ ((.slice (some ad197) t191.length co7) : Value).ownBlock) v195 t194) ∧ Aside0 (Kd.S (Kd.slice 3 (Kd.int .i64)) 39 w' w.heap.size (fun k_ => some k_ ≠ (v195 : Value).ownBlock) (.slice (some ad197) t191.length co7) t191) ∧ Aside0 (Kd.C (Kd.int .i64) w' A197_0 (rd_L1 t191 x17_1).length (rd_L1 t191 x17_1)) ∧ Aside0 (Below w.heap.size w w'))
            case atStart => exact ⟨(0), (by first | rfl | (simp; done) | (simp [*]; done)), H', ⟨Nat.le_refl _⟩, ⟨by (with_reducible repeat (first | apply Kd.S_alloc | apply Kd.S_drewN | apply Kd.S_drew)); exact HO_6.out⟩, ⟨by (with_reducible repeat (first | apply Kd.S_alloc | apply Kd.S_drewN | apply Kd.S_drew)); exact HO_15.out⟩, ⟨by repeat (first | (with_reducible exact HR197_0.out) | (with_reducible refine Kd.C_alloc ?_ _) | (with_reducible refine Kd.C_drewN ?_ _) | (with_reducible refine Kd.C_drew ?_) | exact HR197_0.out)⟩, ⟨by repeat (first | (with_reducible first | exact HB.out | apply below_alloc | apply pw_below_drewN | apply below_drew1) | exact HB.out)⟩⟩
            case round =>
              clear H'
              try clear c1
              try clear p1
              try clear q1
              try clear hx1
              try clear p2
              try clear c8
              try clear c8b0
              try clear c9
              try clear c9b0
              try clear c10
              try clear c10b0
              try clear hx197_0
              try clear p197
              try clear p2
              try clear q197
              obtain ⟨x24_2, rfl, HA, HK2, HO_6, HO_15, HR197_0, HB⟩ := hrel
              cases gk with
              | zero => exact absurd HA.out (by simp [impl_isBelow.l1])
              | succ k2 =>
                have H := HA.out
                clear HA
                simp only [impl_isBelow.l1] at H
                by_cases c11 : x24_2 < ((rd_L1 t191 x17_1).length : Int)
                · rw [if_pos c11] at H
                  have c11b0 : decide (x24_2 < ((rd_L1 t191 x17_1).length : Int)) = true := decide_eq_true c11
                  clear c11
                  by_cases c12 : 0 ≤ x24_2
                  · rw [if_pos c12] at H
                    have c12b0 : decide (0 ≤ x24_2) = true := decide_eq_true c12
                    clear c12
                    by_cases c13 : x24_2 < ((rd_L1 t191 x17_1).length : Int)
                    · rw [if_pos c13] at H
                      have c13b0 : decide (x24_2 < ((rd_L1 t191 x17_1).length : Int)) = true := decide_eq_true c13
                      clear c13
                      by_cases c14 : 0 ≤ x17_1
                      · rw [if_pos c14] at H
                        have c14b0 : decide (0 ≤ x17_1) = true := decide_eq_true c14
                        clear c14
                        by_cases c15 : x17_1 < (t194.length : Int)
                        · rw [if_pos c15] at H
                          have c15b0 : decide (x17_1 < (t194.length : Int)) = true := decide_eq_true c15
                          clear c15
                          by_cases c16 : x24_2 < ((rd_L1 t194 x17_1).length : Int)
                          · rw [if_pos c16] at H
                            have c16b0 : decide (x24_2 < ((rd_L1 t194 x17_1).length : Int)) = true := decide_eq_true c16
                            clear c16
                            by_cases c17 : (rd (rd_L1 t191 x17_1) x24_2) > (rd (rd_L1 t194 x17_1) x24_2)
                            · rw [if_pos c17] at H
                              have c17b0 : decide ((rd (rd_L1 t194 x17_1) x24_2) < (rd (rd_L1 t191 x17_1) x24_2)) = true := decide_eq_true c17
                              clear c17
                              obtain rfl := Option.some.inj H
                              have p198 : 0 ≤ (x24_2 : Int) := of_decide_eq_true (by first | (with_reducible assumption) | assumption)
                              have q198 : x24_2 < ((rd_L1 t191 x17_1).length : Int) := of_decide_eq_true (by first | (with_reducible assumption) | assumption)
                              obtain ⟨ad198, e198, hx198_0⟩ := Kd.at_int HR197_0.out x24_2 p198 q198
                              cases e198
                              (try replace hx198_0 := (HB.out.cell (World.block_lt_of_cell? w _ hx198_0)).trans hx198_0)
                              replace p198 := eq_true p198
                              replace q198 := eq_true q198
                              obtain ⟨Ao18, co18, eo18⟩ := Kd.S_slice HO_6.out
                              subst eo18
                              have p199 : 0 ≤ (x17_1 : Int) := of_decide_eq_true (by first | (with_reducible assumption) | assumption)
                              have q199 : x17_1 < (t194.length : Int) := of_decide_eq_true (by first | (with_reducible assumption) | assumption)
                              obtain ⟨ad199, A199_0, c199_0, e199, hx199_0, hl199_0, hi199_0⟩ := at_L1 (Kd.S_reads' HO_6.out).2.2 x17_1 p199 q199
                              cases e199
                              obtain ⟨ce199, hce199, hMe199, hcc199⟩ := Kd.S_get HO_6.out [] x17_1 p199 (by first | exact q199 | exact of_decide_eq_true (by first | (with_reducible assumption) | assumption) | (have e_ := (Kd.S_reads' HO_6.out).1; omega))
                              obtain ⟨ve199_0, rfl, ge199_0⟩ := hMe199
                              have hv199_0 := hcc199 0 _ rfl
                              rw [Nat.add_zero, show ((Kd.slice 3 (Kd.int .i64))).sz = 1 from rfl, Nat.mul_one] at hv199_0
                              replace hv199_0 := Option.some.inj (hv199_0.symm.trans hx199_0)
                              rw [hv199_0] at ge199_0
                              have HL199_0 := Aside0.mk (show Kd.R (Kd.int .i64) 3 _ _ _ _ (rd_L1 t194 x17_1) from ge199_0)
                              clear hv199_0 ge199_0
                              clear hcc199 hce199
                              have HR199_0 := Aside0.mk hi199_0
                              have HC199_0 := Aside0.mk hl199_0
                              clear hi199_0 hl199_0
                              replace p199 := eq_true p199
                              replace q199 := eq_true q199
                              have p200 : 0 ≤ (x24_2 : Int) := of_decide_eq_true (by first | (with_reducible assumption) | assumption)
                              have q200 : x24_2 < ((rd_L1 t194 x17_1).length : Int) := of_decide_eq_true (by first | (with_reducible assumption) | assumption)
                              obtain ⟨ad200, e200, hx200_0⟩ := Kd.at_int (by repeat (first | (with_reducible exact HR199_0.out) | (with_reducible refine Kd.C_alloc ?_ _) | (with_reducible refine Kd.C_drewN ?_ _) | (with_reducible refine Kd.C_drew ?_) | exact HR199_0.out)) x24_2 p200 q200
                              cases e200
                              replace p200 := eq_true p200
                              replace q200 := eq_true q200
                              go_wp2
                              go_ret
                              exact ⟨by first | rfl | (simp [errW_none, errW_some] <;> rfl) | (simp [*, errW_none, errW_some] <;> rfl), by repeat (first | (with_reducible first | exact HB.out | apply below_alloc | apply pw_below_drewN | apply below_drew1) | exact HB.out)⟩
                            · rw [if_neg c17] at H
                              have c17b0 : decide ((rd (rd_L1 t194 x17_1) x24_2) < (rd (rd_L1 t191 x17_1) x24_2)) = false := decide_eq_false c17
                              clear c17
                              have H' := Aside0.mk H
                              clear H
                              have p198 : 0 ≤ (x24_2 : Int) := of_decide_eq_true (by first | (with_reducible assumption) | assumption)
                              have q198 : x24_2 < ((rd_L1 t191 x17_1).length : Int) := of_decide_eq_true (by first | (with_reducible assumption) | assumption)
                              obtain ⟨ad198, e198, hx198_0⟩ := Kd.at_int HR197_0.out x24_2 p198 q198
                              cases e198
                              (try replace hx198_0 := (HB.out.cell (World.block_lt_of_cell? w _ hx198_0)).trans hx198_0)
                              replace p198 := eq_true p198
                              replace q198 := eq_true q198
                              obtain ⟨Ao19, co19, eo19⟩ := Kd.S_slice HO_6.out
                              subst eo19
                              have p199 : 0 ≤ (x17_1 : Int) := of_decide_eq_true (by first | (with_reducible assumption) | assumption)
                              have q199 : x17_1 < (t194.length : Int) := of_decide_eq_true (by first | (with_reducible assumption) | assumption)
                              obtain ⟨ad199, A199_0, c199_0, e199, hx199_0, hl199_0, hi199_0⟩ := at_L1 (Kd.S_reads' HO_6.out).2.2 x17_1 p199 q199
                              cases e199
                              obtain ⟨ce199, hce199, hMe199, hcc199⟩ := Kd.S_get HO_6.out [] x17_1 p199 (by first | exact q199 | exact of_decide_eq_true (by first | (with_reducible assumption) | assumption) | (have e_ := (Kd.S_reads' HO_6.out).1; omega))
                              obtain ⟨ve199_0, rfl, ge199_0⟩ := hMe199
                              have hv199_0 := hcc199 0 _ rfl
                              rw [Nat.add_zero, show ((Kd.slice 3 (Kd.int .i64))).sz = 1 from rfl, Nat.mul_one] at hv199_0
                              replace hv199_0 := Option.some.inj (hv199_0.symm.trans hx199_0)
                              rw [hv199_0] at ge199_0
                              have HL199_0 := Aside0.mk (show Kd.R (Kd.int .i64) 3 _ _ _ _ (rd_L1 t194 x17_1) from ge199_0)
                              clear hv199_0 ge199_0
                              clear hcc199 hce199
                              have HR199_0 := Aside0.mk hi199_0
                              have HC199_0 := Aside0.mk hl199_0
                              clear hi199_0 hl199_0
                              replace p199 := eq_true p199
                              replace q199 := eq_true q199
                              have p200 : 0 ≤ (x24_2 : Int) := of_decide_eq_true (by first | (with_reducible assumption) | assumption)
                              have q200 : x24_2 < ((rd_L1 t194 x17_1).length : Int) := of_decide_eq_true (by first | (with_reducible assumption) | assumption)
                              obtain ⟨ad200, e200, hx200_0⟩ := Kd.at_int (by repeat (first | (with_reducible exact HR199_0.out) | (with_reducible refine Kd.C_alloc ?_ _) | (with_reducible refine Kd.C_drewN ?_ _) | (with_reducible refine Kd.C_drew ?_) | exact HR199_0.out)) x24_2 p200 q200
                              cases e200
                              replace p200 := eq_true p200
                              replace q200 := eq_true q200
                              go_wp2
                              go_roundg k2
                              case measure => have := HK1.out; have := HK2.out; omega
                              case rel => exact ⟨(wrap64 (x24_2 + 1)), (by first | rfl | (simp; done) | (simp [*]; done)), H', ⟨by have := HK1.out; have := HK2.out; omega⟩, ⟨by (with_reducible repeat (first | apply Kd.S_alloc | apply Kd.S_drewN | apply Kd.S_drew)); exact HO_6.out⟩, ⟨by (with_reducible repeat (first | apply Kd.S_alloc | apply Kd.S_drewN | apply Kd.S_drew)); exact HO_15.out⟩, ⟨by repeat (first | (with_reducible exact HR197_0.out) | (with_reducible refine Kd.C_alloc ?_ _) | (with_reducible refine Kd.C_drewN ?_ _) | (with_reducible refine Kd.C_drew ?_) | exact HR197_0.out)⟩, ⟨by repeat (first | (with_reducible first | exact HB.out | apply below_alloc | apply pw_below_drewN | apply below_drew1) | exact HB.out)⟩⟩
                          · rw [if_neg c16] at H
                            exact absurd H (by simp)
                        · rw [if_neg c15] at H
                          exact absurd H (by simp)
                      · rw [if_neg c14] at H
                        exact absurd H (by simp)
                    · rw [if_neg c13] at H
                      exact absurd H (by simp)
                  · rw [if_neg c12] at H
                    exact absurd H (by simp)
                · rw [if_neg c11] at H
                  have c11b0 : decide (x24_2 < ((rd_L1 t191 x17_1).length : Int)) = false := decide_eq_false c11
                  clear c11
                  have H' := Aside0.mk H
                  clear H
                  go_wp2
                  go_roundg k2
                  case measure => have := HK1.out; have := HK2.out; omega
                  case rel => exact ⟨(wrap64 (x17_1 + 1)), (by first | rfl | (simp; done) | (simp [*]; done)), H', ⟨by have := HK1.out; have := HK2.out; omega⟩, ⟨by (with_reducible repeat (first | apply Kd.S_alloc | apply Kd.S_drewN | apply Kd.S_drew)); exact HO_6.out⟩, ⟨by (with_reducible repeat (first | apply Kd.S_alloc | apply Kd.S_drewN | apply Kd.S_drew)); exact HO_15.out⟩, ⟨by repeat (first | (with_reducible first | exact HB.out | apply below_alloc | apply pw_below_drewN | apply below_drew1) | exact HB.out)⟩⟩
          · rw [if_neg c10] at H
            exact absurd H (by simp)
        · rw [if_neg c9] at H
          exact absurd H (by simp)
      · rw [if_neg c8] at H
        have c8b0 : decide (x17_1 < (t191.length : Int)) = false := decide_eq_false c8
        clear c8
        obtain rfl := Option.some.inj H
        go_wp2
        go_ret
        exact ⟨by first | rfl | (simp [errW_none, errW_some] <;> rfl) | (simp [*, errW_none, errW_some] <;> rfl), by repeat (first | (with_reducible first | exact HB.out | apply below_alloc | apply pw_below_drewN | apply below_drew1) | exact HB.out)⟩

/-! ### impl_least: function 104 (given) -/
/-- 1 where the row and the column have the same index. -/
def impl_least.f (a0 : Int) : Option (List (List Int)) := if 0 ≤ a0 ∧ a0 ≤ 1048576 then some (tabOf a0.toNat a0.toNat fun i j => if i = j then 1 else 0) else none
set_option maxHeartbeats 8000000 in
set_option maxRecDepth 100000 in
theorem impl_least.clo (w : World) (i j : Nat) : Calls Try.prog 147 (#[.int .i64 (i : Int), .int .i64 (j : Int)] ++ #[]) w fun e w' => e = .returned (.int .i64 (if i = j then 1 else 0)) ∧ Drawn0 w w' := by
  have hb : ∀ (b : Bool) w, Calls Try.prog 76 #[.bool b] w fun e w' => e = .returned (.int .i64 (if b = true then 1 else 0)) ∧ Drawn0 w w' := by
    intro b w
    refine (impl_bit.calls b _ w ?_).mono fun _ _ h => h
    unfold impl_bit.f
    cases b <;> simp
  by_cases h : i = j
  · have h2 : ((i : Int) == (j : Int)) = true := by simp [h]
    rw [if_pos h]
    clear h
    go_enter Try.func147, Try.ntmps147
    go_wp2_with (go_at_call 76; refine (hb _ _).mono ?_; rintro e w' ⟨rfl, ⟨n2, rfl⟩⟩)
    go_ret
    exact ⟨by first | rfl | (simp [*]; done), by repeat (first | exact Drawn0.refl _ | apply Drawn0.step)⟩
  · have h2 : ((i : Int) == (j : Int)) = false := by simp; omega
    rw [if_neg h]
    clear h
    go_enter Try.func147, Try.ntmps147
    go_wp2_with (go_at_call 76; refine (hb _ _).mono ?_; rintro e w' ⟨rfl, ⟨n2, rfl⟩⟩)
    go_ret
    exact ⟨by first | rfl | (simp [*]; done), by repeat (first | exact Drawn0.refl _ | apply Drawn0.step)⟩
set_option maxHeartbeats 8000000 in
set_option maxRecDepth 100000 in
theorem impl_least.calls (a0 : Int) (r : List (List Int)) (w : World) (h : impl_least.f a0 = some r) :
    Calls Try.prog 104 #[.int .i64 a0] w fun e w' => ∃ v0_ : Value, e = .returned (v0_) ∧ Kd.S (Kd.slice 3 (Kd.int .i64)) 39 w' w.heap.size (fun _ => True) v0_ r ∧ Below w.heap.size w w' := by
  unfold impl_least.f at h
  by_cases hc : 0 ≤ a0 ∧ a0 ≤ 1048576
  · rw [if_pos hc] at h
    obtain rfl := Option.some.inj h
    clear h
    obtain ⟨n, rfl⟩ := Int.eq_ofNat_of_zero_le hc.1
    have HT := Aside0.mk (table_any 147 #[] (fun i j => if i = j then 1 else 0) n n (by omega) (by omega) w (enters_of Try.func147 (by kernel_rfl) rfl) (fun W _ i j _ _ => impl_least.clo W i j))
    clear hc
    go_enter Try.func104, Try.ntmps104
    go_wp2_with (go_at_call 146; refine HT.out.mono ?_; rintro e w' ⟨v, rfl, hS, hb⟩; have HS := Aside0.mk hS; have HB := Aside0.mk hb; clear hS hb)
    go_ret
    exact ⟨_, rfl, HS.out, HB.out⟩
  · rw [if_neg hc] at h
    cases h

/-! ### impl_distance: function 108 -/
mutual
def impl_distance.l0 : Nat → List (List Int) → Int → List (List Int) → Int → Int → Option (Int)
  | 0, _, _, _, _, _ => none
  | k + 1, x6, x7, x16, x17, x18 => if x18 < x17 then (if 0 ≤ x18 then (if x18 < (x16.length : Int) then (impl_distance.l1 k x6 x7 x18 x16 x17 x18 (rd_L1 x16 x18) ((rd_L1 x16 x18).length : Int) 0) else (none)) else (none)) else (some (wrap64 (Int.tdiv x7 2)))
def impl_distance.l1 : Nat → List (List Int) → Int → Int → List (List Int) → Int → Int → List Int → Int → Int → Option (Int)
  | 0, _, _, _, _, _, _, _, _, _ => none
  | k + 1, x6, x7, x8, x16, x17, x18, x23, x24, x25 => if x25 < x24 then (if 0 ≤ x25 then (if x25 < (x23.length : Int) then (if 0 ≤ x8 then (if x8 < (x6.length : Int) then (if x25 < ((rd_L1 x6 x8).length : Int) then (impl_distance.l1 k x6 (wrap64 (x7 + (mx (wrap64 ((rd x23 x25) - (rd (rd_L1 x6 x8) x25))) (wrap64 ((rd (rd_L1 x6 x8) x25) - (rd x23 x25)))))) x8 x16 x17 x18 x23 x24 (wrap64 (x25 + 1))) else (none)) else (none)) else (none)) else (none)) else (none)) else (impl_distance.l0 k x6 x7 x16 x17 (wrap64 (x18 + 1)))
end
def impl_distance.f (k : Nat) (l0 : List (List Int)) (l1 : List (List Int)) : Option (Int) := (impl_heights.f k l0).bind fun t749 => ((impl_heights.f k l1).bind fun t752 => (impl_distance.l0 k t752 0 t749 (t749.length : Int) 0))
theorem impl_distance.mono_l : ∀ k, (∀ y0 y1 y2 y3 y4, LeO (impl_distance.l0 k y0 y1 y2 y3 y4) (impl_distance.l0 (k + 1) y0 y1 y2 y3 y4)) ∧ (∀ y0 y1 y2 y3 y4 y5 y6 y7 y8, LeO (impl_distance.l1 k y0 y1 y2 y3 y4 y5 y6 y7 y8) (impl_distance.l1 (k + 1) y0 y1 y2 y3 y4 y5 y6 y7 y8))
  | 0 => ⟨fun _ _ _ _ _ r h => by simp [impl_distance.l0] at h, fun _ _ _ _ _ _ _ _ _ r h => by simp [impl_distance.l1] at h⟩
  | k + 1 => by
    obtain ⟨ih0, ih1⟩ := impl_distance.mono_l k
    refine ⟨?_, ?_⟩
    · intro y0 y1 y2 y3 y4
      unfold impl_distance.l0
      repeat' first
      | (with_reducible exact ih0 _ _ _ _ _)
      | (with_reducible exact ih1 _ _ _ _ _ _ _ _ _)
      | (with_reducible exact impl_heights.mono _ _)
      | (with_reducible exact LeO.refl _)
      | (with_reducible exact LeO.none _)
      | (with_reducible refine LeO.ite ?_ ?_)
      | (with_reducible refine LeO.bind ?_ (fun _ => ?_))
      | exact ih0 _ _ _ _ _
      | exact ih1 _ _ _ _ _ _ _ _ _
      | exact impl_heights.mono _ _
      | exact LeO.none _
      | refine LeO.ite ?_ ?_
      | refine LeO.bind ?_ (fun _ => ?_)
    · intro y0 y1 y2 y3 y4 y5 y6 y7 y8
      unfold impl_distance.l1
      repeat' first
      | (with_reducible exact ih0 _ _ _ _ _)
      | (with_reducible exact ih1 _ _ _ _ _ _ _ _ _)
      | (with_reducible exact impl_heights.mono _ _)
      | (with_reducible exact LeO.refl _)
      | (with_reducible exact LeO.none _)
      | (with_reducible refine LeO.ite ?_ ?_)
      | (with_reducible refine LeO.bind ?_ (fun _ => ?_))
      | exact ih0 _ _ _ _ _
      | exact ih1 _ _ _ _ _ _ _ _ _
      | exact impl_heights.mono _ _
      | exact LeO.none _
      | refine LeO.ite ?_ ?_
      | refine LeO.bind ?_ (fun _ => ?_)
theorem impl_distance.mono : ∀ a0 a1 k, LeO (impl_distance.f k a0 a1) (impl_distance.f (k + 1) a0 a1) := by
  intro a0 a1 k
  obtain ⟨ih0, ih1⟩ := impl_distance.mono_l k
  unfold impl_distance.f
  repeat' first
      | (with_reducible exact ih0 _ _ _ _ _)
      | (with_reducible exact ih1 _ _ _ _ _ _ _ _ _)
      | (with_reducible exact impl_heights.mono _ _)
      | (with_reducible exact LeO.refl _)
      | (with_reducible exact LeO.none _)
      | (with_reducible refine LeO.ite ?_ ?_)
      | (with_reducible refine LeO.bind ?_ (fun _ => ?_))
      | exact ih0 _ _ _ _ _
      | exact ih1 _ _ _ _ _ _ _ _ _
      | exact impl_heights.mono _ _
      | exact LeO.none _
      | refine LeO.ite ?_ ?_
      | refine LeO.bind ?_ (fun _ => ?_)
set_option maxHeartbeats 8000000 in
set_option maxRecDepth 100000 in
theorem impl_distance.calls (k : Nat) (A0 : Option Addr) (c0 : Nat) (l0 : List (List Int)) (A1 : Option Addr) (c1 : Nat) (l1 : List (List Int)) (r : Int) (w : World) (hr0 : Kd.C (Kd.slice 3 (Kd.int .i64)) w A0 l0.length l0) (hc0 : l0.length ≤ c0) (hr1 : Kd.C (Kd.slice 3 (Kd.int .i64)) w A1 l1.length l1) (hc1 : l1.length ≤ c1) (h : impl_distance.f k l0 l1 = some r) :
    Calls Try.prog 108 #[.slice A0 l0.length c0, .slice A1 l1.length c1] w fun e w' => e = .returned (.int .i64 r) ∧ Below w.heap.size w w' := by
  have HR0 := Aside0.mk hr0
  have HC0 := Aside0.mk hc0
  clear hr0 hc0
  have HR1 := Aside0.mk hr1
  have HC1 := Aside0.mk hc1
  clear hr1 hc1
  have HB := Aside0.mk (Below.refl w.heap.size w)
  have H : ((impl_heights.f k l0).bind fun t749 => ((impl_heights.f k l1).bind fun t752 => (impl_distance.l0 k t752 0 t749 (t749.length : Int) 0))) = some r := h
  clear h
  replace H := Option.bind_eq_some_iff.mp H
  obtain ⟨t749, A30, H⟩ := H
  replace H : ((impl_heights.f k l1).bind fun t752 => (impl_distance.l0 k t752 0 t749 (t749.length : Int) 0)) = some r := H
  have A3 := Aside0.mk A30
  clear A30
  replace H := Option.bind_eq_some_iff.mp H
  obtain ⟨t752, A40, H⟩ := H
  replace H : (impl_distance.l0 k t752 0 t749 (t749.length : Int) 0) = some r := H
  have A4 := Aside0.mk A40
  clear A40
  have H' := Aside0.mk H
  clear H
  go_enter Try.func108, Try.ntmps108
  go_wp2_with (first | (go_at_call 135; (with_reducible refine (impl_heights.calls k _ _ l0 t749 _ ?side1 ?side2 A3.out).mono ?_); (case side1 => repeat (first | exact HR0.out | (with_reducible refine Kd.C_alloc ?_ _) | (with_reducible refine Kd.C_drewN ?_ _) | (with_reducible refine Kd.C_drew ?_))); (case side2 => exact HC0.out); rintro e w5 ⟨v750, rfl, ho0, hb⟩; have n0_ := Aside0.mk (Kd.S_lower ho0 (below_size (by repeat (first | (with_reducible first | exact HB.out | apply below_alloc | apply pw_below_drewN | apply below_drew1) | exact HB.out)))); have n1_ := Aside0.mk (below_step (by repeat (first | (with_reducible first | exact HB.out | apply below_alloc | apply pw_below_drewN | apply below_drew1) | exact HB.out)) hb); clear HB; have HO751 := n0_; have HB := n1_; clear n0_ n1_; (try clear hb); (try clear hb2); (try clear hk); (try clear hi); (try clear ho0)) | (go_at_call 135; (with_reducible refine (impl_heights.calls k _ _ l1 t752 _ ?side1 ?side2 A4.out).mono ?_); (case side1 => repeat (first | exact (Kd.C_below HR1.out HB.out) | (with_reducible refine Kd.C_alloc ?_ _) | (with_reducible refine Kd.C_drewN ?_ _) | (with_reducible refine Kd.C_drew ?_))); (case side2 => exact HC1.out); rintro e w6 ⟨v753, rfl, ho0, hb⟩; have n0_ := Aside0.mk (Kd.S_elder' (by (with_reducible repeat (first | apply Kd.S_alloc | apply Kd.S_drewN | apply Kd.S_drew)); exact HO751.out) (Kd.S_base ho0) hb); have n1_ := Aside0.mk (Kd.S_lower (Kd.S_new' ho0 (Kd.S_lt (by (with_reducible repeat (first | apply Kd.S_alloc | apply Kd.S_drewN | apply Kd.S_drew)); exact HO751.out))) (below_size (by repeat (first | (with_reducible first | exact HB.out | apply below_alloc | apply pw_below_drewN | apply below_drew1) | exact HB.out)))); have n2_ := Aside0.mk (below_step (by repeat (first | (with_reducible first | exact HB.out | apply below_alloc | apply pw_below_drewN | apply below_drew1) | exact HB.out)) hb); clear HO751; clear HB; have HO751 := n0_; have HO754 := n1_; have HB := n2_; clear n0_ n1_ n2_; (try clear hb); (try clear hb2); (try clear hk); (try clear hi); (try clear ho0); obtain ⟨Ao7, co7, eo7⟩ := Kd.S_slice HO751.out; subst eo7))
  repeat (go_quiet (first | (go_at_call 135; (with_reducible refine (impl_heights.calls k _ _ l0 t749 _ ?side1 ?side2 A3.out).mono ?_); (case side1 => repeat (first | exact HR0.out | (with_reducible refine Kd.C_alloc ?_ _) | (with_reducible refine Kd.C_drewN ?_ _) | (with_reducible refine Kd.C_drew ?_))); (case side2 => exact HC0.out); rintro e w5 ⟨v750, rfl, ho0, hb⟩; have n0_ := Aside0.mk (Kd.S_lower ho0 (below_size (by repeat (first | (with_reducible first | exact HB.out | apply below_alloc | apply pw_below_drewN | apply below_drew1) | exact HB.out)))); have n1_ := Aside0.mk (below_step (by repeat (first | (with_reducible first | exact HB.out | apply below_alloc | apply pw_below_drewN | apply below_drew1) | exact HB.out)) hb); clear HB; have HO751 := n0_; have HB := n1_; clear n0_ n1_; (try clear hb); (try clear hb2); (try clear hk); (try clear hi); (try clear ho0)) | (go_at_call 135; (with_reducible refine (impl_heights.calls k _ _ l1 t752 _ ?side1 ?side2 A4.out).mono ?_); (case side1 => repeat (first | exact (Kd.C_below HR1.out HB.out) | (with_reducible refine Kd.C_alloc ?_ _) | (with_reducible refine Kd.C_drewN ?_ _) | (with_reducible refine Kd.C_drew ?_))); (case side2 => exact HC1.out); rintro e w6 ⟨v753, rfl, ho0, hb⟩; have n0_ := Aside0.mk (Kd.S_elder' (by (with_reducible repeat (first | apply Kd.S_alloc | apply Kd.S_drewN | apply Kd.S_drew)); exact HO751.out) (Kd.S_base ho0) hb); have n1_ := Aside0.mk (Kd.S_lower (Kd.S_new' ho0 (Kd.S_lt (by (with_reducible repeat (first | apply Kd.S_alloc | apply Kd.S_drewN | apply Kd.S_drew)); exact HO751.out))) (below_size (by repeat (first | (with_reducible first | exact HB.out | apply below_alloc | apply pw_below_drewN | apply below_drew1) | exact HB.out)))); have n2_ := Aside0.mk (below_step (by repeat (first | (with_reducible first | exact HB.out | apply below_alloc | apply pw_below_drewN | apply below_drew1) | exact HB.out)) hb); clear HO751; clear HB; have HO751 := n0_; have HO754 := n1_; have HB := n2_; clear n0_ n1_ n2_; (try clear hb); (try clear hb2); (try clear hk); (try clear hi); (try clear ho0); obtain ⟨Ao7, co7, eo7⟩ := Kd.S_slice HO751.out; subst eo7)); try go_wp2_with (first | (go_at_call 135; (with_reducible refine (impl_heights.calls k _ _ l0 t749 _ ?side1 ?side2 A3.out).mono ?_); (case side1 => repeat (first | exact HR0.out | (with_reducible refine Kd.C_alloc ?_ _) | (with_reducible refine Kd.C_drewN ?_ _) | (with_reducible refine Kd.C_drew ?_))); (case side2 => exact HC0.out); rintro e w5 ⟨v750, rfl, ho0, hb⟩; have n0_ := Aside0.mk (Kd.S_lower ho0 (below_size (by repeat (first | (with_reducible first | exact HB.out | apply below_alloc | apply pw_below_drewN | apply below_drew1) | exact HB.out)))); have n1_ := Aside0.mk (below_step (by repeat (first | (with_reducible first | exact HB.out | apply below_alloc | apply pw_below_drewN | apply below_drew1) | exact HB.out)) hb); clear HB; have HO751 := n0_; have HB := n1_; clear n0_ n1_; (try clear hb); (try clear hb2); (try clear hk); (try clear hi); (try clear ho0)) | (go_at_call 135; (with_reducible refine (impl_heights.calls k _ _ l1 t752 _ ?side1 ?side2 A4.out).mono ?_); (case side1 => repeat (first | exact (Kd.C_below HR1.out HB.out) | (with_reducible refine Kd.C_alloc ?_ _) | (with_reducible refine Kd.C_drewN ?_ _) | (with_reducible refine Kd.C_drew ?_))); (case side2 => exact HC1.out); rintro e w6 ⟨v753, rfl, ho0, hb⟩; have n0_ := Aside0.mk (Kd.S_elder' (by (with_reducible repeat (first | apply Kd.S_alloc | apply Kd.S_drewN | apply Kd.S_drew)); exact HO751.out) (Kd.S_base ho0) hb); have n1_ := Aside0.mk (Kd.S_lower (Kd.S_new' ho0 (Kd.S_lt (by (with_reducible repeat (first | apply Kd.S_alloc | apply Kd.S_drewN | apply Kd.S_drew)); exact HO751.out))) (below_size (by repeat (first | (with_reducible first | exact HB.out | apply below_alloc | apply pw_below_drewN | apply below_drew1) | exact HB.out)))); have n2_ := Aside0.mk (below_step (by repeat (first | (with_reducible first | exact HB.out | apply below_alloc | apply pw_below_drewN | apply below_drew1) | exact HB.out)) hb); clear HO751; clear HB; have HO751 := n0_; have HO754 := n1_; have HB := n2_; clear n0_ n1_ n2_; (try clear hb); (try clear hb2); (try clear hk); (try clear hi); (try clear ho0); obtain ⟨Ao7, co7, eo7⟩ := Kd.S_slice HO751.out; subst eo7)))
  go_loopg [7, 18] k (fun kq v7 v18 w' => ∃ (x7_1 : Int) (x18_1 : Int), v7 = .int .i64 x7_1 ∧ v18 = .int .i64 x18_1 ∧ Aside0 (impl_distance.l0 kq t752 x7_1 t749 (t749.length : Int) x18_1 = some r) ∧ Aside0 (kq ≤ k) ∧ Aside0 (Kd.S (Kd.slice 3 (Kd.int .i64)) 39 w' w.heap.size (fun k_ => some k_ ≠ ((.slice Ao7 t749.length co7) : Value).ownBlock) v753 t752) ∧ Aside0 (Kd.S (Kd.slice 3 (Kd.int .i64)) 39 w' w.heap.size (fun k_ => some k_ ≠ (v753 : Value).ownBlock) (.slice Ao7 t749.length co7) t749) ∧ Aside0 (Below w.heap.size w w'))
  case atStart => exact ⟨(0), (0), (by first | rfl | (simp; done) | (simp [*]; done)), (by first | rfl | (simp; done) | (simp [*]; done)), H', ⟨Nat.le_refl _⟩, ⟨by (with_reducible repeat (first | apply Kd.S_alloc | apply Kd.S_drewN | apply Kd.S_drew)); exact Kd.S_mono HO754.out (fun _ hk => hk.2)⟩, ⟨by (with_reducible repeat (first | apply Kd.S_alloc | apply Kd.S_drewN | apply Kd.S_drew)); exact Kd.S_mono HO751.out (fun _ hk => hk.2)⟩, ⟨by repeat (first | (with_reducible first | exact HB.out | apply below_alloc | apply pw_below_drewN | apply below_drew1) | exact HB.out)⟩⟩
  case round =>
    clear H'
    try clear c1
    try clear p2
    obtain ⟨x7_1, x18_1, rfl, rfl, HA, HK1, HO_6, HO_16, HB⟩ := hrel
    cases gk with
    | zero => exact absurd HA.out (by simp [impl_distance.l0])
    | succ k1 =>
      have H := HA.out
      clear HA
      simp only [impl_distance.l0] at H
      by_cases c8 : x18_1 < (t749.length : Int)
      · rw [if_pos c8] at H
        have c8b0 : decide (x18_1 < (t749.length : Int)) = true := decide_eq_true c8
        clear c8
        by_cases c9 : 0 ≤ x18_1
        · rw [if_pos c9] at H
          have c9b0 : decide (0 ≤ x18_1) = true := decide_eq_true c9
          clear c9
          by_cases c10 : x18_1 < (t749.length : Int)
          · rw [if_pos c10] at H
            have c10b0 : decide (x18_1 < (t749.length : Int)) = true := decide_eq_true c10
            clear c10
            have H' := Aside0.mk H
            clear H
            have p755 : 0 ≤ (x18_1 : Int) := of_decide_eq_true (by first | (with_reducible assumption) | assumption)
            have q755 : x18_1 < (t749.length : Int) := of_decide_eq_true (by first | (with_reducible assumption) | assumption)
            obtain ⟨ad755, A755_0, c755_0, e755, hx755_0, hl755_0, hi755_0⟩ := at_L1 (Kd.S_reads' HO_16.out).2.2 x18_1 p755 q755
            cases e755
            obtain ⟨ce755, hce755, hMe755, hcc755⟩ := Kd.S_get HO_16.out [] x18_1 p755 (by first | exact q755 | exact of_decide_eq_true (by first | (with_reducible assumption) | assumption) | (have e_ := (Kd.S_reads' HO_16.out).1; omega))
            obtain ⟨ve755_0, rfl, ge755_0⟩ := hMe755
            have hv755_0 := hcc755 0 _ rfl
            rw [Nat.add_zero, show ((Kd.slice 3 (Kd.int .i64))).sz = 1 from rfl, Nat.mul_one] at hv755_0
            replace hv755_0 := Option.some.inj (hv755_0.symm.trans hx755_0)
            rw [hv755_0] at ge755_0
            have HL755_0 := Aside0.mk (show Kd.R (Kd.int .i64) 3 _ _ _ _ (rd_L1 t749 x18_1) from ge755_0)
            clear hv755_0 ge755_0
            clear hcc755 hce755
            have HR755_0 := Aside0.mk hi755_0
            have HC755_0 := Aside0.mk hl755_0
            clear hi755_0 hl755_0
            replace p755 := eq_true p755
            replace q755 := eq_true q755
            go_wp2
            repeat (go_quiet (fail); try go_wp2)
            go_loopg [7, 25] k1 (fun kq v7 v25 w' => ∃ (x7_2 : Int) (x25_2 : Int), v7 = .int .i64 x7_2 ∧ v25 = .int .i64 x25_2 ∧ Aside0 (impl_distance.l1 kq t752 x7_2 x18_1 t749 (t749.length : Int) x18_1 (rd_L1 t749 x18_1) ((rd_L1 t749 x18_1).length : Int) x25_2 = some r) ∧ Aside0 (kq ≤ k1) ∧ Aside0 (Kd.S (Kd.slice 3 (Kd.int .i64)) 39 w' w.heap.size (fun k_ => some k_ ≠ ((.slice (some ad755) t749.length co7) : Value).ownBlock) v753 t752) ∧ Aside0 (Kd.S (Kd.slice 3 (Kd.int .i64)) 39 w' w.heap.size (fun k_ => some k_ ≠ (v753 : Value).ownBlock) (.slice (some ad755) t749.length co7) t749) ∧ Aside0 (Kd.C (Kd.int .i64) w' A755_0 (rd_L1 t749 x18_1).length (rd_L1 t749 x18_1)) ∧ Aside0 (Below w.heap.size w w'))
            case atStart => exact ⟨(x7_1), (0), (by first | rfl | (simp; done) | (simp [*]; done)), (by first | rfl | (simp; done) | (simp [*]; done)), H', ⟨Nat.le_refl _⟩, ⟨by (with_reducible repeat (first | apply Kd.S_alloc | apply Kd.S_drewN | apply Kd.S_drew)); exact HO_6.out⟩, ⟨by (with_reducible repeat (first | apply Kd.S_alloc | apply Kd.S_drewN | apply Kd.S_drew)); exact HO_16.out⟩, ⟨by repeat (first | (with_reducible exact HR755_0.out) | (with_reducible refine Kd.C_alloc ?_ _) | (with_reducible refine Kd.C_drewN ?_ _) | (with_reducible refine Kd.C_drew ?_) | exact HR755_0.out)⟩, ⟨by repeat (first | (with_reducible first | exact HB.out | apply below_alloc | apply pw_below_drewN | apply below_drew1) | exact HB.out)⟩⟩
            case round =>
              clear H'
              try clear c1
              try clear p2
              try clear c7
              try clear p7
              try clear q7
              try clear hx7
              try clear c8
              try clear c8b0
              try clear c9
              try clear c9b0
              try clear c10
              try clear c10b0
              try clear hx755_0
              try clear p2
              try clear p755
              try clear q755
              obtain ⟨x7_2, x25_2, rfl, rfl, HA, HK2, HO_6, HO_16, HR755_0, HB⟩ := hrel
              cases gk with
              | zero => exact absurd HA.out (by simp [impl_distance.l1])
              | succ k2 =>
                have H := HA.out
                clear HA
                simp only [impl_distance.l1] at H
                by_cases c11 : x25_2 < ((rd_L1 t749 x18_1).length : Int)
                · rw [if_pos c11] at H
                  have c11b0 : decide (x25_2 < ((rd_L1 t749 x18_1).length : Int)) = true := decide_eq_true c11
                  clear c11
                  by_cases c12 : 0 ≤ x25_2
                  · rw [if_pos c12] at H
                    have c12b0 : decide (0 ≤ x25_2) = true := decide_eq_true c12
                    clear c12
                    by_cases c13 : x25_2 < ((rd_L1 t749 x18_1).length : Int)
                    · rw [if_pos c13] at H
                      have c13b0 : decide (x25_2 < ((rd_L1 t749 x18_1).length : Int)) = true := decide_eq_true c13
                      clear c13
                      by_cases c14 : 0 ≤ x18_1
                      · rw [if_pos c14] at H
                        have c14b0 : decide (0 ≤ x18_1) = true := decide_eq_true c14
                        clear c14
                        by_cases c15 : x18_1 < (t752.length : Int)
                        · rw [if_pos c15] at H
                          have c15b0 : decide (x18_1 < (t752.length : Int)) = true := decide_eq_true c15
                          clear c15
                          by_cases c16 : x25_2 < ((rd_L1 t752 x18_1).length : Int)
                          · rw [if_pos c16] at H
                            have c16b0 : decide (x25_2 < ((rd_L1 t752 x18_1).length : Int)) = true := decide_eq_true c16
                            clear c16
                            obtain ⟨ji17, hji17⟩ : ∃ j_ : Int, (mx (wrap64 ((rd (rd_L1 t749 x18_1) x25_2) - (rd (rd_L1 t752 x18_1) x25_2))) (wrap64 ((rd (rd_L1 t752 x18_1) x25_2) - (rd (rd_L1 t749 x18_1) x25_2)))) = j_ := ⟨_, rfl⟩
                            replace H : (impl_distance.l1 k2 t752 (wrap64 (x7_2 + (ji17))) x18_1 t749 (t749.length : Int) x18_1 (rd_L1 t749 x18_1) ((rd_L1 t749 x18_1).length : Int) (wrap64 (x25_2 + 1))) = some r := by first | (rw [hji17] at H; exact H) | (simp only [hji17] at H ⊢; exact H)
                            have hji17_ : (if (wrap64 ((rd (rd_L1 t749 x18_1) x25_2) - (rd (rd_L1 t752 x18_1) x25_2))) < (wrap64 ((rd (rd_L1 t752 x18_1) x25_2) - (rd (rd_L1 t749 x18_1) x25_2))) then (wrap64 ((rd (rd_L1 t752 x18_1) x25_2) - (rd (rd_L1 t749 x18_1) x25_2))) else (wrap64 ((rd (rd_L1 t749 x18_1) x25_2) - (rd (rd_L1 t752 x18_1) x25_2)))) = ji17 := hji17
                            have H' := Aside0.mk H
                            clear H
                            have p756 : 0 ≤ (x25_2 : Int) := of_decide_eq_true (by first | (with_reducible assumption) | assumption)
                            have q756 : x25_2 < ((rd_L1 t749 x18_1).length : Int) := of_decide_eq_true (by first | (with_reducible assumption) | assumption)
                            obtain ⟨ad756, e756, hx756_0⟩ := Kd.at_int HR755_0.out x25_2 p756 q756
                            cases e756
                            (try replace hx756_0 := (HB.out.cell (World.block_lt_of_cell? w _ hx756_0)).trans hx756_0)
                            replace p756 := eq_true p756
                            replace q756 := eq_true q756
                            obtain ⟨Ao18, co18, eo18⟩ := Kd.S_slice HO_6.out
                            subst eo18
                            have p757 : 0 ≤ (x18_1 : Int) := of_decide_eq_true (by first | (with_reducible assumption) | assumption)
                            have q757 : x18_1 < (t752.length : Int) := of_decide_eq_true (by first | (with_reducible assumption) | assumption)
                            obtain ⟨ad757, A757_0, c757_0, e757, hx757_0, hl757_0, hi757_0⟩ := at_L1 (Kd.S_reads' HO_6.out).2.2 x18_1 p757 q757
                            cases e757
                            obtain ⟨ce757, hce757, hMe757, hcc757⟩ := Kd.S_get HO_6.out [] x18_1 p757 (by first | exact q757 | exact of_decide_eq_true (by first | (with_reducible assumption) | assumption) | (have e_ := (Kd.S_reads' HO_6.out).1; omega))
                            obtain ⟨ve757_0, rfl, ge757_0⟩ := hMe757
                            have hv757_0 := hcc757 0 _ rfl
                            rw [Nat.add_zero, show ((Kd.slice 3 (Kd.int .i64))).sz = 1 from rfl, Nat.mul_one] at hv757_0
                            replace hv757_0 := Option.some.inj (hv757_0.symm.trans hx757_0)
                            rw [hv757_0] at ge757_0
                            have HL757_0 := Aside0.mk (show Kd.R (Kd.int .i64) 3 _ _ _ _ (rd_L1 t752 x18_1) from ge757_0)
                            clear hv757_0 ge757_0
                            clear hcc757 hce757
                            have HR757_0 := Aside0.mk hi757_0
                            have HC757_0 := Aside0.mk hl757_0
                            clear hi757_0 hl757_0
                            replace p757 := eq_true p757
                            replace q757 := eq_true q757
                            have p758 : 0 ≤ (x25_2 : Int) := of_decide_eq_true (by first | (with_reducible assumption) | assumption)
                            have q758 : x25_2 < ((rd_L1 t752 x18_1).length : Int) := of_decide_eq_true (by first | (with_reducible assumption) | assumption)
                            obtain ⟨ad758, e758, hx758_0⟩ := Kd.at_int (by repeat (first | (with_reducible exact HR757_0.out) | (with_reducible refine Kd.C_alloc ?_ _) | (with_reducible refine Kd.C_drewN ?_ _) | (with_reducible refine Kd.C_drew ?_) | exact HR757_0.out)) x25_2 p758 q758
                            cases e758
                            replace p758 := eq_true p758
                            replace q758 := eq_true q758
                            have p759 : 0 ≤ (x18_1 : Int) := of_decide_eq_true (by first | (with_reducible assumption) | assumption)
                            have q759 : x18_1 < (t752.length : Int) := of_decide_eq_true (by first | (with_reducible assumption) | assumption)
                            obtain ⟨ad759, A759_0, c759_0, e759, hx759_0, hl759_0, hi759_0⟩ := at_L1 (Kd.S_reads' HO_6.out).2.2 x18_1 p759 q759
                            obtain rfl : ad757 = ad759 := (by injection e759)
                            obtain ⟨ce759, hce759, hMe759, hcc759⟩ := Kd.S_get HO_6.out [] x18_1 p759 (by first | exact q759 | exact of_decide_eq_true (by first | (with_reducible assumption) | assumption) | (have e_ := (Kd.S_reads' HO_6.out).1; omega))
                            obtain ⟨ve759_0, rfl, ge759_0⟩ := hMe759
                            have hv759_0 := hcc759 0 _ rfl
                            rw [Nat.add_zero, show ((Kd.slice 3 (Kd.int .i64))).sz = 1 from rfl, Nat.mul_one] at hv759_0
                            replace hv759_0 := Option.some.inj (hv759_0.symm.trans hx759_0)
                            rw [hv759_0] at ge759_0
                            have HL759_0 := Aside0.mk (show Kd.R (Kd.int .i64) 3 _ _ _ _ (rd_L1 t752 x18_1) from ge759_0)
                            clear hv759_0 ge759_0
                            clear hcc759 hce759
                            have HR759_0 := Aside0.mk hi759_0
                            have HC759_0 := Aside0.mk hl759_0
                            clear hi759_0 hl759_0
                            replace p759 := eq_true p759
                            replace q759 := eq_true q759
                            have ea_ := Option.some.inj (hx757_0.symm.trans hx759_0)
                            injection ea_ with ea_ en_ ec_
                            subst ea_
                            subst ec_
                            clear en_
                            have p760 : 0 ≤ (x25_2 : Int) := of_decide_eq_true (by first | (with_reducible assumption) | assumption)
                            have q760 : x25_2 < ((rd_L1 t752 x18_1).length : Int) := of_decide_eq_true (by first | (with_reducible assumption) | assumption)
                            obtain ⟨ad760, e760, hx760_0⟩ := Kd.at_int (by repeat (first | (with_reducible exact HR759_0.out) | (with_reducible refine Kd.C_alloc ?_ _) | (with_reducible refine Kd.C_drewN ?_ _) | (with_reducible refine Kd.C_drew ?_) | exact HR759_0.out)) x25_2 p760 q760
                            cases e760
                            replace p760 := eq_true p760
                            replace q760 := eq_true q760
                            go_wp2
                            repeat (go_quiet (fail); try go_wp2)
                            go_roundg k2
                            case measure => have := HK1.out; have := HK2.out; omega
                            case rel => exact ⟨(wrap64 (x7_2 + (ji17))), (wrap64 (x25_2 + 1)), (by first | rfl | (simp; done) | (simp only [← hji17] <;> (first | rfl | simp)) | (simp [*]; done)), (by first | rfl | (simp; done) | (simp [*]; done)), H', ⟨by have := HK1.out; have := HK2.out; omega⟩, ⟨by (with_reducible repeat (first | apply Kd.S_alloc | apply Kd.S_drewN | apply Kd.S_drew)); exact HO_6.out⟩, ⟨by (with_reducible repeat (first | apply Kd.S_alloc | apply Kd.S_drewN | apply Kd.S_drew)); exact HO_16.out⟩, ⟨by repeat (first | (with_reducible exact HR755_0.out) | (with_reducible refine Kd.C_alloc ?_ _) | (with_reducible refine Kd.C_drewN ?_ _) | (with_reducible refine Kd.C_drew ?_) | exact HR755_0.out)⟩, ⟨by repeat (first | (with_reducible first | exact HB.out | apply below_alloc | apply pw_below_drewN | apply below_drew1) | exact HB.out)⟩⟩
                          · rw [if_neg c16] at H
                            exact absurd H (by simp)
                        · rw [if_neg c15] at H
                          exact absurd H (by simp)
                      · rw [if_neg c14] at H
                        exact absurd H (by simp)
                    · rw [if_neg c13] at H
                      exact absurd H (by simp)
                  · rw [if_neg c12] at H
                    exact absurd H (by simp)
                · rw [if_neg c11] at H
                  have c11b0 : decide (x25_2 < ((rd_L1 t749 x18_1).length : Int)) = false := decide_eq_false c11
                  clear c11
                  have H' := Aside0.mk H
                  clear H
                  go_wp2
                  repeat (go_quiet (fail); try go_wp2)
                  go_roundg k2
                  case measure => have := HK1.out; have := HK2.out; omega
                  case rel => exact ⟨(x7_2), (wrap64 (x18_1 + 1)), (by first | rfl | (simp; done) | (simp [*]; done)), (by first | rfl | (simp; done) | (simp [*]; done)), H', ⟨by have := HK1.out; have := HK2.out; omega⟩, ⟨by (with_reducible repeat (first | apply Kd.S_alloc | apply Kd.S_drewN | apply Kd.S_drew)); exact HO_6.out⟩, ⟨by (with_reducible repeat (first | apply Kd.S_alloc | apply Kd.S_drewN | apply Kd.S_drew)); exact HO_16.out⟩, ⟨by repeat (first | (with_reducible first | exact HB.out | apply below_alloc | apply pw_below_drewN | apply below_drew1) | exact HB.out)⟩⟩
          · rw [if_neg c10] at H
            exact absurd H (by simp)
        · rw [if_neg c9] at H
          exact absurd H (by simp)
      · rw [if_neg c8] at H
        have c8b0 : decide (x18_1 < (t749.length : Int)) = false := decide_eq_false c8
        clear c8
        obtain rfl := Option.some.inj H
        go_wp2
        repeat (go_quiet (fail); try go_wp2)
        go_ret
        exact ⟨by first | rfl | (simp [errW_none, errW_some] <;> rfl) | (simp [*, errW_none, errW_some] <;> rfl), by repeat (first | (with_reducible first | exact HB.out | apply below_alloc | apply pw_below_drewN | apply below_drew1) | exact HB.out)⟩

end Go.Proofs.Ytadepmjfhcmkoaa.P
