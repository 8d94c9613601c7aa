-- By gp.py (this session's own driver over the kit's print). Not trusted: Lean checks it.
import Derived.Test.YtadepmjfhcmkoaaF0
import Derived.Test.YtadepmjfhcmkoaaB
import Derived.Test.YtadepmjfhcmkoaaEachSt
import Derived.Test.YtadepmjfhcmkoaaFSpecGood
import Derived.Test.YtadepmjfhcmkoaaFSpecTr
import Derived.Test.YtadepmjfhcmkoaaFSpecGood
import Derived.Test.YtadepmjfhcmkoaaFSpecIn
import Derived.Test.YtadepmjfhcmkoaaFSpecTr
namespace Go.Proofs.Ytadepmjfhcmkoaa.P
open Go.Proofs.Ytadepmjfhcmkoaa.B
open Go.RowKit Go.Proofs.YtadepmjfhcmkoaaW.PrintWords Go.Proofs.YtadepmjfhcmkoaaW.PrintLast Go.Proofs.YtadepmjfhcmkoaaW.PrintMore
attribute [local go_sem] max2_int min2_int max_two min_two max_three min_three max_four min_four   -- for this text's walks alone
set_option linter.unusedVariables false
set_option linter.unusedSimpArgs false

/-! ### spec_trTotal: function 59 -/
def spec_trTotal.f (k : Nat) (a0 : Int) : Option (Int) := (spec_trKnown.f a0).bind fun t143 => ((spec_trWays.f k ([] : List Int) a0 t143).bind fun bt146 => (some bt146.1))
theorem spec_trTotal.mono : ∀ a0 k, LeO (spec_trTotal.f k a0) (spec_trTotal.f (k + 1) a0) := by
  intro a0 k
  unfold spec_trTotal.f
  repeat' first
      | (with_reducible exact spec_trWays.mono _ _ _ _)
      | (with_reducible exact LeO.refl _)
      | (with_reducible exact LeO.none _)
      | (with_reducible refine LeO.ite ?_ ?_)
      | (with_reducible refine LeO.bind ?_ (fun _ => ?_))
      | exact spec_trWays.mono _ _ _ _
      | exact LeO.none _
      | refine LeO.ite ?_ ?_
      | refine LeO.bind ?_ (fun _ => ?_)
set_option maxHeartbeats 8000000 in
set_option maxRecDepth 100000 in
theorem spec_trTotal.calls (k : Nat) (a0 : Int) (r : Int) (w : World) (h : spec_trTotal.f k a0 = some r) :
    Calls Try.prog 59 #[.int .i64 a0] w fun e w' => e = .returned (.int .i64 r) ∧ Below w.heap.size w w' := by
  have HB := Aside0.mk (Below.refl w.heap.size w)
  have H : ((spec_trKnown.f a0).bind fun t143 => ((spec_trWays.f k ([] : List Int) a0 t143).bind fun bt146 => (some bt146.1))) = some r := h
  clear h
  replace H := Option.bind_eq_some_iff.mp H
  obtain ⟨t143, A20, H⟩ := H
  replace H : ((spec_trWays.f k ([] : List Int) a0 t143).bind fun bt146 => (some bt146.1)) = some r := H
  have A2 := Aside0.mk A20
  clear A20
  replace H := Option.bind_eq_some_iff.mp H
  obtain ⟨⟨t146, t147⟩, A30, H⟩ := H
  replace H : (some t146) = some r := H
  have A3 := Aside0.mk A30
  clear A30
  obtain rfl := Option.some.inj H
  go_enter Try.func59, Try.ntmps59
  go_wp2_with (first | ((with_reducible refine gate_callee (f := 68) rfl ?_); refine goesL_ (some 5) rfl rfl Try.func68 (by kernel_rfl) rfl #[.int .i64 a0] rfl (by (try simp only [List.map_toArray, List.map_cons, List.map_nil]); first | done | rfl | (simp only [List.length_drop, List.length_take]; rfl)) ?_; (with_reducible refine (spec_trKnown.calls a0 t143 _ A2.out).mono ?_); rintro e w4 ⟨v144, rfl, ho0, hb⟩; refine ⟨_, rfl, ?_⟩; have n0_ := Aside0.mk (Kd.R_lower ho0 (below_size (by repeat (first | (with_reducible first | exact HB.out | apply below_alloc | apply pw_below_drewN | apply below_drew1) | exact HB.out)))); have n1_ := Aside0.mk (below_step (by repeat (first | (with_reducible first | exact HB.out | apply below_alloc | apply pw_below_drewN | apply below_drew1) | exact HB.out)) hb); clear HB; have HO145 := n0_; have HB := n1_; clear n0_ n1_; (try clear hb); (try clear hb2); (try clear hk); (try clear hi); (try clear ho0); obtain ⟨Ao5, co5, eo5⟩ := Kd.R_slice HO145.out; subst eo5) | ((with_reducible refine gate_callee (f := 72) rfl ?_); refine goesL_ (some 6) rfl rfl Try.func72 (by kernel_rfl) rfl #[.slice none 0 0, .int .i64 a0, .slice Ao5 t143.length co5] rfl (by (try simp only [List.map_toArray, List.map_cons, List.map_nil]); first | done | rfl | (simp only [List.length_drop, List.length_take]; rfl)) ?_; (refine (spec_trWays.calls k _ _ ([] : List Int) a0 (fun k_ => some k_ = (.slice Ao5 t143.length co5 : Value).ownBlock) (.slice Ao5 t143.length co5) t143 t146 t147 w _ ?side1 ?side2 ?side3 ?side4 A3.out).mono ?_); (case side1 => repeat (first | (with_reducible first | exact HB.out | apply below_alloc | apply pw_below_drewN | apply below_drew1) | exact HB.out)); (case side2 => exact Kd.C_kept_nil); (case side3 => exact Nat.le_refl _); (case side4 => exact Kd.R_tight rfl HO145.out); rintro e w6 ⟨rfl, hy0, hb, hkp⟩; refine ⟨_, rfl, ?_⟩; have n0_ := Aside0.mk (Kd.R_reok rfl hy0 (fun k_ e_ => HO145.out.1 k_ e_)); have n1_ := Aside0.mk (hb); clear HO145; clear HB; have HO145 := n0_; have HB := n1_; clear n0_ n1_; (try clear hb); (try clear hkp); (try clear hy0)))
  go_ret
  exact ⟨by first | rfl | (simp [errW_none, errW_some] <;> rfl) | (simp [*, errW_none, errW_some] <;> rfl), by repeat (first | (with_reducible first | exact HB.out | apply below_alloc | apply pw_below_drewN | apply below_drew1) | exact HB.out)⟩

/-! ### spec_trAt: function 60 (given) -/
mutual
def spec_trAt.l0 : Nat → Int → Int → List Int → List Int → List (List Int) → Option (List (List Int))
  | 0, _, _, _, _, _ => none
  | k + 1, n, x1, kn, row, out => if (out.length : Int) < n then ((spec_trNext.f k row n).bind fun B => spec_trAt.l1 k n x1 kn row out B 0) else some out
def spec_trAt.l1 : Nat → Int → Int → List Int → List Int → List (List Int) → List (List Int) → Int → Option (List (List Int))
  | 0, _, _, _, _, _, _, _ => none
  | k + 1, n, x1, kn, row, out, B, x21 => if x21 < (B.length : Int) then (if 0 ≤ x21 then ((spec_trWays.f k (rd_L1 B x21) n kn).bind fun bt => if x1 < bt.1 then ((spec_trStep.f k row (rd_L1 B x21) n).bind fun st => if out.length < 1000 then spec_trAt.l0 k n x1 bt.2 (rd_L1 B x21) (out ++ [st]) else none) else spec_trAt.l1 k n (wrap64 (x1 - bt.1)) bt.2 row out B (wrap64 (x21 + 1))) else none) else spec_trAt.l0 k n x1 kn row out
end
def spec_trAt.f (k : Nat) (a0 a1 : Int) : Option (List (List Int)) := (spec_trKnown.f a0).bind fun kn => spec_trAt.l0 k a0 a1 kn [] []
theorem spec_trAt.mono_l : ∀ k, (∀ y0 y1 y2 y3 y4, LeO (spec_trAt.l0 k y0 y1 y2 y3 y4) (spec_trAt.l0 (k + 1) y0 y1 y2 y3 y4)) ∧ (∀ y0 y1 y2 y3 y4 y5 y6, LeO (spec_trAt.l1 k y0 y1 y2 y3 y4 y5 y6) (spec_trAt.l1 (k + 1) y0 y1 y2 y3 y4 y5 y6))
  | 0 => ⟨fun _ _ _ _ _ r h => by simp [spec_trAt.l0] at h, fun _ _ _ _ _ _ _ r h => by simp [spec_trAt.l1] at h⟩
  | k + 1 => by
    obtain ⟨ih0, ih1⟩ := spec_trAt.mono_l k
    refine ⟨?_, ?_⟩
    · intro y0 y1 y2 y3 y4
      unfold spec_trAt.l0
      exact LeO.ite (LeO.bind (spec_trNext.mono _ _ _) (fun _ => ih1 _ _ _ _ _ _ _)) (LeO.refl _)
    · intro y0 y1 y2 y3 y4 y5 y6
      unfold spec_trAt.l1
      exact LeO.ite (LeO.ite (LeO.bind (spec_trWays.mono _ _ _ _) (fun _ => LeO.ite (LeO.bind (spec_trStep.mono _ _ _ _) (fun _ => LeO.ite (ih0 _ _ _ _ _) (LeO.none _))) (ih1 _ _ _ _ _ _ _))) (LeO.none _)) (ih0 _ _ _ _ _)
theorem spec_trAt.mono : ∀ a0 a1 k, LeO (spec_trAt.f k a0 a1) (spec_trAt.f (k + 1) a0 a1) := by
  intro a0 a1 k
  unfold spec_trAt.f
  exact LeO.bind (LeO.refl _) (fun _ => (spec_trAt.mono_l k).1 _ _ _ _ _)
set_option maxHeartbeats 8000000 in
set_option maxRecDepth 100000 in
theorem spec_trAt.calls (k : Nat) (a0 a1 : Int) (r : List (List Int)) (w : World) (h : spec_trAt.f k a0 a1 = some r) :
    Calls Try.prog 60 #[.int .i64 a0, .int .i64 a1] w fun e w' => ∃ v0_ : Value, e = .returned (v0_) ∧ Kd.S (Kd.slice 3 (Kd.int .i64)) 39 w' w.heap.size (fun _ => True) v0_ r ∧ Below w.heap.size w w' := by
  have HB := Aside0.mk (Below.refl w.heap.size w)
  obtain ⟨kn0, hkn, h⟩ := Option.bind_eq_some_iff.mp h
  have HK := Aside0.mk hkn
  have H' := Aside0.mk h
  clear hkn h
  go_enter Try.func60, Try.ntmps60
  go_wp2_with (go_at_call 68; (with_reducible refine (spec_trKnown.calls _ kn0 _ HK.out).mono ?_); rintro e w6 ⟨vk, rfl, hR, hb⟩; have RK := Aside0.mk (Kd.R_lower hR HB.out.size); have HB1 := Aside0.mk (below_step HB.out hb); clear hR hb; clear HB; have HB := HB1; clear HB1)
  go_loopg [1, 6, 7] k (fun kq v1 v6 v7 w' => ∃ (x1 : Int) (row kn : List Int) (out : List (List Int)), v1 = .int .i64 x1 ∧ Aside0 (spec_trAt.l0 kq a0 x1 kn row out = some r) ∧ Aside0 (kq ≤ k) ∧ Aside0 (Kd.V (Kd.int .i64) 3 w' 0 (fun k_ => some k_ ≠ vk.ownBlock) v6 row) ∧ Aside0 (Kd.S (Kd.slice 3 (Kd.int .i64)) 39 w' w.heap.size (fun k_ => some k_ ≠ vk.ownBlock) v7 out) ∧ Aside0 ((Kd.int .i64).R 3 w' w.heap.size (fun _ => True) vk kn) ∧ Aside0 (Below w.heap.size w w'))
  case atStart => exact ⟨a1, [], kn0, [], rfl, H', ⟨Nat.le_refl _⟩, ⟨Kd.V_nil _ _ _ _ _⟩, ⟨Kd.S_nil _ _ _ _ _⟩, RK, HB⟩
  case round =>
    clear H' RK HB
    obtain ⟨x1, row, kn, out, rfl, HA, HK1, VR, SO, RK, HB⟩ := hrel
    obtain ⟨Ar, cr, er, hcr, hCr⟩ := V_lists VR.out
    subst er
    obtain ⟨Ao, co, eo⟩ := Kd.S_slice SO.out
    subst eo
    cases gk with
    | zero => exact absurd HA.out (by simp [spec_trAt.l0])
    | succ k1 =>
      have H := HA.out
      clear HA
      simp only [spec_trAt.l0] at H
      by_cases c4 : (out.length : Int) < a0
      case neg =>
        rw [if_neg c4] at H
        have c4b0 : decide ((out.length : Int) < a0) = false := decide_eq_false c4
        obtain rfl := Option.some.inj H
        clear c4 H
        go_wp2
        go_ret
        exact ⟨_, rfl, Kd.S_mono SO.out (fun _ _ => trivial), HB.out⟩
      rw [if_pos c4] at H
      have c4b0 : decide ((out.length : Int) < a0) = true := decide_eq_true c4
      obtain ⟨B, hB, H⟩ := Option.bind_eq_some_iff.mp H
      have HNX := Aside0.mk (spec_trNext.calls k1 Ar cr row a0 B wr hCr hcr hB)
      have H' := Aside0.mk H
      clear H hB hCr hcr c4
      go_wp2_with (go_at_call 70; (with_reducible refine HNX.out.mono ?_); rintro e w8 ⟨vB, rfl, hNB, hb⟩; have VB := Aside0.mk (Kd.V_mono (ok' := fun k_ => some k_ ≠ vk.ownBlock ∧ some k_ ≠ (Value.slice Ao out.length co).ownBlock) (Kd.N_V (base' := 0) hNB) (fun k_ hk => ⟨fun e_ => by have h1 := Kd.R_lt RK.out k_ e_.symm; have h2 : wr.heap.size ≤ k_ := hk; omega, fun e_ => by have h1 := Kd.S_lt SO.out k_ e_.symm; have h2 : wr.heap.size ≤ k_ := hk; omega⟩)); have n0 := Aside0.mk (Kd.V_below VR.out hb); have n1 := Aside0.mk (Kd.S_below SO.out hb); have n2 := Aside0.mk (Kd.R_below RK.out hb); have n3 := Aside0.mk (below_step HB.out hb); clear hNB hb; clear VR SO RK HB; have VR := n0; have SO := n1; have RK := n2; have HB := n3; clear n0 n1 n2 n3; obtain ⟨AB, cB, eB⟩ := Kd.V_slice VB.out; subst eB)
      clear c4b0
      go_loopg [1, 6, 7, 21] k1 (fun kq v1 v6 v7 v21 w' => ∃ (x1 : Int) (kn : List Int) (x21 : Int), v1 = .int .i64 x1 ∧ v6 = .slice Ar row.length cr ∧ v7 = .slice Ao out.length co ∧ v21 = .int .i64 x21 ∧ Aside0 (spec_trAt.l1 kq a0 x1 kn row out B x21 = some r) ∧ Aside0 (kq ≤ k1) ∧ Aside0 (Kd.V (Kd.int .i64) 3 w' 0 (fun k_ => some k_ ≠ vk.ownBlock) (.slice Ar row.length cr) row) ∧ Aside0 (Kd.S (Kd.slice 3 (Kd.int .i64)) 39 w' w.heap.size (fun k_ => some k_ ≠ vk.ownBlock) (.slice Ao out.length co) out) ∧ Aside0 (Kd.V (Kd.slice 3 (Kd.int .i64)) 39 w' 0 (fun k_ => some k_ ≠ vk.ownBlock ∧ some k_ ≠ (Value.slice Ao out.length co).ownBlock) (.slice AB B.length cB) B) ∧ Aside0 ((Kd.int .i64).R 3 w' w.heap.size (fun _ => True) vk kn) ∧ Aside0 (Below w.heap.size w w'))
      case atStart => exact ⟨x1, kn, 0, rfl, rfl, rfl, rfl, H', ⟨Nat.le_refl _⟩, VR, SO, VB, RK, HB⟩
      case round =>
        clear H' VR SO VB RK HB HNX
        obtain ⟨x1, kn, x21, rfl, rfl, rfl, rfl, HA, HK2, VR, SO, VB, RK, HB⟩ := hrel
        cases gk with
        | zero => exact absurd HA.out (by simp [spec_trAt.l1])
        | succ k2 =>
          have H := HA.out
          clear HA
          simp only [spec_trAt.l1] at H
          by_cases c6 : x21 < (B.length : Int)
          case neg =>
            rw [if_neg c6] at H
            have c6b0 : decide (x21 < (B.length : Int)) = false := decide_eq_false c6
            have H' := Aside0.mk H
            clear H c6
            go_wp2
            go_roundg k2
            case measure => have := HK1.out; have := HK2.out; omega
            case rel => exact ⟨x1, row, kn, out, rfl, H', ⟨by have := HK1.out; have := HK2.out; omega⟩, VR, SO, RK, HB⟩
          rw [if_pos c6] at H
          have c6b0 : decide (x21 < (B.length : Int)) = true := decide_eq_true c6
          by_cases c7 : 0 ≤ x21
          case neg =>
            rw [if_neg c7] at H
            cases H
          rw [if_pos c7] at H
          obtain ⟨⟨tw, tk⟩, htw, H⟩ := Option.bind_eq_some_iff.mp H
          obtain ⟨adB, Ab, cb, eAB, hxb, hVb⟩ := V_row VB.out x21 c7 c6
          subst eAB
          have VBB := Aside0.mk hVb
          have RKt := Aside0.mk (Kd.R_tight rfl RK.out)
          have HW := Aside0.mk (spec_trWays.calls k2 Ab cb (rd_L1 B x21) a0 (fun k_ => some k_ = vk.ownBlock) vk kn tw tk w wr HB.out (Kd.C_kept_ownV hVb (fun k_ hk hs => absurd hs hk.1)) (Kd.V_reads' hVb).2.1 RKt.out htw)
          have p6 := eq_true c6
          have p7 := eq_true c7
          clear htw hVb c6 c7
          by_cases c8 : x1 < tw
          · have H2 : ((spec_trStep.f k2 row (rd_L1 B x21) a0).bind fun st => if out.length < 1000 then spec_trAt.l0 k2 a0 x1 tk (rd_L1 B x21) (out ++ [st]) else none) = some r := by
              have h9 : (if x1 < tw then _ else _) = some r := H
              rw [if_pos c8] at h9
              exact h9
            have c8b0 : decide (x1 < tw) = true := decide_eq_true c8
            obtain ⟨st, hst, H2⟩ := Option.bind_eq_some_iff.mp H2
            by_cases c9 : out.length < 1000
            case neg =>
              rw [if_neg c9] at H2
              cases H2
            rw [if_pos c9] at H2
            obtain ⟨ys, hys⟩ : ∃ ys, ys = out ++ [st] := ⟨_, rfl⟩
            rw [← hys] at H2
            have NY := Aside0.mk hys
            have H' := Aside0.mk H2
            have HST := Aside0.mk hst
            have LM := Aside0.mk c9
            clear H H2 hys hst c8 c9
            go_wp2_with (first | (go_at_call 72; (with_reducible refine HW.out.mono ?_); rintro e w10 ⟨rfl, hR, hb, hkp⟩; have n0 := Aside0.mk (Kd.V_kept VR.out hkp (fun k_ hk hs => absurd hs hk)); have n1 := Aside0.mk (Kd.V_kept VBB.out hkp (fun k_ hk hs => absurd hs hk.1)); have n2 := Aside0.mk (Kd.S_kept SO.out hkp (fun k_ hk hs => absurd hs hk)); have n3 := Aside0.mk (Kd.R_reok (ok := fun _ => True) rfl hR (fun _ _ => trivial)); have n4 := Aside0.mk hb; clear hR hb hkp) | (go_at_call 110; (with_reducible refine (spec_trStep.calls k2 Ar cr row Ab cb (rd_L1 B x21) a0 st _ (Kd.V_reads' n0.out).2.2 (Kd.V_reads' n0.out).2.1 (Kd.V_reads' n1.out).2.2 (Kd.V_reads' n1.out).2.1 HST.out).mono ?_); rintro e w11 ⟨vs, rfl, hRs, hbs⟩; obtain ⟨As, cs, es⟩ := Kd.R_slice hRs; subst es; have q1 := Aside0.mk (Kd.V_below n1.out hbs); have q2 := Aside0.mk (Kd.S_elder' n2.out (Kd.R_base hRs) hbs); have q3 := Aside0.mk (Kd.R_below n3.out hbs); have q4 := Aside0.mk (below_step n4.out hbs); have q5 := Aside0.mk (Kd.R_lower (Kd.R_mono (ok' := fun k_ => some k_ ≠ vk.ownBlock ∧ some k_ ≠ (Value.slice Ao out.length co).ownBlock) (Kd.R_bound hRs) (fun k_ hk => ⟨fun e_ => by have h1 := Kd.R_lt n3.out k_ e_.symm; have h2 := hk.2.1; omega, fun e_ => by have h1 := Kd.S_lt n2.out k_ e_.symm; have h2 := hk.2.1; omega⟩)) n4.out.size); clear hRs hbs) | ((with_reducible refine gate_builtin (b := .append) (xs := #[.tmp 32, .tmp 37]) rfl ?_); at_builtin; refine Kd.S_append (Kd.slice 3 (Kd.int .i64)) (w0 := w) w.heap.size rfl (.tmp 32) (.tmp 37) 22 39 (.slice none 0 0) 24 rfl Try.underlying22 info39 rfl (by decide) (by omega) (.slice Ao out.length co) out st [.slice As st.length cs] (fun k_ => some k_ ≠ vk.ownBlock) (fun k_ => some k_ = (.slice As st.length cs : Value).ownBlock) rfl rfl ?aP ?aQ ?aF ?aO ?aB ?aS ?aL ?_; (case aP => exact Kd.M_row (Kd.R_tight rfl q5.out)); (case aQ => exact (fun k_ hk_ => q5.out.1 k_ hk_.symm)); (case aF => exact (fun k_ hk e_ => by have h1 := Kd.R_lt q3.out k_ e_.symm; omega)); (case aO => exact Kd.S_mono q2.out (fun k_ hk => ⟨hk.1, fun e_ => hk.2 e_⟩)); (case aB => exact q4.out); (case aS => exact q4.out.size); (case aL => have := LM.out; omega); intro v12 w12 ho hb hg hat; rw [← NY.out] at ho; have z0 := Aside0.mk ho; have z1 := Aside0.mk hb; have z2 := Aside0.mk (Kd.V_mono (ok' := fun k_ => some k_ ≠ vk.ownBlock) (Kd.V_grown q1.out hg (fun k_ hk => hk.2)) (fun k_ hk => hk.1)); have z3 := Aside0.mk (Kd.R_reok (ok := fun _ => True) rfl (Kd.R_step (Kd.R_tight rfl q3.out) (fun k_ hk hlt => hg.block k_ hlt (fun e_ => ((Kd.S_R q2.out).1 k_ e_.symm).1 hk))) (fun _ _ => trivial)); clear ho hb hg hat))
            go_roundg k2
            case measure => have := HK1.out; have := HK2.out; omega
            case rel => exact ⟨x1, rd_L1 B x21, tk, ys, rfl, H', ⟨by have := HK1.out; have := HK2.out; omega⟩, z2, z0, z3, z1⟩
          · have H2 : spec_trAt.l1 k2 a0 (wrap64 (x1 - tw)) tk row out B (wrap64 (x21 + 1)) = some r := by
              have h9 : (if x1 < tw then _ else _) = some r := H
              rw [if_neg c8] at h9
              exact h9
            have c8b0 : decide (x1 < tw) = false := decide_eq_false c8
            have H' := Aside0.mk H2
            clear H H2 c8
            go_wp2_with (go_at_call 72; (with_reducible refine HW.out.mono ?_); rintro e w10 ⟨rfl, hR, hb, hkp⟩; have n0 := Aside0.mk (Kd.V_kept VR.out hkp (fun k_ hk hs => absurd hs hk)); have n1 := Aside0.mk (Kd.V_kept VB.out hkp (fun k_ hk hs => absurd hs hk.1)); have n2 := Aside0.mk (Kd.S_kept SO.out hkp (fun k_ hk hs => absurd hs hk)); have n3 := Aside0.mk (Kd.R_reok (ok := fun _ => True) rfl hR (fun _ _ => trivial)); have n4 := Aside0.mk hb; clear hR hb hkp)
            go_roundg k2
            case measure => have := HK2.out; omega
            case rel => exact ⟨wrap64 (x1 - tw), tk, wrap64 (x21 + 1), rfl, rfl, rfl, rfl, H', ⟨by have := HK2.out; omega⟩, n0, n2, n1, n3, n4⟩

/-! ### spec_SignsAt: function 14 -/
def spec_SignsAt.f (k : Nat) (a0 : Int) (a1 : Int) : Option ((List (List Int)) × Bool) := (spec_l1In.f a0 1 6).bind fun t160 => (if t160 = true then ((spec_trTotal.f k a0).bind fun t161 => ((spec_l1In.f a1 0 (wrap64 (t161 - 1))).bind fun t162 => (if t162 = true then ((spec_trAt.f k a0 a1).bind fun t163 => (some (t163, true))) else (some (([] : List (List Int)), false))))) else (some (([] : List (List Int)), false)))
theorem spec_SignsAt.mono : ∀ a0 a1 k, LeO (spec_SignsAt.f k a0 a1) (spec_SignsAt.f (k + 1) a0 a1) := by
  intro a0 a1 k
  unfold spec_SignsAt.f
  repeat' first
      | (with_reducible exact spec_trAt.mono _ _ _)
      | (with_reducible exact spec_trTotal.mono _ _)
      | (with_reducible exact LeO.refl _)
      | (with_reducible exact LeO.none _)
      | (with_reducible refine LeO.ite ?_ ?_)
      | (with_reducible refine LeO.bind ?_ (fun _ => ?_))
      | exact spec_trAt.mono _ _ _
      | exact spec_trTotal.mono _ _
      | exact LeO.none _
      | refine LeO.ite ?_ ?_
      | refine LeO.bind ?_ (fun _ => ?_)
set_option maxHeartbeats 8000000 in
set_option maxRecDepth 100000 in
theorem spec_SignsAt.calls (k : Nat) (a0 : Int) (a1 : Int) (r1 : List (List Int)) (r2 : Bool) (w : World) (h : spec_SignsAt.f k a0 a1 = some (r1, r2)) :
    Calls Try.prog 14 #[.int .i64 a0, .int .i64 a1] w fun e w' => ∃ v0_ : Value, e = .returned (.tuple #[v0_, .bool r2]) ∧ Kd.S (Kd.slice 3 (Kd.int .i64)) 39 w' w.heap.size (fun _ => True) v0_ r1 ∧ Below w.heap.size w w' := by
  have HB := Aside0.mk (Below.refl w.heap.size w)
  have H : ((spec_l1In.f a0 1 6).bind fun t160 => (if t160 = true then ((spec_trTotal.f k a0).bind fun t161 => ((spec_l1In.f a1 0 (wrap64 (t161 - 1))).bind fun t162 => (if t162 = true then ((spec_trAt.f k a0 a1).bind fun t163 => (some (t163, true))) else (some (([] : List (List Int)), false))))) else (some (([] : List (List Int)), false)))) = some (r1, r2) := h
  clear h
  replace H := Option.bind_eq_some_iff.mp H
  obtain ⟨t160, A30, H⟩ := H
  replace H : (if t160 = true then ((spec_trTotal.f k a0).bind fun t161 => ((spec_l1In.f a1 0 (wrap64 (t161 - 1))).bind fun t162 => (if t162 = true then ((spec_trAt.f k a0 a1).bind fun t163 => (some (t163, true))) else (some (([] : List (List Int)), false))))) else (some (([] : List (List Int)), false))) = some (r1, r2) := H
  have A3 := Aside0.mk A30
  clear A30
  by_cases c4 : t160 = true
  · subst c4
    have H1 : ((spec_trTotal.f k a0).bind fun t161 => ((spec_l1In.f a1 0 (wrap64 (t161 - 1))).bind fun t162 => (if t162 = true then ((spec_trAt.f k a0 a1).bind fun t163 => (some (t163, true))) else (some (([] : List (List Int)), false))))) = some (r1, r2) := by rw [if_pos rfl] at H; exact H
    clear H
    have H := H1
    clear H1
    replace H := Option.bind_eq_some_iff.mp H
    obtain ⟨t161, A50, H⟩ := H
    replace H : ((spec_l1In.f a1 0 (wrap64 (t161 - 1))).bind fun t162 => (if t162 = true then ((spec_trAt.f k a0 a1).bind fun t163 => (some (t163, true))) else (some (([] : List (List Int)), false)))) = some (r1, r2) := H
    have A5 := Aside0.mk A50
    clear A50
    replace H := Option.bind_eq_some_iff.mp H
    obtain ⟨t162, A60, H⟩ := H
    replace H : (if t162 = true then ((spec_trAt.f k a0 a1).bind fun t163 => (some (t163, true))) else (some (([] : List (List Int)), false))) = some (r1, r2) := H
    have A6 := Aside0.mk A60
    clear A60
    by_cases c7 : t162 = true
    · subst c7
      have H1 : ((spec_trAt.f k a0 a1).bind fun t163 => (some (t163, true))) = some (r1, r2) := by rw [if_pos rfl] at H; exact H
      clear H
      have H := H1
      clear H1
      replace H := Option.bind_eq_some_iff.mp H
      obtain ⟨t163, A80, H⟩ := H
      replace H : (some (t163, true)) = some (r1, r2) := H
      have A8 := Aside0.mk A80
      clear A80
      simp only [Option.some.injEq, Prod.mk.injEq] at H
      obtain ⟨rfl, rfl⟩ := H
      go_enter Try.func14, Try.ntmps14
      go_wp2_with (first | ((with_reducible refine gate_callee (f := 58) rfl ?_); refine goesL_ (some 7) rfl rfl Try.func58 (by kernel_rfl) rfl #[.int .i64 a0, .int .i64 1, .int .i64 6] rfl (by (try simp only [List.map_toArray, List.map_cons, List.map_nil]); first | done | rfl | (simp only [List.length_drop, List.length_take]; rfl)) ?_; (with_reducible refine (spec_l1In.calls a0 1 6 true _ A3.out).mono ?_); rintro e w' ⟨rfl, ⟨nd, rfl⟩⟩; refine ⟨_, rfl, ?_⟩) | (go_at_call 59; (with_reducible refine (spec_trTotal.calls k a0 t161 _ A5.out).mono ?_); rintro e w9 ⟨rfl, hb⟩; have n0_ := Aside0.mk (below_step (by repeat (first | (with_reducible first | exact HB.out | apply below_alloc | apply pw_below_drewN | apply below_drew1) | exact HB.out)) hb); clear HB; have HB := n0_; clear n0_; (try clear hb); (try clear hb2); (try clear hk); (try clear hi)) | (go_at_call 58; (with_reducible refine (spec_l1In.calls a1 0 (wrap64 (t161 - 1)) true _ A6.out).mono ?_); rintro e w' ⟨rfl, ⟨nd, rfl⟩⟩) | ((with_reducible refine gate_callee (f := 60) rfl ?_); refine goesL_ (some 19) rfl rfl Try.func60 (by kernel_rfl) rfl #[.int .i64 a0, .int .i64 a1] rfl (by (try simp only [List.map_toArray, List.map_cons, List.map_nil]); first | done | rfl | (simp only [List.length_drop, List.length_take]; rfl)) ?_; (with_reducible refine (spec_trAt.calls k a0 a1 t163 _ A8.out).mono ?_); rintro e w10 ⟨v164, rfl, ho0, hb⟩; refine ⟨_, rfl, ?_⟩; have n0_ := Aside0.mk (Kd.S_lower ho0 (below_size (by repeat (first | (with_reducible first | exact HB.out | apply below_alloc | apply pw_below_drewN | apply below_drew1) | exact HB.out)))); have n1_ := Aside0.mk (below_step (by repeat (first | (with_reducible first | exact HB.out | apply below_alloc | apply pw_below_drewN | apply below_drew1) | exact HB.out)) hb); clear HB; have HO165 := n0_; have HB := n1_; clear n0_ n1_; (try clear hb); (try clear hb2); (try clear hk); (try clear hi); (try clear ho0)))
      go_ret2
      exact ⟨_, by first | rfl | (simp [errW_none, errW_some] <;> rfl) | (simp [*, errW_none, errW_some] <;> rfl), by (with_reducible repeat (first | apply Kd.S_alloc | apply Kd.S_drewN | apply Kd.S_drew)); exact HO165.out, by repeat (first | (with_reducible first | exact HB.out | apply below_alloc | apply pw_below_drewN | apply below_drew1) | exact HB.out)⟩
    · replace c7 := Bool.eq_false_iff.mpr c7
      subst c7
      have H1 : (some (([] : List (List Int)), false)) = some (r1, r2) := by rw [if_neg (show ¬ (false = true) by decide)] at H; exact H
      clear H
      have H := H1
      clear H1
      simp only [Option.some.injEq, Prod.mk.injEq] at H
      obtain ⟨rfl, rfl⟩ := H
      go_enter Try.func14, Try.ntmps14
      go_wp2_with (first | ((with_reducible refine gate_callee (f := 58) rfl ?_); refine goesL_ (some 7) rfl rfl Try.func58 (by kernel_rfl) rfl #[.int .i64 a0, .int .i64 1, .int .i64 6] rfl (by (try simp only [List.map_toArray, List.map_cons, List.map_nil]); first | done | rfl | (simp only [List.length_drop, List.length_take]; rfl)) ?_; (with_reducible refine (spec_l1In.calls a0 1 6 true _ A3.out).mono ?_); rintro e w' ⟨rfl, ⟨nd, rfl⟩⟩; refine ⟨_, rfl, ?_⟩) | (go_at_call 59; (with_reducible refine (spec_trTotal.calls k a0 t161 _ A5.out).mono ?_); rintro e w11 ⟨rfl, hb⟩; have n0_ := Aside0.mk (below_step (by repeat (first | (with_reducible first | exact HB.out | apply below_alloc | apply pw_below_drewN | apply below_drew1) | exact HB.out)) hb); clear HB; have HB := n0_; clear n0_; (try clear hb); (try clear hb2); (try clear hk); (try clear hi)) | (go_at_call 58; (with_reducible refine (spec_l1In.calls a1 0 (wrap64 (t161 - 1)) false _ A6.out).mono ?_); rintro e w' ⟨rfl, ⟨nd, rfl⟩⟩))
      go_ret2
      exact ⟨_, by first | rfl | (simp [errW_none, errW_some] <;> rfl) | (simp [*, errW_none, errW_some] <;> rfl), by first | exact Kd.S_nil _ _ _ _ _ | exact Kd.N_nil _ _ _ _ _ | exact Kd.V_nil _ _ _ _ _ | exact Kd.Q_nil _ _ _ _ _ | exact Kd.R_nil _ _ _ _ _, by repeat (first | (with_reducible first | exact HB.out | apply below_alloc | apply pw_below_drewN | apply below_drew1) | exact HB.out)⟩
  · replace c4 := Bool.eq_false_iff.mpr c4
    subst c4
    have H1 : (some (([] : List (List Int)), false)) = some (r1, r2) := by rw [if_neg (show ¬ (false = true) by decide)] at H; exact H
    clear H
    have H := H1
    clear H1
    simp only [Option.some.injEq, Prod.mk.injEq] at H
    obtain ⟨rfl, rfl⟩ := H
    go_enter Try.func14, Try.ntmps14
    go_wp2_with (first | ((with_reducible refine gate_callee (f := 58) rfl ?_); refine goesL_ (some 7) rfl rfl Try.func58 (by kernel_rfl) rfl #[.int .i64 a0, .int .i64 1, .int .i64 6] rfl (by (try simp only [List.map_toArray, List.map_cons, List.map_nil]); first | done | rfl | (simp only [List.length_drop, List.length_take]; rfl)) ?_; (with_reducible refine (spec_l1In.calls a0 1 6 false _ A3.out).mono ?_); rintro e w' ⟨rfl, ⟨nd, rfl⟩⟩; refine ⟨_, rfl, ?_⟩))
    go_ret2
    exact ⟨_, by first | rfl | (simp [errW_none, errW_some] <;> rfl) | (simp [*, errW_none, errW_some] <;> rfl), by first | exact Kd.S_nil _ _ _ _ _ | exact Kd.N_nil _ _ _ _ _ | exact Kd.V_nil _ _ _ _ _ | exact Kd.Q_nil _ _ _ _ _ | exact Kd.R_nil _ _ _ _ _, by repeat (first | (with_reducible first | exact HB.out | apply below_alloc | apply pw_below_drewN | apply below_drew1) | exact HB.out)⟩

/-! ### spec_RankSigns: function 23 (given) -/
mutual
def spec_RankSigns.l0 : Nat → Int → List (List Int) → List Int → Int → List Int → Int → Option (Int × Bool)
  | 0, _, _, _, _, _, _ => none
  | k + 1, n, T, kn, x6, row, x22 => if x22 < (T.length : Int) then (if 0 ≤ x22 then ((spec_trNext.f k row n).bind fun B => spec_RankSigns.l1 k n T kn x6 x22 B 0) else none) else some (x6, true)
def spec_RankSigns.l1 : Nat → Int → List (List Int) → List Int → Int → Int → List (List Int) → Int → Option (Int × Bool)
  | 0, _, _, _, _, _, _, _ => none
  | k + 1, n, T, kn, x6, x22, B, x30 => if x30 < (B.length : Int) then (if 0 ≤ x30 then ((spec_l1Same.f k (rd_L1 B x30) (rd_L1 T x22)).bind fun t => if t = true then spec_RankSigns.l0 k n T kn x6 (rd_L1 T x22) (wrap64 (x22 + 1)) else ((spec_trWays.f k (rd_L1 B x30) n kn).bind fun bt => spec_RankSigns.l1 k n T bt.2 (wrap64 (x6 + bt.1)) x22 B (wrap64 (x30 + 1)))) else none) else spec_RankSigns.l0 k n T kn x6 (rd_L1 T x22) (wrap64 (x22 + 1))
end
def spec_RankSigns.f (k : Nat) (l0 : List (List Int)) : Option (Int × Bool) := (spec_sgGood.f k l0).bind fun t => if t = true then ((spec_trKnown.f (l0.length : Int)).bind fun kn => (spec_trOf.f k l0).bind fun T => spec_RankSigns.l0 k (l0.length : Int) T kn 0 [] 0) else some (0, false)
theorem spec_RankSigns.mono_l : ∀ k, (∀ y0 y1 y2 y3 y4 y5, LeO (spec_RankSigns.l0 k y0 y1 y2 y3 y4 y5) (spec_RankSigns.l0 (k + 1) y0 y1 y2 y3 y4 y5)) ∧ (∀ y0 y1 y2 y3 y4 y5 y6, LeO (spec_RankSigns.l1 k y0 y1 y2 y3 y4 y5 y6) (spec_RankSigns.l1 (k + 1) y0 y1 y2 y3 y4 y5 y6))
  | 0 => ⟨fun _ _ _ _ _ _ r h => by simp [spec_RankSigns.l0] at h, fun _ _ _ _ _ _ _ r h => by simp [spec_RankSigns.l1] at h⟩
  | k + 1 => by
    obtain ⟨ih0, ih1⟩ := spec_RankSigns.mono_l k
    refine ⟨?_, ?_⟩
    · intro y0 y1 y2 y3 y4 y5
      unfold spec_RankSigns.l0
      exact LeO.ite (LeO.ite (LeO.bind (spec_trNext.mono _ _ _) (fun _ => ih1 _ _ _ _ _ _ _)) (LeO.none _)) (LeO.refl _)
    · intro y0 y1 y2 y3 y4 y5 y6
      unfold spec_RankSigns.l1
      exact LeO.ite (LeO.ite (LeO.bind (spec_l1Same.mono _ _ _) (fun _ => LeO.ite (ih0 _ _ _ _ _ _) (LeO.bind (spec_trWays.mono _ _ _ _) (fun _ => ih1 _ _ _ _ _ _ _)))) (LeO.none _)) (ih0 _ _ _ _ _ _)
theorem spec_RankSigns.mono : ∀ a0 k, LeO (spec_RankSigns.f k a0) (spec_RankSigns.f (k + 1) a0) := by
  intro a0 k
  unfold spec_RankSigns.f
  exact LeO.bind (spec_sgGood.mono _ _) (fun _ => LeO.ite (LeO.bind (LeO.refl _) (fun _ => LeO.bind (spec_trOf.mono _ _) (fun _ => (spec_RankSigns.mono_l k).1 _ _ _ _ _ _))) (LeO.refl _))
set_option maxHeartbeats 8000000 in
set_option maxRecDepth 100000 in
theorem spec_RankSigns.calls (k : Nat) (A0 : Option Addr) (c0 : Nat) (l0 : List (List Int)) (r1 : Int) (r2 : Bool) (w : World) (hr0 : Kd.C (Kd.slice 3 (Kd.int .i64)) w A0 l0.length l0) (hc0 : l0.length ≤ c0) (h : spec_RankSigns.f k l0 = some (r1, r2)) :
    Calls Try.prog 23 #[.slice A0 l0.length c0] w fun e w' => e = .returned (.tuple #[.int .i64 r1, .bool r2]) ∧ Below w.heap.size w w' := by
  have HB := Aside0.mk (Below.refl w.heap.size w)
  obtain ⟨t, ht, h⟩ := Option.bind_eq_some_iff.mp h
  have HG := Aside0.mk (spec_sgGood.calls k A0 c0 l0 t w hr0 hc0 ht)
  cases t with
  | false =>
    rw [if_neg (by decide)] at h
    simp only [Option.some.injEq, Prod.mk.injEq] at h
    obtain ⟨rfl, rfl⟩ := h
    clear ht hr0 hc0
    go_enter Try.func23, Try.ntmps23
    go_wp2_with (go_at_call 67; (with_reducible refine HG.out.mono ?_); rintro e w5 ⟨rfl, hb⟩; have HB1 := Aside0.mk hb; clear hb)
    go_ret2
    exact ⟨rfl, HB1.out⟩
  | true =>
    rw [if_pos rfl] at h
    obtain ⟨kn0, hkn, h⟩ := Option.bind_eq_some_iff.mp h
    obtain ⟨T, hT, h⟩ := Option.bind_eq_some_iff.mp h
    have HK := Aside0.mk hkn
    have HT := Aside0.mk (fun (W : World) (hb : Below w.heap.size w W) => spec_trOf.calls k A0 c0 l0 T W (Kd.C_below hr0 hb) hc0 hT)
    obtain ⟨n, hn⟩ : ∃ n : Int, n = (l0.length : Int) := ⟨_, rfl⟩
    rw [← hn] at h
    have HN := Aside0.mk hn
    have H' := Aside0.mk h
    clear ht hkn hT h hr0 hc0 hn
    go_enter Try.func23, Try.ntmps23
    go_wp2_with (first | (go_at_call 67; (with_reducible refine HG.out.mono ?_); rintro e w5 ⟨rfl, hb⟩; have HB1 := Aside0.mk hb; clear hb; clear HB; have HB := HB1; clear HB1) | (go_at_call 68; (with_reducible refine (spec_trKnown.calls _ kn0 _ HK.out).mono ?_); rintro e w6 ⟨vk, rfl, hR, hb⟩; have RK := Aside0.mk (Kd.R_lower hR HB.out.size); have HB1 := Aside0.mk (below_step HB.out hb); clear hR hb; clear HB; have HB := HB1; clear HB1) | (go_at_call 69; (with_reducible refine (HT.out _ HB.out).mono ?_); rintro e w7 ⟨vT, rfl, hS, hb⟩; have VT := Aside0.mk (Kd.V_mono (ok' := fun k_ => some k_ ≠ vk.ownBlock) (Kd.S_V (base' := 0) (Kd.S_mono (Kd.S_bound hS) (fun k_ hk => hk))) (fun k_ hk e_ => by have h1 := Kd.R_lt RK.out k_ e_.symm; have h2 := hk.2.1; omega)); have RK1 := Aside0.mk (Kd.R_below RK.out hb); have HB1 := Aside0.mk (below_step HB.out hb); clear hS hb; clear HB RK; have HB := HB1; have RK := RK1; clear HB1 RK1; obtain ⟨AT, cT, eT⟩ := Kd.V_slice VT.out; subst eT))
    rw [← HN.out]
    go_loopg [6, 7, 22] k (fun kq v6 v7 v22 w' => ∃ (x6 : Int) (row kn : List Int) (x22 : Int), v6 = .int .i64 x6 ∧ v22 = .int .i64 x22 ∧ Aside0 (spec_RankSigns.l0 kq n T kn x6 row x22 = some (r1, r2)) ∧ Aside0 (kq ≤ k) ∧ Aside0 (Kd.V (Kd.slice 3 (Kd.int .i64)) 39 w' 0 (fun k_ => some k_ ≠ vk.ownBlock) (.slice AT T.length cT) T) ∧ Aside0 (Kd.V (Kd.int .i64) 3 w' 0 (fun k_ => some k_ ≠ vk.ownBlock) v7 row) ∧ Aside0 ((Kd.int .i64).R 3 w' w.heap.size (fun _ => True) vk kn) ∧ Aside0 (Below w.heap.size w w'))
    case atStart => exact ⟨0, [], kn0, 0, rfl, rfl, H', ⟨Nat.le_refl _⟩, VT, ⟨Kd.V_nil _ _ _ _ _⟩, RK, HB⟩
    case round =>
      clear H' VT RK HB HT
      obtain ⟨x6, row, kn, x22, rfl, rfl, HA, HK1, VT, VR, RK, HB⟩ := hrel
      obtain ⟨Ar, cr, er, hcr, hCr⟩ := V_lists VR.out
      subst er
      cases gk with
      | zero => exact absurd HA.out (by simp [spec_RankSigns.l0])
      | succ k1 =>
        have H := HA.out
        clear HA
        simp only [spec_RankSigns.l0] at H
        by_cases c4 : x22 < (T.length : Int)
        case neg =>
          rw [if_neg c4] at H
          have c4b0 : decide (x22 < (T.length : Int)) = false := decide_eq_false c4
          simp only [Option.some.injEq, Prod.mk.injEq] at H
          obtain ⟨rfl, rfl⟩ := H
          clear c4
          go_wp2
          go_ret2
          exact ⟨rfl, HB.out⟩
        rw [if_pos c4] at H
        have c4b0 : decide (x22 < (T.length : Int)) = true := decide_eq_true c4
        by_cases c5 : 0 ≤ x22
        case neg =>
          rw [if_neg c5] at H
          cases H
        rw [if_pos c5] at H
        obtain ⟨B, hB, H⟩ := Option.bind_eq_some_iff.mp H
        obtain ⟨adT, Ao, co, eAT, hxo, hVo⟩ := V_row VT.out x22 c5 c4
        subst eAT
        have HNX := Aside0.mk (spec_trNext.calls k1 Ar cr row n B wr hCr hcr hB)
        have VO := Aside0.mk hVo
        have p4 := eq_true c4
        have p5 := eq_true c5
        have H' := Aside0.mk H
        have C45 := Aside0.mk (And.intro c4 c5)
        clear H hB hCr hcr hVo c4 c5
        go_wp2_with (go_at_call 70; (with_reducible refine HNX.out.mono ?_); rintro e w8 ⟨vB, rfl, hNB, hb⟩; have VB := Aside0.mk (Kd.V_mono (ok' := fun k_ => some k_ ≠ vk.ownBlock) (Kd.N_V (base' := 0) hNB) (fun k_ hk e_ => by have h1 := Kd.R_lt RK.out k_ e_.symm; have h2 : wr.heap.size ≤ k_ := hk; omega)); have n0 := Aside0.mk (Kd.V_below VT.out hb); have n1 := Aside0.mk (Kd.V_below VO.out hb); have n2 := Aside0.mk (Kd.R_below RK.out hb); have n3 := Aside0.mk (below_step HB.out hb); clear hNB hb; clear VT VO RK HB; have VT := n0; have VO := n1; have RK := n2; have HB := n3; clear n0 n1 n2 n3; obtain ⟨AB, cB, eB⟩ := Kd.V_slice VB.out; subst eB)
        clear hxo p4 p5 c4b0
        go_loopg [6, 30] k1 (fun kq v6 v30 w' => ∃ (x6 : Int) (kn : List Int) (x30 : Int), v6 = .int .i64 x6 ∧ v30 = .int .i64 x30 ∧ Aside0 (spec_RankSigns.l1 kq n T kn x6 x22 B x30 = some (r1, r2)) ∧ Aside0 (kq ≤ k1) ∧ Aside0 (Kd.V (Kd.slice 3 (Kd.int .i64)) 39 w' 0 (fun k_ => some k_ ≠ vk.ownBlock) (.slice (some adT) T.length cT) T) ∧ Aside0 (Kd.V (Kd.int .i64) 3 w' 0 (fun k_ => some k_ ≠ vk.ownBlock) (.slice Ao (rd_L1 T x22).length co) (rd_L1 T x22)) ∧ Aside0 (Kd.V (Kd.slice 3 (Kd.int .i64)) 39 w' 0 (fun k_ => some k_ ≠ vk.ownBlock) (.slice AB B.length cB) B) ∧ Aside0 ((Kd.int .i64).R 3 w' w.heap.size (fun _ => True) vk kn) ∧ Aside0 (Below w.heap.size w w'))
        case atStart => exact ⟨x6, kn, 0, rfl, rfl, H', ⟨Nat.le_refl _⟩, VT, VO, VB, RK, HB⟩
        case round =>
          clear H' VT VO VB RK HB HNX VR
          obtain ⟨x6, kn, x30, rfl, rfl, HA, HK2, VT, VO, VB, RK, HB⟩ := hrel
          cases gk with
          | zero => exact absurd HA.out (by simp [spec_RankSigns.l1])
          | succ k2 =>
            have H := HA.out
            clear HA
            simp only [spec_RankSigns.l1] at H
            by_cases c6 : x30 < (B.length : Int)
            case neg =>
              rw [if_neg c6] at H
              have c6b0 : decide (x30 < (B.length : Int)) = false := decide_eq_false c6
              have H' := Aside0.mk H
              clear H c6
              go_wp2
              go_roundg k2
              case measure => have := HK1.out; have := HK2.out; omega
              case rel => exact ⟨x6, rd_L1 T x22, kn, wrap64 (x22 + 1), rfl, rfl, H', ⟨by have := HK1.out; have := HK2.out; omega⟩, VT, VO, RK, HB⟩
            rw [if_pos c6] at H
            have c6b0 : decide (x30 < (B.length : Int)) = true := decide_eq_true c6
            by_cases c7 : 0 ≤ x30
            case neg =>
              rw [if_neg c7] at H
              cases H
            rw [if_pos c7] at H
            obtain ⟨t, ht, H⟩ := Option.bind_eq_some_iff.mp H
            obtain ⟨adB, Ab, cb, eAB, hxb, hVb⟩ := V_row VB.out x30 c7 c6
            subst eAB
            have VBB := Aside0.mk hVb
            have HSM := Aside0.mk (spec_l1Same.calls k2 Ab cb (rd_L1 B x30) Ao co (rd_L1 T x22) t wr (Kd.V_reads' hVb).2.2 (Kd.V_reads' hVb).2.1 (Kd.V_reads' VO.out).2.2 (Kd.V_reads' VO.out).2.1 ht)
            have p6 := eq_true c6
            have p7 := eq_true c7
            clear ht hVb c6 c7
            cases t with
            | true =>
              rw [if_pos rfl] at H
              have H' := Aside0.mk H
              clear H
              go_wp2_with (go_at_call 71; (with_reducible refine HSM.out.mono ?_); rintro e w9 ⟨rfl, ⟨nd, rfl⟩⟩)
              go_roundg k2
              case measure => have := HK1.out; have := HK2.out; omega
              case rel => exact ⟨x6, rd_L1 T x22, kn, wrap64 (x22 + 1), rfl, rfl, H', ⟨by have := HK1.out; have := HK2.out; omega⟩, ⟨Kd.V_drewN VT.out _⟩, ⟨Kd.V_drewN VO.out _⟩, ⟨Kd.R_drewN RK.out _⟩, ⟨pw_below_drewN HB.out _⟩⟩
            | false =>
              rw [if_neg (by decide)] at H
              obtain ⟨⟨tw, tk⟩, htw, H⟩ := Option.bind_eq_some_iff.mp H
              have H' := Aside0.mk (show spec_RankSigns.l1 k2 n T tk (wrap64 (x6 + tw)) x22 B (wrap64 (x30 + 1)) = some (r1, r2) from H)
              have HTW := Aside0.mk htw
              clear H htw
              have RKt := Aside0.mk (Kd.R_tight rfl RK.out)
              go_wp2_with (first | (go_at_call 71; (with_reducible refine HSM.out.mono ?_); rintro e w9 ⟨rfl, ⟨nd, rfl⟩⟩) | (go_at_call 72; (with_reducible refine (spec_trWays.calls k2 Ab cb (rd_L1 B x30) n (fun k_ => some k_ = vk.ownBlock) vk kn tw tk w _ (pw_below_drewN HB.out _) (Kd.C_kept_ownV (Kd.V_drewN VBB.out _) (fun k_ hk hs => absurd hs hk)) (Kd.V_reads' VBB.out).2.1 (Kd.R_drewN RKt.out _) HTW.out).mono ?_); rintro e w10 ⟨rfl, hR, hb, hkp⟩; have n0 := Aside0.mk (Kd.V_kept (Kd.V_drewN VT.out nd) hkp (fun k_ hk hs => absurd hs hk)); have n1 := Aside0.mk (Kd.V_kept (Kd.V_drewN VO.out nd) hkp (fun k_ hk hs => absurd hs hk)); have n2 := Aside0.mk (Kd.V_kept (Kd.V_drewN VB.out nd) hkp (fun k_ hk hs => absurd hs hk)); have n3 := Aside0.mk (Kd.R_reok (ok := fun _ => True) rfl hR (fun _ _ => trivial)); have n4 := Aside0.mk hb; clear hR hb hkp))
              go_roundg k2
              case measure => have := HK2.out; omega
              case rel => exact ⟨wrap64 (x6 + tw), tk, wrap64 (x30 + 1), rfl, rfl, H', ⟨by have := HK2.out; omega⟩, n0, n1, n2, n3, n4⟩

/-! ### spec_NextSigns: function 20 -/
def spec_NextSigns.f (k : Nat) (l0 : List (List Int)) : Option ((List (List Int)) × Bool) := (spec_RankSigns.f k l0).bind fun bt261 => (if bt261.2 = true then ((spec_SignsAt.f k (l0.length : Int) (wrap64 (bt261.1 + 1))).bind fun bt263 => (some (bt263.1, bt263.2))) else (some (([] : List (List Int)), false)))
theorem spec_NextSigns.mono : ∀ a0 k, LeO (spec_NextSigns.f k a0) (spec_NextSigns.f (k + 1) a0) := by
  intro a0 k
  unfold spec_NextSigns.f
  repeat' first
      | (with_reducible exact spec_RankSigns.mono _ _)
      | (with_reducible exact spec_SignsAt.mono _ _ _)
      | (with_reducible exact LeO.refl _)
      | (with_reducible exact LeO.none _)
      | (with_reducible refine LeO.ite ?_ ?_)
      | (with_reducible refine LeO.bind ?_ (fun _ => ?_))
      | exact spec_RankSigns.mono _ _
      | exact spec_SignsAt.mono _ _ _
      | exact LeO.none _
      | refine LeO.ite ?_ ?_
      | refine LeO.bind ?_ (fun _ => ?_)
set_option maxHeartbeats 8000000 in
set_option maxRecDepth 100000 in
theorem spec_NextSigns.calls (k : Nat) (A0 : Option Addr) (c0 : Nat) (l0 : List (List Int)) (r1 : List (List Int)) (r2 : Bool) (w : World) (hr0 : Kd.C (Kd.slice 3 (Kd.int .i64)) w A0 l0.length l0) (hc0 : l0.length ≤ c0) (h : spec_NextSigns.f k l0 = some (r1, r2)) :
    Calls Try.prog 20 #[.slice A0 l0.length c0] w fun e w' => ∃ v0_ : Value, e = .returned (.tuple #[v0_, .bool r2]) ∧ Kd.S (Kd.slice 3 (Kd.int .i64)) 39 w' w.heap.size (fun _ => True) v0_ r1 ∧ Below w.heap.size w w' := by
  have HR0 := Aside0.mk hr0
  have HC0 := Aside0.mk hc0
  clear hr0 hc0
  have HB := Aside0.mk (Below.refl w.heap.size w)
  have H : ((spec_RankSigns.f k l0).bind fun bt261 => (if bt261.2 = true then ((spec_SignsAt.f k (l0.length : Int) (wrap64 (bt261.1 + 1))).bind fun bt263 => (some (bt263.1, bt263.2))) else (some (([] : List (List Int)), false)))) = some (r1, r2) := h
  clear h
  replace H := Option.bind_eq_some_iff.mp H
  obtain ⟨⟨t261, t262⟩, A20, H⟩ := H
  replace H : (if t262 = true then ((spec_SignsAt.f k (l0.length : Int) (wrap64 (t261 + 1))).bind fun bt263 => (some (bt263.1, bt263.2))) else (some (([] : List (List Int)), false))) = some (r1, r2) := H
  have A2 := Aside0.mk A20
  clear A20
  by_cases c3 : t262 = true
  · subst c3
    have H1 : ((spec_SignsAt.f k (l0.length : Int) (wrap64 (t261 + 1))).bind fun bt263 => (some (bt263.1, bt263.2))) = some (r1, r2) := by rw [if_pos rfl] at H; exact H
    clear H
    have H := H1
    clear H1
    replace H := Option.bind_eq_some_iff.mp H
    obtain ⟨⟨t263, t264⟩, A40, H⟩ := H
    replace H : (some (t263, t264)) = some (r1, r2) := H
    have A4 := Aside0.mk A40
    clear A40
    simp only [Option.some.injEq, Prod.mk.injEq] at H
    obtain ⟨rfl, rfl⟩ := H
    go_enter Try.func20, Try.ntmps20
    go_wp2_with (first | ((with_reducible refine gate_callee (f := 23) rfl ?_); refine goesL_ (some 8) rfl rfl Try.func23 (by kernel_rfl) rfl #[.slice A0 l0.length c0] rfl (by (try simp only [List.map_toArray, List.map_cons, List.map_nil]); first | done | rfl | (simp only [List.length_drop, List.length_take]; rfl)) ?_; (with_reducible refine (spec_RankSigns.calls k _ _ l0 t261 true _ ?side1 ?side2 A2.out).mono ?_); (case side1 => repeat (first | exact HR0.out | (with_reducible refine Kd.C_alloc ?_ _) | (with_reducible refine Kd.C_drewN ?_ _) | (with_reducible refine Kd.C_drew ?_))); (case side2 => exact HC0.out); rintro e w5 ⟨rfl, hb⟩; refine ⟨_, rfl, ?_⟩; have n0_ := Aside0.mk (below_step (by repeat (first | (with_reducible first | exact HB.out | apply below_alloc | apply pw_below_drewN | apply below_drew1) | exact HB.out)) hb); clear HB; have HB := n0_; clear n0_; (try clear hb); (try clear hb2); (try clear hk); (try clear hi)) | ((with_reducible refine gate_callee (f := 14) rfl ?_); refine goesL_ (some 17) rfl rfl Try.func14 (by kernel_rfl) rfl #[.int .i64 (l0.length : Int), .int .i64 (wrap64 (t261 + 1))] rfl (by (try simp only [List.map_toArray, List.map_cons, List.map_nil]); first | done | rfl | (simp only [List.length_drop, List.length_take]; rfl)) ?_; (with_reducible refine (spec_SignsAt.calls k (l0.length : Int) (wrap64 (t261 + 1)) t263 t264 _ A4.out).mono ?_); rintro e w6 ⟨v265, rfl, ho0, hb⟩; refine ⟨_, rfl, ?_⟩; have n0_ := Aside0.mk (Kd.S_lower ho0 (below_size (by repeat (first | (with_reducible first | exact HB.out | apply below_alloc | apply pw_below_drewN | apply below_drew1) | exact HB.out)))); have n1_ := Aside0.mk (below_step (by repeat (first | (with_reducible first | exact HB.out | apply below_alloc | apply pw_below_drewN | apply below_drew1) | exact HB.out)) hb); clear HB; have HO266 := n0_; have HB := n1_; clear n0_ n1_; (try clear hb); (try clear hb2); (try clear hk); (try clear hi); (try clear ho0)))
    go_ret2
    exact ⟨_, by first | rfl | (simp [errW_none, errW_some] <;> rfl) | (simp [*, errW_none, errW_some] <;> rfl), by (with_reducible repeat (first | apply Kd.S_alloc | apply Kd.S_drewN | apply Kd.S_drew)); exact HO266.out, by repeat (first | (with_reducible first | exact HB.out | apply below_alloc | apply pw_below_drewN | apply below_drew1) | exact HB.out)⟩
  · replace c3 := Bool.eq_false_iff.mpr c3
    subst c3
    have H1 : (some (([] : List (List Int)), false)) = some (r1, r2) := by rw [if_neg (show ¬ (false = true) by decide)] at H; exact H
    clear H
    have H := H1
    clear H1
    simp only [Option.some.injEq, Prod.mk.injEq] at H
    obtain ⟨rfl, rfl⟩ := H
    go_enter Try.func20, Try.ntmps20
    go_wp2_with (first | ((with_reducible refine gate_callee (f := 23) rfl ?_); refine goesL_ (some 8) rfl rfl Try.func23 (by kernel_rfl) rfl #[.slice A0 l0.length c0] rfl (by (try simp only [List.map_toArray, List.map_cons, List.map_nil]); first | done | rfl | (simp only [List.length_drop, List.length_take]; rfl)) ?_; (with_reducible refine (spec_RankSigns.calls k _ _ l0 t261 false _ ?side1 ?side2 A2.out).mono ?_); (case side1 => repeat (first | exact HR0.out | (with_reducible refine Kd.C_alloc ?_ _) | (with_reducible refine Kd.C_drewN ?_ _) | (with_reducible refine Kd.C_drew ?_))); (case side2 => exact HC0.out); rintro e w7 ⟨rfl, hb⟩; refine ⟨_, rfl, ?_⟩; have n0_ := Aside0.mk (below_step (by repeat (first | (with_reducible first | exact HB.out | apply below_alloc | apply pw_below_drewN | apply below_drew1) | exact HB.out)) hb); clear HB; have HB := n0_; clear n0_; (try clear hb); (try clear hb2); (try clear hk); (try clear hi)))
    go_ret2
    exact ⟨_, by first | rfl | (simp [errW_none, errW_some] <;> rfl) | (simp [*, errW_none, errW_some] <;> rfl), by first | exact Kd.S_nil _ _ _ _ _ | exact Kd.N_nil _ _ _ _ _ | exact Kd.V_nil _ _ _ _ _ | exact Kd.Q_nil _ _ _ _ _ | exact Kd.R_nil _ _ _ _ _, by repeat (first | (with_reducible first | exact HB.out | apply below_alloc | apply pw_below_drewN | apply below_drew1) | exact HB.out)⟩

end Go.Proofs.Ytadepmjfhcmkoaa.P
