-- By gp.py (this session's own driver over the kit's print). Not trusted: Lean checks it.
import Derived.Test.YthjiajkmaimbjaaF0
import Derived.Test.YthjiajkmaimbjaaB
import Derived.Test.YthjiajkmaimbjaaFSpecL1Own
import Derived.Test.YthjiajkmaimbjaaFSpecTrRow
namespace Go.Proofs.Ythjiajkmaimbjaa.P
open Go.Proofs.Ythjiajkmaimbjaa.B
open Go.RowKit Go.Proofs.YthjiajkmaimbjaaW.PrintWords Go.Proofs.YthjiajkmaimbjaaW.PrintLast Go.Proofs.YthjiajkmaimbjaaW.PrintMore
attribute [local go_sem] max2_int min2_int max_two min_two max_three min_three max_four min_four   -- for this text's walks alone
set_option linter.unusedVariables false
set_option linter.unusedSimpArgs false

/-! ### spec_FirstUnder: function 22 (given) -/
def spec_FirstUnder.l0 : Nat → List Int → List (List Int) → Option (List (List Int))
  | 0, _, _ => none
  | k + 1, x0, x4 => if 1 < (x0.length : Int) then (if x4.length < 5864062014805 then ((spec_l1Own.f (x0.take (x0.length - 1))).bind fun t => spec_FirstUnder.l0 k t ([t] ++ x4)) else none) else some x4
def spec_FirstUnder.f (k : Nat) (l0 : List Int) : Option (List (List Int) × Bool) := (spec_trRow.f k l0).bind fun t => if t = true then (spec_l1Own.f l0).bind fun c => (spec_FirstUnder.l0 k l0 [c]).bind fun r => some (r, true) else some (([] : List (List Int)), false)
theorem spec_FirstUnder.mono_l : ∀ k y0 y1, LeO (spec_FirstUnder.l0 k y0 y1) (spec_FirstUnder.l0 (k + 1) y0 y1)
  | 0, _, _ => fun r h => by simp [spec_FirstUnder.l0] at h
  | k + 1, y0, y1 => by
    have ih := spec_FirstUnder.mono_l k
    unfold spec_FirstUnder.l0
    exact LeO.ite (LeO.ite (LeO.bind (LeO.refl _) (fun _ => ih _ _)) (LeO.none _)) (LeO.refl _)
theorem spec_FirstUnder.mono : ∀ a0 k, LeO (spec_FirstUnder.f k a0) (spec_FirstUnder.f (k + 1) a0) := by
  intro a0 k
  unfold spec_FirstUnder.f
  exact LeO.bind (spec_trRow.mono _ _) (fun _ => LeO.ite (LeO.bind (LeO.refl _) (fun _ => LeO.bind (spec_FirstUnder.mono_l _ _ _) (fun _ => LeO.refl _))) (LeO.refl _))
theorem C_front {w : World} {A : Option Addr} {xs : List Int} (n : Nat) (hn : n ≤ xs.length) (h : Kd.C (Kd.int .i64) w A xs.length xs) : Kd.C (Kd.int .i64) w A n (xs.take n) := by
  obtain ⟨_, h2, h3⟩ := h
  refine ⟨by rw [List.length_take]; omega, by omega, fun h0 => ?_⟩
  obtain ⟨ad, e, hc⟩ := h3 (by omega)
  refine ⟨ad, e, fun j p hj => hc j p ?_⟩
  rw [List.getElem?_take] at hj
  split at hj
  · exact hj
  · cases hj
theorem own_front {A : Option Addr} {c n : Nat} {z x1 : List Int} (W : World) (hz : z.length = n) (hc : n ≤ c) (hC : Kd.C (Kd.int .i64) W A n z) (h : spec_l1Own.f z = some x1) : Calls Try.prog 49 #[.slice A n c] W fun e w' => ∃ v0_ : Value, e = .returned v0_ ∧ Kd.R (Kd.int .i64) 3 w' W.heap.size (fun _ => True) v0_ x1 ∧ Below W.heap.size W w' := by
  subst hz
  exact spec_l1Own.calls A c z x1 W hC hc h
set_option maxHeartbeats 8000000 in
set_option maxRecDepth 100000 in
theorem spec_FirstUnder.calls (k : Nat) (A0 : Option Addr) (c0 : Nat) (l0 : List Int) (r1 : List (List Int)) (r2 : Bool) (w : World) (hr0 : Kd.C (Kd.int .i64) w A0 l0.length l0) (hc0 : l0.length ≤ c0) (h : spec_FirstUnder.f k l0 = some (r1, r2)) :
    Calls Try.prog 22 #[.slice A0 l0.length c0] w fun e w' => ∃ v0_ : Value, e = .returned (.tuple #[v0_, .bool r2]) ∧ Kd.N (Kd.slice 3 (Kd.int .i64)) 22 w' w.heap.size (fun k_ => (w.heap.size ≤ k_)) v0_ r1 ∧ Below w.heap.size w w' := by
  have HR0 := Aside0.mk hr0
  have HC0 := Aside0.mk hc0
  have HB := Aside0.mk (Below.refl w.heap.size w)
  obtain ⟨b, hb, h⟩ := Option.bind_eq_some_iff.mp h
  have HH := Aside0.mk hb
  cases b with
  | false =>
    rw [if_neg (by decide)] at h
    simp only [Option.some.injEq, Prod.mk.injEq] at h
    obtain ⟨rfl, rfl⟩ := h
    clear hr0 hc0 hb
    go_enter Try.func22, Try.ntmps22
    go_wp2_with (go_at_call 44; (with_reducible refine (spec_trRow.calls k _ _ l0 false _ HR0.out HC0.out HH.out).mono ?_); rintro e w5 ⟨rfl, ⟨n5, rfl⟩⟩)
    go_ret2
    exact ⟨_, rfl, Kd.N_nil _ _ _ _ _, (by repeat (first | (with_reducible first | exact HB.out | apply below_alloc | apply pw_below_drewN | apply below_drew1) | exact HB.out))⟩
  | true =>
    rw [if_pos rfl] at h
    obtain ⟨c, hcl, h⟩ := Option.bind_eq_some_iff.mp h
    obtain ⟨r, hr, h⟩ := Option.bind_eq_some_iff.mp h
    simp only [Option.some.injEq, Prod.mk.injEq] at h
    obtain ⟨rfl, rfl⟩ := h
    have HCL := Aside0.mk hcl
    obtain ⟨y, hy⟩ : ∃ y, y = [c] := ⟨_, rfl⟩
    rw [← hy] at hr
    have NY := Aside0.mk hy
    have HR := Aside0.mk hr
    clear hr0 hc0 hb hcl hr hy
    go_enter Try.func22, Try.ntmps22
    go_wp2_with (first | (go_at_call 44; (with_reducible refine (spec_trRow.calls k _ _ l0 true _ HR0.out HC0.out HH.out).mono ?_); rintro e w5 ⟨rfl, ⟨n5, rfl⟩⟩; have HB1 := Aside0.mk (show Below w.heap.size w (w.drewN n5) from (by repeat (first | (with_reducible first | exact HB.out | apply below_alloc | apply pw_below_drewN | apply below_drew1) | exact HB.out))); clear HB; have HB := HB1; clear HB1) | (go_at_call 49; (with_reducible refine (spec_l1Own.calls A0 c0 l0 c _ (by first | exact Kd.C_below HR0.out HB.out | ((with_reducible repeat (first | apply Kd.C_alloc | apply Kd.C_drewN | apply Kd.C_drew)); exact HR0.out)) HC0.out HCL.out).mono ?_); rintro e w6 ⟨v6, rfl, hR, hb⟩; have HR6 := Aside0.mk (Kd.R_lower hR (below_size (by repeat (first | (with_reducible first | exact HB.out | apply below_alloc | apply pw_below_drewN | apply below_drew1) | exact HB.out)))); have HB1 := Aside0.mk (below_step (by repeat (first | (with_reducible first | exact HB.out | apply below_alloc | apply pw_below_drewN | apply below_drew1) | exact HB.out)) hb); clear hb hR; clear HB; have HB := HB1; clear HB1; obtain ⟨A6, c6, e6⟩ := Kd.R_slice HR6.out; subst e6) | ((with_reducible refine gate_dst (N := 10) rfl ?_); refine Kd.N_lit (Kd.slice 3 (Kd.int .i64)) w.heap.size 22 ?hg (N' := 10) ?hd (xs := [c]) (inner := [.slice A6 c.length c6]) (ok := (fun k_ => w.heap.size ≤ k_)) (okp := (fun k_ => w.heap.size ≤ k_)) ?hr ?hp (fun _ hk => hk) (below_size (by repeat (first | (with_reducible first | exact HB.out | apply below_alloc | apply pw_below_drewN | apply below_drew1) | exact HB.out))) (by repeat (first | (with_reducible first | exact HB.out | apply below_alloc | apply pw_below_drewN | apply below_drew1) | exact HB.out)) (below_size (by repeat (first | (with_reducible first | exact HB.out | apply below_alloc | apply pw_below_drewN | apply below_drew1) | exact HB.out))) (by simp) ?_; (case hd => rfl); (case hg => rfl); (case hr => first | (go_simp; done) | (go_simp; rfl)); (case hp => exact Reps.one (Kd.FK_slice_mk (Kd.R_reads' HR6.out).2.1 (Kd.R_F (Kd.R_mono (Kd.R_bound (by (with_reducible repeat (first | apply Kd.R_alloc | apply Kd.R_drewN | apply Kd.R_drew)); exact HR6.out)) (fun k hk => hk.2.1)))) (Reps.none _ _)); intro v7 w7 ho hb hg_ hnew_; have S7 := Aside0.mk ho; rw [← NY.out] at S7; have HB1 := Aside0.mk hb; clear hb ho hg_ hnew_; clear HB; have HB := HB1; clear HB1))
    go_loopg [0, 4] k (fun kq v0 v4 w' => ∃ (x0 : List Int) (x4 : List (List Int)), Aside0 (spec_FirstUnder.l0 kq x0 x4 = some r) ∧ Aside0 (kq ≤ k) ∧ Aside0 (Kd.V (Kd.int .i64) 3 w' w.heap.size (fun k_ => True ∧ some k_ ≠ (v4 : Value).ownBlock) v0 x0) ∧ Aside0 (Kd.N (Kd.slice 3 (Kd.int .i64)) 22 w' w.heap.size (fun k_ => w.heap.size ≤ k_) v4 x4) ∧ Aside0 (Below w.heap.size w w'))
    case atStart => exact ⟨l0, y, HR, ⟨Nat.le_refl _⟩, ⟨by
      have h1 : Kd.V (Kd.int .i64) 3 w w.heap.size (fun k => k < w.heap.size) (.slice A0 l0.length c0) l0 := Kd.V_mk HC0.out (Kd.C_F (Kd.heap_int _) HR0.out)
      exact Kd.V_mono (Kd.V_elder' h1 (Kd.N_base S7.out) HB.out) (fun k hk => ⟨trivial, hk.2⟩)⟩, S7, HB⟩
    case round =>
      clear HR S7
      obtain ⟨x0, x4, HA, HK1, V0, S4, HB⟩ := hrel
      cases gk with
      | zero => exact absurd HA.out (by simp [spec_FirstUnder.l0])
      | succ k1 =>
        have H := HA.out
        clear HA
        simp only [spec_FirstUnder.l0] at H
        obtain ⟨A0', c0', e0⟩ := Kd.V_slice V0.out
        subst e0
        by_cases c4 : 1 < (x0.length : Int)
        · rw [if_pos c4] at H
          have c4b0 : decide ((x0.length : Int) > 1) = true := decide_eq_true c4
          have c4b1 : decide (1 < (x0.length : Int)) = true := decide_eq_true c4
          by_cases c5 : x4.length < 5864062014805
          · rw [if_pos c5] at H
            have LM := Aside0.mk c5
            obtain ⟨x1, hx1, H⟩ := Option.bind_eq_some_iff.mp H
            have HX := Aside0.mk hx1
            obtain ⟨y4, hy4⟩ : ∃ y4, y4 = [x1] ++ x4 := ⟨_, rfl⟩
            rw [← hy4] at H
            have NY4 := Aside0.mk hy4
            have H' := Aside0.mk H
            obtain ⟨y3, hy3⟩ : ∃ y3, y3 = [x1] := ⟨_, rfl⟩
            have NY3 := Aside0.mk hy3
            obtain ⟨n5, hn5⟩ : ∃ n5, n5 = x0.length - 1 := ⟨_, rfl⟩
            have N5 := Aside0.mk (And.intro hn5 c4)
            have hlen : (x0.length : Int) = (n5 : Int) + 1 := by omega
            have hnl : x0.length = n5 + 1 := by omega
            obtain ⟨m5, hm5⟩ : ∃ m5, m5 = x0.length := ⟨_, rfl⟩
            have VR := Aside0.mk (Kd.V_reads' V0.out)
            obtain ⟨A4, c4', e4⟩ := Kd.N_slice S4.out
            subst e4
            have hc0' := (Kd.V_reads' V0.out).2.1
            have hmx := (Kd.V_reads' V0.out).2.2.2.1
            clear c4 c5 hx1 H hy4 hn5 hy3 hm5
            go_wp2_with (first | (go_at_call 49; (refine (own_front (z := x0.take n5) (x1 := x1) _ (by rw [List.length_take]; omega) (by omega) (C_front n5 (by omega) (by (with_reducible repeat (first | apply Kd.C_alloc | apply Kd.C_drewN | apply Kd.C_drew)); exact VR.out.2.2)) (by have h1 := HX.out; rwa [← N5.out.1] at h1)).mono ?_); rintro e w5 ⟨v5, rfl, hR, hb⟩; have ROW := Aside0.mk (Kd.R_lower hR (below_size (by repeat (first | (with_reducible first | exact HB.out | apply below_alloc | apply pw_below_drewN | apply below_drew1) | exact HB.out)))); have N4 : Aside0 (Kd.N (Kd.slice 3 (Kd.int .i64)) 22 w5 w.heap.size (fun k => w.heap.size ≤ k) _ x4) := ⟨Kd.N_mono (Kd.N_elder' (by (with_reducible repeat (first | apply Kd.N_alloc | apply Kd.N_drewN | apply Kd.N_drew)); exact S4.out) (Kd.R_base hR) hb) (fun k hk => hk.1)⟩; have HB1 := Aside0.mk (below_step (by repeat (first | (with_reducible first | exact HB.out | apply below_alloc | apply pw_below_drewN | apply below_drew1) | exact HB.out)) hb); clear hb hR; clear HB; have HB := HB1; clear HB1; obtain ⟨A1, c1, e1⟩ := Kd.R_slice ROW.out; subst e1) | ((with_reducible refine gate_dst (N := 21) rfl ?_); refine Kd.N_lit (Kd.slice 3 (Kd.int .i64)) _ 22 ?hg (N' := 21) ?hd (xs := [x1]) (inner := [.slice A1 x1.length c1]) (ok := (fun k_ => w.heap.size ≤ k_)) (okp := (fun k_ => w.heap.size ≤ k_)) ?hr ?hp (fun _ hk => hk) (below_size (by repeat (first | (with_reducible first | exact HB.out | apply below_alloc | apply pw_below_drewN | apply below_drew1) | exact HB.out))) (Below.refl _ _) (Nat.le_refl _) (by simp) ?_; (case hd => rfl); (case hg => rfl); (case hr => first | (go_simp; done) | (go_simp; rfl)); (case hp => exact Reps.one (Kd.FK_slice_mk (Kd.R_reads' ROW.out).2.1 (Kd.R_F (Kd.R_mono (Kd.R_bound (by (with_reducible repeat (first | apply Kd.R_alloc | apply Kd.R_drewN | apply Kd.R_drew)); exact ROW.out)) (fun k hk => hk.2.1)))) (Reps.none _ _)); intro v6 w6 ho hb hg_ hnew_; have L6 := Aside0.mk (Kd.N_lower ho (below_size (by repeat (first | (with_reducible first | exact HB.out | apply below_alloc | apply pw_below_drewN | apply below_drew1) | exact HB.out)))); rw [← NY3.out] at L6; have ROW6 := Aside0.mk (Kd.R_elder' (by (with_reducible repeat (first | apply Kd.R_alloc | apply Kd.R_drewN | apply Kd.R_drew)); exact ROW.out) (Kd.N_base ho) hb); have N6 : Aside0 (Kd.N (Kd.slice 3 (Kd.int .i64)) 22 w6 w.heap.size (fun k => w.heap.size ≤ k ∧ some k ≠ (v6 : Value).ownBlock) _ x4) := ⟨Kd.N_elder' (by (with_reducible repeat (first | apply Kd.N_alloc | apply Kd.N_drewN | apply Kd.N_drew)); exact N4.out) (Kd.N_base ho) hb⟩; have HB1 := Aside0.mk (below_step (by repeat (first | (with_reducible first | exact HB.out | apply below_alloc | apply pw_below_drewN | apply below_drew1) | exact HB.out)) hb); clear hb ho hg_ hnew_; clear HB; have HB := HB1; clear HB1) | ((with_reducible refine gate_builtin (b := .append) (xs := #[.tmp 21, .tmp 22]) rfl ?_); at_builtin; refine Kd.N_append_rows (Kd.slice 3 (Kd.int .i64)) (w0 := w) w.heap.size rfl (.tmp 21) (.tmp 22) 23 22 (.slice none 0 0) 24 rfl Try.underlying23 info22 rfl (by decide) (by omega) v6 y3 x4 _ _ _ (fun k_ => w.heap.size ≤ k_) (fun k_ => w.heap.size ≤ k_ ∧ some k_ ≠ (v6 : Value).ownBlock) rfl rfl ?aO ?aR (fun _ hk => hk) ?aF ?aB ?aS ?aL ?_; (case aR => exact Kd.N_F (by (with_reducible repeat (first | apply Kd.N_alloc | apply Kd.N_drewN | apply Kd.N_drew)); exact N6.out)); (case aB => exact (by repeat (first | (with_reducible first | exact HB.out | apply below_alloc | apply pw_below_drewN | apply below_drew1) | exact HB.out))); (case aF => exact (fun k hk => Nat.le_trans (below_size (by repeat (first | (with_reducible first | exact HB.out | apply below_alloc | apply pw_below_drewN | apply below_drew1) | exact HB.out))) hk)); (case aO => exact (by (with_reducible repeat (first | apply Kd.N_alloc | apply Kd.N_drewN | apply Kd.N_drew)); exact L6.out)); (case aS => exact (below_size (by repeat (first | (with_reducible first | exact HB.out | apply below_alloc | apply pw_below_drewN | apply below_drew1) | exact HB.out)))); (case aL => have h1 := LM.out; have h2 := congrArg List.length NY3.out; simp only [List.length_singleton] at h2; omega); intro v7 w7 ho hb hg hat; rw [NY3.out, ← NY4.out] at ho; have S7 := Aside0.mk ho; have V7 := Aside0.mk (Kd.V_afterv (ok := fun _ => True) (Kd.R_V (base' := w.heap.size) (by (with_reducible repeat (first | apply Kd.R_alloc | apply Kd.R_drewN | apply Kd.R_drew)); exact ROW6.out)) hg hat); have HB1 := Aside0.mk hb; clear hb ho hg hat; clear HB; have HB := HB1; clear HB1))
            go_roundg k1
            case measure => have := HK1.out; omega
            case rel => exact ⟨x1, y4, H', ⟨by have := HK1.out; omega⟩, V7, S7, HB⟩
            exfalso
            have := N5.out
            omega
          · rw [if_neg c5] at H
            cases H
        · rw [if_neg c4] at H
          have c4b0 : decide ((x0.length : Int) > 1) = false := decide_eq_false c4
          have c4b1 : decide (1 < (x0.length : Int)) = false := decide_eq_false c4
          obtain rfl := Option.some.inj H
          clear H
          go_wp2
          go_ret2
          exact ⟨_, rfl, (by (with_reducible repeat (first | apply Kd.N_alloc | apply Kd.N_drewN | apply Kd.N_drew)); exact S4.out), (by repeat (first | (with_reducible first | exact HB.out | apply below_alloc | apply pw_below_drewN | apply below_drew1) | exact HB.out))⟩

end Go.Proofs.Ythjiajkmaimbjaa.P
