-- By gp.py (this session's own driver over the kit's print). Not trusted: Lean checks it.
import Derived.Test.YtadepmjfhcmkoaaF0
import Derived.Test.YtadepmjfhcmkoaaB
import Derived.Deep.RegionHeld3
import Derived.Laws.EntriesVeiled
import Derived.Test.YtadepmjfhcmkoaaFImplCmp
import Derived.Test.YtadepmjfhcmkoaaFImplEach
import Derived.Test.YtadepmjfhcmkoaaFImplGood
import Derived.Test.YtadepmjfhcmkoaaFImplIn
import Derived.Test.YtadepmjfhcmkoaaFImplCmp
import Derived.Test.YtadepmjfhcmkoaaFImplEach
import Derived.Test.YtadepmjfhcmkoaaFImplGood
import Derived.Test.YtadepmjfhcmkoaaFImplIn
namespace Go.Proofs.Ytadepmjfhcmkoaa.P
open Go.Proofs.Ytadepmjfhcmkoaa.B
open Go.RowKit Go.Proofs.YtadepmjfhcmkoaaW.PrintWords Go.Proofs.YtadepmjfhcmkoaaW.PrintLast Go.Proofs.YtadepmjfhcmkoaaW.PrintMore
attribute [local go_sem] max2_int min2_int max_two min_two max_three min_three max_four min_four   -- for this text's walks alone
set_option linter.unusedVariables false
set_option linter.unusedSimpArgs false

/-! ### impl_copyTable: function 64 -/
def impl_copyTable.l0 : Nat → List (List Int) → List (List Int) → Int → Int → Option ((List (List Int)))
  | 0, _, _, _, _ => none
  | k + 1, x3, x7, x8, x9 => if x9 < x8 then (if 0 ≤ x9 then (if x9 < (x7.length : Int) then ((slices_Clone_int_int.f (rd_L1 x7 x9)).bind fun t171 => (if x3.length < 5864062014805 then (impl_copyTable.l0 k (x3 ++ [t171]) x7 x8 (wrap64 (x9 + 1))) else (none))) else (none)) else (none)) else (some x3)
def impl_copyTable.f (k : Nat) (l0 : List (List Int)) : Option ((List (List Int))) := impl_copyTable.l0 k (([] : List (List Int))) l0 (l0.length : Int) 0
theorem impl_copyTable.mono_l : ∀ k, (∀ y0 y1 y2 y3, LeO (impl_copyTable.l0 k y0 y1 y2 y3) (impl_copyTable.l0 (k + 1) y0 y1 y2 y3))
  | 0 => fun _ _ _ _ r h => by simp [impl_copyTable.l0] at h
  | k + 1 => by
    have ih0 := impl_copyTable.mono_l k
    · intro y0 y1 y2 y3
      unfold impl_copyTable.l0
      repeat' first
      | (with_reducible exact ih0 _ _ _ _)
      | (with_reducible exact LeO.refl _)
      | (with_reducible exact LeO.none _)
      | (with_reducible refine LeO.ite ?_ ?_)
      | (with_reducible refine LeO.bind ?_ (fun _ => ?_))
      | exact ih0 _ _ _ _
      | exact LeO.none _
      | refine LeO.ite ?_ ?_
      | refine LeO.bind ?_ (fun _ => ?_)
theorem impl_copyTable.mono : ∀ a0 k, LeO (impl_copyTable.f k a0) (impl_copyTable.f (k + 1) a0) := by
  intro a0 k
  have ih0 := impl_copyTable.mono_l k
  unfold impl_copyTable.f
  repeat' first
      | (with_reducible exact ih0 _ _ _ _)
      | (with_reducible exact LeO.refl _)
      | (with_reducible exact LeO.none _)
      | (with_reducible refine LeO.ite ?_ ?_)
      | (with_reducible refine LeO.bind ?_ (fun _ => ?_))
      | exact ih0 _ _ _ _
      | exact LeO.none _
      | refine LeO.ite ?_ ?_
      | refine LeO.bind ?_ (fun _ => ?_)
set_option maxHeartbeats 8000000 in
set_option maxRecDepth 100000 in
theorem impl_copyTable.calls (k : Nat) (A0 : Option Addr) (c0 : Nat) (l0 : List (List Int)) (r : List (List Int)) (w : World) (hr0 : Kd.C (Kd.slice 3 (Kd.int .i64)) w A0 l0.length l0) (hc0 : l0.length ≤ c0) (h : impl_copyTable.f k l0 = some r) :
    Calls Try.prog 64 #[.slice A0 l0.length c0] w fun e w' => ∃ v0_ : Value, e = .returned (v0_) ∧ Kd.S (Kd.slice 3 (Kd.int .i64)) 39 w' w.heap.size (fun _ => True) v0_ r ∧ Below w.heap.size w w' := by
  have HR0 := Aside0.mk hr0
  have HC0 := Aside0.mk hc0
  clear hr0 hc0
  have HB := Aside0.mk (Below.refl w.heap.size w)
  have H : (impl_copyTable.l0 k (([] : List (List Int))) l0 (l0.length : Int) 0) = some r := h
  clear h
  obtain ⟨y167, hy167⟩ : ∃ y_ : List (List Int), y_ = (([] : List (List Int))) := ⟨_, rfl⟩
  replace H : (impl_copyTable.l0 k y167 l0 (l0.length : Int) 0) = some r := by first | (rw [hy167]; with_reducible exact H) | (have H2_ := (Option.bind_some _ _).symm.trans H; rw [hy167]; with_reducible exact H2_) | (have H2_ := (Option.bind_some _ _).symm.trans H; with_reducible exact H2_) | with_reducible exact H | (rw [hy167]; exact H) | exact H
  have Ny167 := Aside0.mk hy167
  clear hy167
  have H' := Aside0.mk H
  clear H
  go_enter Try.func64, Try.ntmps64
  go_wp2_with (first | ((with_reducible refine gate_dst (N := 6) rfl ?_); refine Kd.S_lit (Kd.slice 3 (Kd.int .i64)) _ 39 ?hg (N := 6) ?hd (xs := ([] : List (List Int))) (inner := []) (ok := fun _ => True) (okp := fun _ => True) ?hr ?hp (fun _ hk => hk) trivial (Below.refl _ _) (Nat.le_refl _) (by simp) ?_; (case hd => rfl); (case hg => rfl); (case hr => first | (go_simp; done) | (go_simp; rfl)); (case hp => exact (Reps.none _ _)); intro v168 w2 ho3 hb hg_ hnew_; clear hg_ hnew_; (first | rw [← Ny167.out] at ho3 | (simp only [Int.reduceToNat] at ho3; rw [← Ny167.out] at ho3)); have n0_ := Aside0.mk (Kd.S_lower ho3 (below_size (by repeat (first | (with_reducible first | exact HB.out | apply below_alloc | apply pw_below_drewN | apply below_drew1) | exact HB.out)))); have n1_ := Aside0.mk (below_step (by repeat (first | (with_reducible first | exact HB.out | apply below_alloc | apply pw_below_drewN | apply below_drew1) | exact HB.out)) hb); clear HB; have HO169 := n0_; have HB := n1_; clear n0_ n1_; clear hb ho3))
  go_loopg [3, 9] k (fun kq v3 v9 w' => ∃ (x3_1 : List (List Int)) (x9_1 : Int), v9 = .int .i64 x9_1 ∧ Aside0 (impl_copyTable.l0 kq x3_1 l0 (l0.length : Int) x9_1 = some r) ∧ Aside0 (kq ≤ k) ∧ Aside0 (Kd.S (Kd.slice 3 (Kd.int .i64)) 39 w' w.heap.size (fun _ => True) v3 x3_1) ∧ Aside0 (Below w.heap.size w w'))
  case atStart => exact ⟨(y167), (0), (by first | rfl | (simp; done) | (simp [*]; done)), H', ⟨Nat.le_refl _⟩, ⟨by (with_reducible repeat (first | apply Kd.S_alloc | apply Kd.S_drewN | apply Kd.S_drew)); exact HO169.out⟩, ⟨by repeat (first | (with_reducible first | exact HB.out | apply below_alloc | apply pw_below_drewN | apply below_drew1) | exact HB.out)⟩⟩
  case round =>
    clear H'
    try clear p2
    obtain ⟨x3_1, x9_1, rfl, HA, HK1, HO_3, HB⟩ := hrel
    cases gk with
    | zero => exact absurd HA.out (by simp [impl_copyTable.l0])
    | succ k1 =>
      have H := HA.out
      clear HA
      simp only [impl_copyTable.l0] at H
      by_cases c4 : x9_1 < (l0.length : Int)
      · rw [if_pos c4] at H
        have c4b0 : decide (x9_1 < (l0.length : Int)) = true := decide_eq_true c4
        clear c4
        by_cases c5 : 0 ≤ x9_1
        · rw [if_pos c5] at H
          have c5b0 : decide (0 ≤ x9_1) = true := decide_eq_true c5
          clear c5
          by_cases c6 : x9_1 < (l0.length : Int)
          · rw [if_pos c6] at H
            have c6b0 : decide (x9_1 < (l0.length : Int)) = true := decide_eq_true c6
            clear c6
            replace H := Option.bind_eq_some_iff.mp H
            obtain ⟨t171, A70, H⟩ := H
            replace H : (if x3_1.length < 5864062014805 then (impl_copyTable.l0 k1 (x3_1 ++ [t171]) l0 (l0.length : Int) (wrap64 (x9_1 + 1))) else (none)) = some r := H
            have A7 := Aside0.mk A70
            clear A70
            by_cases c8 : x3_1.length < 5864062014805
            · rw [if_pos c8] at H
              have LMc8 := Aside0.mk c8
              clear c8
              obtain ⟨y174, hy174⟩ : ∃ y_ : List (List Int), y_ = (x3_1 ++ [t171]) := ⟨_, rfl⟩
              replace H : (impl_copyTable.l0 k1 y174 l0 (l0.length : Int) (wrap64 (x9_1 + 1))) = some r := by first | (rw [hy174]; with_reducible exact H) | (have H2_ := (Option.bind_some _ _).symm.trans H; rw [hy174]; with_reducible exact H2_) | (have H2_ := (Option.bind_some _ _).symm.trans H; with_reducible exact H2_) | with_reducible exact H | (rw [hy174]; exact H) | exact H
              have Ny174 := Aside0.mk hy174
              clear hy174
              have H' := Aside0.mk H
              clear H
              have p170 : 0 ≤ (x9_1 : Int) := of_decide_eq_true (by first | (with_reducible assumption) | assumption)
              have q170 : x9_1 < (l0.length : Int) := of_decide_eq_true (by first | (with_reducible assumption) | assumption)
              obtain ⟨ad170, A170_0, c170_0, e170, hx170_0, hl170_0, hi170_0⟩ := at_L1 HR0.out x9_1 p170 q170
              cases e170
              (try replace hx170_0 := (HB.out.cell (World.block_lt_of_cell? w _ hx170_0)).trans hx170_0)
              have HR170_0 := Aside0.mk hi170_0
              have HC170_0 := Aside0.mk hl170_0
              clear hi170_0 hl170_0
              replace p170 := eq_true p170
              replace q170 := eq_true q170
              go_wp2_with (first | ((with_reducible refine gate_callee (f := 114) rfl ?_); refine goesL_ (some 15) rfl rfl Try.func114 (by kernel_rfl) rfl #[.slice A170_0 (rd_L1 l0 x9_1).length c170_0] rfl (by (try simp only [List.map_toArray, List.map_cons, List.map_nil]); first | done | rfl | (simp only [List.length_drop, List.length_take]; rfl)) ?_; (with_reducible refine (slices_Clone_int_int.calls _ _ (rd_L1 l0 x9_1) t171 _ ?side1 ?side2 A7.out).mono ?_); (case side1 => repeat (first | exact (Kd.C_below HR170_0.out HB.out) | (with_reducible refine Kd.C_alloc ?_ _) | (with_reducible refine Kd.C_drewN ?_ _) | (with_reducible refine Kd.C_drew ?_))); (case side2 => exact HC170_0.out); rintro e w9 ⟨v172, rfl, ho0, hb⟩; refine ⟨_, rfl, ?_⟩; have n0_ := Aside0.mk (Kd.S_elder' (by (with_reducible repeat (first | apply Kd.S_alloc | apply Kd.S_drewN | apply Kd.S_drew)); exact HO_3.out) (Kd.R_base ho0) hb); have n1_ := Aside0.mk (Kd.R_lower ho0 (below_size (by repeat (first | (with_reducible first | exact HB.out | apply below_alloc | apply pw_below_drewN | apply below_drew1) | exact HB.out)))); have n2_ := Aside0.mk (below_step (by repeat (first | (with_reducible first | exact HB.out | apply below_alloc | apply pw_below_drewN | apply below_drew1) | exact HB.out)) hb); clear HO_3; clear HB; have HO_3 := n0_; have HO173 := n1_; have HB := n2_; clear n0_ n1_ n2_; (try clear hb); (try clear hb2); (try clear hk); (try clear hi); (try clear ho0); obtain ⟨Ao11, co11, eo11⟩ := Kd.R_slice HO173.out; subst eo11) | ((with_reducible refine gate_builtin (b := .append) (xs := #[.tmp 13, .tmp 16]) rfl ?_); at_builtin; refine Kd.S_append (Kd.slice 3 (Kd.int .i64)) (w0 := w) w.heap.size rfl (.tmp 13) (.tmp 16) 22 39 (.slice none 0 0) 24 rfl Try.underlying22 info39 rfl (by decide) (by omega) u3 x3_1 t171 [.slice Ao11 t171.length co11] (fun _ => True) (fun k_ => some k_ = (.slice Ao11 t171.length co11 : Value).ownBlock) rfl rfl ?aP (fun k_ hk_ => ((Kd.R_mono (ok' := fun k_ => ((fun _ => True)) k_ ∧ some k_ ≠ (u3 : Value).ownBlock) (Kd.R_apart' (HO173.out) (Kd.S_typed HO_3.out) (by decide)) (fun k_ hk => ⟨trivial, hk.2⟩))).1 k_ hk_.symm) ?aF ?aO ?aB ?aS ?aL ?_; (case aP => exact Kd.M_row (Kd.R_mono (Kd.R_tight rfl (Kd.R_mono (ok' := fun k_ => ((fun _ => True)) k_ ∧ some k_ ≠ (u3 : Value).ownBlock) (Kd.R_apart' (HO173.out) (Kd.S_typed HO_3.out) (by decide)) (fun k_ hk => ⟨trivial, hk.2⟩))) (fun _ h_ => h_))); (case aB => exact (by repeat (first | (with_reducible first | exact HB.out | apply below_alloc | apply pw_below_drewN | apply below_drew1) | exact HB.out))); (case aF => exact (fun _ _ => trivial)); (case aO => exact (by (with_reducible repeat (first | apply Kd.S_alloc | apply Kd.S_drewN | apply Kd.S_drew)); exact Kd.S_mono HO_3.out (fun k_ hk => ⟨trivial, fun e_ => hk.2 e_⟩))); (case aS => exact (below_size (by repeat (first | (with_reducible first | exact HB.out | apply below_alloc | apply pw_below_drewN | apply below_drew1) | exact HB.out)))); (case aL => have := LMc8.out; omega); intro v175 w10 ho hb hg hat; rw [← Ny174.out] at ho; have n0_ := Aside0.mk (hb); have n1_ := Aside0.mk (ho); clear HB; clear HO_3; clear HO173; have HB := n0_; have HO176 := n1_; clear n0_ n1_; clear ho hb hg hat))
              go_roundg k1
              case measure => have := HK1.out; omega
              case rel => exact ⟨(y174), (wrap64 (x9_1 + 1)), (by first | rfl | (simp; done) | (simp [*]; done)), H', ⟨by have := HK1.out; omega⟩, ⟨by (with_reducible repeat (first | apply Kd.S_alloc | apply Kd.S_drewN | apply Kd.S_drew)); exact HO176.out⟩, ⟨by repeat (first | (with_reducible first | exact HB.out | apply below_alloc | apply pw_below_drewN | apply below_drew1) | exact HB.out)⟩⟩
            · rw [if_neg c8] at H
              exact absurd H (by simp)
          · rw [if_neg c6] at H
            exact absurd H (by simp)
        · rw [if_neg c5] at H
          exact absurd H (by simp)
      · rw [if_neg c4] at H
        have c4b0 : decide (x9_1 < (l0.length : Int)) = false := decide_eq_false c4
        clear c4
        obtain rfl := Option.some.inj H
        go_wp2
        go_ret
        exact ⟨_, by first | rfl | (simp [errW_none, errW_some] <;> rfl) | (simp [*, errW_none, errW_some] <;> rfl), by (with_reducible repeat (first | apply Kd.S_alloc | apply Kd.S_drewN | apply Kd.S_drew)); exact HO_3.out, by repeat (first | (with_reducible first | exact HB.out | apply below_alloc | apply pw_below_drewN | apply below_drew1) | exact HB.out)⟩

/-! ### impl_SignsAt: function 15 (given) -/
def impl_SignsAt.f (k : Nat) (a0 a1 : Int) : Option (List (List Int) × Bool) := if (1 ≤ a0 ∧ a0 ≤ 6) ∧ 0 ≤ a1 then (if (esAll a0.toNat).length ≤ 1000000 ∧ a1 ≤ 9223372036854775807 then (match (esAll a0.toNat)[a1.toNat]? with | some M => (impl_copyTable.f k M).bind fun t => if 0 < t.length then some (t, true) else none | none => some ([], false)) else none) else some ([], false)
theorem impl_SignsAt.mono : ∀ a0 a1 k, LeO (impl_SignsAt.f k a0 a1) (impl_SignsAt.f (k + 1) a0 a1) := by
  intro a0 a1 k
  unfold impl_SignsAt.f
  refine LeO.ite (LeO.ite ?_ (LeO.refl _)) (LeO.refl _)
  cases (esAll a0.toNat)[a1.toNat]? with
  | none => exact LeO.refl _
  | some M => exact LeO.bind (impl_copyTable.mono _ _) (fun _ => LeO.refl _)
/-- What SignsAt's visitor keeps: the rank that is left, and what was found. -/
def QSt (w0 : World) (br bo R : Nat) (T : List (List Int)) (i : Nat) (W : World) (own : Nat → Prop) : Prop := ∃ (vo : Value) (ok : Nat → Prop), Boxed W br 3 (.int .i64 ((R : Int) - (i : Int))) ∧ Boxed W bo 22 vo ∧ (w0.heap.size ≤ br ∧ w0.heap.size ≤ bo ∧ br ≠ bo) ∧
  (i ≤ R → vo = .slice none 0 0 ∧ ∀ k, ¬ ok k) ∧ (R < i → Kd.S (Kd.slice 3 (Kd.int .i64)) 39 W w0.heap.size ok vo T ∧ 0 < T.length) ∧ (∀ k, own k ↔ (k = br ∨ k = bo ∨ ok k)) ∧ ∀ k, ok k → k < W.heap.size ∧ k ≠ br ∧ k ≠ bo
theorem QSt.okk (w0 : World) (br bo R : Nat) (T : List (List Int)) : StOk (fun i W own => QSt w0 br bo R T i W own) := by
  refine ⟨fun i W W' own hs hk hsz => ?_, fun i W own hs k hk => ?_⟩
  · obtain ⟨vo, ok, h1, h2, h3, h4, h5, h6, h7⟩ := hs
    exact ⟨vo, ok, (hk br ((h6 br).mpr (.inl rfl)) h1.lt).trans h1, (hk bo ((h6 bo).mpr (.inr (.inl rfl))) h2.lt).trans h2, h3, h4, fun h => ⟨Kd.S_step (h5 h).1 (fun k ho hlt => hk k ((h6 k).mpr (.inr (.inr ho))) hlt), (h5 h).2⟩, h6, fun k ho => ⟨Nat.lt_of_lt_of_le (h7 k ho).1 hsz, (h7 k ho).2⟩⟩
  · obtain ⟨vo, ok, h1, h2, h3, h4, h5, h6, h7⟩ := hs
    rcases (h6 k).mp hk with e | e | e
    · rw [e]; exact h1.lt
    · rw [e]; exact h2.lt
    · exact (h7 k e).1
set_option maxHeartbeats 8000000 in
set_option maxRecDepth 100000 in
theorem at_clo (k : Nat) (w0 : World) (br bo R : Nat) (T : List (List Int)) (hR : (R : Int) ≤ 9223372036854775807) (i : Nat) (hi : i ≤ 9000000000) (M : List (List Int)) (W : World) (own : Nat → Prop) (v : Value) (hB : Below w0.heap.size w0 W) (hS : QSt w0 br bo R T i W own) (hV : Kd.V (Kd.slice 3 (Kd.int .i64)) 39 W 0 (fun k => ¬ own k) v M)
    (hcp : i = R → impl_copyTable.f k M = some T ∧ 0 < T.length) :
    Calls Try.prog 63 (#[v] ++ #[.pointer (some ⟨br, 0, none⟩), .pointer (some ⟨bo, 0, none⟩)]) W fun e w' => e = .returned (.bool (decide (i < R))) ∧ Below w0.heap.size w0 w' ∧ ∃ own', QSt w0 br bo R T (i + 1) w' own' ∧ Kept W w' own ∧ ∀ k, own' k → own k ∨ W.heap.size ≤ k := by
  obtain ⟨vo, ok, h1, h2, h3, h4, h5, h6, h7⟩ := hS
  obtain ⟨Av, cv, rfl⟩ := Kd.V_slice hV
  have hv := Kd.V_at hV
  obtain ⟨x, hx⟩ : ∃ x : Int, x = (R : Int) - (i : Int) := ⟨_, rfl⟩
  rw [← hx] at h1
  have hxb0 : -9000000000 ≤ x := by omega
  have hxb1 : x ≤ 9223372036854775807 := by omega
  have hx1 := h1.cell
  have hx2 := h1.frozen
  have hx3 := h2.cell
  have hx4 := h2.frozen
  have hx' : x - 1 = (R : Int) - ((i + 1 : Nat) : Int) := by omega
  have HX := Aside0.mk hx'
  have HBX := Aside0.mk (And.intro h1 (And.intro h2 h3))
  have H45 := Aside0.mk (And.intro h4 h5)
  have H67 := Aside0.mk (And.intro h6 h7)
  have HB := Aside0.mk hB
  by_cases c1 : i = R
  · obtain ⟨hc1, hc2⟩ := hcp c1
    have x0 : x = 0 := by omega
    subst x0
    obtain ⟨rfl, _⟩ := h4 (by omega)
    have HC := Aside0.mk (impl_copyTable.calls k Av cv M T W (Kd.F_now hv.2.2) hv.2.1 hc1)
    have HT := Aside0.mk hc2
    have HI := Aside0.mk c1
    have e0 : ((0 : Int) == 0) = true := rfl
    have e1 : decide (i < R) = false := decide_eq_false (by omega)
    rw [e1]
    have hlt1 := h1.lt
    have hlt2 := h2.lt
    have hne := h3.2.2
    have HNE := Aside0.mk hne
    clear hx hx' h1 h2 h3 h4 h5 h6 h7 hB hv hc1 hc2 c1 e1 hcp hV
    have hnl : ∀ (a : Option Addr) (n c : Nat) (w : World), (binOp .eql 22 (.slice a n c) (.slice none 0 0)).run Try.prog w = .ok (.bool a.isNone) w := fun a n c w => Lib.run_eql_slice_nil w 22 39 a n c 0 0 Try.underlying22
    go_enter Try.func63, Try.ntmps63
    go_wp2_with (go_at_call 64; (with_reducible refine HC.out.mono ?_); rintro e w5 ⟨vt, rfl, hS, hb⟩; obtain ⟨gt, ct, et, hg1, hg2, _⟩ := Kd.S_form hS HT.out; subst et; have HS := Aside0.mk (Kd.S_bound hS); have HB5 := Aside0.mk hb; have hx1 := pw_cell_below hb hx1; have hb1 := boxed_below HBX.out.1 hb; have hb2 := boxed_below HBX.out.2.1 hb; have hx2 := hb1.frozen; have hx3 := hb2.cell; have hx4 := hb2.frozen; have hx5 := hb1.cell; have HB12 := Aside0.mk (And.intro hb1 hb2); clear hS hb hb1 hb2)
    go_ret
    obtain ⟨b1_, b2_⟩ := HB12.out
    have hne := HNE.out
    have hx9 := HX.out
    have hw5 := HB5.out.size
    have hbr := HBX.out.2.2
    have hbrl := HBX.out.1.lt
    have hbol := HBX.out.2.1.lt
    have hk5 : Kept W w5 own := Kept.of_below HB5.out _
    have ho1 : own br := (H67.out.1 br).mpr (.inl rfl)
    have ho2 : own bo := (H67.out.1 bo).mpr (.inr (.inl rfl))
    refine ⟨rfl, ((below_step HB.out HB5.out).setCell (p := ⟨bo, 0, none⟩) hbr.2.1 _).setCell (p := ⟨br, 0, none⟩) hbr.1 _, fun k => k = br ∨ k = bo ∨ (W.heap.size ≤ k ∧ k < w5.heap.size), ⟨.slice (some ⟨gt, 0, none⟩) T.length ct, fun k => W.heap.size ≤ k ∧ k < w5.heap.size, ?_, ?_, hbr, ?_, ?_, fun k => Iff.rfl, ?_⟩, (hk5.setCell (p := ⟨bo, 0, none⟩) (.inl ho2) _).setCell (p := ⟨br, 0, none⟩) (.inl ho1) _, ?_⟩
    · rw [← hx9]
      have h8 : Boxed (w5.setCell ⟨bo, 0, none⟩ (.slice (some ⟨gt, 0, none⟩) T.length ct)) br 3 (.int .i64 0) := (Below.heap_setCell w5 ⟨bo, 0, none⟩ _ br hne).trans b1_
      exact h8.set _
    · exact (Below.heap_setCell _ ⟨br, 0, none⟩ _ bo (fun e => hne e.symm)).trans (b2_.set _)
    · intro h; omega
    · intro _
      refine ⟨?_, HT.out⟩
      have h8 := Kd.S_mono (Kd.S_lower HS.out HB.out.size) (ok' := fun k => W.heap.size ≤ k ∧ k < w5.heap.size) (fun k hk => ⟨hk.2.1, hk.2.2.1⟩)
      exact Kd.S_far (p := ⟨br, 0, none⟩) (Kd.S_far (p := ⟨bo, 0, none⟩) h8 (fun k hk => by show k ≠ bo; omega) _) (fun k hk => by show k ≠ br; omega) _
    · intro k hk
      refine ⟨?_, by omega, by omega⟩
      simp [World.setCell]
      exact hk.2
    · intro k hk
      rcases hk with e | e | e
      · exact .inl (by rw [e]; exact ho1)
      · exact .inl (by rw [e]; exact ho2)
      · exact .inr e.1
  · have e0 : (x == 0) = false := by simp; omega
    obtain ⟨bn, hbn⟩ : ∃ bn : Bool, bn = decide (i < R) := ⟨_, rfl⟩
    rw [← hbn]
    have hnil : (i < R ∧ vo = .slice none 0 0 ∧ bn = true) ∨ ∃ g c, vo = .slice (some ⟨g, 0, none⟩) T.length c ∧ bn = false := by
      by_cases c2 : i < R
      · exact .inl ⟨c2, (h4 (by omega)).1, by rw [hbn, decide_eq_true c2]⟩
      · obtain ⟨hS5, hT5⟩ := h5 (by omega)
        obtain ⟨g, c, e, _⟩ := Kd.S_form hS5 hT5
        exact .inr ⟨g, c, e, by rw [hbn, decide_eq_false c2]⟩
    have hlt1 := h1.lt
    have hne := h3.2.2
    have HNE := Aside0.mk hne
    have CI := Aside0.mk c1
    clear hx hx' h1 h2 h3 h4 h5 h6 h7 hB hv hcp hV hbn c1
    have fin : ∀ W', W' = W.setCell ⟨br, 0, none⟩ (.int .i64 (x - 1)) → Below w0.heap.size w0 W' ∧ ∃ own', QSt w0 br bo R T (i + 1) W' own' ∧ Kept W W' own ∧ ∀ k, own' k → own k ∨ W.heap.size ≤ k := by
      intro W' e
      rw [e]
      have hbr := HBX.out.2.2
      refine ⟨HB.out.setCell (p := ⟨br, 0, none⟩) hbr.1 _, own, ⟨vo, ok, ?_, ?_, hbr, fun h => ?_, fun h => ?_, H67.out.1, fun k hk => ?_⟩, (Kept.refl W own).setCell (p := ⟨br, 0, none⟩) (.inl ((H67.out.1 br).mpr (.inl rfl))) _, fun k hk => .inl hk⟩
      · rw [← HX.out]
        exact HBX.out.1.set _
      · exact (Below.heap_setCell _ ⟨br, 0, none⟩ _ bo (fun e2 => HNE.out e2.symm)).trans HBX.out.2.1
      · exact H45.out.1 (by omega)
      · have hi2 : R < i := by have := CI.out; omega
        obtain ⟨s1, s2⟩ := H45.out.2 hi2
        exact ⟨Kd.S_far (p := ⟨br, 0, none⟩) s1 (fun k hk => (H67.out.2 k hk).2.1) _, s2⟩
      · have h9 := H67.out.2 k hk
        refine ⟨?_, h9.2⟩
        simp [World.setCell]
        exact h9.1
    have FIN := Aside0.mk fin
    clear fin
    have hnl : ∀ (a : Option Addr) (n c : Nat) (w : World), (binOp .eql 22 (.slice a n c) (.slice none 0 0)).run Try.prog w = .ok (.bool a.isNone) w := fun a n c w => Lib.run_eql_slice_nil w 22 39 a n c 0 0 Try.underlying22
    rcases hnil with ⟨_, rfl, rfl⟩ | ⟨g, c, rfl, rfl⟩
    · go_enter Try.func63, Try.ntmps63
      go_wp2
      go_ret
      exact ⟨rfl, FIN.out _ rfl⟩
    · go_enter Try.func63, Try.ntmps63
      go_wp2
      go_ret
      exact ⟨rfl, FIN.out _ rfl⟩
set_option maxHeartbeats 8000000 in
set_option maxRecDepth 100000 in
theorem impl_SignsAt.calls (k : Nat) (a0 a1 : Int) (r1 : List (List Int)) (r2 : Bool) (w : World) (h : impl_SignsAt.f k a0 a1 = some (r1, r2)) :
    Calls Try.prog 15 #[.int .i64 a0, .int .i64 a1] w fun e w' => ∃ v0_ : Value, e = .returned (.tuple #[v0_, .bool r2]) ∧ Kd.S (Kd.slice 3 (Kd.int .i64)) 39 w' w.heap.size (fun _ => True) v0_ r1 ∧ Below w.heap.size w w' := by
  have hmf : ∀ (fn : Fn) (first cap : Array Value) (w : World), (Instr.makeFunc fn first cap).run Try.prog w = .ok (.func fn first cap) w := fun _ _ _ _ => rfl
  have hnl : ∀ (a : Option Addr) (n c : Nat) (w : World), (binOp .neq 22 (.slice a n c) (.slice none 0 0)).run Try.prog w = .ok (.bool (!a.isNone)) w := fun a n c w => run_neq_slice_nil_any w 22 39 a n c 0 0 Try.underlying22
  have hE := enters_of Try.func63 (by kernel_rfl) rfl
  have HB := Aside0.mk (Below.refl w.heap.size w)
  unfold impl_SignsAt.f at h
  obtain ⟨wa, hwa⟩ : ∃ wa : World, wa = w.alloc (.cells #[.int .i64 a1] 3) := ⟨_, rfl⟩
  have hba : Below w.heap.size w wa := by rw [hwa]; exact below_alloc (Below.refl _ _) _
  have hxa : Boxed wa w.heap.size 3 (.int .i64 a1) := by rw [hwa]; exact Boxed.new w _ _
  have hca := hxa.cell
  have HWA := Aside0.mk (And.intro hba hxa)
  by_cases hs : 1 ≤ a0 ∧ a0 ≤ 6
  · have hw0 : impl_within.f a0 1 6 = some true := by unfold impl_within.f; rw [if_pos hs.1, decide_eq_true hs.2]
    have hg : impl_isSide.f a0 = some true := by first | (unfold impl_isSide.f; rw [hw0]; rfl) | (unfold impl_isSide.f; simpa using hw0)
    have HG := Aside0.mk hg
    clear hg hw0
    by_cases hr : 0 ≤ a1
    · rw [if_pos ⟨hs, hr⟩] at h
      have br_ : decide (a1 < 0) = false := decide_eq_false (by omega)
      obtain ⟨n, rfl⟩ : ∃ n : Nat, a0 = (n : Int) := ⟨a0.toNat, by omega⟩
      obtain ⟨R, rfl⟩ : ∃ R : Nat, a1 = (R : Int) := ⟨a1.toNat, by omega⟩
      rw [Int.toNat_natCast, Int.toNat_natCast] at h
      by_cases hlen : (esAll n).length ≤ 1000000 ∧ (R : Int) ≤ 9223372036854775807
      case neg =>
        rw [if_neg hlen] at h
        cases h
      rw [if_pos hlen] at h
      have hcase : (∃ M, (esAll n)[R]? = some M ∧ impl_copyTable.f k M = some r1 ∧ 0 < r1.length ∧ r2 = true) ∨ ((esAll n).length ≤ R ∧ r1 = [] ∧ r2 = false) := by
        cases e : (esAll n)[R]? with
        | none =>
          rw [e] at h
          have h2 : some (([] : List (List Int)), false) = some (r1, r2) := h
          simp only [Option.some.injEq, Prod.mk.injEq] at h2
          exact .inr ⟨List.getElem?_eq_none_iff.mp e, h2.1.symm, h2.2.symm⟩
        | some M =>
          rw [e] at h
          have h2 : ((impl_copyTable.f k M).bind fun t => if 0 < t.length then some (t, true) else none) = some (r1, r2) := h
          obtain ⟨t, ht, h2⟩ := Option.bind_eq_some_iff.mp h2
          by_cases c : 0 < t.length
          · rw [if_pos c] at h2
            simp only [Option.some.injEq, Prod.mk.injEq] at h2
            obtain ⟨rfl, rfl⟩ := h2
            exact .inl ⟨M, rfl, ht, c, rfl⟩
          · rw [if_neg c] at h2
            cases h2
      have hR9 : (R : Int) ≤ 9223372036854775807 := hlen.2
      have hR0 : (0 : Int) ≤ (R : Int) := hr
      have HL := Aside0.mk hlen
      have HS := Aside0.mk hs
      have HC := Aside0.mk hcase
      have HE := Aside0.mk hE
      clear h hcase hs hlen hE hr
      go_enter Try.func15, Try.ntmps15
      go_wp2_with (go_at_call 61; rw [← hwa]; (with_reducible refine (impl_isSide.calls _ true _ HG.out).mono ?_); rintro e w4 ⟨rfl, ⟨nd, rfl⟩⟩)
      have hsz : w.heap.size + 1 = wa.heap.size := by rw [hwa]; simp
      rw [← hwa, hsz]
      obtain ⟨wz, hwz⟩ : ∃ wz : World, wz = (World.drewN wa nd).alloc (.cells #[.slice none 0 0] 22) := ⟨_, rfl⟩
      rw [← hwz]
      have hz1 : Boxed wz wa.heap.size 22 (.slice none 0 0) := by rw [hwz]; exact Boxed.new _ _ _
      have hz2 : Below wa.heap.size wa wz := by rw [hwz]; exact below_alloc (pw_below_drewN (Below.refl _ _) _) _
      have hz0 : Boxed wz w.heap.size 3 (.int .i64 (R : Int)) := boxed_below HWA.out.2 hz2
      have HZ := Aside0.mk (And.intro hz0 (And.intro hz1 hz2))
      have hlt : w.heap.size < wa.heap.size := HWA.out.2.lt
      have HLT := Aside0.mk hlt
      clear hwz hz0 hz1 hz2 hca hxa hba hwa hlt hsz
      with_reducible refine (eachSigns_any n 63 #[.pointer (some ⟨w.heap.size, 0, none⟩), .pointer (some ⟨wa.heap.size, 0, none⟩)] HE.out (by have := HS.out; omega) (by have := HS.out; omega) w (fun i W own => QSt w w.heap.size wa.heap.size R r1 i W own) (QSt.okk _ _ _ _ _) (fun i => decide (i < R)) ?cb wz (fun k => k = w.heap.size ∨ k = wa.heap.size ∨ False) (below_step HWA.out.1 HZ.out.2.2) ?st).mono ?_
      case cb =>
        intro i M W own v hi hb hs hv
        have hil := (List.getElem?_eq_some_iff.mp hi).1
        exact at_clo k w w.heap.size wa.heap.size R r1 HL.out.2 i (by have := HL.out.1; omega) M W own v hb hs hv (fun e => by
          rcases HC.out with ⟨M', h1, h2, h3, _⟩ | ⟨h1, _⟩
          · rw [← e, hi] at h1
            injection h1 with h1
            rw [h1]
            exact ⟨h2, h3⟩
          · omega)
      case st =>
        refine ⟨.slice none 0 0, fun _ => False, ?_, HZ.out.2.1, ⟨Nat.le_refl _, Nat.le_of_lt HLT.out, Nat.ne_of_lt HLT.out⟩, fun _ => ⟨rfl, fun _ h => h⟩, fun h => absurd h (Nat.not_lt_zero _), fun k => Iff.rfl, fun k h => h.elim⟩
        rw [show (R : Int) - ((0 : Nat) : Int) = (R : Int) by omega]
        exact HZ.out.1
      rintro e w6 ⟨rfl, hb6, own6, hs6, _, _⟩
      have HB6 := Aside0.mk hb6
      rcases HC.out with ⟨M', h1, h2, h3, rfl⟩ | ⟨h1, rfl, rfl⟩
      · have hRl : R < (esAll n).length := (List.getElem?_eq_some_iff.mp h1).1
        rw [runTo_stop R 0 _ (fun i _ hi => decide_eq_true (by omega)) (decide_eq_false (by omega)) hRl] at hs6
        obtain ⟨vo, ok, _, q2, _, _, q5, _, _⟩ := hs6
        obtain ⟨q5, _⟩ := q5 (by omega)
        obtain ⟨g6, c6, e6, _⟩ := Kd.S_form q5 h3
        subst e6
        have hx6 := q2.cell
        have HS6 := Aside0.mk q5
        clear q2 q5 h1 h2 h3 hRl hb6
        go_wp2
        refine start_ (n := 5) (S := fun w' => w'.cell? ⟨wa.heap.size, 0, none⟩ = some (.slice (some ⟨g6, 0, none⟩) r1.length c6)) (ds := []) #[false, false, false, false, false] (by kernel_rfl) rfl rfl (hx6) (fun hHeld => ?_)
        refine take_ (i := 0) (N := some 17) (v := ?_) (a' := ?_) #[true, false, false, false, false] rfl rfl (by kernel_rfl) (fun _ _ _ h => h) (Or.inl ⟨by rfl, ?_⟩) hHeld ?_ ?_
        rotate_left
        · intro w' s0
          go_simp
          with_reducible rfl
        rotate_left
        · simp only [Act.put, List.setIfInBounds_toArray, List.set_cons_zero, List.set_cons_succ, i64_w, i32_w]
          rfl
        refine pure_ (i := 3) (N := some 4) (v := ?_) (a' := ?_) #[true, false, false, true, false] rfl rfl (by kernel_rfl) (fun _ _ _ h => h) (Or.inl ⟨by rfl, ?_⟩) ?_ ?_
        rotate_left
        · intro w'
          go_simp
          with_reducible rfl
        rotate_left
        · simp only [Act.put, List.setIfInBounds_toArray, List.set_cons_zero, List.set_cons_succ, i64_w, i32_w]
          rfl
        refine take_ (i := 1) (N := some 18) (v := ?_) (a' := ?_) #[true, true, false, true, false] rfl rfl (by kernel_rfl) (fun _ _ _ h => h) (Or.inl ⟨by rfl, ?_⟩) hHeld ?_ ?_
        rotate_left
        · intro w' s0
          go_simp
          with_reducible rfl
        rotate_left
        · simp only [Act.put, List.setIfInBounds_toArray, List.set_cons_zero, List.set_cons_succ, i64_w, i32_w]
          rfl
        refine pure_ (i := 2) (N := some 19) (v := ?_) (a' := ?_) #[true, true, true, true, false] rfl rfl (by kernel_rfl) (fun _ _ _ h => h) (Or.inl ⟨by rfl, ?_⟩) ?_ ?_
        rotate_left
        · intro w'
          go_simp
          with_reducible rfl
        rotate_left
        · simp only [Act.put, List.setIfInBounds_toArray, List.set_cons_zero, List.set_cons_succ, i64_w, i32_w]
          rfl
        refine pure_ (i := 4) (N := some 5) (v := ?_) (a' := ?_) #[true, true, true, true, true] rfl rfl (by kernel_rfl) (fun _ _ _ h => h) (Or.inl ⟨by rfl, ?_⟩) ?_ ?_
        rotate_left
        · intro w'
          go_simp
          with_reducible rfl
        rotate_left
        · simp only [Act.put, List.setIfInBounds_toArray, List.set_cons_zero, List.set_cons_succ, i64_w, i32_w]
          rfl
        refine done_ (by kernel_rfl) ?_

        go_wp2
        go_ret2
        exact ⟨_, rfl, Kd.S_mono HS6.out (fun _ _ => trivial), pw_below_drewN HB6.out _⟩
      · rw [runTo_yes _ 0 (fun i _ hi => decide_eq_true (by omega))] at hs6
        obtain ⟨vo, ok, _, q2, _, q4, _, _, _⟩ := hs6
        obtain ⟨q4, _⟩ := q4 (by omega)
        subst q4
        have hx6 := q2.cell
        clear q2 h1 hb6
        go_wp2
        refine start_ (n := 5) (S := fun w' => w'.cell? ⟨wa.heap.size, 0, none⟩ = some (.slice none 0 0)) (ds := []) #[false, false, false, false, false] (by kernel_rfl) rfl rfl (hx6) (fun hHeld => ?_)
        refine take_ (i := 0) (N := some 17) (v := ?_) (a' := ?_) #[true, false, false, false, false] rfl rfl (by kernel_rfl) (fun _ _ _ h => h) (Or.inl ⟨by rfl, ?_⟩) hHeld ?_ ?_
        rotate_left
        · intro w' s0
          go_simp
          with_reducible rfl
        rotate_left
        · simp only [Act.put, List.setIfInBounds_toArray, List.set_cons_zero, List.set_cons_succ, i64_w, i32_w]
          rfl
        refine pure_ (i := 3) (N := some 4) (v := ?_) (a' := ?_) #[true, false, false, true, false] rfl rfl (by kernel_rfl) (fun _ _ _ h => h) (Or.inl ⟨by rfl, ?_⟩) ?_ ?_
        rotate_left
        · intro w'
          go_simp
          with_reducible rfl
        rotate_left
        · simp only [Act.put, List.setIfInBounds_toArray, List.set_cons_zero, List.set_cons_succ, i64_w, i32_w]
          rfl
        refine take_ (i := 1) (N := some 18) (v := ?_) (a' := ?_) #[true, true, false, true, false] rfl rfl (by kernel_rfl) (fun _ _ _ h => h) (Or.inl ⟨by rfl, ?_⟩) hHeld ?_ ?_
        rotate_left
        · intro w' s0
          go_simp
          with_reducible rfl
        rotate_left
        · simp only [Act.put, List.setIfInBounds_toArray, List.set_cons_zero, List.set_cons_succ, i64_w, i32_w]
          rfl
        refine pure_ (i := 2) (N := some 19) (v := ?_) (a' := ?_) #[true, true, true, true, false] rfl rfl (by kernel_rfl) (fun _ _ _ h => h) (Or.inl ⟨by rfl, ?_⟩) ?_ ?_
        rotate_left
        · intro w'
          go_simp
          with_reducible rfl
        rotate_left
        · simp only [Act.put, List.setIfInBounds_toArray, List.set_cons_zero, List.set_cons_succ, i64_w, i32_w]
          rfl
        refine pure_ (i := 4) (N := some 5) (v := ?_) (a' := ?_) #[true, true, true, true, true] rfl rfl (by kernel_rfl) (fun _ _ _ h => h) (Or.inl ⟨by rfl, ?_⟩) ?_ ?_
        rotate_left
        · intro w'
          go_simp
          with_reducible rfl
        rotate_left
        · simp only [Act.put, List.setIfInBounds_toArray, List.set_cons_zero, List.set_cons_succ, i64_w, i32_w]
          rfl
        refine done_ (by kernel_rfl) ?_

        go_wp2
        go_ret2
        exact ⟨_, rfl, Kd.S_nil _ _ _ _ _, pw_below_drewN HB6.out _⟩
    · rw [if_neg (fun x => hr x.2)] at h
      simp only [Option.some.injEq, Prod.mk.injEq] at h
      obtain ⟨rfl, rfl⟩ := h
      have br_ : decide (a1 < 0) = true := decide_eq_true (by omega)
      clear hs hr hE hnl
      go_enter Try.func15, Try.ntmps15
      go_wp2_with (go_at_call 61; rw [← hwa]; (with_reducible refine (impl_isSide.calls _ true _ HG.out).mono ?_); rintro e w5 ⟨rfl, ⟨nd, rfl⟩⟩)
      go_ret2
      exact ⟨_, rfl, Kd.S_nil _ _ _ _ _, pw_below_drewN (below_alloc (Below.refl _ _) _) _⟩
  · rw [if_neg (fun x => hs x.1)] at h
    simp only [Option.some.injEq, Prod.mk.injEq] at h
    obtain ⟨rfl, rfl⟩ := h
    have hw0 : impl_within.f a0 1 6 = some false := by
      unfold impl_within.f
      by_cases h1 : 1 ≤ a0
      · rw [if_pos h1, decide_eq_false (fun h2 => hs ⟨h1, h2⟩)]
      · rw [if_neg h1]
    have hg : impl_isSide.f a0 = some false := by first | (unfold impl_isSide.f; rw [hw0]; rfl) | (unfold impl_isSide.f; simpa using hw0)
    have HG := Aside0.mk hg
    clear hs hE hnl hg hw0
    go_enter Try.func15, Try.ntmps15
    go_wp2_with (go_at_call 61; rw [← hwa]; (with_reducible refine (impl_isSide.calls _ false _ HG.out).mono ?_); rintro e w5 ⟨rfl, ⟨nd, rfl⟩⟩)
    go_ret2
    exact ⟨_, rfl, Kd.S_nil _ _ _ _ _, pw_below_drewN (below_alloc (Below.refl _ _) _) _⟩

/-! ### impl_RankSigns: function 24 (given) -/
/-- How many say yes among the first ones. -/
def cntB (b : Nat → Bool) : Nat → Int
  | 0 => 0
  | i + 1 => cntB b i + if b i = true then 1 else 0
theorem cntB_bound (b : Nat → Bool) (i : Nat) : 0 ≤ cntB b i ∧ cntB b i ≤ i := by
  induction i with
  | zero => exact ⟨Int.le_refl _, Int.le_refl _⟩
  | succ i ih =>
    simp only [cntB]
    split <;> omega
theorem runTo_le (b : Nat → Bool) (o c : Nat) : (runTo b o c).1 ≤ o + c := by
  induction c generalizing o with
  | zero => exact Nat.le_refl _
  | succ c ih =>
    simp only [runTo]
    split
    · have := ih (o + 1); omega
    · show o + 1 ≤ _; omega
/-- Whether the table at a place comes before m. -/
def befB (k : Nat) (m : List (List Int)) (i : Nat) : Bool := match (esAll m.length)[i]? with | some M => decide ((impl_compareTables.f k M m).getD 0 < 0) | none => false
def cmpOk (k : Nat) (m : List (List Int)) : Prop := ∀ M ∈ esAll m.length, (impl_compareTables.f k M m).isSome = true
instance (k : Nat) (m : List (List Int)) : Decidable (cmpOk k m) := by unfold cmpOk; exact inferInstance
def rankOf (k : Nat) (m : List (List Int)) : Int := cntB (befB k m) (runTo (befB k m) 0 (esAll m.length).length).1
def impl_RankSigns.f (k : Nat) (l0 : List (List Int)) : Option (Int × Bool) := (impl_IsSignMatrix.f k l0).bind fun t => if t = true then (if (1 ≤ l0.length ∧ l0.length ≤ 6 ∧ (esAll l0.length).length ≤ 1000000) ∧ cmpOk k l0 then some (rankOf k l0, true) else none) else some (0, false)
theorem impl_RankSigns.mono : ∀ a0 k, LeO (impl_RankSigns.f k a0) (impl_RankSigns.f (k + 1) a0) := by
  intro a0 k
  unfold impl_RankSigns.f
  refine LeO.bind (impl_IsSignMatrix.mono _ _) (fun t => ?_)
  cases t with
  | false => exact LeO.refl _
  | true =>
    rw [if_pos rfl, if_pos rfl]
    intro r h
    by_cases c : (1 ≤ a0.length ∧ a0.length ≤ 6 ∧ (esAll a0.length).length ≤ 1000000) ∧ cmpOk k a0
    · rw [if_pos c] at h
      have hs : ∀ M ∈ esAll a0.length, impl_compareTables.f (k + 1) M a0 = impl_compareTables.f k M a0 := by
        intro M hM
        obtain ⟨x, hx⟩ := Option.isSome_iff_exists.mp (c.2 M hM)
        rw [hx]
        exact impl_compareTables.mono M a0 k x hx
      have c2 : cmpOk (k + 1) a0 := fun M hM => by rw [hs M hM]; exact c.2 M hM
      have e : befB (k + 1) a0 = befB k a0 := by
        funext i
        unfold befB
        cases he : (esAll a0.length)[i]? with
        | none => rfl
        | some M =>
          show decide _ = decide _
          rw [hs M (List.mem_of_getElem? he)]
      rw [if_pos ⟨c.1, c2⟩]
      unfold rankOf at h ⊢
      rw [e]
      exact h
    · rw [if_neg c] at h
      cases h
/-- A number in a box. -/
def NSt (w0 : World) (b0 : Nat) (x : Int) (W : World) (own : Nat → Prop) : Prop := (Boxed W b0 3 (.int .i64 x) ∧ w0.heap.size ≤ b0) ∧ ∀ k, own k ↔ k = b0
theorem NSt.ok (w0 : World) (b0 : Nat) (f : Nat → Int) : StOk (fun i W own => NSt w0 b0 (f i) W own) :=
  ⟨fun i W W' own hs hk _ => ⟨⟨(hk b0 ((hs.2 b0).mpr rfl) hs.1.1.lt).trans hs.1.1, hs.1.2⟩, hs.2⟩, fun i W own hs k hk => by rw [(hs.2 k).mp hk]; exact hs.1.1.lt⟩
set_option maxHeartbeats 8000000 in
set_option maxRecDepth 100000 in
theorem rank_clo (k : Nat) (m : List (List Int)) (A : Option Addr) (c : Nat) (w0 : World) (p0 b0 : Nat) (hp0 : w0.cell? ⟨p0, 0, none⟩ = some (.slice A m.length c)) (hC : Kd.C (Kd.slice 3 (Kd.int .i64)) w0 A m.length m) (hc : m.length ≤ c) (M : List (List Int)) (W : World) (own : Nat → Prop) (v : Value) (x : Int) (hx0 : 0 ≤ x) (hx1 : x ≤ 2000000)
    (hB : Below w0.heap.size w0 W) (hS : NSt w0 b0 x W own) (hV : Kd.V (Kd.slice 3 (Kd.int .i64)) 39 W 0 (fun k => ¬ own k) v M) (bo : Bool) (hbo : bo = decide ((impl_compareTables.f k M m).getD 0 < 0)) (hok : (impl_compareTables.f k M m).isSome = true) :
    Calls Try.prog 74 (#[v] ++ #[.pointer (some ⟨p0, 0, none⟩), .pointer (some ⟨b0, 0, none⟩)]) W fun e w' => e = .returned (.bool bo) ∧ Below w0.heap.size w0 w' ∧ ∃ own', NSt w0 b0 (x + if bo = true then 1 else 0) w' own' ∧ Kept W w' own ∧ ∀ k, own' k → own k ∨ W.heap.size ≤ k := by
  obtain ⟨⟨hb1, hb2⟩, hown⟩ := hS
  obtain ⟨Av, cv, rfl⟩ := Kd.V_slice hV
  obtain ⟨cm, hcm⟩ := Option.isSome_iff_exists.mp hok
  rw [hcm, Option.getD_some] at hbo
  have hc1 := pw_cell_below hB hp0
  have hv := Kd.V_at hV
  have HCALL := Aside0.mk (impl_compareTables.calls k Av cv M A c m cm W (Kd.F_now hv.2.2) hv.2.1 (Kd.C_below hC hB) hc hcm)
  have bc : decide (cm < 0) = bo := hbo.symm
  obtain ⟨xb, hxb⟩ : ∃ xb : Int, xb = if bo = true then 1 else 0 := ⟨_, rfl⟩
  have HBIT := Aside0.mk (show impl_bit.f bo = some xb by rw [hxb]; cases bo <;> rfl)
  have HX := Aside0.mk (And.intro hx0 (And.intro hx1 hxb))
  have xb0 : 0 ≤ xb := by rw [hxb]; split <;> omega
  have xb1 : xb ≤ 1 := by rw [hxb]; split <;> omega
  rw [← hxb]
  have HB := Aside0.mk hB
  have HBX := Aside0.mk (And.intro hb1 hb2)
  have HOWN := Aside0.mk hown
  clear hb1 hb2 hown hbo hcm hok hv hC hc hp0 hV hB hxb
  go_enter Try.func74, Try.ntmps74
  go_wp2_with (go_at_call 75; (with_reducible refine HCALL.out.mono ?_); rintro e w5 ⟨rfl, ⟨n5, rfl⟩⟩)
  obtain ⟨w5, hw5⟩ : ∃ w5 : World, w5 = World.drewN W n5 := ⟨_, rfl⟩
  have HB5 := Aside0.mk (show Below W.heap.size W w5 by rw [hw5]; exact pw_below_drewN (Below.refl _ _) _)
  rw [← hw5]
  clear hw5
  have hbx := boxed_below HBX.out.1 HB5.out
  have hx1 := hbx.cell
  have hx2 := hbx.frozen
  have HBX5 := Aside0.mk hbx
  clear hbx bc
  refine start_ (n := 5) (S := fun w' => Below w5.heap.size w5 w' ∧ w'.cell? ⟨b0, 0, none⟩ = some (.int .i64 x) ∧ w'.frozen? ⟨b0, 0, none⟩ = false) (ds := [4]) #[false, false, false, false, false] (by kernel_rfl) rfl rfl ⟨(below_drew (Below.refl _ _)), hx1, hx2⟩ (fun hHeld => ?_)
  refine pure_ (i := 1) (N := some 11) (v := ?_) (a' := ?_) #[false, true, false, false, false] rfl rfl (by kernel_rfl) (fun _ _ _ h => h) (Or.inl ⟨by rfl, ?_⟩) ?_ ?_
  rotate_left
  · intro w'
    go_simp
    with_reducible rfl
  rotate_left
  · simp only [Act.put, List.setIfInBounds_toArray, List.set_cons_zero, List.set_cons_succ, i64_w, i32_w]
    rfl
  refine take_ (i := 0) (N := some 10) (v := ?_) (a' := ?_) #[true, true, false, false, false] rfl rfl (by kernel_rfl) (fun _ _ _ h => h) (Or.inl ⟨by rfl, ?_⟩) hHeld ?_ ?_
  rotate_left
  · rintro w' ⟨s0, s1, s2⟩
    go_simp
    with_reducible rfl
  rotate_left
  · simp only [Act.put, List.setIfInBounds_toArray, List.set_cons_zero, List.set_cons_succ, i64_w, i32_w]
    rfl
  refine one_ (i := 2) (N := some 12) #[true, true, true, false, false] rfl rfl (by kernel_rfl) (by decide) (fun K hK => ?_)
  refine goes_ Try.func76 (by kernel_rfl) rfl #[.bool bo] (by rfl) rfl rfl (by simp only [List.map_toArray, List.map_cons, List.map_nil]; rfl) ?_
  with_reducible refine (impl_bit.calls bo xb _ HBIT.out).mono ?_
  rintro e w6 ⟨rfl, ⟨nd, rfl⟩⟩
  refine ⟨_, rfl, ?_⟩
  refine hK.out _ _ ⟨pw_below_drewN hHeld.1 _, hHeld.2.1, hHeld.2.2⟩ (fun hHeld => ?_)
  clear hK K
  refine norm_ (a' := ?_) ?_ ?_
  rotate_left
  · show Act.put _ (some 12) _ = _
    simp only [Act.put, List.setIfInBounds_toArray, List.set_cons_zero, List.set_cons_succ, i64_w, i32_w]
    rfl
  refine pure_ (i := 3) (N := some 13) (v := ?_) (a' := ?_) #[true, true, true, true, false] rfl rfl (by kernel_rfl) (fun _ _ _ h => h) (Or.inl ⟨by rfl, ?_⟩) ?_ ?_
  rotate_left
  · intro w'
    go_simp
    with_reducible rfl
  rotate_left
  · simp only [Act.put, List.setIfInBounds_toArray, List.set_cons_zero, List.set_cons_succ, i64_w, i32_w]
    rfl
  refine last_ (i := 4) (N := none) #[true, true, true, true, true] rfl rfl (by kernel_rfl) (by decide) (fun K hK => ?_)
  have hx3 := hHeld.2.1
  have hx4 := hHeld.2.2
  have HW7 := Aside0.mk hHeld.1
  refine skip_ (w1 := ?_) (by rfl) rfl ?_ ?_
  rotate_left
  · go_simp
    rfl
  refine hK.out _ _ ?_
  clear hK K
  refine done_ (by kernel_rfl) ?_

  go_wp2
  go_ret
  have ew : wrap64 (x + xb) = x + xb := wrapE _ (by have := HX.out; omega) (by have := HX.out; omega)
  rw [ew]
  obtain ⟨w7, hw7⟩ : ∃ w7 : World, w7 = World.drewN w5 (1 + nd) := ⟨_, rfl⟩
  rw [← hw7]
  have h7 : Below W.heap.size W w7 := by rw [hw7]; exact pw_below_drewN HB5.out _
  have hb7 := boxed_below HBX.out.1 h7
  have hk7 : Kept W w7 own := Kept.of_below h7 _
  refine ⟨rfl, (below_step HB.out h7).setCell (p := ⟨b0, 0, none⟩) HBX.out.2 _, fun k => k = b0, ⟨⟨hb7.set _, HBX.out.2⟩, fun k => Iff.rfl⟩, hk7.setCell (p := ⟨b0, 0, none⟩) (.inl ((HOWN.out b0).mpr rfl)) _, fun k hk => .inl ((HOWN.out k).mpr hk)⟩
set_option maxHeartbeats 8000000 in
set_option maxRecDepth 100000 in
theorem impl_RankSigns.calls (k : Nat) (A0 : Option Addr) (c0 : Nat) (l0 : List (List Int)) (r1 : Int) (r2 : Bool) (w : World) (hr0 : Kd.C (Kd.slice 3 (Kd.int .i64)) w A0 l0.length l0) (hc0 : l0.length ≤ c0) (h : impl_RankSigns.f k l0 = some (r1, r2)) :
    Calls Try.prog 24 #[.slice A0 l0.length c0] w fun e w' => e = .returned (.tuple #[.int .i64 r1, .bool r2]) ∧ Below w.heap.size w w' := by
  have hmf : ∀ (fn : Fn) (first cap : Array Value) (w : World), (Instr.makeFunc fn first cap).run Try.prog w = .ok (.func fn first cap) w := fun _ _ _ _ => rfl
  obtain ⟨t, ht, h⟩ := Option.bind_eq_some_iff.mp h
  have hE := enters_of Try.func74 (by kernel_rfl) rfl
  obtain ⟨wa, hwa⟩ : ∃ wa : World, wa = w.alloc (.cells #[.slice A0 l0.length c0] 22) := ⟨_, rfl⟩
  have hba : Below w.heap.size w wa := by rw [hwa]; exact below_alloc (Below.refl _ _) _
  have hxa : Boxed wa w.heap.size 22 (.slice A0 l0.length c0) := by rw [hwa]; exact Boxed.new w _ _
  have HWA := Aside0.mk (And.intro hba hxa)
  have HCALL := Aside0.mk (impl_IsSignMatrix.calls k A0 c0 l0 t wa (Kd.C_below hr0 hba) hc0 ht)
  have HR0 := Aside0.mk (And.intro hr0 hc0)
  have hca := hxa.cell
  clear hba hxa ht hr0 hc0
  cases t with
  | false =>
    rw [if_neg (by decide)] at h
    simp only [Option.some.injEq, Prod.mk.injEq] at h
    obtain ⟨rfl, rfl⟩ := h
    clear hE
    go_enter Try.func24, Try.ntmps24
    go_wp2_with (go_at_call 73; rw [← hwa]; (with_reducible refine HCALL.out.mono ?_); rintro e w5 ⟨rfl, hb⟩; have HB := Aside0.mk (below_step HWA.out.1 hb); clear hb)
    go_ret2
    exact ⟨rfl, HB.out⟩
  | true =>
    rw [if_pos rfl] at h
    by_cases hc : (1 ≤ l0.length ∧ l0.length ≤ 6 ∧ (esAll l0.length).length ≤ 1000000) ∧ cmpOk k l0
    case neg =>
      rw [if_neg hc] at h
      cases h
    rw [if_pos hc] at h
    simp only [Option.some.injEq, Prod.mk.injEq] at h
    obtain ⟨rfl, rfl⟩ := h
    have HC := Aside0.mk hc
    have HE := Aside0.mk hE
    obtain ⟨n, hn⟩ : ∃ n, n = l0.length := ⟨_, rfl⟩
    have HN := Aside0.mk hn
    clear hc hE
    go_enter Try.func24, Try.ntmps24
    go_wp2_with (go_at_call 73; rw [← hwa]; (with_reducible refine HCALL.out.mono ?_); rintro e w5 ⟨rfl, hb⟩; have hca5 := pw_cell_below hb hca; have hlt5 := cell_lt hca5; have HB := Aside0.mk hb; clear hb)
    obtain ⟨wz, hwz⟩ : ∃ wz : World, wz = w5.alloc (.cells #[.int .i64 0] 3) := ⟨_, rfl⟩
    have hz1 : Boxed wz w5.heap.size 3 (.int .i64 0) := by rw [hwz]; exact Boxed.new _ _ _
    have hz2 : Below w5.heap.size w5 wz := by rw [hwz]; exact below_alloc (Below.refl _ _) _
    rw [← hwz]
    have HZ := Aside0.mk (And.intro hz1 hz2)
    have HCA := Aside0.mk hca5
    clear hwz hz1 hz2 hca5 hca
    refine (eachSigns_any l0.length 74 #[.pointer (some ⟨w.heap.size, 0, none⟩), .pointer (some ⟨w5.heap.size, 0, none⟩)] HE.out HC.out.1.1 HC.out.1.2.1 w5 (fun i W own => NSt w5 w5.heap.size (cntB (befB k l0) i) W own) (NSt.ok _ _ _) (befB k l0) ?cb wz (fun k => k = w5.heap.size) HZ.out.2 ?st).mono ?_
    case cb =>
      intro i M W own v hi hb hs hv
      have hil := (List.getElem?_eq_some_iff.mp hi).1
      have hM : M ∈ esAll l0.length := List.mem_of_getElem? hi
      have hbd := cntB_bound (befB k l0) i
      have hbb : befB k l0 i = decide ((impl_compareTables.f k M l0).getD 0 < 0) := by unfold befB; rw [hi]
      refine (rank_clo k l0 A0 c0 w5 w.heap.size w5.heap.size HCA.out (Kd.C_below HR0.out.1 (below_step HWA.out.1 HB.out)) HR0.out.2 M W own v (cntB (befB k l0) i) hbd.1 (by have := HC.out.1.2.2; omega) hb hs hv (befB k l0 i) hbb (HC.out.2 M hM)).mono ?_
      rintro e w' ⟨rfl, hb2, own', hs2, hk2, ho2⟩
      exact ⟨rfl, hb2, own', hs2, hk2, ho2⟩
    case st => exact ⟨⟨HZ.out.1, Nat.le_refl _⟩, fun k => Iff.rfl⟩
    rintro e w6 ⟨rfl, hb6, own6, hs6, _, _⟩
    have hx6 := hs6.1.1.cell
    have H6 := Aside0.mk hb6
    clear hb6 hs6
    go_wp2
    go_ret2
    exact ⟨rfl, below_step (below_step HWA.out.1 HB.out) H6.out⟩

/-! ### impl_NextSigns: function 22 -/
def impl_NextSigns.f (k : Nat) (l0 : List (List Int)) : Option ((List (List Int)) × Bool) := (impl_RankSigns.f k l0).bind fun bt291 => (if bt291.2 = true then ((impl_SignsAt.f k (l0.length : Int) (wrap64 (bt291.1 + 1))).bind fun bt293 => (some (bt293.1, bt293.2))) else (some (([] : List (List Int)), false)))
theorem impl_NextSigns.mono : ∀ a0 k, LeO (impl_NextSigns.f k a0) (impl_NextSigns.f (k + 1) a0) := by
  intro a0 k
  unfold impl_NextSigns.f
  repeat' first
      | (with_reducible exact impl_RankSigns.mono _ _)
      | (with_reducible exact impl_SignsAt.mono _ _ _)
      | (with_reducible exact LeO.refl _)
      | (with_reducible exact LeO.none _)
      | (with_reducible refine LeO.ite ?_ ?_)
      | (with_reducible refine LeO.bind ?_ (fun _ => ?_))
      | exact impl_RankSigns.mono _ _
      | exact impl_SignsAt.mono _ _ _
      | exact LeO.none _
      | refine LeO.ite ?_ ?_
      | refine LeO.bind ?_ (fun _ => ?_)
set_option maxHeartbeats 8000000 in
set_option maxRecDepth 100000 in
theorem impl_NextSigns.calls (k : Nat) (A0 : Option Addr) (c0 : Nat) (l0 : List (List Int)) (r1 : List (List Int)) (r2 : Bool) (w : World) (hr0 : Kd.C (Kd.slice 3 (Kd.int .i64)) w A0 l0.length l0) (hc0 : l0.length ≤ c0) (h : impl_NextSigns.f k l0 = some (r1, r2)) :
    Calls Try.prog 22 #[.slice A0 l0.length c0] w fun e w' => ∃ v0_ : Value, e = .returned (.tuple #[v0_, .bool r2]) ∧ Kd.S (Kd.slice 3 (Kd.int .i64)) 39 w' w.heap.size (fun _ => True) v0_ r1 ∧ Below w.heap.size w w' := by
  have HR0 := Aside0.mk hr0
  have HC0 := Aside0.mk hc0
  clear hr0 hc0
  have HB := Aside0.mk (Below.refl w.heap.size w)
  have H : ((impl_RankSigns.f k l0).bind fun bt291 => (if bt291.2 = true then ((impl_SignsAt.f k (l0.length : Int) (wrap64 (bt291.1 + 1))).bind fun bt293 => (some (bt293.1, bt293.2))) else (some (([] : List (List Int)), false)))) = some (r1, r2) := h
  clear h
  replace H := Option.bind_eq_some_iff.mp H
  obtain ⟨⟨t291, t292⟩, A20, H⟩ := H
  replace H : (if t292 = true then ((impl_SignsAt.f k (l0.length : Int) (wrap64 (t291 + 1))).bind fun bt293 => (some (bt293.1, bt293.2))) else (some (([] : List (List Int)), false))) = some (r1, r2) := H
  have A2 := Aside0.mk A20
  clear A20
  by_cases c3 : t292 = true
  · subst c3
    have H1 : ((impl_SignsAt.f k (l0.length : Int) (wrap64 (t291 + 1))).bind fun bt293 => (some (bt293.1, bt293.2))) = some (r1, r2) := by rw [if_pos rfl] at H; exact H
    clear H
    have H := H1
    clear H1
    replace H := Option.bind_eq_some_iff.mp H
    obtain ⟨⟨t293, t294⟩, A40, H⟩ := H
    replace H : (some (t293, t294)) = some (r1, r2) := H
    have A4 := Aside0.mk A40
    clear A40
    simp only [Option.some.injEq, Prod.mk.injEq] at H
    obtain ⟨rfl, rfl⟩ := H
    go_enter Try.func22, Try.ntmps22
    go_wp2_with (first | ((with_reducible refine gate_callee (f := 24) rfl ?_); refine goesL_ (some 8) rfl rfl Try.func24 (by kernel_rfl) rfl #[.slice A0 l0.length c0] rfl (by (try simp only [List.map_toArray, List.map_cons, List.map_nil]); first | done | rfl | (simp only [List.length_drop, List.length_take]; rfl)) ?_; (with_reducible refine (impl_RankSigns.calls k _ _ l0 t291 true _ ?side1 ?side2 A2.out).mono ?_); (case side1 => repeat (first | exact HR0.out | (with_reducible refine Kd.C_alloc ?_ _) | (with_reducible refine Kd.C_drewN ?_ _) | (with_reducible refine Kd.C_drew ?_))); (case side2 => exact HC0.out); rintro e w5 ⟨rfl, hb⟩; refine ⟨_, rfl, ?_⟩; have n0_ := Aside0.mk (below_step (by repeat (first | (with_reducible first | exact HB.out | apply below_alloc | apply pw_below_drewN | apply below_drew1) | exact HB.out)) hb); clear HB; have HB := n0_; clear n0_; (try clear hb); (try clear hb2); (try clear hk); (try clear hi)) | ((with_reducible refine gate_callee (f := 15) rfl ?_); refine goesL_ (some 17) rfl rfl Try.func15 (by kernel_rfl) rfl #[.int .i64 (l0.length : Int), .int .i64 (wrap64 (t291 + 1))] rfl (by (try simp only [List.map_toArray, List.map_cons, List.map_nil]); first | done | rfl | (simp only [List.length_drop, List.length_take]; rfl)) ?_; (with_reducible refine (impl_SignsAt.calls k (l0.length : Int) (wrap64 (t291 + 1)) t293 t294 _ A4.out).mono ?_); rintro e w6 ⟨v295, rfl, ho0, hb⟩; refine ⟨_, rfl, ?_⟩; have n0_ := Aside0.mk (Kd.S_lower ho0 (below_size (by repeat (first | (with_reducible first | exact HB.out | apply below_alloc | apply pw_below_drewN | apply below_drew1) | exact HB.out)))); have n1_ := Aside0.mk (below_step (by repeat (first | (with_reducible first | exact HB.out | apply below_alloc | apply pw_below_drewN | apply below_drew1) | exact HB.out)) hb); clear HB; have HO296 := n0_; have HB := n1_; clear n0_ n1_; (try clear hb); (try clear hb2); (try clear hk); (try clear hi); (try clear ho0)))
    go_ret2
    exact ⟨_, by first | rfl | (simp [errW_none, errW_some] <;> rfl) | (simp [*, errW_none, errW_some] <;> rfl), by (with_reducible repeat (first | apply Kd.S_alloc | apply Kd.S_drewN | apply Kd.S_drew)); exact HO296.out, by repeat (first | (with_reducible first | exact HB.out | apply below_alloc | apply pw_below_drewN | apply below_drew1) | exact HB.out)⟩
  · replace c3 := Bool.eq_false_iff.mpr c3
    subst c3
    have H1 : (some (([] : List (List Int)), false)) = some (r1, r2) := by rw [if_neg (show ¬ (false = true) by decide)] at H; exact H
    clear H
    have H := H1
    clear H1
    simp only [Option.some.injEq, Prod.mk.injEq] at H
    obtain ⟨rfl, rfl⟩ := H
    go_enter Try.func22, Try.ntmps22
    go_wp2_with (first | ((with_reducible refine gate_callee (f := 24) rfl ?_); refine goesL_ (some 8) rfl rfl Try.func24 (by kernel_rfl) rfl #[.slice A0 l0.length c0] rfl (by (try simp only [List.map_toArray, List.map_cons, List.map_nil]); first | done | rfl | (simp only [List.length_drop, List.length_take]; rfl)) ?_; (with_reducible refine (impl_RankSigns.calls k _ _ l0 t291 false _ ?side1 ?side2 A2.out).mono ?_); (case side1 => repeat (first | exact HR0.out | (with_reducible refine Kd.C_alloc ?_ _) | (with_reducible refine Kd.C_drewN ?_ _) | (with_reducible refine Kd.C_drew ?_))); (case side2 => exact HC0.out); rintro e w7 ⟨rfl, hb⟩; refine ⟨_, rfl, ?_⟩; have n0_ := Aside0.mk (below_step (by repeat (first | (with_reducible first | exact HB.out | apply below_alloc | apply pw_below_drewN | apply below_drew1) | exact HB.out)) hb); clear HB; have HB := n0_; clear n0_; (try clear hb); (try clear hb2); (try clear hk); (try clear hi)))
    go_ret2
    exact ⟨_, by first | rfl | (simp [errW_none, errW_some] <;> rfl) | (simp [*, errW_none, errW_some] <;> rfl), by first | exact Kd.S_nil _ _ _ _ _ | exact Kd.N_nil _ _ _ _ _ | exact Kd.V_nil _ _ _ _ _ | exact Kd.Q_nil _ _ _ _ _ | exact Kd.R_nil _ _ _ _ _, by repeat (first | (with_reducible first | exact HB.out | apply below_alloc | apply pw_below_drewN | apply below_drew1) | exact HB.out)⟩

end Go.Proofs.Ytadepmjfhcmkoaa.P
