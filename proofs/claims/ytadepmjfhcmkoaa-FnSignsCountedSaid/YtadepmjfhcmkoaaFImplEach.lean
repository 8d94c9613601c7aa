-- By gp.py (this session's own driver over the kit's print). Not trusted: Lean checks it.
import Derived.Test.YtadepmjfhcmkoaaF0
import Derived.Test.YtadepmjfhcmkoaaB
import Derived.Deep.RegionHeld3
import Derived.Laws.EntriesVeiled
import Derived.Lib.SliceRun
import Derived.Test.YtadepmjfhcmkoaaEachSt
import Derived.Test.YtadepmjfhcmkoaaFImplIn
import Derived.Test.YtadepmjfhcmkoaaGrow
import Derived.Test.YtadepmjfhcmkoaaTab
import Derived.Test.YtadepmjfhcmkoaaFImplIn
namespace Go.Proofs.Ytadepmjfhcmkoaa.P
open Go.Proofs.Ytadepmjfhcmkoaa.B
open Go.RowKit Go.Proofs.YtadepmjfhcmkoaaW.PrintWords Go.Proofs.YtadepmjfhcmkoaaW.PrintLast Go.Proofs.YtadepmjfhcmkoaaW.PrintMore
attribute [local go_sem] max2_int min2_int max_two min_two max_three min_three max_four min_four   -- for this text's walks alone
set_option linter.unusedVariables false
set_option linter.unusedSimpArgs false

/-! ### slices_Clone_int_int: function 114 (given) -/
def slices_Clone_int_int.f (l0 : List Int) : Option (List Int) := if l0.length ≤ 17592186044415 then some l0 else none
set_option maxHeartbeats 8000000 in
set_option maxRecDepth 100000 in
theorem slices_Clone_int_int.calls (A0 : Option Addr) (c0 : Nat) (l0 : List Int) (r : List Int) (w : World) (hr0 : Kd.C (Kd.int .i64) w A0 l0.length l0) (hc0 : l0.length ≤ c0) (h : slices_Clone_int_int.f l0 = some r) :
    Calls Try.prog 114 #[.slice A0 l0.length c0] w fun e w' => ∃ v0_ : Value, e = .returned (v0_) ∧ Kd.R (Kd.int .i64) 3 w' w.heap.size (fun _ => True) v0_ r ∧ Below w.heap.size w w' := by
  unfold slices_Clone_int_int.f at h
  by_cases hl : l0.length ≤ 17592186044415
  · rw [if_pos hl] at h
    obtain rfl := Option.some.inj h
    clear h
    have q22 : ∀ (w : World) (a : Option Addr) (n c : Nat), (binOp .eql 39 (.slice a n c) (.slice none 0 0)).run Try.prog w = .ok (.bool a.isNone) w := fun w a n c => Lib.run_eql_slice_nil w _ _ a n c 0 0 Try.underlying39
    obtain ⟨i0, hi, hz0, hz1, hz2⟩ := info_parts info3
    cases A0 with
    | none =>
      have h0 : l0 = [] := by
        cases l0 with
        | nil => rfl
        | cons x xs =>
          obtain ⟨ad, e, _⟩ := at_num hr0 0 (by simp)
          cases e
      subst h0
      clear hr0 hi hz0 hz1 hz2
      go_enter Try.func114, Try.ntmps114
      go_wp2
      go_ret
      exact ⟨_, rfl, Kd.R_nil _ _ _ _ _, Below.refl _ _⟩
    | some a =>
      have HC := Aside0.mk (show ∀ (j : Nat) (u : Value), (nums .i64 l0)[j]? = some u → w.cell? (a.add j) = some u from fun j u hj => by
        have hj1 := (List.getElem?_eq_some_iff.1 hj).1
        have hj2 : j < l0.length := by simpa [nums] using hj1
        obtain ⟨ad, e, hc⟩ := at_num hr0 j hj2
        cases e
        rw [hc, ← hj]
        simp [nums, List.getD_eq_getElem?_getD, List.getElem?_eq_getElem hj2])
      have HL := Aside0.mk hl
      obtain ⟨n, hn⟩ : ∃ n, n = l0.length := ⟨_, rfl⟩
      have HN := Aside0.mk hn
      rw [← hn]
      clear hr0 hl hn hc0
      go_enter Try.func114, Try.ntmps114
      go_wp2_with (at_builtin; refine wpList_append_own _ rfl _ _ 39 rfl w.heap.size 3 i0 (.int .i64 0) 1 8 Try.underlying39 hi hz0 hz1 hz2 rfl (by decide) _ _ _ rfl (World.ownsRow_made w #[] 0 (Nat.le_refl _) (Nat.zero_le _) rfl) a n c0 (nums .i64 l0) rfl ?qc1 ?qc2 ?qc3 ?qc4 ?qc5 ?qc6 ?_)
      case qc1 => rw [HN.out]; simp [nums]
      case qc2 =>
        intro j u hj
        exact Lib.cell?_alloc_some _ (HC.out j u hj)
      case qc3 => intro u hu; obtain ⟨x, _, rfl⟩ := List.mem_map.1 hu; rfl
      case qc4 => have := HN.out; have := HL.out; unfold maxLen; omega
      case qc5 => have := HN.out; have := HL.out; omega
      case qc6 => simp
      intro v' w1 hown hgrow hnil
      have HO := Aside0.mk hown
      have HB := Aside0.mk (((Below.refl _ w).alloc (Nat.le_refl _) _).grown hgrow (by simp) (by intro k hk; simp [Value.ownBlock] at hk; omega))
      clear hown hgrow hnil
      go_wp2
      go_ret
      refine ⟨v', rfl, Kd.R_mono (int_R ?_) (fun _ _ => trivial), HB.out⟩
      have h3 := HO.out
      rwa [HN.out] at h3
  · rw [if_neg hl] at h
    cases h

/-! ### impl_copyTable: function 64 -/
def impl_copyTable.l0 : Nat → List (List Int) → List (List Int) → Int → Int → Option ((List (List Int)))
  | 0, _, _, _, _ => none
  | k + 1, x3, x7, x8, x9 => if x9 < x8 then (if 0 ≤ x9 then (if x9 < (x7.length : Int) then ((slices_Clone_int_int.f (rd_L1 x7 x9)).bind fun t171 => (if x3.length < 5864062014805 then (impl_copyTable.l0 k (x3 ++ [t171]) x7 x8 (wrap64 (x9 + 1))) else (none))) else (none)) else (none)) else (some x3)
def impl_copyTable.f (k : Nat) (l0 : List (List Int)) : Option ((List (List Int))) := impl_copyTable.l0 k (([] : List (List Int))) l0 (l0.length : Int) 0
theorem impl_copyTable.mono_l : ∀ k, (∀ y0 y1 y2 y3, LeO (impl_copyTable.l0 k y0 y1 y2 y3) (impl_copyTable.l0 (k + 1) y0 y1 y2 y3))
  | 0 => fun _ _ _ _ r h => by simp [impl_copyTable.l0] at h
  | k + 1 => by
    have ih0 := impl_copyTable.mono_l k
    · intro y0 y1 y2 y3
      unfold impl_copyTable.l0
      repeat' first
      | (with_reducible exact ih0 _ _ _ _)
      | (with_reducible exact LeO.refl _)
      | (with_reducible exact LeO.none _)
      | (with_reducible refine LeO.ite ?_ ?_)
      | (with_reducible refine LeO.bind ?_ (fun _ => ?_))
      | exact ih0 _ _ _ _
      | exact LeO.none _
      | refine LeO.ite ?_ ?_
      | refine LeO.bind ?_ (fun _ => ?_)
theorem impl_copyTable.mono : ∀ a0 k, LeO (impl_copyTable.f k a0) (impl_copyTable.f (k + 1) a0) := by
  intro a0 k
  have ih0 := impl_copyTable.mono_l k
  unfold impl_copyTable.f
  repeat' first
      | (with_reducible exact ih0 _ _ _ _)
      | (with_reducible exact LeO.refl _)
      | (with_reducible exact LeO.none _)
      | (with_reducible refine LeO.ite ?_ ?_)
      | (with_reducible refine LeO.bind ?_ (fun _ => ?_))
      | exact ih0 _ _ _ _
      | exact LeO.none _
      | refine LeO.ite ?_ ?_
      | refine LeO.bind ?_ (fun _ => ?_)
set_option maxHeartbeats 8000000 in
set_option maxRecDepth 100000 in
theorem impl_copyTable.calls (k : Nat) (A0 : Option Addr) (c0 : Nat) (l0 : List (List Int)) (r : List (List Int)) (w : World) (hr0 : Kd.C (Kd.slice 3 (Kd.int .i64)) w A0 l0.length l0) (hc0 : l0.length ≤ c0) (h : impl_copyTable.f k l0 = some r) :
    Calls Try.prog 64 #[.slice A0 l0.length c0] w fun e w' => ∃ v0_ : Value, e = .returned (v0_) ∧ Kd.S (Kd.slice 3 (Kd.int .i64)) 39 w' w.heap.size (fun _ => True) v0_ r ∧ Below w.heap.size w w' := by
  have HR0 := Aside0.mk hr0
  have HC0 := Aside0.mk hc0
  clear hr0 hc0
  have HB := Aside0.mk (Below.refl w.heap.size w)
  have H : (impl_copyTable.l0 k (([] : List (List Int))) l0 (l0.length : Int) 0) = some r := h
  clear h
  obtain ⟨y167, hy167⟩ : ∃ y_ : List (List Int), y_ = (([] : List (List Int))) := ⟨_, rfl⟩
  replace H : (impl_copyTable.l0 k y167 l0 (l0.length : Int) 0) = some r := by first | (rw [hy167]; with_reducible exact H) | (have H2_ := (Option.bind_some _ _).symm.trans H; rw [hy167]; with_reducible exact H2_) | (have H2_ := (Option.bind_some _ _).symm.trans H; with_reducible exact H2_) | with_reducible exact H | (rw [hy167]; exact H) | exact H
  have Ny167 := Aside0.mk hy167
  clear hy167
  have H' := Aside0.mk H
  clear H
  go_enter Try.func64, Try.ntmps64
  go_wp2_with (first | ((with_reducible refine gate_dst (N := 6) rfl ?_); refine Kd.S_lit (Kd.slice 3 (Kd.int .i64)) _ 39 ?hg (N := 6) ?hd (xs := ([] : List (List Int))) (inner := []) (ok := fun _ => True) (okp := fun _ => True) ?hr ?hp (fun _ hk => hk) trivial (Below.refl _ _) (Nat.le_refl _) (by simp) ?_; (case hd => rfl); (case hg => rfl); (case hr => first | (go_simp; done) | (go_simp; rfl)); (case hp => exact (Reps.none _ _)); intro v168 w2 ho3 hb hg_ hnew_; clear hg_ hnew_; (first | rw [← Ny167.out] at ho3 | (simp only [Int.reduceToNat] at ho3; rw [← Ny167.out] at ho3)); have n0_ := Aside0.mk (Kd.S_lower ho3 (below_size (by repeat (first | (with_reducible first | exact HB.out | apply below_alloc | apply pw_below_drewN | apply below_drew1) | exact HB.out)))); have n1_ := Aside0.mk (below_step (by repeat (first | (with_reducible first | exact HB.out | apply below_alloc | apply pw_below_drewN | apply below_drew1) | exact HB.out)) hb); clear HB; have HO169 := n0_; have HB := n1_; clear n0_ n1_; clear hb ho3))
  go_loopg [3, 9] k (fun kq v3 v9 w' => ∃ (x3_1 : List (List Int)) (x9_1 : Int), v9 = .int .i64 x9_1 ∧ Aside0 (impl_copyTable.l0 kq x3_1 l0 (l0.length : Int) x9_1 = some r) ∧ Aside0 (kq ≤ k) ∧ Aside0 (Kd.S (Kd.slice 3 (Kd.int .i64)) 39 w' w.heap.size (fun _ => True) v3 x3_1) ∧ Aside0 (Below w.heap.size w w'))
  case atStart => exact ⟨(y167), (0), (by first | rfl | (simp; done) | (simp [*]; done)), H', ⟨Nat.le_refl _⟩, ⟨by (with_reducible repeat (first | apply Kd.S_alloc | apply Kd.S_drewN | apply Kd.S_drew)); exact HO169.out⟩, ⟨by repeat (first | (with_reducible first | exact HB.out | apply below_alloc | apply pw_below_drewN | apply below_drew1) | exact HB.out)⟩⟩
  case round =>
    clear H'
    try clear p2
    obtain ⟨x3_1, x9_1, rfl, HA, HK1, HO_3, HB⟩ := hrel
    cases gk with
    | zero => exact absurd HA.out (by simp [impl_copyTable.l0])
    | succ k1 =>
      have H := HA.out
      clear HA
      simp only [impl_copyTable.l0] at H
      by_cases c4 : x9_1 < (l0.length : Int)
      · rw [if_pos c4] at H
        have c4b0 : decide (x9_1 < (l0.length : Int)) = true := decide_eq_true c4
        clear c4
        by_cases c5 : 0 ≤ x9_1
        · rw [if_pos c5] at H
          have c5b0 : decide (0 ≤ x9_1) = true := decide_eq_true c5
          clear c5
          by_cases c6 : x9_1 < (l0.length : Int)
          · rw [if_pos c6] at H
            have c6b0 : decide (x9_1 < (l0.length : Int)) = true := decide_eq_true c6
            clear c6
            replace H := Option.bind_eq_some_iff.mp H
            obtain ⟨t171, A70, H⟩ := H
            replace H : (if x3_1.length < 5864062014805 then (impl_copyTable.l0 k1 (x3_1 ++ [t171]) l0 (l0.length : Int) (wrap64 (x9_1 + 1))) else (none)) = some r := H
            have A7 := Aside0.mk A70
            clear A70
            by_cases c8 : x3_1.length < 5864062014805
            · rw [if_pos c8] at H
              have LMc8 := Aside0.mk c8
              clear c8
              obtain ⟨y174, hy174⟩ : ∃ y_ : List (List Int), y_ = (x3_1 ++ [t171]) := ⟨_, rfl⟩
              replace H : (impl_copyTable.l0 k1 y174 l0 (l0.length : Int) (wrap64 (x9_1 + 1))) = some r := by first | (rw [hy174]; with_reducible exact H) | (have H2_ := (Option.bind_some _ _).symm.trans H; rw [hy174]; with_reducible exact H2_) | (have H2_ := (Option.bind_some _ _).symm.trans H; with_reducible exact H2_) | with_reducible exact H | (rw [hy174]; exact H) | exact H
              have Ny174 := Aside0.mk hy174
              clear hy174
              have H' := Aside0.mk H
              clear H
              have p170 : 0 ≤ (x9_1 : Int) := of_decide_eq_true (by first | (with_reducible assumption) | assumption)
              have q170 : x9_1 < (l0.length : Int) := of_decide_eq_true (by first | (with_reducible assumption) | assumption)
              obtain ⟨ad170, A170_0, c170_0, e170, hx170_0, hl170_0, hi170_0⟩ := at_L1 HR0.out x9_1 p170 q170
              cases e170
              (try replace hx170_0 := (HB.out.cell (World.block_lt_of_cell? w _ hx170_0)).trans hx170_0)
              have HR170_0 := Aside0.mk hi170_0
              have HC170_0 := Aside0.mk hl170_0
              clear hi170_0 hl170_0
              replace p170 := eq_true p170
              replace q170 := eq_true q170
              go_wp2_with (first | ((with_reducible refine gate_callee (f := 114) rfl ?_); refine goesL_ (some 15) rfl rfl Try.func114 (by kernel_rfl) rfl #[.slice A170_0 (rd_L1 l0 x9_1).length c170_0] rfl (by (try simp only [List.map_toArray, List.map_cons, List.map_nil]); first | done | rfl | (simp only [List.length_drop, List.length_take]; rfl)) ?_; (with_reducible refine (slices_Clone_int_int.calls _ _ (rd_L1 l0 x9_1) t171 _ ?side1 ?side2 A7.out).mono ?_); (case side1 => repeat (first | exact (Kd.C_below HR170_0.out HB.out) | (with_reducible refine Kd.C_alloc ?_ _) | (with_reducible refine Kd.C_drewN ?_ _) | (with_reducible refine Kd.C_drew ?_))); (case side2 => exact HC170_0.out); rintro e w9 ⟨v172, rfl, ho0, hb⟩; refine ⟨_, rfl, ?_⟩; have n0_ := Aside0.mk (Kd.S_elder' (by (with_reducible repeat (first | apply Kd.S_alloc | apply Kd.S_drewN | apply Kd.S_drew)); exact HO_3.out) (Kd.R_base ho0) hb); have n1_ := Aside0.mk (Kd.R_lower ho0 (below_size (by repeat (first | (with_reducible first | exact HB.out | apply below_alloc | apply pw_below_drewN | apply below_drew1) | exact HB.out)))); have n2_ := Aside0.mk (below_step (by repeat (first | (with_reducible first | exact HB.out | apply below_alloc | apply pw_below_drewN | apply below_drew1) | exact HB.out)) hb); clear HO_3; clear HB; have HO_3 := n0_; have HO173 := n1_; have HB := n2_; clear n0_ n1_ n2_; (try clear hb); (try clear hb2); (try clear hk); (try clear hi); (try clear ho0); obtain ⟨Ao11, co11, eo11⟩ := Kd.R_slice HO173.out; subst eo11) | ((with_reducible refine gate_builtin (b := .append) (xs := #[.tmp 13, .tmp 16]) rfl ?_); at_builtin; refine Kd.S_append (Kd.slice 3 (Kd.int .i64)) (w0 := w) w.heap.size rfl (.tmp 13) (.tmp 16) 22 39 (.slice none 0 0) 24 rfl Try.underlying22 info39 rfl (by decide) (by omega) u3 x3_1 t171 [.slice Ao11 t171.length co11] (fun _ => True) (fun k_ => some k_ = (.slice Ao11 t171.length co11 : Value).ownBlock) rfl rfl ?aP (fun k_ hk_ => ((Kd.R_mono (ok' := fun k_ => ((fun _ => True)) k_ ∧ some k_ ≠ (u3 : Value).ownBlock) (Kd.R_apart' (HO173.out) (Kd.S_typed HO_3.out) (by decide)) (fun k_ hk => ⟨trivial, hk.2⟩))).1 k_ hk_.symm) ?aF ?aO ?aB ?aS ?aL ?_; (case aP => exact Kd.M_row (Kd.R_mono (Kd.R_tight rfl (Kd.R_mono (ok' := fun k_ => ((fun _ => True)) k_ ∧ some k_ ≠ (u3 : Value).ownBlock) (Kd.R_apart' (HO173.out) (Kd.S_typed HO_3.out) (by decide)) (fun k_ hk => ⟨trivial, hk.2⟩))) (fun _ h_ => h_))); (case aB => exact (by repeat (first | (with_reducible first | exact HB.out | apply below_alloc | apply pw_below_drewN | apply below_drew1) | exact HB.out))); (case aF => exact (fun _ _ => trivial)); (case aO => exact (by (with_reducible repeat (first | apply Kd.S_alloc | apply Kd.S_drewN | apply Kd.S_drew)); exact Kd.S_mono HO_3.out (fun k_ hk => ⟨trivial, fun e_ => hk.2 e_⟩))); (case aS => exact (below_size (by repeat (first | (with_reducible first | exact HB.out | apply below_alloc | apply pw_below_drewN | apply below_drew1) | exact HB.out)))); (case aL => have := LMc8.out; omega); intro v175 w10 ho hb hg hat; rw [← Ny174.out] at ho; have n0_ := Aside0.mk (hb); have n1_ := Aside0.mk (ho); clear HB; clear HO_3; clear HO173; have HB := n0_; have HO176 := n1_; clear n0_ n1_; clear ho hb hg hat))
              go_roundg k1
              case measure => have := HK1.out; omega
              case rel => exact ⟨(y174), (wrap64 (x9_1 + 1)), (by first | rfl | (simp; done) | (simp [*]; done)), H', ⟨by have := HK1.out; omega⟩, ⟨by (with_reducible repeat (first | apply Kd.S_alloc | apply Kd.S_drewN | apply Kd.S_drew)); exact HO176.out⟩, ⟨by repeat (first | (with_reducible first | exact HB.out | apply below_alloc | apply pw_below_drewN | apply below_drew1) | exact HB.out)⟩⟩
            · rw [if_neg c8] at H
              exact absurd H (by simp)
          · rw [if_neg c6] at H
            exact absurd H (by simp)
        · rw [if_neg c5] at H
          exact absurd H (by simp)
      · rw [if_neg c4] at H
        have c4b0 : decide (x9_1 < (l0.length : Int)) = false := decide_eq_false c4
        clear c4
        obtain rfl := Option.some.inj H
        go_wp2
        go_ret
        exact ⟨_, by first | rfl | (simp [errW_none, errW_some] <;> rfl) | (simp [*, errW_none, errW_some] <;> rfl), by (with_reducible repeat (first | apply Kd.S_alloc | apply Kd.S_drewN | apply Kd.S_drew)); exact HO_3.out, by repeat (first | (with_reducible first | exact HB.out | apply below_alloc | apply pw_below_drewN | apply below_drew1) | exact HB.out)⟩

/-! ### impl_signRows: function 111 (given) -/
/-- All rows that go on some numbers with the sum s by so many more and end with the sum 1. -/
def srL : Nat → List Int → Int → List (List Int)
  | 0, ys, s => if s = 1 then [ys] else []
  | d + 1, ys, s => (List.range 2).flatMap fun (j : Nat) => srL d (ys ++ [-s + (j : Int)]) (j : Int)
theorem srL_len (d : Nat) (ys : List Int) (s : Int) : (srL d ys s).length ≤ 2 ^ d := by
  induction d generalizing ys s with
  | zero =>
    simp only [srL]
    split <;> simp
  | succ d ih =>
    simp only [srL, show List.range 2 = [0, 1] from rfl, List.flatMap_cons, List.flatMap_nil, List.append_nil, List.length_append]
    have h1 := ih (ys ++ [-s + ((0 : Nat) : Int)]) ((0 : Nat) : Int)
    have h2 := ih (ys ++ [-s + ((1 : Nat) : Int)]) ((1 : Nat) : Int)
    rw [Nat.pow_succ]
    omega
def impl_signRows.f (a0 : Int) : Option (List (List Int)) := if 0 ≤ a0 ∧ a0 ≤ 6 then some (srL a0.toNat [] 0) else none
theorem srL_fits {d : Nat} {xs : List (List Int)} {ys : List Int} {s x : Int} {j : Nat} (h : xs.length + (srL (d + 1) ys s).length ≤ 2000000) (hx : x = -s + (j : Int)) (hj : j < 2) :
    (xs ++ (List.range j).flatMap fun (j : Nat) => srL d (ys ++ [-s + (j : Int)]) (j : Int)).length + (srL d (ys ++ [x]) (s + x)).length ≤ 2000000 := by
  have e : List.range 2 = List.range (j + 1) ++ (List.range 2).drop (j + 1) := by
    have := List.take_append_drop (j + 1) (List.range 2)
    rw [List.take_range, Nat.min_eq_left (by omega)] at this
    exact this.symm
  have e2 : s + x = (j : Int) := by omega
  simp only [srL] at h
  rw [e, List.flatMap_append, List.length_append, List.range_succ, List.flatMap_append, List.length_append, List.flatMap_singleton, ← hx] at h
  rw [e2, List.length_append]
  omega
theorem sr_own {w : World} {base : Nat} {ok : Nat → Prop} {u v : Value} {xs : List (List Int)} (h : Kd.S (Kd.slice 3 (Kd.int .i64)) 39 w base (fun k => ok k ∧ some k ≠ u.ownBlock) v xs) (k : Nat) (hk : v.ownBlock = some k) : ok k := ((Kd.S_R h).1 k hk).1
theorem sr_ne {w : World} {base : Nat} {ok : Nat → Prop} {u v : Value} {xs : List (List Int)} (h : Kd.S (Kd.slice 3 (Kd.int .i64)) 39 w base (fun k => ok k ∧ some k ≠ u.ownBlock) v xs) (k : Nat) (hk : v.ownBlock = some k) : ¬ u.ownBlock = some k := fun e => ((Kd.S_R h).1 k hk).2 e.symm
set_option maxHeartbeats 8000000 in
set_option maxRecDepth 100000 in
theorem sr_add (n : Nat) (hn6 : n ≤ 6) (w0 : World) (b1 b2 b3 : Nat) : ∀ (d : Nat) (ok : Nat → Prop) (W : World) (v u : Value) (xs : List (List Int)) (ys : List Int) (s : Int),
    ys.length + d = n → 0 ≤ s → s ≤ 1 → xs.length + (srL d ys s).length ≤ 2000000 → ¬ ok b1 → ¬ ok b3 → b1 ≠ b2 → b3 ≠ b2 →
    OutSt w0 W b2 ok v xs → Kd.S (Kd.slice 3 (Kd.int .i64)) 39 W w0.heap.size (fun k => ok k ∧ some k ≠ u.ownBlock) v xs → (Kd.int .i64).R 3 W w0.heap.size ok u ys →
    W.cell? ⟨b1, 0, none⟩ = some (.int .i64 (n : Int)) → W.cell? ⟨b3, 0, none⟩ = some (.func (.func 151) #[] #[.pointer (some ⟨b1, 0, none⟩), .pointer (some ⟨b2, 0, none⟩), .pointer (some ⟨b3, 0, none⟩)]) →
    Calls Try.prog 151 (#[u, .int .i64 s] ++ #[.pointer (some ⟨b1, 0, none⟩), .pointer (some ⟨b2, 0, none⟩), .pointer (some ⟨b3, 0, none⟩)]) W fun e w' => ∃ v', e = .returned (.tuple #[]) ∧ OutSt w0 w' b2 ok v' (xs ++ srL d ys s) ∧ Grew W w' b2 v v' := by
  have hE := enters_of Try.func151 (by kernel_rfl) rfl
  intro d
  induction d with
  | zero =>
    intro ok W v u xs ys s hd hs0 hs1 hlen h1 h3 h12 h32 hst hsu hru hc1 hc3
    obtain ⟨Au, cu, rfl⟩ := Kd.R_slice hru
    have t1 : ((ys.length : Int) == (n : Int)) = true := by simp; omega
    have hn1 : (n : Int) ≤ 6 := by omega
    have hn2 : (0 : Int) ≤ (n : Int) := by omega
    by_cases cs : s = 1
    · subst cs
      have hbx := hst.box.cell
      have HST := Aside0.mk hst
      have HSU := Aside0.mk hsu
      have HRU := Aside0.mk hru
      have HL := Aside0.mk (show (xs.length + 1) * 24 ≤ 140737488355328 by simp only [srL, if_true, List.length_cons, List.length_nil] at hlen; omega)
      have HB := Aside0.mk hst.below
      obtain ⟨zs, hzs⟩ : ∃ zs, zs = xs ++ srL 0 ys 1 := ⟨_, rfl⟩
      rw [← hzs]
      have NZ := Aside0.mk (show zs = xs ++ [ys] by rw [hzs]; simp [srL])
      have t2 : ((1 : Int) == 1) = true := rfl
      clear hst hsu hru hlen hd h1 h3 h12 h32 hc3 hE hzs hs0 hs1
      go_enter Try.func151, Try.ntmps151
      go_wp2_with ((with_reducible refine gate_builtin (b := .append) (xs := #[.tmp 14, .tmp 16]) rfl ?_); at_builtin; refine Kd.S_append (Kd.slice 3 (Kd.int .i64)) (w0 := w0) w0.heap.size rfl (.tmp 14) (.tmp 16) 22 39 (.slice none 0 0) 24 rfl Try.underlying22 info39 rfl (by decide) (by omega) v xs ys [.slice Au ys.length cu] ok (fun k_ => some k_ = (.slice Au ys.length cu : Value).ownBlock) rfl rfl ?aP ?aQ ?aF ?aO ?aB ?aS ?aL ?_; (case aP => exact Kd.M_row (Kd.R_tight rfl HRU.out)); (case aQ => exact (fun k_ hk_ => ⟨HRU.out.1 k_ hk_.symm, fun e_ => ((Kd.S_R HSU.out).1 k_ e_.symm).2 hk_⟩)); (case aF => exact HST.out.fresh); (case aO => exact Kd.S_mono HSU.out (fun k_ hk => ⟨hk.1, fun e_ => hk.2 e_⟩)); (case aB => exact HB.out); (case aS => exact HB.out.size); (case aL => exact HL.out); intro v1 w1 ho hb hg hat; rw [← NZ.out] at ho; obtain ⟨Av1, cv1, ev1⟩ := Kd.S_slice ho; subst ev1; obtain ⟨hq1, hq2, hq3, hq4⟩ := out_pushed HST.out ho hb hg hat; have HQ3 := Aside0.mk hq3; have HQ4 := Aside0.mk hq4; clear ho hb hg hat hq3 hq4)
      exact bodyPost_ret (v := .tuple #[]) (by simp [results, Try.results151, go_sem]) rfl ⟨_, rfl, HQ3.out, HQ4.out⟩
    · have t2 : (s == 1) = false := by simpa using cs
      have HST := Aside0.mk (show OutSt w0 W b2 ok v (xs ++ srL 0 ys s) by simp only [srL, if_neg cs, List.append_nil]; exact hst)
      clear hst hsu hru hlen hd h1 h3 h12 h32 hc3 hE hs0 hs1
      go_enter Try.func151, Try.ntmps151
      go_wp2
      exact bodyPost_ret (v := .tuple #[]) (by simp [results, Try.results151, go_sem]) rfl ⟨_, rfl, HST.out, Grew.refl _ _ _⟩
  | succ d ih =>
    intro ok W v u xs ys s hd hs0 hs1 hlen h1 h3 h12 h32 hst hsu hru hc1 hc3
    obtain ⟨Au, cu, rfl⟩ := Kd.R_slice hru
    have t1 : ((ys.length : Int) == (n : Int)) = false := by simp; omega
    have HST := Aside0.mk hst
    have HSU := Aside0.mk hsu
    have HRU := Aside0.mk hru
    have hn1 : (n : Int) ≤ 6 := by omega
    have hn2 : (1 : Int) ≤ (n : Int) := by omega
    have HFACT := Aside0.mk (And.intro hd hlen)
    have HNOT := Aside0.mk (And.intro h1 (And.intro h3 (And.intro h12 h32)))
    have HIH := Aside0.mk ih
    have HST1 := Aside0.mk (hst.less hsu (Kd.R_lt hru))
    have HCELL := Aside0.mk (And.intro hc1 hc3)
    obtain ⟨res, hres⟩ : ∃ res, res = srL (d + 1) ys s := ⟨_, rfl⟩
    have HRES := Aside0.mk (show res = (List.range 2).flatMap fun (j : Nat) => srL d (ys ++ [-s + (j : Int)]) (j : Int) from hres)
    rw [← hres]
    have HS01 := Aside0.mk (And.intro hs0 hs1)
    clear hst hsu hru hd hlen h1 h3 h12 h32 ih hres
    go_enter Try.func151, Try.ntmps151
    go_wp2
    go_loopg [7] 3 (fun kq v7 w' => ∃ (j : Nat) (x : Int) (v1 : Value), v7 = .int .i64 x ∧ Aside0 (x = -s + (j : Int) ∧ j ≤ 2 ∧ kq = 3 - j) ∧ Aside0 (OutSt w0 w' b2 (fun k => ok k ∧ some k ≠ (Value.slice Au ys.length cu).ownBlock) v1 (xs ++ (List.range j).flatMap fun (j : Nat) => srL d (ys ++ [-s + (j : Int)]) (j : Int))) ∧ Aside0 (Grew W w' b2 v v1))
    case atStart => exact ⟨0, _, v, rfl, ⟨⟨by first | omega | (simp; done) | (rw [wrapE _ (by omega) (by omega)]; omega), by omega, by omega⟩⟩, ⟨by simpa using HST1.out⟩, ⟨Grew.refl _ _ _⟩⟩
    case round =>
      obtain ⟨j, x, v1, rfl, HX0, HS1, HG1⟩ := hrel
      have hc1 := HG1.out.cell HCELL.out.1 HNOT.out.2.2.1 (fun e => HNOT.out.1 (sr_own HSU.out _ e))
      have hc3 := HG1.out.cell HCELL.out.2 HNOT.out.2.2.2 (fun e => HNOT.out.2.1 (sr_own HSU.out _ e))
      have hxb : -1 ≤ x := by have := HX0.out.1; omega
      have hxc : x ≤ 2 := by have := HX0.out; omega
      by_cases ct : x ≤ 1 - s
      · have bx : decide (x ≤ 1 - s) = true := decide_eq_true ct
        have hru := HG1.out.row HRU.out (fun k hk => HST.out.ne k (HRU.out.1 k hk)) (fun k hk e => sr_ne HSU.out _ e hk)
        have HCU := Aside0.mk (Kd.R_reads' hru).2.2
        have HLU := Aside0.mk (Kd.R_reads' hru).2.1
        have HCL := Aside0.mk (show slices_Clone_int_int.f ys = some ys by unfold slices_Clone_int_int.f; rw [if_pos (by have := HFACT.out.1; omega)])
        have HN := Aside0.mk (show ys.length + 1 ≤ 10 by have := HFACT.out.1; omega)
        have HHX := Aside0.mk (show j < 2 ∧ s + x = (j : Int) by have := HX0.out; omega)
        have IH := Aside0.mk (fun (w5 : World) (v5 : Value) (hB5 : Below wr.heap.size wr w5) (hr5 : (Kd.int .i64).R 3 w5 wr.heap.size (fun k => v5.ownBlock = some k) v5 (ys ++ [x])) => HIH.out (fun k => ok k ∧ some k ≠ (Value.slice Au ys.length cu).ownBlock) w5 v1 v5 (xs ++ (List.range j).flatMap fun (j : Nat) => srL d (ys ++ [-s + (j : Int)]) (j : Int)) (ys ++ [x]) (s + x)
          (by have := HFACT.out.1; rw [List.length_append]; simp; omega) (by have := HHX.out.2; omega) (by have := HHX.out; omega) (srL_fits HFACT.out.2 HX0.out.1 HHX.out.1) (fun h => HNOT.out.1 h.1) (fun h => HNOT.out.2.1 h.1) HNOT.out.2.2.1 HNOT.out.2.2.2 (HS1.out.move hB5)
          (Kd.S_mono (Kd.S_old HS1.out.out hB5) (fun k hk => ⟨hk.1, fun e => by have := Kd.R_base hr5 k e.symm; omega⟩)) (Kd.R_reok rfl (Kd.R_lower hr5 HS1.out.below.size) (fun k hk => HS1.out.fresh k (Kd.R_base hr5 k hk))) (pw_cell_below hB5 hc1) (pw_cell_below hB5 hc3))
        obtain ⟨i0, hi_, hz0, hz1, hz2⟩ := info_parts info3
        have WSX : wrap64 (s + x) = s + x := wrapE _ (by have := HS01.out; omega) (by have := HS01.out; omega)
        clear hru ct
        go_wp2
        refine start_ (n := 10) (S := fun w' => Below wr.heap.size wr w' ∧ w'.cell? ⟨b3, 0, none⟩ = some (.func (.func 151) #[] #[.pointer (some ⟨b1, 0, none⟩), .pointer (some ⟨b2, 0, none⟩), .pointer (some ⟨b3, 0, none⟩)])) (ds := [9]) #[false, false, false, false, false, false, false, false, false, false] (by kernel_rfl) rfl rfl ⟨(below_drew (Below.refl _ _)), hc3⟩ (fun hHeld => ?_)
        refine pure_ (i := 1) (N := some 27) (v := ?_) (a' := ?_) #[false, true, false, false, false, false, false, false, false, false] rfl rfl (by kernel_rfl) (fun _ _ _ h => h) (Or.inl ⟨by rfl, ?_⟩) ?_ ?_
        rotate_left
        · intro w'
          go_simp
          with_reducible rfl
        rotate_left
        · simp only [Act.put, List.setIfInBounds_toArray, List.set_cons_zero, List.set_cons_succ, i64_w, i32_w]
          rfl
        refine pure_ (i := 3) (N := some 29) (v := ?_) (a' := ?_) #[false, true, false, true, false, false, false, false, false, false] rfl rfl (by kernel_rfl) (fun _ _ _ h => h) (Or.inl ⟨by rfl, ?_⟩) ?_ ?_
        rotate_left
        · intro w'
          go_simp
          with_reducible rfl
        rotate_left
        · simp only [Act.put, List.setIfInBounds_toArray, List.set_cons_zero, List.set_cons_succ, i64_w, i32_w]
          rfl
        refine pure_ (i := 6) (N := some 32) (v := ?_) (a' := ?_) #[false, true, false, true, false, false, true, false, false, false] rfl rfl (by kernel_rfl) (fun _ _ _ h => h) (Or.inl ⟨by rfl, ?_⟩) ?_ ?_
        rotate_left
        · intro w'
          go_simp
          with_reducible rfl
        rotate_left
        · simp only [Act.put, List.setIfInBounds_toArray, List.set_cons_zero, List.set_cons_succ, i64_w, i32_w]
          rfl
        refine pure_ (i := 7) (N := some 33) (v := ?_) (a' := ?_) #[false, true, false, true, false, false, true, true, false, false] rfl rfl (by kernel_rfl) (fun _ _ _ h => h) (Or.inl ⟨by rfl, ?_⟩) ?_ ?_
        rotate_left
        · intro w'
          go_simp
          with_reducible rfl
        rotate_left
        · simp only [Act.put, List.setIfInBounds_toArray, List.set_cons_zero, List.set_cons_succ, i64_w, i32_w]
          rfl
        refine pure_ (i := 8) (N := some 34) (v := ?_) (a' := ?_) #[false, true, false, true, false, false, true, true, true, false] rfl rfl (by kernel_rfl) (fun _ _ _ h => h) (Or.inl ⟨by rfl, ?_⟩) ?_ ?_
        rotate_left
        · intro w'
          go_simp
          with_reducible rfl
        rotate_left
        · simp only [Act.put, List.setIfInBounds_toArray, List.set_cons_zero, List.set_cons_succ, i64_w, i32_w]
          rfl
        refine take_ (i := 0) (N := some 26) (v := ?_) (a' := ?_) #[true, true, false, true, false, false, true, true, true, false] rfl rfl (by kernel_rfl) (fun _ _ _ h => h) (Or.inl ⟨by rfl, ?_⟩) hHeld ?_ ?_
        rotate_left
        · rintro w' ⟨s0, s1⟩
          go_simp
          with_reducible rfl
        rotate_left
        · simp only [Act.put, List.setIfInBounds_toArray, List.set_cons_zero, List.set_cons_succ, i64_w, i32_w]
          rfl
        refine join_ (σ := Value × Nat) 2 #[true, true, true, true, true, false, true, true, true, false] (fun s_ => [(28, s_.1), (30, .slice (some ⟨s_.2, 0, none⟩) 1 1)]) (fun s_ w' => (Below wr.heap.size wr w' ∧ w'.cell? ⟨b3, 0, none⟩ = some (.func (.func 151) #[] #[.pointer (some ⟨b1, 0, none⟩), .pointer (some ⟨b2, 0, none⟩), .pointer (some ⟨b3, 0, none⟩)])) ∧ (Kd.int .i64).R 3 w' wr.heap.size (fun _ => True) s_.1 ys ∧ w'.cell? ⟨s_.2, 0, none⟩ = some (.int .i64 x)) ?_ ?_
        rotate_left
        · intro hCont
          refine two_ (i := 2) (j := 4) (Ni := some 28) (Nj := some 30) #[true, true, true, true, false, false, true, true, true, false] #[true, true, false, true, true, false, true, true, true, false] rfl rfl rfl rfl (by kernel_rfl) (by decide) (by decide) (fun K hK => ?_) (fun K hK => ?_)
          · skip
            refine goes_ Try.func114 (by kernel_rfl) rfl #[.slice Au ys.length cu] (by rfl) rfl rfl (by simp only [List.map_toArray, List.map_cons, List.map_nil]; rfl) ?_
            with_reducible refine (slices_Clone_int_int.calls _ _ ys ys _ (Kd.C_below HCU.out hHeld.1) HLU.out HCL.out).mono ?_
            rintro e w1 ⟨vc, rfl, hS, hb⟩
            refine ⟨_, rfl, ?_⟩
            have HS := Aside0.mk (Kd.R_lower hS hHeld.1.size)
            refine hK.out _ _ ⟨below_step hHeld.1 hb, pw_cell_below hb hHeld.2⟩ (fun hHeld => ?_)
            clear hK K
            refine norm_ (a' := ?_) ?_ ?_
            rotate_left
            · show Act.put _ (some 28) _ = _
              simp only [Act.put, List.setIfInBounds_toArray, List.set_cons_zero, List.set_cons_succ, i64_w, i32_w]
              rfl
            refine one_ (i := 4) (N := some 30) #[true, true, true, true, true, false, true, true, true, false] rfl rfl (by kernel_rfl) (by decide) (fun K hK => ?_)
            refine value_ (w1 := ?_) (v := ?_) (by rfl) rfl ?_ ?_
            rotate_left 2
            · go_simp
              constructor
              · rfl
              · rfl
            refine hK.out _ _ ⟨below_alloc hHeld.1 _, pw_cell_below (below_alloc (Below.refl _ _) _) hHeld.2⟩ (fun hHeld => ?_)
            clear hK K
            refine norm_ (a' := ?_) ?_ ?_
            rotate_left
            · show Act.put _ (some 30) _ = _
              simp only [Act.put, List.setIfInBounds_toArray, List.set_cons_zero, List.set_cons_succ, i64_w, i32_w]
              rfl
            exact norm_ (by simp only [putAll, Act.put, List.setIfInBounds_toArray, List.set_cons_zero, List.set_cons_succ]) (hCont (vc, w1.heap.size) _ ⟨hHeld, Kd.R_alloc HS.out _, by go_simp⟩)
          · skip
            refine value_ (w1 := ?_) (v := ?_) (by rfl) rfl ?_ ?_
            rotate_left 2
            · go_simp
              constructor
              · rfl
              · rfl
            refine hK.out _ _ ⟨below_alloc hHeld.1 _, pw_cell_below (below_alloc (Below.refl _ _) _) hHeld.2⟩ (fun hHeld => ?_)
            clear hK K
            refine norm_ (a' := ?_) ?_ ?_
            rotate_left
            · show Act.put _ (some 30) _ = _
              simp only [Act.put, List.setIfInBounds_toArray, List.set_cons_zero, List.set_cons_succ, i64_w, i32_w]
              rfl
            refine one_ (i := 2) (N := some 28) #[true, true, true, true, true, false, true, true, true, false] rfl rfl (by kernel_rfl) (by decide) (fun K hK => ?_)
            refine goes_ Try.func114 (by kernel_rfl) rfl #[.slice Au ys.length cu] (by rfl) rfl rfl (by simp only [List.map_toArray, List.map_cons, List.map_nil]; rfl) ?_
            with_reducible refine (slices_Clone_int_int.calls _ _ ys ys _ (Kd.C_below HCU.out hHeld.1) HLU.out HCL.out).mono ?_
            rintro e w1 ⟨vc, rfl, hS, hb⟩
            refine ⟨_, rfl, ?_⟩
            have HS := Aside0.mk (Kd.R_lower hS hHeld.1.size)
            have HX := Aside0.mk (pw_cell_below hb (show World.cell? _ ⟨wr.heap.size, 0, none⟩ = some (.int .i64 x) by go_simp))
            refine hK.out _ _ ⟨below_step hHeld.1 hb, pw_cell_below hb hHeld.2⟩ (fun hHeld => ?_)
            clear hK K
            refine norm_ (a' := ?_) ?_ ?_
            rotate_left
            · show Act.put _ (some 28) _ = _
              simp only [Act.put, List.setIfInBounds_toArray, List.set_cons_zero, List.set_cons_succ, i64_w, i32_w]
              rfl
            exact norm_ (by simp only [putAll, Act.put, List.setIfInBounds_toArray, List.set_cons_zero, List.set_cons_succ]) (hCont (vc, wr.heap.size) _ ⟨hHeld, HS.out, HX.out⟩)
        rintro ⟨vc, gb⟩ w3 ⟨hHeld, hvc, hgb⟩
        refine norm_ (a' := ?_) ?_ ?_
        rotate_left
        · simp only [putAll, Act.put, List.setIfInBounds_toArray, List.set_cons_zero, List.set_cons_succ]
          rfl
        refine one_ (i := 5) (N := some 31) #[true, true, true, true, true, true, true, true, true, false] rfl rfl (by kernel_rfl) (by decide) (fun K hK => ?_)
        rw [if_pos (by rfl)]
        refine wp_append_own _ (.tmp 28) (.tmp 30) 39 rfl wr.heap.size 3 i0 (.int .i64 0) 1 8 Try.underlying39 hi_ hz0 hz1 hz2 rfl (by decide) _ _ _ rfl (own_of_R hvc) ⟨gb, 0, none⟩ 1 1 [.int .i64 x] rfl rfl ?n1 ?n2 ?n3 ?n4 ?n5 ?_
        case n1 => intro j u hj; cases j with | zero => (injection hj with hj; subst hj; exact hgb) | succ j => simp at hj
        case n2 => intro u hu; rw [List.mem_singleton.mp hu]; rfl
        case n3 => have := HN.out; unfold maxLen; omega
        case n4 => have := HN.out; omega
        case n5 => exact hHeld.1.size
        intro v5 w5 hown hgrow hnil
        have hB5 := pw_below_grown hHeld.1 _ hHeld.1.size hgrow (Kd.R_base hvc)
        have HB5 := Aside0.mk hB5
        have hr5 : (Kd.int .i64).R 3 w5 wr.heap.size (fun k => v5.ownBlock = some k) v5 (ys ++ [x]) := int_R (by rw [List.length_append]; unfold nums at *; rw [List.map_append]; exact hown)
        refine hK.out _ _ ⟨hB5, pw_cell_below hB5 hc3⟩ (fun hHeld => ?_)
        clear hK K
        refine norm_ (a' := ?_) ?_ ?_
        rotate_left
        · show Act.put _ (some 31) _ = _
          simp only [Act.put, List.setIfInBounds_toArray, List.set_cons_zero, List.set_cons_succ, i64_w, i32_w]
          rfl
        refine last_ (i := 9) (N := some 35) #[true, true, true, true, true, true, true, true, true, true] rfl rfl (by kernel_rfl) (by decide) (fun K hK => ?_)
        refine goesF_ #[.pointer (some ⟨b1, 0, none⟩), .pointer (some ⟨b2, 0, none⟩), .pointer (some ⟨b3, 0, none⟩)] hE (#[v5, .int .i64 (s + x)] ++ #[.pointer (some ⟨b1, 0, none⟩), .pointer (some ⟨b2, 0, none⟩), .pointer (some ⟨b3, 0, none⟩)]) (by rfl) rfl rfl (by rfl) (by simp only [List.map_toArray, List.map_cons, List.map_nil]; first | rfl | (simp [WSX]; rfl) | (show _ = _; simp [Act.eval, WSX])) ?_
        refine (IH.out w5 v5 hB5 hr5).mono ?_
        rintro e w6 ⟨v6, rfl, hst6, hgr6⟩
        refine ⟨_, rfl, ?_⟩
        have HST6 := Aside0.mk hst6
        have HGR6 := Aside0.mk hgr6
        clear hst6 hgr6
        refine hK.out _ _ ?_
        clear hK K
        refine norm_ (a' := ?_) ?_ ?_
        rotate_left
        · show Act.put _ (some 35) _ = _
          simp only [Act.put, List.setIfInBounds_toArray, List.set_cons_zero, List.set_cons_succ, i64_w, i32_w]
          rfl
        refine done_ (by kernel_rfl) ?_

        go_wp2
        go_roundg (gk - 1)
        case measure => have := HX0.out; have := HHX.out; omega
        case rel =>
          refine ⟨j + 1, x + 1, v6, by first | rfl | go_num, ⟨⟨by have := HX0.out.1; omega, by have := HHX.out.1; omega, by have := HX0.out.2.2; omega⟩⟩, ⟨?_⟩, ⟨(HG1.out.trans (Grew.of_below HB5.out _ _)).trans HGR6.out⟩⟩
          have h6 := HST6.out
          rw [List.append_assoc] at h6
          rw [List.range_succ, List.flatMap_append, List.flatMap_singleton, ← HX0.out.1, ← HHX.out.2]
          exact h6
      · have bx : decide (x ≤ 1 - s) = false := decide_eq_false ct
        have hjc : j = 2 := by have := HX0.out; omega
        go_wp2
        refine bodyPost_end (v := .tuple #[]) (by simp [results, Try.results151, go_sem]) rfl ⟨rfl, v1, ?_, HG1.out⟩
        rw [HRES.out, ← hjc]
        exact HS1.out.more (fun k hk => hk.1) (fun h => HST.out.ne _ h rfl)
set_option maxHeartbeats 8000000 in
set_option maxRecDepth 100000 in
theorem impl_signRows.calls (a0 : Int) (r : List (List Int)) (w : World) (h : impl_signRows.f a0 = some r) :
    Calls Try.prog 111 #[.int .i64 a0] w fun e w' => ∃ v0_ : Value, e = .returned (v0_) ∧ Kd.S (Kd.slice 3 (Kd.int .i64)) 39 w' w.heap.size (fun _ => True) v0_ r ∧ Below w.heap.size w w' := by
  unfold impl_signRows.f at h
  by_cases hok : 0 ≤ a0 ∧ a0 ≤ 6
  · rw [if_pos hok] at h
    have hmf : ∀ (fn : Fn) (first cap : Array Value) (w : World), (Instr.makeFunc fn first cap).run Try.prog w = .ok (.func fn first cap) w := fun _ _ _ _ => rfl
    have HB := Aside0.mk (Below.refl w.heap.size w)
    obtain rfl := Option.some.inj h
    obtain ⟨n, rfl⟩ : ∃ n : Nat, a0 = (n : Int) := ⟨a0.toNat, by omega⟩
    have HOK := Aside0.mk (show n ≤ 6 by omega)
    rw [Int.toNat_natCast]
    obtain ⟨res, hres⟩ : ∃ res, res = srL n [] 0 := ⟨_, rfl⟩
    have HLEN := Aside0.mk (show (srL n [] 0).length ≤ 2000000 by
      have h5 := srL_len n [] 0
      have h6 : 2 ^ n ≤ 2 ^ 6 := Nat.pow_le_pow_right (by decide) (by omega)
      omega)
    rw [← hres]
    have HRES := Aside0.mk hres
    clear h hok hres
    go_enter Try.func111, Try.ntmps111
    go_wp2_with ((with_reducible refine gate_dst (N := 5) rfl ?_); refine Kd.S_lit (Kd.slice 3 (Kd.int .i64)) _ 39 ?hg (N := 5) ?hd (xs := ([] : List (List Int))) (inner := []) (ok := fun _ => True) (okp := fun _ => True) ?hr ?hp (fun _ hk => hk) trivial (below_alloc (Below.refl _ _) _) (by simp) (by simp) ?_; (case hd => rfl); (case hg => rfl); (case hr => first | (go_simp; done) | (go_simp; rfl)); (case hp => exact Reps.none _ _); intro v8 w1 ho hb hg_ hnew_; obtain ⟨A8, c8, e8⟩ := Kd.S_slice ho; subst e8; have hbx1 := (Boxed.new w 3 (.int .i64 (n : Int))).kept hg_ (by simp); have hc1 := hbx1.cell; have hlt := hbx1.lt; have HO := Aside0.mk ho; have HB1 := Aside0.mk hb; have HNW := Aside0.mk hnew_; have HBX := Aside0.mk hbx1; clear ho hb hg_ hnew_ hbx1)
    refine (sr_add n HOK.out w w.heap.size w1.heap.size (w1.heap.size + 1) n (fun k => k ≠ w.heap.size ∧ k ≠ w1.heap.size ∧ k ≠ w1.heap.size + 1) _ (.slice A8 0 c8) (.slice none 0 0) [] [] 0 ?c1 ?c2a ?c2b ?c3 ?c4 ?c5 ?c6 ?c7 ?c8 ?c9 ?c10 ?c11 ?c12).mono ?_
    case c1 => simp
    case c2a => omega
    case c2b => omega
    case c3 => simpa using HLEN.out
    case c4 => exact fun h => h.1 rfl
    case c5 => exact fun h => h.2.2 rfl
    case c6 => omega
    case c7 => omega
    case c8 => exact out_begun HO.out HB1.out HNW.out hlt
    case c9 => exact Kd.S_mono (out_begun HO.out HB1.out HNW.out hlt).out (fun k hk => ⟨hk, by simp [Value.ownBlock]⟩)
    case c10 => exact Kd.R_nil _ _ _ _ _
    case c11 => go_simp
    case c12 => go_simp
    rintro e w6 ⟨v6, rfl, hst, hgr⟩
    have hb6 := hst.box.cell
    have HST := Aside0.mk hst
    clear hst hgr
    go_wp2
    go_ret
    refine ⟨_, rfl, ?_, HST.out.below⟩
    have h9 := HST.out.out
    rw [List.nil_append, ← HRES.out] at h9
    exact Kd.S_mono h9 (fun _ _ => trivial)
  · rw [if_neg hok] at h
    cases h

/-! ### impl_fitsSums: function 113 -/
def impl_fitsSums.l0 : Nat → List Int → Bool → List Int → Int → Int → Option (Bool)
  | 0, _, _, _, _, _ => none
  | k + 1, x0, x2, x10, x11, x12 => if x12 < x11 then (if 0 ≤ x12 then (if x12 < (x10.length : Int) then (if x12 < (x0.length : Int) then ((impl_within.f (wrap64 ((rd x0 x12) + (rd x10 x12))) 0 1).bind fun t203 => (if t203 = true then (if x2 = true then (if (wrap64 ((rd x0 x12) + (rd x10 x12))) = 1 then (impl_fitsSums.l0 k x0 x2 x10 x11 (wrap64 (x12 + 1))) else (some false)) else (impl_fitsSums.l0 k x0 x2 x10 x11 (wrap64 (x12 + 1)))) else (some false))) else (none)) else (none)) else (none)) else (some true)
def impl_fitsSums.f (k : Nat) (l0 : List Int) (l1 : List Int) (a2 : Bool) : Option (Bool) := impl_fitsSums.l0 k l0 a2 l1 (l1.length : Int) 0
theorem impl_fitsSums.mono_l : ∀ k, (∀ y0 y1 y2 y3 y4, LeO (impl_fitsSums.l0 k y0 y1 y2 y3 y4) (impl_fitsSums.l0 (k + 1) y0 y1 y2 y3 y4))
  | 0 => fun _ _ _ _ _ r h => by simp [impl_fitsSums.l0] at h
  | k + 1 => by
    have ih0 := impl_fitsSums.mono_l k
    · intro y0 y1 y2 y3 y4
      unfold impl_fitsSums.l0
      repeat' first
      | (with_reducible exact ih0 _ _ _ _ _)
      | (with_reducible exact LeO.refl _)
      | (with_reducible exact LeO.none _)
      | (with_reducible refine LeO.ite ?_ ?_)
      | (with_reducible refine LeO.bind ?_ (fun _ => ?_))
      | exact ih0 _ _ _ _ _
      | exact LeO.none _
      | refine LeO.ite ?_ ?_
      | refine LeO.bind ?_ (fun _ => ?_)
theorem impl_fitsSums.mono : ∀ a0 a1 a2 k, LeO (impl_fitsSums.f k a0 a1 a2) (impl_fitsSums.f (k + 1) a0 a1 a2) := by
  intro a0 a1 a2 k
  have ih0 := impl_fitsSums.mono_l k
  unfold impl_fitsSums.f
  repeat' first
      | (with_reducible exact ih0 _ _ _ _ _)
      | (with_reducible exact LeO.refl _)
      | (with_reducible exact LeO.none _)
      | (with_reducible refine LeO.ite ?_ ?_)
      | (with_reducible refine LeO.bind ?_ (fun _ => ?_))
      | exact ih0 _ _ _ _ _
      | exact LeO.none _
      | refine LeO.ite ?_ ?_
      | refine LeO.bind ?_ (fun _ => ?_)
set_option maxHeartbeats 8000000 in
set_option maxRecDepth 100000 in
theorem impl_fitsSums.calls (k : Nat) (A0 : Option Addr) (c0 : Nat) (l0 : List Int) (A1 : Option Addr) (c1 : Nat) (l1 : List Int) (a2 : Bool) (r : Bool) (w : World) (hr0 : Kd.C (Kd.int .i64) w A0 l0.length l0) (hc0 : l0.length ≤ c0) (hr1 : Kd.C (Kd.int .i64) w A1 l1.length l1) (hc1 : l1.length ≤ c1) (h : impl_fitsSums.f k l0 l1 a2 = some r) :
    Calls Try.prog 113 #[.slice A0 l0.length c0, .slice A1 l1.length c1, .bool a2] w fun e w' => e = .returned (.bool r) ∧ Drawn0 w w' := by
  have HR0 := Aside0.mk hr0
  have HC0 := Aside0.mk hc0
  clear hr0 hc0
  have HR1 := Aside0.mk hr1
  have HC1 := Aside0.mk hc1
  clear hr1 hc1
  have H : (impl_fitsSums.l0 k l0 a2 l1 (l1.length : Int) 0) = some r := h
  clear h
  have H' := Aside0.mk H
  clear H
  go_enter Try.func113, Try.ntmps113
  go_wp2
  go_loopg [12] k (fun kq v12 w' => ∃ (x12_1 : Int), v12 = .int .i64 x12_1 ∧ Aside0 (impl_fitsSums.l0 kq l0 a2 l1 (l1.length : Int) x12_1 = some r) ∧ Aside0 (kq ≤ k) ∧ Drawn0 w w')
  case atStart => exact ⟨(0), (by first | rfl | (simp; done) | (simp [*]; done)), H', ⟨Nat.le_refl _⟩, by repeat (first | exact Drawn0.refl _ | apply Drawn0.step)⟩
  case round =>
    clear H'
    try clear c1
    try clear p2
    obtain ⟨x12_1, rfl, HA, HK1, ⟨m1, rfl⟩⟩ := hrel
    cases gk with
    | zero => exact absurd HA.out (by simp [impl_fitsSums.l0])
    | succ k1 =>
      have H := HA.out
      clear HA
      simp only [impl_fitsSums.l0] at H
      by_cases c4 : x12_1 < (l1.length : Int)
      · rw [if_pos c4] at H
        have c4b0 : decide (x12_1 < (l1.length : Int)) = true := decide_eq_true c4
        clear c4
        by_cases c5 : 0 ≤ x12_1
        · rw [if_pos c5] at H
          have c5b0 : decide (0 ≤ x12_1) = true := decide_eq_true c5
          clear c5
          by_cases c6 : x12_1 < (l1.length : Int)
          · rw [if_pos c6] at H
            have c6b0 : decide (x12_1 < (l1.length : Int)) = true := decide_eq_true c6
            clear c6
            by_cases c7 : x12_1 < (l0.length : Int)
            · rw [if_pos c7] at H
              have c7b0 : decide (x12_1 < (l0.length : Int)) = true := decide_eq_true c7
              clear c7
              replace H := Option.bind_eq_some_iff.mp H
              obtain ⟨t203, A80, H⟩ := H
              replace H : (if t203 = true then (if a2 = true then (if (wrap64 ((rd l0 x12_1) + (rd l1 x12_1))) = 1 then (impl_fitsSums.l0 k1 l0 a2 l1 (l1.length : Int) (wrap64 (x12_1 + 1))) else (some false)) else (impl_fitsSums.l0 k1 l0 a2 l1 (l1.length : Int) (wrap64 (x12_1 + 1)))) else (some false)) = some r := H
              have A8 := Aside0.mk A80
              clear A80
              by_cases c9 : t203 = true
              · subst c9
                have H1 : (if a2 = true then (if (wrap64 ((rd l0 x12_1) + (rd l1 x12_1))) = 1 then (impl_fitsSums.l0 k1 l0 a2 l1 (l1.length : Int) (wrap64 (x12_1 + 1))) else (some false)) else (impl_fitsSums.l0 k1 l0 a2 l1 (l1.length : Int) (wrap64 (x12_1 + 1)))) = some r := by rw [if_pos rfl] at H; exact H
                clear H
                have H := H1
                clear H1
                by_cases c10 : a2 = true
                · subst c10
                  have H1 : (if (wrap64 ((rd l0 x12_1) + (rd l1 x12_1))) = 1 then (impl_fitsSums.l0 k1 l0 true l1 (l1.length : Int) (wrap64 (x12_1 + 1))) else (some false)) = some r := by rw [if_pos rfl] at H; exact H
                  clear H
                  have H := H1
                  clear H1
                  by_cases c11 : (wrap64 ((rd l0 x12_1) + (rd l1 x12_1))) = 1
                  · rw [if_pos c11] at H
                    have c11b0 : ((wrap64 ((rd l0 x12_1) + (rd l1 x12_1))) == 1) = true := beq_iff_eq.mpr c11
                    have c11b1 : ((wrap64 ((rd l0 x12_1) + (rd l1 x12_1))) != 1) = false := bne_eq_false_iff_eq.mpr c11
                    clear c11
                    have H' := Aside0.mk H
                    clear H
                    have p201 : 0 ≤ (x12_1 : Int) := of_decide_eq_true (by first | (with_reducible assumption) | assumption)
                    have q201 : x12_1 < (l1.length : Int) := of_decide_eq_true (by first | (with_reducible assumption) | assumption)
                    obtain ⟨ad201, e201, hx201_0⟩ := Kd.at_int HR1.out x12_1 p201 q201
                    cases e201
                    replace p201 := eq_true p201
                    replace q201 := eq_true q201
                    have p202 : 0 ≤ (x12_1 : Int) := of_decide_eq_true (by first | (with_reducible assumption) | assumption)
                    have q202 : x12_1 < (l0.length : Int) := of_decide_eq_true (by first | (with_reducible assumption) | assumption)
                    obtain ⟨ad202, e202, hx202_0⟩ := Kd.at_int HR0.out x12_1 p202 q202
                    cases e202
                    replace p202 := eq_true p202
                    replace q202 := eq_true q202
                    go_wp2_with (first | ((with_reducible refine gate_callee (f := 79) rfl ?_); refine goesL_ (some 24) rfl rfl Try.func79 (by kernel_rfl) rfl #[.int .i64 (wrap64 ((rd l0 x12_1) + (rd l1 x12_1))), .int .i64 0, .int .i64 1] rfl (by (try simp only [List.map_toArray, List.map_cons, List.map_nil]); first | done | rfl | (simp only [List.length_drop, List.length_take]; rfl)) ?_; (with_reducible refine (impl_within.calls (wrap64 ((rd l0 x12_1) + (rd l1 x12_1))) 0 1 true _ A8.out).mono ?_); rintro e w' ⟨rfl, ⟨nd, rfl⟩⟩; refine ⟨_, rfl, ?_⟩))
                    go_roundg k1
                    case measure => have := HK1.out; omega
                    case rel => exact ⟨(wrap64 (x12_1 + 1)), (by first | rfl | (simp; done) | (simp [*]; done)), H', ⟨by have := HK1.out; omega⟩, by repeat (first | exact Drawn0.refl _ | apply Drawn0.step)⟩
                  · rw [if_neg c11] at H
                    have c11b0 : ((wrap64 ((rd l0 x12_1) + (rd l1 x12_1))) == 1) = false := beq_eq_false_iff_ne.mpr c11
                    have c11b1 : ((wrap64 ((rd l0 x12_1) + (rd l1 x12_1))) != 1) = true := bne_iff_ne.mpr c11
                    obtain rfl := Option.some.inj H
                    have p201 : 0 ≤ (x12_1 : Int) := of_decide_eq_true (by first | (with_reducible assumption) | assumption)
                    have q201 : x12_1 < (l1.length : Int) := of_decide_eq_true (by first | (with_reducible assumption) | assumption)
                    obtain ⟨ad201, e201, hx201_0⟩ := Kd.at_int HR1.out x12_1 p201 q201
                    cases e201
                    replace p201 := eq_true p201
                    replace q201 := eq_true q201
                    have p202 : 0 ≤ (x12_1 : Int) := of_decide_eq_true (by first | (with_reducible assumption) | assumption)
                    have q202 : x12_1 < (l0.length : Int) := of_decide_eq_true (by first | (with_reducible assumption) | assumption)
                    obtain ⟨ad202, e202, hx202_0⟩ := Kd.at_int HR0.out x12_1 p202 q202
                    cases e202
                    replace p202 := eq_true p202
                    replace q202 := eq_true q202
                    go_wp2_with (first | ((with_reducible refine gate_callee (f := 79) rfl ?_); refine goesL_ (some 24) rfl rfl Try.func79 (by kernel_rfl) rfl #[.int .i64 (wrap64 ((rd l0 x12_1) + (rd l1 x12_1))), .int .i64 0, .int .i64 1] rfl (by (try simp only [List.map_toArray, List.map_cons, List.map_nil]); first | done | rfl | (simp only [List.length_drop, List.length_take]; rfl)) ?_; (with_reducible refine (impl_within.calls (wrap64 ((rd l0 x12_1) + (rd l1 x12_1))) 0 1 true _ A8.out).mono ?_); rintro e w' ⟨rfl, ⟨nd, rfl⟩⟩; refine ⟨_, rfl, ?_⟩))
                    go_ret
                    exact ⟨by first | rfl | (simp; done) | (simp [*]; done), by repeat (first | exact Drawn0.refl _ | apply Drawn0.step)⟩
                · replace c10 := Bool.eq_false_iff.mpr c10
                  subst c10
                  have H1 : (impl_fitsSums.l0 k1 l0 false l1 (l1.length : Int) (wrap64 (x12_1 + 1))) = some r := by rw [if_neg (show ¬ (false = true) by decide)] at H; exact H
                  clear H
                  have H := H1
                  clear H1
                  have H' := Aside0.mk H
                  clear H
                  have p201 : 0 ≤ (x12_1 : Int) := of_decide_eq_true (by first | (with_reducible assumption) | assumption)
                  have q201 : x12_1 < (l1.length : Int) := of_decide_eq_true (by first | (with_reducible assumption) | assumption)
                  obtain ⟨ad201, e201, hx201_0⟩ := Kd.at_int HR1.out x12_1 p201 q201
                  cases e201
                  replace p201 := eq_true p201
                  replace q201 := eq_true q201
                  have p202 : 0 ≤ (x12_1 : Int) := of_decide_eq_true (by first | (with_reducible assumption) | assumption)
                  have q202 : x12_1 < (l0.length : Int) := of_decide_eq_true (by first | (with_reducible assumption) | assumption)
                  obtain ⟨ad202, e202, hx202_0⟩ := Kd.at_int HR0.out x12_1 p202 q202
                  cases e202
                  replace p202 := eq_true p202
                  replace q202 := eq_true q202
                  go_wp2_with (first | ((with_reducible refine gate_callee (f := 79) rfl ?_); refine goesL_ (some 24) rfl rfl Try.func79 (by kernel_rfl) rfl #[.int .i64 (wrap64 ((rd l0 x12_1) + (rd l1 x12_1))), .int .i64 0, .int .i64 1] rfl (by (try simp only [List.map_toArray, List.map_cons, List.map_nil]); first | done | rfl | (simp only [List.length_drop, List.length_take]; rfl)) ?_; (with_reducible refine (impl_within.calls (wrap64 ((rd l0 x12_1) + (rd l1 x12_1))) 0 1 true _ A8.out).mono ?_); rintro e w' ⟨rfl, ⟨nd, rfl⟩⟩; refine ⟨_, rfl, ?_⟩))
                  go_roundg k1
                  case measure => have := HK1.out; omega
                  case rel => exact ⟨(wrap64 (x12_1 + 1)), (by first | rfl | (simp; done) | (simp [*]; done)), H', ⟨by have := HK1.out; omega⟩, by repeat (first | exact Drawn0.refl _ | apply Drawn0.step)⟩
              · replace c9 := Bool.eq_false_iff.mpr c9
                subst c9
                have H1 : (some false) = some r := by rw [if_neg (show ¬ (false = true) by decide)] at H; exact H
                clear H
                have H := H1
                clear H1
                obtain rfl := Option.some.inj H
                have p201 : 0 ≤ (x12_1 : Int) := of_decide_eq_true (by first | (with_reducible assumption) | assumption)
                have q201 : x12_1 < (l1.length : Int) := of_decide_eq_true (by first | (with_reducible assumption) | assumption)
                obtain ⟨ad201, e201, hx201_0⟩ := Kd.at_int HR1.out x12_1 p201 q201
                cases e201
                replace p201 := eq_true p201
                replace q201 := eq_true q201
                have p202 : 0 ≤ (x12_1 : Int) := of_decide_eq_true (by first | (with_reducible assumption) | assumption)
                have q202 : x12_1 < (l0.length : Int) := of_decide_eq_true (by first | (with_reducible assumption) | assumption)
                obtain ⟨ad202, e202, hx202_0⟩ := Kd.at_int HR0.out x12_1 p202 q202
                cases e202
                replace p202 := eq_true p202
                replace q202 := eq_true q202
                go_wp2_with (first | ((with_reducible refine gate_callee (f := 79) rfl ?_); refine goesL_ (some 24) rfl rfl Try.func79 (by kernel_rfl) rfl #[.int .i64 (wrap64 ((rd l0 x12_1) + (rd l1 x12_1))), .int .i64 0, .int .i64 1] rfl (by (try simp only [List.map_toArray, List.map_cons, List.map_nil]); first | done | rfl | (simp only [List.length_drop, List.length_take]; rfl)) ?_; (with_reducible refine (impl_within.calls (wrap64 ((rd l0 x12_1) + (rd l1 x12_1))) 0 1 false _ A8.out).mono ?_); rintro e w' ⟨rfl, ⟨nd, rfl⟩⟩; refine ⟨_, rfl, ?_⟩))
                go_ret
                exact ⟨by first | rfl | (simp; done) | (simp [*]; done), by repeat (first | exact Drawn0.refl _ | apply Drawn0.step)⟩
            · rw [if_neg c7] at H
              exact absurd H (by simp)
          · rw [if_neg c6] at H
            exact absurd H (by simp)
        · rw [if_neg c5] at H
          exact absurd H (by simp)
      · rw [if_neg c4] at H
        have c4b0 : decide (x12_1 < (l1.length : Int)) = false := decide_eq_false c4
        clear c4
        obtain rfl := Option.some.inj H
        go_wp2
        go_ret
        exact ⟨by first | rfl | (simp; done) | (simp [*]; done), by repeat (first | exact Drawn0.refl _ | apply Drawn0.step)⟩

/-! ### impl_eachSigns: function 62 (given) -/
def fitsOne (s r : List Int) (last : Bool) (i : Nat) : Bool := decide (0 ≤ rd s (i : Int) + rd r (i : Int)) && (decide (rd s (i : Int) + rd r (i : Int) ≤ 1) && (!last || decide (rd s (i : Int) + rd r (i : Int) = 1)))
def fitsN (s r : List Int) (last : Bool) : Nat → Nat → Bool
  | 0, _ => true
  | d + 1, i => fitsOne s r last i && fitsN s r last d (i + 1)
/-- Whether a row can stand behind rows with such sums. -/
def fitsB (s r : List Int) (last : Bool) : Bool := fitsN s r last r.length 0
def RowOk (n : Nat) (r : List Int) : Prop := r.length = n ∧ ∀ j : Nat, j < n → -1 ≤ rd r (j : Int) ∧ rd r (j : Int) ≤ 1
def SumOk (n : Nat) (s : List Int) : Prop := s.length = n ∧ ∀ j : Nat, j < n → 0 ≤ rd s (j : Int) ∧ rd s (j : Int) ≤ 1
theorem fitsN_all {s r : List Int} {last : Bool} {d i : Nat} (h : fitsN s r last d i = true) : ∀ j, i ≤ j → j < i + d → fitsOne s r last j = true := by
  induction d generalizing i with
  | zero => intro j h1 h2; omega
  | succ d ih =>
    intro j h1 h2
    simp only [fitsN, Bool.and_eq_true] at h
    by_cases e : j = i
    · subst e; exact h.1
    · exact ih h.2 j (by omega) (by omega)
theorem sums_fit {n : Nat} {s r : List Int} {last : Bool} (hr : RowOk n r) (h : fitsB s r last = true) : SumOk n (addL n s r) := by
  refine ⟨addL_len _ _ _, fun j hj => ?_⟩
  have h1 := fitsN_all h j (by omega) (by have := hr.1; omega)
  rw [addL_rd s r hj]
  simp only [fitsOne, Bool.and_eq_true, decide_eq_true_eq] at h1
  exact ⟨h1.1, h1.2.1⟩
theorem ev_fits {n : Nat} {s r : List Int} {last : Bool} (hn : n ≤ 6) (hs : SumOk n s) (hr : RowOk n r) : Ev (fun k => impl_fitsSums.f k s r last) (fitsB s r last) := by
  unfold impl_fitsSums.f fitsB
  suffices h : ∀ (d i : Nat), i + d = r.length → Ev (fun k => impl_fitsSums.l0 k s last r (r.length : Int) (i : Int)) (fitsN s r last d i) from h r.length 0 (by omega)
  have hl := hr.1
  have hl2 := hs.1
  intro d
  induction d with
  | zero =>
    intro i hi
    refine Ev.succ ?_
    simp only [impl_fitsSums.l0]
    exact Ev.neg (by omega) (Ev.now _)
  | succ d ih =>
    intro i hi
    have h1 := hr.2 i (by omega)
    have h2 := hs.2 i (by omega)
    refine Ev.succ ?_
    simp only [impl_fitsSums.l0, fitsN, fitsOne]
    refine Ev.pos (by omega) (Ev.pos (by omega) (Ev.pos (by omega) (Ev.pos (by omega) ?_)))
    rw [wrapE _ (by omega) (by omega), wrapN i (by omega)]
    have ihi := ih (i + 1) (by omega)
    generalize rd s (i : Int) + rd r (i : Int) = x at h1 h2 ⊢
    have hw : impl_within.f x 0 1 = some (decide (0 ≤ x) && decide (x ≤ 1)) := by
      unfold impl_within.f
      by_cases h : 0 ≤ x <;> simp [h]
    refine Ev.bind0 hw ?_
    by_cases c0 : 0 ≤ x
    · by_cases c1 : x ≤ 1
      · rw [decide_eq_true c0, decide_eq_true c1]
        refine Ev.pos rfl ?_
        cases last with
        | false => exact Ev.neg (by decide) (by simpa using ihi)
        | true =>
          refine Ev.pos rfl ?_
          by_cases c2 : x = 1
          · exact Ev.pos c2 (by simpa [c2] using ihi)
          · exact Ev.neg c2 (by simpa [c2] using Ev.now false)
      · rw [decide_eq_true c0, decide_eq_false c1]
        exact Ev.neg (by decide) (by simpa using Ev.now false)
    · rw [decide_eq_false c0]
      exact Ev.neg (by simp) (by simpa using Ev.now false)
/-- All tables that go on some rows with such sums by d rows more. -/
def esL (n : Nat) (rows : List (List Int)) : Nat → List Int → List (List Int) → List (List (List Int))
  | 0, _, m => [m]
  | d + 1, s, m => rows.flatMap fun r => if fitsB s r (decide (d = 0)) = true then esL n rows d (addL n s r) (m ++ [r]) else []
theorem flat_take {α β : Type} (rows : List α) (g : α → List β) (q : Nat) (hq : q < rows.length) : (rows.take (q + 1)).flatMap g = (rows.take q).flatMap g ++ g (rows[q]) := by
  rw [List.take_succ_eq_append_getElem hq, List.flatMap_append]
  simp
theorem flat_rest {α β : Type} (rows : List α) (g : α → List β) (q : Nat) (hq : q < rows.length) : ∃ t, rows.flatMap g = (rows.take q).flatMap g ++ (g (rows[q]) ++ t) := by
  refine ⟨(rows.drop (q + 1)).flatMap g, ?_⟩
  rw [← List.append_assoc, ← flat_take rows g q hq, ← List.flatMap_append, List.take_append_drop]
set_option maxHeartbeats 8000000 in
set_option maxRecDepth 100000 in
theorem es_add (n F : Nat) (caps : Array Value) (hF : Enters Try.prog F) (hn1 : 1 ≤ n) (hn6 : n ≤ 6) (rows : List (List Int)) (hrl : rows.length ≤ 1000) (hrows : ∀ r ∈ rows, RowOk n r) (ar : Addr) (cr : Nat) (w0 : World) (b1 b2 b3 b4 b5 gs cs : Nat) (hcs : n ≤ cs)
    (St : Nat → World → (Nat → Prop) → Prop) (hSt : StOk St) (b : Nat → Bool) (L : List (List (List Int)))
    (hcb : ∀ (i : Nat) (M : List (List Int)) (W : World) (own : Nat → Prop) (v : Value), L[i]? = some M → Below w0.heap.size w0 W → St i W own → Kd.V (Kd.slice 3 (Kd.int .i64)) 39 W 0 (fun k => ¬ own k) v M →
      Calls Try.prog F (#[v] ++ caps) W fun e w' => e = .returned (.bool (b i)) ∧ Below w0.heap.size w0 w' ∧ ∃ own', St (i + 1) w' own' ∧ Kept W w' own ∧ ∀ k, own' k → own k ∨ W.heap.size ≤ k) :
    ∀ (d : Nat) (W : World) (own : Nat → Prop) (A : Option Addr) (c : Nat) (M : List (List Int)) (sums : List Int) (o : Nat),
      M.length + d = n → SumOk n sums → ESt w0 n F caps rows (some ar) cr b1 b2 b3 b4 b5 gs cs W own sums → St o W own → Kd.V (Kd.slice 3 (Kd.int .i64)) 39 W 0 (fun k => ¬ own k ∧ k ≠ gs) (.slice A M.length c) M →
      (∀ i M', (esL n rows d sums M)[i]? = some M' → L[o + i]? = some M') →
      Calls Try.prog 112 (#[.slice A M.length c] ++ #[.pointer (some ⟨b1, 0, none⟩), .pointer (some ⟨b2, 0, none⟩), .pointer (some ⟨b3, 0, none⟩), .pointer (some ⟨b4, 0, none⟩), .pointer (some ⟨b5, 0, none⟩)]) W fun e w' => e = .returned (.bool (runTo b o (esL n rows d sums M).length).2) ∧ ∃ own', ESt w0 n F caps rows (some ar) cr b1 b2 b3 b4 b5 gs cs w' own' sums ∧ St (runTo b o (esL n rows d sums M).length).1 w' own' ∧ Kept W w' (fun k => own k ∨ k = gs) ∧ ∀ k, own' k → own k ∨ W.heap.size ≤ k := by
  have hE := enters_of Try.func112 (by kernel_rfl) rfl
  have hF1 := hF
  unfold Enters at hF1
  intro d
  induction d with
  | zero =>
    intro W own A c M sums o hd hs hst hS hV hL
    have t1 : ((M.length : Int) == (n : Int)) = true := by simp; omega
    have hc1 := hst.c1
    have hc2 := hst.c2
    have hLM := hL 0 M rfl
    rw [Nat.add_zero] at hLM
    have HCB := Aside0.mk (hcb o M W own (.slice A M.length c) hLM hst.below hS (Kd.V_mono hV (fun k hk => hk.1)))
    have e1 : (runTo b o (esL n rows 0 sums M).length) = if b o = true then (o + 1, true) else (o + 1, false) := rfl
    have e2 : (runTo b o (esL n rows 0 sums M).length).2 = b o := by rw [e1]; cases b o <;> rfl
    have e3 : (runTo b o (esL n rows 0 sums M).length).1 = o + 1 := by rw [e1]; cases b o <;> rfl
    rw [e2, e3]
    have HST := Aside0.mk hst
    obtain ⟨bo, hbo⟩ : ∃ bo, bo = b o := ⟨_, rfl⟩
    rw [← hbo] at HCB ⊢
    clear hst hS hV hL hLM e1 e2 e3 hd hs hcb hbo hrows hE hF
    go_enter Try.func112, Try.ntmps112
    go_wp2_with (go_at_fn F; (refine HCB.out.mono ?_); rintro e w5 ⟨rfl, hb5, own', hS5, hK5, hO5⟩; have HB := Aside0.mk hb5; have HS := Aside0.mk hS5; have HK := Aside0.mk hK5; have HO := Aside0.mk hO5; clear hb5 hS5 hK5 hO5)
    go_ret
    exact ⟨rfl, own', HST.out.move HK.out HO.out HB.out, HS.out, HK.out.mono (fun k hk => .inl hk), HO.out⟩
  | succ d ih =>
    intro W own A c M sums o hd hs hst hS hV hL
    have t1 : ((M.length : Int) == (n : Int)) = false := by simp; omega
    obtain ⟨lst, hlst⟩ : ∃ lst : Bool, lst = decide (d = 0) := ⟨_, rfl⟩
    have t2 : ((M.length : Int) == (n : Int) - 1) = lst := by
      rw [hlst]
      by_cases h0 : d = 0
      · rw [decide_eq_true h0]; simp; omega
      · rw [decide_eq_false h0]; simp; omega
    obtain ⟨g, hg⟩ : ∃ g : List Int → List (List (List Int)), g = fun r => if fitsB sums r lst = true then esL n rows d (addL n sums r) (M ++ [r]) else [] := ⟨_, rfl⟩
    have hres : esL n rows (d + 1) sums M = rows.flatMap g := by rw [hg, hlst]; rfl
    rw [hres] at hL ⊢
    have m1 : (1 : Int) ≤ (n : Int) := by omega
    have m6 : (n : Int) ≤ 6 := by omega
    have HG := Aside0.mk hg
    have HL := Aside0.mk hL
    have HIH := Aside0.mk ih
    have HST := Aside0.mk hst
    have HV := Aside0.mk hV
    have HS := Aside0.mk hS
    have HSUM := Aside0.mk hs
    have HROWS := Aside0.mk hrows
    have HD := Aside0.mk hd
    have HN := Aside0.mk (And.intro hn1 (And.intro hn6 (And.intro hrl hcs)))
    have HCB := Aside0.mk hcb
    have hc1 := hst.c1
    have hc3 := hst.c3
    have HSTO := Aside0.mk hSt
    clear hg hL ih hst hV hS hs hrows hd hcb hres hlst hF hF1 hn1 hn6 hrl hcs hSt
    have hE1 := hE
    unfold Enters at hE1
    go_enter Try.func112, Try.ntmps112
    go_wp2
    clear hc1 hc3
    go_loopg [24] (rows.length + 1) (fun kq v24 w' => ∃ (q : Nat), v24 = .int .i64 (q : Int) ∧ Aside0 (q ≤ rows.length ∧ kq = rows.length + 1 - q) ∧ Aside0 (∃ own', ESt w0 n F caps rows (some ar) cr b1 b2 b3 b4 b5 gs cs w' own' sums ∧ St (o + ((rows.take q).flatMap g).length) w' own' ∧ Kept W w' (fun k => own k ∨ k = gs) ∧ (∀ k, own' k → own k ∨ W.heap.size ≤ k) ∧ runTo b o ((rows.take q).flatMap g).length = (o + ((rows.take q).flatMap g).length, true)))
    case atStart => exact ⟨0, rfl, ⟨⟨by omega, by omega⟩⟩, ⟨own, HST.out, by simpa using HS.out, Kept.refl _ _, fun k hk => .inl hk, by simp [runTo]⟩⟩
    case round =>
      obtain ⟨q, rfl, HQ, HE0⟩ := hrel
      obtain ⟨own1, hE2, hS1, hK1, hO1, hR1⟩ := HE0.out
      have HE := Aside0.mk hE2
      have HS1 := Aside0.mk hS1
      have HK1 := Aside0.mk hK1
      have HO1 := Aside0.mk hO1
      have HR1 := Aside0.mk hR1
      clear HE0 hE2 hS1 hK1 hO1 hR1 HST HS
      obtain ⟨ko, rfl⟩ : ∃ ko : Nat, ko = gk := ⟨_, rfl⟩
      obtain ⟨oq, hoq⟩ : ∃ oq, oq = ((rows.take q).flatMap g).length := ⟨_, rfl⟩
      have HOQ := Aside0.mk hoq
      rw [← hoq] at HS1 HR1
      clear hoq
      by_cases hq : q < rows.length
      · have bq : decide (q < rows.length) = true := decide_eq_true hq
        obtain ⟨row, hrow⟩ : ∃ row, row = rows[q] := ⟨_, rfl⟩
        have HROW := Aside0.mk hrow
        have hrok : RowOk n row := by rw [hrow]; exact HROWS.out _ (List.getElem_mem _)
        obtain ⟨cells, hcl, hFK, hcc⟩ := Kd.V_get HE.out.vr ([] : List Int) (q : Int) (by omega) (by omega)
        rw [Int.toNat_natCast, List.getD_eq_getElem?_getD, List.getElem?_eq_getElem hq, Option.getD_some, ← hrow] at hFK
        obtain ⟨Ax, cx, rfl, hcx, hFr⟩ := Kd.FK_slice_open hFK
        have hxr : wr.cell? (ar.add q) = some (.slice Ax row.length cx) := by
          have h9 := hcc 0 _ rfl
          have h8 : wr.cell? (ar.add ((q : Int).toNat * 1 + 0)) = some (.slice Ax row.length cx) := h9
          rwa [Nat.mul_one, Nat.add_zero, Int.toNat_natCast] at h8
        obtain ⟨ax, eax, _⟩ := at_num (Kd.F_now hFr) 0 (by have := hrok.1; have := HN.out.1; omega)
        subst eax
        have HFR := Aside0.mk hFr
        have HCX := Aside0.mk hcx
        have HRK := Aside0.mk hrok
        have rl := hrok.1
        have hq1000 : (q : Int) ≤ 1000 := by have := HN.out.2.2.1; omega
        have hq0 : (0 : Int) ≤ (q : Int) := Int.natCast_nonneg _
        have hc1 := HE.out.c1
        have hc4 := HE.out.c4
        obtain ⟨fb, hfb⟩ : ∃ fb, fb = fitsB sums row lst := ⟨_, rfl⟩
        obtain ⟨kf, hkf⟩ := (ev_fits (last := lst) HN.out.2.1 HSUM.out hrok).rounds
        rw [← hfb] at hkf
        have HKF := Aside0.mk hkf
        have HFB := Aside0.mk hfb
        have slen := HE.out.len
        have HCALL := Aside0.mk (show Calls Try.prog 113 #[.slice (some ⟨gs, 0, none⟩) n cs, .slice (some ax) n cx, .bool lst] wr fun e w' => e = .returned (.bool fb) ∧ Drawn0 wr w' by
          have h1 := (Kd.R_reads' HE.out.su).2.2
          have h2 := HN.out.2.2.2
          have h3 := impl_fitsSums.calls kf (some ⟨gs, 0, none⟩) cs sums (some ax) cx row lst fb wr (by rw [slen] at *; exact h1) (by rw [slen]; exact h2) (Kd.F_now hFr) hcx hkf
          rw [slen, rl] at h3
          exact h3)
        have hgrow : g row = if fb = true then esL n rows d (addL n sums row) (M ++ [row]) else [] := by rw [HG.out, hfb]
        have HGR := Aside0.mk hgrow
        clear hrow hFK hcc hcl hFr hcx hfb hkf hrok hgrow
        cases fb with
        | false =>
          go_wp2_with (go_at_call 113; (with_reducible refine HCALL.out.mono ?_); rintro e w5 ⟨rfl, ⟨nd, rfl⟩⟩)
          go_roundg (ko - 1)
          case measure => have := HQ.out; omega
          case rel =>
            have e0 : ((rows.take (q + 1)).flatMap g).length = oq := by rw [flat_take rows g q hq, ← HROW.out, HGR.out, List.length_append, ← HOQ.out]; simp
            refine ⟨q + 1, by first | rfl | go_num, ⟨⟨by omega, by have := HQ.out; omega⟩⟩, ⟨own1, ?_⟩⟩
            rw [e0]
            exact ⟨HE.out.below_ (pw_below_drewN (Below.refl _ _) _), HSTO.out.below HS1.out (pw_below_drewN (Below.refl _ _) _), HK1.out.drewN _, HO1.out, HR1.out⟩
        | true =>
          have HGT := Aside0.mk (show g row = esL n rows d (addL n sums row) (M ++ [row]) by rw [HGR.out]; simp)
          go_wp2_with (go_at_call 113; (with_reducible refine HCALL.out.mono ?_); rintro e w5 ⟨rfl, ⟨nd, rfl⟩⟩)
          obtain ⟨wo, hwo⟩ : ∃ wo : World, wo = wr.drewN nd := ⟨_, rfl⟩
          have HEo := Aside0.mk (show ESt w0 n F caps rows (some ar) cr b1 b2 b3 b4 b5 gs cs wo own1 sums by rw [hwo]; exact HE.out.below_ (pw_below_drewN (Below.refl _ _) _))
          have HSo := Aside0.mk (show St (o + oq) wo own1 by rw [hwo]; exact HSTO.out.below HS1.out (pw_below_drewN (Below.refl _ _) _))
          have HKo := Aside0.mk (show Kept W wo (fun k => own k ∨ k = gs) by rw [hwo]; exact HK1.out.drewN _)
          have HFo := Aside0.mk (show Kd.F (Kd.int .i64) wo (fun k => ¬ own1 k ∧ k ≠ gs) (some ax) row.length row by rw [hwo]; exact Kd.F_drewN HFR.out _)
          have HVo := Aside0.mk (show Kd.V (Kd.slice 3 (Kd.int .i64)) 39 wo 0 (fun k => ¬ own1 k ∧ k ≠ gs) (.slice A M.length c) M by
            have h1 : Kd.V (Kd.slice 3 (Kd.int .i64)) 39 wr 0 (fun k => ¬ own1 k ∧ k ≠ gs) (.slice A M.length c) M := Kd.V_mono (Kd.V_kept (Kd.V_bound HV.out) HK1.out (fun k hk => fun h => h.elim hk.1.1 hk.1.2)) (fun k hk => ⟨fun h => (HO1.out k h).elim hk.1.1 (fun h2 => by have := hk.2; omega), hk.1.2⟩)
            rw [hwo]
            exact Kd.V_drewN h1 _)
          rw [← hwo]
          clear hwo hxr hc1 hc4 HE HS1 HK1 HFR HCALL HKF
          obtain ⟨wp, hwp⟩ : ∃ wp : World, wp = wo := ⟨_, rfl⟩
          go_loopg [39] (n + 1) (fun kq v39 w' => ∃ (j : Nat), v39 = .int .i64 (j : Int) ∧ Aside0 (j ≤ n ∧ kq = n + 1 - j) ∧ Aside0 (ESt w0 n F caps rows (some ar) cr b1 b2 b3 b4 b5 gs cs w' own1 (updK n sums (fun i => rd sums (i : Int) + rd row (i : Int)) j) ∧ St (o + oq) w' own1 ∧ Kept wo w' (fun k => k = gs)))
          case atStart => exact ⟨0, rfl, ⟨⟨by omega, by omega⟩⟩, ⟨by rw [updK_zero slen]; exact HEo.out, HSo.out, Kept.refl _ _⟩⟩
          case round =>
            obtain ⟨j, rfl, HJ, HE⟩ := hrel
            by_cases hj : j < n
            · have bj : decide (j < n) = true := decide_eq_true hj
              have bj2 : decide (j < row.length) = true := decide_eq_true (by omega)
              have hc4 := HE.out.1.c4
              obtain ⟨ad_, e_, hxx⟩ := at_num (Kd.F_now (Kd.F_kept HFo.out HE.out.2.2 (fun k hk => hk.2))) j (by omega)
              obtain rfl := Option.some.inj e_
              obtain ⟨zr, hzr⟩ : ∃ zr, zr = rd row (j : Int) := ⟨_, rfl⟩
              have hx1 : wr.cell? (ax.add j) = some (.int .i64 zr) := by rw [hxx, hzr]; unfold rd; rw [Int.toNat_natCast]
              obtain ⟨zs, hzs⟩ : ∃ zs, zs = rd sums (j : Int) := ⟨_, rfl⟩
              have hat := HE.out.1.at_ hj
              rw [updK_rd _ _ (Nat.le_refl j) hj, ← hzs] at hat
              obtain ⟨hx2, hx3⟩ := hat
              have i1 := HRK.out.2 j hj
              have i2 := HSUM.out.2 j hj
              rw [← hzr] at i1
              rw [← hzs] at i2
              obtain ⟨i3, i4⟩ := i1
              obtain ⟨i5, i6⟩ := i2
              have HZ := Aside0.mk (And.intro hzr hzs)
              clear hxx hzr hzs e_
              go_wp2
              go_roundg (gk - 1)
              case measure => have := HJ.out; omega
              case rel =>
                refine ⟨j + 1, by first | rfl | go_num, ⟨⟨by omega, by have := HJ.out; omega⟩⟩, ⟨?_, HSTO.out.put HE.out.2.1 (p := ⟨gs, j, none⟩) HE.out.1.ap.2.2.2.2.2 _, HE.out.2.2.setCell (p := ⟨gs, j, none⟩) (.inl rfl) _⟩⟩
                rw [← updK_set _ _ hj]
                have hz := HZ.out
                have := HE.out.1.put j (zs + zr)
                rw [hz.1, hz.2] at this ⊢
                exact this
            · have bj : decide (j < n) = false := decide_eq_false hj
              have bj2 : decide (j < row.length) = false := decide_eq_false (by omega)
              have HE3 := Aside0.mk (show ESt w0 n F caps rows (some ar) cr b1 b2 b3 b4 b5 gs cs wr own1 (addL n sums row) by
                have h1 := HE.out.1
                rw [show j = n by have := HJ.out; omega, updK_all] at h1
                exact h1)
              have HS3 := Aside0.mk HE.out.2.1
              have HK3 := Aside0.mk HE.out.2.2
              have HF3 := Aside0.mk (Kd.F_kept HFo.out HE.out.2.2 (fun k hk => hk.2))
              have HV3 := Aside0.mk (Kd.V_kept HVo.out HE.out.2.2 (fun k hk => hk.2))
              have HK4 := Aside0.mk (HKo.out.then_ HE.out.2.2 (fun k hk => .inl (.inr hk)))
              have hc5 := HE3.out.c5
              clear HE HFo HVo HEo HSo HKo
              obtain ⟨olds, ho1, ho2, ho3⟩ := rows_cells (Kd.V_F HV3.out)
              have HOL := Aside0.mk (And.intro ho1 ho2)
              have HA := Aside0.mk (show A = none → M.length = 0 by
                intro e
                rcases Nat.eq_zero_or_pos M.length with h0 | h0
                · exact h0
                · obtain ⟨ad9, e9, _⟩ := (Kd.F_now (Kd.V_F HV3.out)).2.2 h0
                  rw [e] at e9
                  cases e9)
              have hmc : M.length ≤ c := (Kd.V_at HV3.out).2.1
              have hmc2 := eq_true hmc
              have HML := Aside0.mk (show M.length + 1 ≤ 10 by have := HD.out; have := HN.out; omega)
              have hsum2 : SumOk n (addL n sums row) := sums_fit (last := lst) HRK.out HFB.out.symm
              have ihh : ∀ (w5 : World) (v5 : Value) (w4 : World), Below wr.heap.size wr w5 → wr.heap.size ≤ w4.heap.size → w5.ownsRow w4.heap.size 39 1 v5 (M.length + 1) (olds ++ [.slice (some ax) n cx]) → Calls Try.prog 112 (#[v5] ++ #[.pointer (some ⟨b1, 0, none⟩), .pointer (some ⟨b2, 0, none⟩), .pointer (some ⟨b3, 0, none⟩), .pointer (some ⟨b4, 0, none⟩), .pointer (some ⟨b5, 0, none⟩)]) w5 fun e w' => e = .returned (.bool (runTo b (o + oq) (g row).length).2) ∧ ∃ own', ESt w0 n F caps rows (some ar) cr b1 b2 b3 b4 b5 gs cs w' own' (addL n sums row) ∧ St (runTo b (o + oq) (g row).length).1 w' own' ∧ Kept w5 w' (fun k => own1 k ∨ k = gs) ∧ ∀ k, own' k → own1 k ∨ w5.heap.size ≤ k := by
                intro w5 v5 w4 hB5 hsz hown
                have hV5 : Kd.V (Kd.slice 3 (Kd.int .i64)) 39 w5 0 (fun k => ¬ own1 k ∧ k ≠ gs) v5 (M ++ [row]) := by
                  refine V_made (by have := HML.out; omega) rfl ho1 ho3 HF3.out HCX.out (by rw [rl]; exact hown) (fun i hi => hB5.block i hi) hB5.size (fun k hk => ?_)
                  have h1 := own_base hown k hk
                  refine ⟨fun h2 => ?_, ?_⟩
                  · have := HSTO.out.lt _ _ _ HS3.out k h2; omega
                  · have := HE3.out.gs_lt; omega
                obtain ⟨A5, c5, e5⟩ := Kd.V_slice hV5
                rw [e5] at hV5 ⊢
                have hL5 : ∀ i M', (esL n rows d (addL n sums row) (M ++ [row]))[i]? = some M' → L[o + oq + i]? = some M' := by
                  intro i M' hi
                  have h4 : (rows.flatMap g)[oq + i]? = some M' := by
                    obtain ⟨tl, htl⟩ := flat_rest rows g q hq
                    rw [htl, HOQ.out, List.getElem?_append_right (by omega), Nat.add_sub_cancel_left, ← HROW.out, HGT.out, List.getElem?_append_left (List.getElem?_eq_some_iff.mp hi).1]
                    exact hi
                  have h5 := HL.out (oq + i) M' h4
                  rw [← Nat.add_assoc] at h5
                  exact h5
                have h3 := HIH.out w5 own1 A5 c5 (M ++ [row]) (addL n sums row) (o + oq) (by have := HD.out; rw [List.length_append, List.length_singleton]; omega) hsum2 (HE3.out.below_ hB5) (HSTO.out.below HS3.out hB5) hV5 hL5
                rw [HGT.out]
                exact h3
              have IH := Aside0.mk ihh
              clear ihh
              obtain ⟨mo, hmo⟩ : ∃ mo, mo = (runTo b (o + oq) (g row).length).2 := ⟨_, rfl⟩
              obtain ⟨o2, ho2_⟩ : ∃ o2, o2 = (runTo b (o + oq) (g row).length).1 := ⟨_, rfl⟩
              rw [← hmo, ← ho2_] at IH
              have HMO := Aside0.mk (And.intro hmo ho2_)
              obtain ⟨i0, hi_, hz0, hz1, hz2⟩ := info_parts info39
              clear hmo ho2_ ho1 ho2 ho3 hsum2
              cases A with
              | none =>
                obtain rfl : M = [] := List.eq_nil_of_length_eq_zero (HA.out rfl)
                go_wp2
                refine start_ (n := 12) (S := fun w' => Below wr.heap.size wr w' ∧ w'.cell? ⟨b5, 0, none⟩ = some (.func (.func 112) #[] #[.pointer (some ⟨b1, 0, none⟩), .pointer (some ⟨b2, 0, none⟩), .pointer (some ⟨b3, 0, none⟩), .pointer (some ⟨b4, 0, none⟩), .pointer (some ⟨b5, 0, none⟩)])) (ds := [10]) #[false, false, false, false, false, false, false, false, false, false, false, false] (by kernel_rfl) rfl rfl ⟨(below_drew (Below.refl _ _)), hc5⟩ (fun hHeld => ?_)
                refine pure_ (i := 1) (N := some 53) (v := ?_) (a' := ?_) #[false, true, false, false, false, false, false, false, false, false, false, false] rfl rfl (by kernel_rfl) (fun _ _ _ h => h) (Or.inl ⟨by rfl, ?_⟩) ?_ ?_
                rotate_left
                · intro w'
                  go_simp
                  with_reducible rfl
                rotate_left
                · simp only [Act.put, List.setIfInBounds_toArray, List.set_cons_zero, List.set_cons_succ, i64_w, i32_w]
                  rfl
                refine pure_ (i := 2) (N := some 54) (v := ?_) (a' := ?_) #[false, true, true, false, false, false, false, false, false, false, false, false] rfl rfl (by kernel_rfl) (fun _ _ _ h => h) (Or.inl ⟨by rfl, ?_⟩) ?_ ?_
                rotate_left
                · intro w'
                  go_simp
                  with_reducible rfl
                rotate_left
                · simp only [Act.put, List.setIfInBounds_toArray, List.set_cons_zero, List.set_cons_succ, i64_w, i32_w]
                  rfl
                refine pure_ (i := 3) (N := some 55) (v := ?_) (a' := ?_) #[false, true, true, true, false, false, false, false, false, false, false, false] rfl rfl (by kernel_rfl) (fun _ _ _ h => h) (Or.inl ⟨by rfl, ?_⟩) ?_ ?_
                rotate_left
                · intro w'
                  go_simp
                  with_reducible rfl
                rotate_left
                · simp only [Act.put, List.setIfInBounds_toArray, List.set_cons_zero, List.set_cons_succ, i64_w, i32_w]
                  rfl
                refine pure_ (i := 4) (N := some 56) (v := ?_) (a' := ?_) #[false, true, true, true, true, false, false, false, false, false, false, false] rfl rfl (by kernel_rfl) (fun _ _ _ h => h) (Or.inl ⟨by rfl, ?_⟩) ?_ ?_
                rotate_left
                · intro w'
                  go_simp
                  with_reducible rfl
                rotate_left
                · simp only [Act.put, List.setIfInBounds_toArray, List.set_cons_zero, List.set_cons_succ, i64_w, i32_w]
                  rfl
                refine pure_ (i := 5) (N := some 57) (v := ?_) (a' := ?_) #[false, true, true, true, true, true, false, false, false, false, false, false] rfl rfl (by kernel_rfl) (fun _ _ _ h => h) (Or.inl ⟨by rfl, ?_⟩) ?_ ?_
                rotate_left
                · intro w'
                  go_simp
                  with_reducible rfl
                rotate_left
                · simp only [Act.put, List.setIfInBounds_toArray, List.set_cons_zero, List.set_cons_succ, i64_w, i32_w]
                  rfl
                refine pure_ (i := 6) (N := some 58) (v := ?_) (a' := ?_) #[false, true, true, true, true, true, true, false, false, false, false, false] rfl rfl (by kernel_rfl) (fun _ _ _ h => h) (Or.inl ⟨by rfl, ?_⟩) ?_ ?_
                rotate_left
                · intro w'
                  go_simp
                  with_reducible rfl
                rotate_left
                · simp only [Act.put, List.setIfInBounds_toArray, List.set_cons_zero, List.set_cons_succ, i64_w, i32_w]
                  rfl
                refine pure_ (i := 7) (N := some 59) (v := ?_) (a' := ?_) #[false, true, true, true, true, true, true, true, false, false, false, false] rfl rfl (by kernel_rfl) (fun _ _ _ h => h) (Or.inl ⟨by rfl, ?_⟩) ?_ ?_
                rotate_left
                · intro w'
                  go_simp
                  with_reducible rfl
                rotate_left
                · simp only [Act.put, List.setIfInBounds_toArray, List.set_cons_zero, List.set_cons_succ, i64_w, i32_w]
                  rfl
                refine take_ (i := 0) (N := some 52) (v := ?_) (a' := ?_) #[true, true, true, true, true, true, true, true, false, false, false, false] rfl rfl (by kernel_rfl) (fun _ _ _ h => h) (Or.inl ⟨by rfl, ?_⟩) hHeld ?_ ?_
                rotate_left
                · rintro w' ⟨s0, s1⟩
                  go_simp
                  with_reducible rfl
                rotate_left
                · simp only [Act.put, List.setIfInBounds_toArray, List.set_cons_zero, List.set_cons_succ, i64_w, i32_w]
                  rfl
                refine one_ (i := 8) (N := some 60) #[true, true, true, true, true, true, true, true, true, false, false, false] rfl rfl (by kernel_rfl) (by decide) (fun K hK => ?_)
                refine value_ (w1 := ?_) (v := ?_) (by rfl) rfl ?_ ?_
                rotate_left 2
                · go_simp
                  constructor
                  · rfl
                  · rfl
                refine hK.out _ _ ⟨below_alloc hHeld.1 _, pw_cell_below (below_alloc (Below.refl _ _) _) hHeld.2⟩ (fun hHeld => ?_)
                clear hK K
                refine norm_ (a' := ?_) ?_ ?_
                rotate_left
                · show Act.put _ (some 60) _ = _
                  simp only [Act.put, List.setIfInBounds_toArray, List.set_cons_zero, List.set_cons_succ, i64_w, i32_w]
                  rfl
                refine one_ (i := 9) (N := some 61) #[true, true, true, true, true, true, true, true, true, true, false, false] rfl rfl (by kernel_rfl) (by decide) (fun K hK => ?_)
                rw [if_pos (by rfl)]
                refine wp_append_grows (.tmp 58) (.tmp 60) 22 rfl 39 i0 (.slice none 0 0) 1 24 Try.underlying22 hi_ hz0 hz1 hz2 rfl (by decide) none 0 0 olds rfl ?n0 ?n1 ?n2 _ 1 1 [.slice (some ax) n cx] rfl rfl ?n3 ?n4 (by omega) ?n5 ?n6 ?_
                case n0 => exact fun _ => ⟨rfl, rfl⟩
                case n1 => rw [HOL.out.1, Nat.mul_one] <;> rfl
                case n2 => intro b hb j u hj; exact pw_cell_below hHeld.1 (HOL.out.2 b hb j u hj)
                case n3 => intro j u hj; cases j with | zero => (injection hj with hj; subst hj; first | go_simp | (rw [add_plain]; go_simp) | simp [World.cell?]) | succ j => simp at hj
                case n4 => intro u hu; rw [List.mem_singleton.mp hu]; rfl
                case n5 => have := HML.out; unfold maxLen; omega
                case n6 => have := HML.out; omega
                intro v5 w5 hown hgrow
                have hB5 := pw_below_grown hHeld.1 none hHeld.1.size hgrow (by simp)
                have HB5 := Aside0.mk hB5
                have HOWN := Aside0.mk hown
                have HSZ := Aside0.mk hHeld.1.size
                clear hown hgrow
                refine hK.out _ _ ⟨HB5.out, pw_cell_below HB5.out hc5⟩ (fun hHeld => ?_)
                clear hK K
                refine norm_ (a' := ?_) ?_ ?_
                rotate_left
                · show Act.put _ (some 61) _ = _
                  simp only [Act.put, List.setIfInBounds_toArray, List.set_cons_zero, List.set_cons_succ, i64_w, i32_w]
                  rfl
                refine last_ (i := 10) (N := some 62) #[true, true, true, true, true, true, true, true, true, true, true, false] rfl rfl (by kernel_rfl) (by decide) (fun K hK => ?_)
                refine goesF_ #[.pointer (some ⟨b1, 0, none⟩), .pointer (some ⟨b2, 0, none⟩), .pointer (some ⟨b3, 0, none⟩), .pointer (some ⟨b4, 0, none⟩), .pointer (some ⟨b5, 0, none⟩)] hE1 (#[v5] ++ #[.pointer (some ⟨b1, 0, none⟩), .pointer (some ⟨b2, 0, none⟩), .pointer (some ⟨b3, 0, none⟩), .pointer (some ⟨b4, 0, none⟩), .pointer (some ⟨b5, 0, none⟩)]) (by rfl) rfl rfl (by rfl) (by simp only [List.map_toArray, List.map_cons, List.map_nil]; rfl) ?_
                refine (IH.out w5 v5 _ HB5.out HSZ.out HOWN.out).mono ?_
                rintro e w6 ⟨rfl, own2, hE6, hS6, hK6, hO6⟩
                refine ⟨_, rfl, ?_⟩
                have HE6 := Aside0.mk (And.intro hE6 (And.intro hS6 (And.intro hK6 hO6)))
                clear hE6 hS6 hK6 hO6
                refine hK.out _ _ ?_
                clear hK K
                refine norm_ (a' := ?_) ?_ ?_
                rotate_left
                · show Act.put _ (some 62) _ = _
                  simp only [Act.put, List.setIfInBounds_toArray, List.set_cons_zero, List.set_cons_succ, i64_w, i32_w]
                  rfl
                refine pure_ (i := 11) (N := some 12) (v := ?_) (a' := ?_) #[true, true, true, true, true, true, true, true, true, true, true, true] rfl rfl (by kernel_rfl) (fun _ _ _ h => h) (Or.inl ⟨by rfl, ?_⟩) ?_ ?_
                rotate_left
                · intro w'
                  go_simp
                  with_reducible rfl
                rotate_left
                · simp only [Act.put, List.setIfInBounds_toArray, List.set_cons_zero, List.set_cons_succ, i64_w, i32_w]
                  rfl
                refine done_ (by kernel_rfl) ?_

                go_wp2
                obtain ⟨wo2, hwo2⟩ : ∃ wo2 : World, wo2 = w6 := ⟨_, rfl⟩
                rw [← hwo2]
                rw [← hwo2] at HE6
                clear hwo2
                have HF6 := Aside0.mk (show Kd.F (Kd.int .i64) wo2 (fun k => ¬ own2 k ∧ k ≠ gs) (some ax) row.length row from
                  Kd.F_mono (Kd.F_kept (Kd.F_bound (Kd.F_mono (Kd.F_below (Kd.F_bound HF3.out) HB5.out) (fun k hk => hk))) HE6.out.2.2.1 (fun k hk => fun h => h.elim hk.1.1.1 hk.1.1.2)) (fun k hk => ⟨fun h => (HE6.out.2.2.2 k h).elim hk.1.1.1 (fun h2 => by have := hk.2; omega), hk.1.1.2⟩))
                have HK6 := Aside0.mk (show Kept W wo2 (fun k => own k ∨ k = gs) from (HK4.out.below HB5.out).then_ HE6.out.2.2.1 (fun k hk => hk.elim (fun h => (HO1.out k h).elim (fun h2 => .inl (.inl h2)) .inr) (fun h => .inl (.inr h))))
                have HO6 := Aside0.mk (show ∀ k, own2 k → own k ∨ W.heap.size ≤ k from fun k hk => (HE6.out.2.2.2 k hk).elim (fun h => HO1.out k h) (fun h => .inr (Nat.le_trans (HK4.out.below HB5.out).1 h)))
                clear hc5
                go_loopg [65] (n + 1) (fun kq v65 w' => ∃ (j : Nat), v65 = .int .i64 (j : Int) ∧ Aside0 (j ≤ n ∧ kq = n + 1 - j) ∧ Aside0 (ESt w0 n F caps rows (some ar) cr b1 b2 b3 b4 b5 gs cs w' own2 (updK n (addL n sums row) (fun i => rd (addL n sums row) (i : Int) - rd row (i : Int)) j) ∧ St o2 w' own2 ∧ Kept wo2 w' (fun k => k = gs)))
                case atStart => exact ⟨0, rfl, ⟨⟨by omega, by omega⟩⟩, ⟨by rw [updK_zero (addL_len _ _ _)]; exact HE6.out.1, HE6.out.2.1, Kept.refl _ _⟩⟩
                case round =>
                  obtain ⟨j2, rfl, HJ2, HE⟩ := hrel
                  by_cases hj2 : j2 < n
                  · have bk : decide (j2 < n) = true := decide_eq_true hj2
                    have bk2 : decide (j2 < row.length) = true := decide_eq_true (by omega)
                    have hc4 := HE.out.1.c4
                    obtain ⟨ad_, e_, hxx⟩ := at_num (Kd.F_now (Kd.F_kept HF6.out HE.out.2.2 (fun k hk => hk.2))) j2 (by omega)
                    obtain rfl := Option.some.inj e_
                    obtain ⟨zr, hzr⟩ : ∃ zr, zr = rd row (j2 : Int) := ⟨_, rfl⟩
                    have hx1 : wr.cell? (ax.add j2) = some (.int .i64 zr) := by rw [hxx, hzr]; unfold rd; rw [Int.toNat_natCast]
                    obtain ⟨zs, hzs⟩ : ∃ zs, zs = rd (addL n sums row) (j2 : Int) := ⟨_, rfl⟩
                    have hat := HE.out.1.at_ hj2
                    rw [updK_rd _ _ (Nat.le_refl j2) hj2, ← hzs] at hat
                    obtain ⟨hx2, hx3⟩ := hat
                    have i1 := HRK.out.2 j2 hj2
                    have i2 := (sums_fit (last := lst) HRK.out HFB.out.symm).2 j2 hj2
                    rw [← hzr] at i1
                    rw [← hzs] at i2
                    obtain ⟨i3, i4⟩ := i1
                    obtain ⟨i5, i6⟩ := i2
                    have HZ := Aside0.mk (And.intro hzr hzs)
                    clear hxx hzr hzs e_
                    go_wp2
                    go_roundg (gk - 1)
                    case measure => have := HJ2.out; omega
                    case rel =>
                      refine ⟨j2 + 1, by first | rfl | go_num, ⟨⟨by omega, by have := HJ2.out; omega⟩⟩, ⟨?_, HSTO.out.put HE.out.2.1 (p := ⟨gs, j2, none⟩) HE.out.1.ap.2.2.2.2.2 _, HE.out.2.2.setCell (p := ⟨gs, j2, none⟩) (.inl rfl) _⟩⟩
                      rw [← updK_set _ _ hj2]
                      have hz := HZ.out
                      have := HE.out.1.put j2 (zs - zr)
                      rw [hz.1, hz.2] at this ⊢
                      exact this
                  · have bk : decide (j2 < n) = false := decide_eq_false hj2
                    have bk2 : decide (j2 < row.length) = false := decide_eq_false (by omega)
                    have HE7 := Aside0.mk (show ESt w0 n F caps rows (some ar) cr b1 b2 b3 b4 b5 gs cs wr own2 sums by
                      have h1 := HE.out.1
                      rw [show j2 = n by have := HJ2.out; omega, addL_back slen] at h1
                      exact h1)
                    have HS7 := Aside0.mk HE.out.2.1
                    have HK7 := Aside0.mk (HK6.out.then_ HE.out.2.2 (fun k hk => .inl (.inr hk)))
                    have e0 : ((rows.take (q + 1)).flatMap g).length = oq + (g row).length := by rw [flat_take rows g q hq, ← HROW.out, List.length_append, ← HOQ.out]
                    have HE0 := Aside0.mk e0
                    clear HE HF6 HE6 e0
                    cases mo with
                    | true =>
                      go_wp2
                      go_roundg (ko - 1)
                      case measure => have := HQ.out; omega
                      case rel =>
                        have h8 := runTo_at HMO.out.1.symm
                        refine ⟨q + 1, by first | rfl | go_num, ⟨⟨by omega, by have := HQ.out; omega⟩⟩, ⟨own2, ?_⟩⟩
                        rw [HE0.out, runTo_add, HR1.out, if_pos rfl, ← Nat.add_assoc, ← h8]
                        have h9 : St (runTo b (o + oq) (g row).length).1 wr own2 := by rw [← HMO.out.2]; exact HS7.out
                        exact ⟨HE7.out, h9, HK7.out, HO6.out, Prod.ext rfl HMO.out.1.symm⟩
                    | false =>
                      go_wp2
                      go_ret
                      obtain ⟨tl, htl⟩ := flat_rest rows g q hq
                      have h8 : runTo b o (rows.flatMap g).length = (o2, false) := by
                        rw [htl, List.length_append, ← HOQ.out, runTo_add, HR1.out, if_pos rfl, List.length_append, ← HROW.out, runTo_add, if_neg (by rw [← HMO.out.1]; decide)]
                        exact Prod.ext HMO.out.2.symm HMO.out.1.symm
                      rw [h8]
                      exact ⟨rfl, own2, HE7.out, HS7.out, HK7.out, HO6.out⟩
              | some aa =>
                go_wp2
                refine start_ (n := 12) (S := fun w' => Below wr.heap.size wr w' ∧ w'.cell? ⟨b5, 0, none⟩ = some (.func (.func 112) #[] #[.pointer (some ⟨b1, 0, none⟩), .pointer (some ⟨b2, 0, none⟩), .pointer (some ⟨b3, 0, none⟩), .pointer (some ⟨b4, 0, none⟩), .pointer (some ⟨b5, 0, none⟩)])) (ds := [10]) #[false, false, false, false, false, false, false, false, false, false, false, false] (by kernel_rfl) rfl rfl ⟨(below_drew (Below.refl _ _)), hc5⟩ (fun hHeld => ?_)
                refine pure_ (i := 1) (N := some 53) (v := ?_) (a' := ?_) #[false, true, false, false, false, false, false, false, false, false, false, false] rfl rfl (by kernel_rfl) (fun _ _ _ h => h) (Or.inl ⟨by rfl, ?_⟩) ?_ ?_
                rotate_left
                · intro w'
                  go_simp
                  with_reducible rfl
                rotate_left
                · simp only [Act.put, List.setIfInBounds_toArray, List.set_cons_zero, List.set_cons_succ, i64_w, i32_w]
                  rfl
                refine pure_ (i := 2) (N := some 54) (v := ?_) (a' := ?_) #[false, true, true, false, false, false, false, false, false, false, false, false] rfl rfl (by kernel_rfl) (fun _ _ _ h => h) (Or.inl ⟨by rfl, ?_⟩) ?_ ?_
                rotate_left
                · intro w'
                  go_simp
                  with_reducible rfl
                rotate_left
                · simp only [Act.put, List.setIfInBounds_toArray, List.set_cons_zero, List.set_cons_succ, i64_w, i32_w]
                  rfl
                refine pure_ (i := 3) (N := some 55) (v := ?_) (a' := ?_) #[false, true, true, true, false, false, false, false, false, false, false, false] rfl rfl (by kernel_rfl) (fun _ _ _ h => h) (Or.inl ⟨by rfl, ?_⟩) ?_ ?_
                rotate_left
                · intro w'
                  go_simp
                  with_reducible rfl
                rotate_left
                · simp only [Act.put, List.setIfInBounds_toArray, List.set_cons_zero, List.set_cons_succ, i64_w, i32_w]
                  rfl
                refine pure_ (i := 4) (N := some 56) (v := ?_) (a' := ?_) #[false, true, true, true, true, false, false, false, false, false, false, false] rfl rfl (by kernel_rfl) (fun _ _ _ h => h) (Or.inl ⟨by rfl, ?_⟩) ?_ ?_
                rotate_left
                · intro w'
                  go_simp
                  with_reducible rfl
                rotate_left
                · simp only [Act.put, List.setIfInBounds_toArray, List.set_cons_zero, List.set_cons_succ, i64_w, i32_w]
                  rfl
                refine pure_ (i := 5) (N := some 57) (v := ?_) (a' := ?_) #[false, true, true, true, true, true, false, false, false, false, false, false] rfl rfl (by kernel_rfl) (fun _ _ _ h => h) (Or.inl ⟨by rfl, ?_⟩) ?_ ?_
                rotate_left
                · intro w'
                  go_simp
                  with_reducible rfl
                rotate_left
                · simp only [Act.put, List.setIfInBounds_toArray, List.set_cons_zero, List.set_cons_succ, i64_w, i32_w]
                  rfl
                refine pure_ (i := 6) (N := some 58) (v := ?_) (a' := ?_) #[false, true, true, true, true, true, true, false, false, false, false, false] rfl rfl (by kernel_rfl) (fun _ _ _ h => h) (Or.inl ⟨by rfl, ?_⟩) ?_ ?_
                rotate_left
                · intro w'
                  go_simp
                  with_reducible rfl
                rotate_left
                · simp only [Act.put, List.setIfInBounds_toArray, List.set_cons_zero, List.set_cons_succ, i64_w, i32_w]
                  rfl
                refine pure_ (i := 7) (N := some 59) (v := ?_) (a' := ?_) #[false, true, true, true, true, true, true, true, false, false, false, false] rfl rfl (by kernel_rfl) (fun _ _ _ h => h) (Or.inl ⟨by rfl, ?_⟩) ?_ ?_
                rotate_left
                · intro w'
                  go_simp
                  with_reducible rfl
                rotate_left
                · simp only [Act.put, List.setIfInBounds_toArray, List.set_cons_zero, List.set_cons_succ, i64_w, i32_w]
                  rfl
                refine take_ (i := 0) (N := some 52) (v := ?_) (a' := ?_) #[true, true, true, true, true, true, true, true, false, false, false, false] rfl rfl (by kernel_rfl) (fun _ _ _ h => h) (Or.inl ⟨by rfl, ?_⟩) hHeld ?_ ?_
                rotate_left
                · rintro w' ⟨s0, s1⟩
                  go_simp
                  with_reducible rfl
                rotate_left
                · simp only [Act.put, List.setIfInBounds_toArray, List.set_cons_zero, List.set_cons_succ, i64_w, i32_w]
                  rfl
                refine one_ (i := 8) (N := some 60) #[true, true, true, true, true, true, true, true, true, false, false, false] rfl rfl (by kernel_rfl) (by decide) (fun K hK => ?_)
                refine value_ (w1 := ?_) (v := ?_) (by rfl) rfl ?_ ?_
                rotate_left 2
                · go_simp
                  constructor
                  · rfl
                  · rfl
                refine hK.out _ _ ⟨below_alloc hHeld.1 _, pw_cell_below (below_alloc (Below.refl _ _) _) hHeld.2⟩ (fun hHeld => ?_)
                clear hK K
                refine norm_ (a' := ?_) ?_ ?_
                rotate_left
                · show Act.put _ (some 60) _ = _
                  simp only [Act.put, List.setIfInBounds_toArray, List.set_cons_zero, List.set_cons_succ, i64_w, i32_w]
                  rfl
                refine one_ (i := 9) (N := some 61) #[true, true, true, true, true, true, true, true, true, true, false, false] rfl rfl (by kernel_rfl) (by decide) (fun K hK => ?_)
                rw [if_pos (by rfl)]
                refine wp_append_grows (.tmp 58) (.tmp 60) 22 rfl 39 i0 (.slice none 0 0) 1 24 Try.underlying22 hi_ hz0 hz1 hz2 rfl (by decide) (some aa) M.length M.length olds rfl ?n0 ?n1 ?n2 _ 1 1 [.slice (some ax) n cx] rfl rfl ?n3 ?n4 (by omega) ?n5 ?n6 ?_
                case n0 => exact fun e => ⟨HA.out e, HA.out e⟩
                case n1 => rw [HOL.out.1, Nat.mul_one] <;> rfl
                case n2 => intro b hb j u hj; exact pw_cell_below hHeld.1 (HOL.out.2 b hb j u hj)
                case n3 => intro j u hj; cases j with | zero => (injection hj with hj; subst hj; first | go_simp | (rw [add_plain]; go_simp) | simp [World.cell?]) | succ j => simp at hj
                case n4 => intro u hu; rw [List.mem_singleton.mp hu]; rfl
                case n5 => have := HML.out; unfold maxLen; omega
                case n6 => have := HML.out; omega
                intro v5 w5 hown hgrow
                have hB5 := pw_below_grown hHeld.1 none hHeld.1.size hgrow (by simp)
                have HB5 := Aside0.mk hB5
                have HOWN := Aside0.mk hown
                have HSZ := Aside0.mk hHeld.1.size
                clear hown hgrow
                refine hK.out _ _ ⟨HB5.out, pw_cell_below HB5.out hc5⟩ (fun hHeld => ?_)
                clear hK K
                refine norm_ (a' := ?_) ?_ ?_
                rotate_left
                · show Act.put _ (some 61) _ = _
                  simp only [Act.put, List.setIfInBounds_toArray, List.set_cons_zero, List.set_cons_succ, i64_w, i32_w]
                  rfl
                refine last_ (i := 10) (N := some 62) #[true, true, true, true, true, true, true, true, true, true, true, false] rfl rfl (by kernel_rfl) (by decide) (fun K hK => ?_)
                refine goesF_ #[.pointer (some ⟨b1, 0, none⟩), .pointer (some ⟨b2, 0, none⟩), .pointer (some ⟨b3, 0, none⟩), .pointer (some ⟨b4, 0, none⟩), .pointer (some ⟨b5, 0, none⟩)] hE1 (#[v5] ++ #[.pointer (some ⟨b1, 0, none⟩), .pointer (some ⟨b2, 0, none⟩), .pointer (some ⟨b3, 0, none⟩), .pointer (some ⟨b4, 0, none⟩), .pointer (some ⟨b5, 0, none⟩)]) (by rfl) rfl rfl (by rfl) (by simp only [List.map_toArray, List.map_cons, List.map_nil]; rfl) ?_
                refine (IH.out w5 v5 _ HB5.out HSZ.out HOWN.out).mono ?_
                rintro e w6 ⟨rfl, own2, hE6, hS6, hK6, hO6⟩
                refine ⟨_, rfl, ?_⟩
                have HE6 := Aside0.mk (And.intro hE6 (And.intro hS6 (And.intro hK6 hO6)))
                clear hE6 hS6 hK6 hO6
                refine hK.out _ _ ?_
                clear hK K
                refine norm_ (a' := ?_) ?_ ?_
                rotate_left
                · show Act.put _ (some 62) _ = _
                  simp only [Act.put, List.setIfInBounds_toArray, List.set_cons_zero, List.set_cons_succ, i64_w, i32_w]
                  rfl
                refine pure_ (i := 11) (N := some 12) (v := ?_) (a' := ?_) #[true, true, true, true, true, true, true, true, true, true, true, true] rfl rfl (by kernel_rfl) (fun _ _ _ h => h) (Or.inl ⟨by rfl, ?_⟩) ?_ ?_
                rotate_left
                · intro w'
                  go_simp
                  with_reducible rfl
                rotate_left
                · simp only [Act.put, List.setIfInBounds_toArray, List.set_cons_zero, List.set_cons_succ, i64_w, i32_w]
                  rfl
                refine done_ (by kernel_rfl) ?_

                go_wp2
                obtain ⟨wo2, hwo2⟩ : ∃ wo2 : World, wo2 = w6 := ⟨_, rfl⟩
                rw [← hwo2]
                rw [← hwo2] at HE6
                clear hwo2
                have HF6 := Aside0.mk (show Kd.F (Kd.int .i64) wo2 (fun k => ¬ own2 k ∧ k ≠ gs) (some ax) row.length row from
                  Kd.F_mono (Kd.F_kept (Kd.F_bound (Kd.F_mono (Kd.F_below (Kd.F_bound HF3.out) HB5.out) (fun k hk => hk))) HE6.out.2.2.1 (fun k hk => fun h => h.elim hk.1.1.1 hk.1.1.2)) (fun k hk => ⟨fun h => (HE6.out.2.2.2 k h).elim hk.1.1.1 (fun h2 => by have := hk.2; omega), hk.1.1.2⟩))
                have HK6 := Aside0.mk (show Kept W wo2 (fun k => own k ∨ k = gs) from (HK4.out.below HB5.out).then_ HE6.out.2.2.1 (fun k hk => hk.elim (fun h => (HO1.out k h).elim (fun h2 => .inl (.inl h2)) .inr) (fun h => .inl (.inr h))))
                have HO6 := Aside0.mk (show ∀ k, own2 k → own k ∨ W.heap.size ≤ k from fun k hk => (HE6.out.2.2.2 k hk).elim (fun h => HO1.out k h) (fun h => .inr (Nat.le_trans (HK4.out.below HB5.out).1 h)))
                clear hc5
                go_loopg [65] (n + 1) (fun kq v65 w' => ∃ (j : Nat), v65 = .int .i64 (j : Int) ∧ Aside0 (j ≤ n ∧ kq = n + 1 - j) ∧ Aside0 (ESt w0 n F caps rows (some ar) cr b1 b2 b3 b4 b5 gs cs w' own2 (updK n (addL n sums row) (fun i => rd (addL n sums row) (i : Int) - rd row (i : Int)) j) ∧ St o2 w' own2 ∧ Kept wo2 w' (fun k => k = gs)))
                case atStart => exact ⟨0, rfl, ⟨⟨by omega, by omega⟩⟩, ⟨by rw [updK_zero (addL_len _ _ _)]; exact HE6.out.1, HE6.out.2.1, Kept.refl _ _⟩⟩
                case round =>
                  obtain ⟨j2, rfl, HJ2, HE⟩ := hrel
                  by_cases hj2 : j2 < n
                  · have bk : decide (j2 < n) = true := decide_eq_true hj2
                    have bk2 : decide (j2 < row.length) = true := decide_eq_true (by omega)
                    have hc4 := HE.out.1.c4
                    obtain ⟨ad_, e_, hxx⟩ := at_num (Kd.F_now (Kd.F_kept HF6.out HE.out.2.2 (fun k hk => hk.2))) j2 (by omega)
                    obtain rfl := Option.some.inj e_
                    obtain ⟨zr, hzr⟩ : ∃ zr, zr = rd row (j2 : Int) := ⟨_, rfl⟩
                    have hx1 : wr.cell? (ax.add j2) = some (.int .i64 zr) := by rw [hxx, hzr]; unfold rd; rw [Int.toNat_natCast]
                    obtain ⟨zs, hzs⟩ : ∃ zs, zs = rd (addL n sums row) (j2 : Int) := ⟨_, rfl⟩
                    have hat := HE.out.1.at_ hj2
                    rw [updK_rd _ _ (Nat.le_refl j2) hj2, ← hzs] at hat
                    obtain ⟨hx2, hx3⟩ := hat
                    have i1 := HRK.out.2 j2 hj2
                    have i2 := (sums_fit (last := lst) HRK.out HFB.out.symm).2 j2 hj2
                    rw [← hzr] at i1
                    rw [← hzs] at i2
                    obtain ⟨i3, i4⟩ := i1
                    obtain ⟨i5, i6⟩ := i2
                    have HZ := Aside0.mk (And.intro hzr hzs)
                    clear hxx hzr hzs e_
                    go_wp2
                    go_roundg (gk - 1)
                    case measure => have := HJ2.out; omega
                    case rel =>
                      refine ⟨j2 + 1, by first | rfl | go_num, ⟨⟨by omega, by have := HJ2.out; omega⟩⟩, ⟨?_, HSTO.out.put HE.out.2.1 (p := ⟨gs, j2, none⟩) HE.out.1.ap.2.2.2.2.2 _, HE.out.2.2.setCell (p := ⟨gs, j2, none⟩) (.inl rfl) _⟩⟩
                      rw [← updK_set _ _ hj2]
                      have hz := HZ.out
                      have := HE.out.1.put j2 (zs - zr)
                      rw [hz.1, hz.2] at this ⊢
                      exact this
                  · have bk : decide (j2 < n) = false := decide_eq_false hj2
                    have bk2 : decide (j2 < row.length) = false := decide_eq_false (by omega)
                    have HE7 := Aside0.mk (show ESt w0 n F caps rows (some ar) cr b1 b2 b3 b4 b5 gs cs wr own2 sums by
                      have h1 := HE.out.1
                      rw [show j2 = n by have := HJ2.out; omega, addL_back slen] at h1
                      exact h1)
                    have HS7 := Aside0.mk HE.out.2.1
                    have HK7 := Aside0.mk (HK6.out.then_ HE.out.2.2 (fun k hk => .inl (.inr hk)))
                    have e0 : ((rows.take (q + 1)).flatMap g).length = oq + (g row).length := by rw [flat_take rows g q hq, ← HROW.out, List.length_append, ← HOQ.out]
                    have HE0 := Aside0.mk e0
                    clear HE HF6 HE6 e0
                    cases mo with
                    | true =>
                      go_wp2
                      go_roundg (ko - 1)
                      case measure => have := HQ.out; omega
                      case rel =>
                        have h8 := runTo_at HMO.out.1.symm
                        refine ⟨q + 1, by first | rfl | go_num, ⟨⟨by omega, by have := HQ.out; omega⟩⟩, ⟨own2, ?_⟩⟩
                        rw [HE0.out, runTo_add, HR1.out, if_pos rfl, ← Nat.add_assoc, ← h8]
                        have h9 : St (runTo b (o + oq) (g row).length).1 wr own2 := by rw [← HMO.out.2]; exact HS7.out
                        exact ⟨HE7.out, h9, HK7.out, HO6.out, Prod.ext rfl HMO.out.1.symm⟩
                    | false =>
                      go_wp2
                      go_ret
                      obtain ⟨tl, htl⟩ := flat_rest rows g q hq
                      have h8 : runTo b o (rows.flatMap g).length = (o2, false) := by
                        rw [htl, List.length_append, ← HOQ.out, runTo_add, HR1.out, if_pos rfl, List.length_append, ← HROW.out, runTo_add, if_neg (by rw [← HMO.out.1]; decide)]
                        exact Prod.ext HMO.out.2.symm HMO.out.1.symm
                      rw [h8]
                      exact ⟨rfl, own2, HE7.out, HS7.out, HK7.out, HO6.out⟩
      · have bq : decide (q < rows.length) = false := decide_eq_false hq
        go_wp2
        go_ret
        have hqe : q = rows.length := by have := HQ.out; omega
        have hR := HR1.out
        have hoq := HOQ.out
        rw [hqe, List.take_length] at hoq
        rw [← hoq, hR]
        exact ⟨rfl, own1, HE.out, HS1.out, HK1.out, HO1.out⟩
theorem srL_ok (n : Nat) : ∀ (d : Nat) (ys : List Int) (s : Int), ys.length + d = n → 0 ≤ s → s ≤ 1 → (∀ j : Nat, j < ys.length → -1 ≤ rd ys (j : Int) ∧ rd ys (j : Int) ≤ 1) → ∀ r ∈ srL d ys s, RowOk n r := by
  intro d
  induction d with
  | zero =>
    intro ys s hd h0 h1 hy r hr
    simp only [srL] at hr
    split at hr
    · rw [List.mem_singleton.mp hr]
      exact ⟨by omega, fun j hj => hy j (by omega)⟩
    · simp at hr
  | succ d ih =>
    intro ys s hd h0 h1 hy r hr
    simp only [srL, List.mem_flatMap, List.mem_range] at hr
    obtain ⟨j, hj, hr⟩ := hr
    refine ih _ _ (by rw [List.length_append, List.length_singleton]; omega) (by omega) (by omega) (fun i hi => ?_) r hr
    rw [rd_get _ i hi]
    rw [List.length_append, List.length_singleton] at hi
    by_cases c : i < ys.length
    · rw [List.getElem_append_left c, ← rd_get ys i c]
      exact hy i c
    · rw [List.getElem_append_right (by omega)]
      simp
      omega
theorem srL_some {n : Nat} (h1 : 1 ≤ n) (h6 : n ≤ 6) : 0 < (srL n [] 0).length := by
  have h : n = 1 ∨ n = 2 ∨ n = 3 ∨ n = 4 ∨ n = 5 ∨ n = 6 := by omega
  rcases h with rfl | rfl | rfl | rfl | rfl | rfl <;> decide
theorem sum_zero (n : Nat) : SumOk n (List.replicate n 0) := by
  refine ⟨by simp, fun j hj => ?_⟩
  rw [rd_get _ j (by simpa using hj)]
  simp
/-- All tables that eachSigns visits, in order. -/
def esAll (n : Nat) : List (List (List Int)) := esL n (srL n [] 0) n (List.replicate n 0) []
set_option maxHeartbeats 8000000 in
set_option maxRecDepth 100000 in
theorem eachSigns_any (n F : Nat) (caps : Array Value) (hF : Enters Try.prog F) (hn1 : 1 ≤ n) (hn6 : n ≤ 6) (w0 : World) (St : Nat → World → (Nat → Prop) → Prop) (hSt : StOk St) (b : Nat → Bool)
    (hcb : ∀ (i : Nat) (M : List (List Int)) (W : World) (own : Nat → Prop) (v : Value), (esAll n)[i]? = some M → Below w0.heap.size w0 W → St i W own → Kd.V (Kd.slice 3 (Kd.int .i64)) 39 W 0 (fun k => ¬ own k) v M →
      Calls Try.prog F (#[v] ++ caps) W fun e w' => e = .returned (.bool (b i)) ∧ Below w0.heap.size w0 w' ∧ ∃ own', St (i + 1) w' own' ∧ Kept W w' own ∧ ∀ k, own' k → own k ∨ W.heap.size ≤ k)
    (w : World) (own : Nat → Prop) (hB : Below w0.heap.size w0 w) (hS : St 0 w own) :
    Calls Try.prog 62 #[.int .i64 (n : Int), .func (.func F) #[] caps] w fun e w' => e = .returned (.tuple #[]) ∧ Below w0.heap.size w0 w' ∧ ∃ own', St (runTo b 0 (esAll n).length).1 w' own' ∧ Kept w w' own ∧ ∀ k, own' k → own k ∨ w.heap.size ≤ k := by
  have hmf : ∀ (fn : Fn) (first cap : Array Value) (w : World), (Instr.makeFunc fn first cap).run Try.prog w = .ok (.func fn first cap) w := fun _ _ _ _ => rfl
  obtain ⟨rows, hrows⟩ : ∃ rows, rows = srL n [] 0 := ⟨_, rfl⟩
  have hall : esAll n = esL n rows n (List.replicate n 0) [] := by rw [hrows]; rfl
  have HROWS := Aside0.mk (show impl_signRows.f (n : Int) = some rows by unfold impl_signRows.f; rw [if_pos (by omega), hrows, Int.toNat_natCast])
  have HR1 := Aside0.mk (show rows.length ≤ 1000 by
    have h5 := srL_len n [] 0
    have h6 : 2 ^ n ≤ 2 ^ 6 := Nat.pow_le_pow_right (by decide) hn6
    rw [hrows]
    omega)
  have HR2 := Aside0.mk (show 0 < rows.length by rw [hrows]; exact srL_some hn1 hn6)
  have HR3 := Aside0.mk (show ∀ r ∈ rows, RowOk n r by rw [hrows]; exact srL_ok n n [] 0 (by simp) (by omega) (by omega) (fun j hj => by simp at hj))
  obtain ⟨all, hall2⟩ : ∃ all, all = esAll n := ⟨_, rfl⟩
  rw [← hall2] at hcb ⊢
  rw [← hall2] at hall
  have HALL := Aside0.mk hall
  have HCB := Aside0.mk hcb
  have HB0 := Aside0.mk hB
  have HS0 := Aside0.mk hS
  have HST := Aside0.mk hSt
  have HF := Aside0.mk hF
  have HN := Aside0.mk (And.intro hn1 hn6)
  have m1 : (1 : Int) ≤ (n : Int) := by omega
  have m6 : (n : Int) ≤ 6 := by omega
  clear hrows hall hall2 hcb hB hS hSt hF hn1 hn6
  go_enter Try.func62, Try.ntmps62
  go_wp2
  obtain ⟨wr, hwr⟩ : ∃ wr : World, wr = (w.alloc (.cells #[.int .i64 (n : Int)] 3)).alloc (.cells #[.func (.func F) #[] caps] 30) := ⟨_, rfl⟩
  have es1 : (w.alloc (.cells #[.int .i64 (n : Int)] 3)).heap.size = w.heap.size + 1 := by simp
  have hwb : Below w.heap.size w wr := by rw [hwr]; exact below_alloc (below_alloc (Below.refl _ _) _) _
  have hbx1 : Boxed wr w.heap.size 3 (.int .i64 (n : Int)) := by rw [hwr]; exact (Boxed.new w _ _).alloc _
  have hbx2 : Boxed wr (w.heap.size + 1) 30 (.func (.func F) #[] caps) := by rw [hwr, ← es1]; exact Boxed.new _ _ _
  rw [← hwr]
  clear hwr es1
  have hc1 := hbx1.cell
  have HWB := Aside0.mk hwb
  have HB1 := Aside0.mk (And.intro hbx1 hbx2)
  clear hwb hbx1 hbx2
  refine start_ (n := 8) (S := fun w' => Below wr.heap.size wr w' ∧ w'.cell? ⟨w.heap.size, 0, none⟩ = some (.int .i64 (n : Int))) (ds := [7]) #[false, false, false, false, false, false, false, false] (by kernel_rfl) rfl rfl ⟨(below_drew (Below.refl _ _)), hc1⟩ (fun hHeld => ?_)
  refine take_ (i := 0) (N := some 7) (v := ?_) (a' := ?_) #[true, false, false, false, false, false, false, false] rfl rfl (by kernel_rfl) (fun _ _ _ h => h) (Or.inl ⟨by rfl, ?_⟩) hHeld ?_ ?_
  rotate_left
  · rintro w' ⟨s0, s1⟩
    go_simp
    with_reducible rfl
  rotate_left
  · simp only [Act.put, List.setIfInBounds_toArray, List.set_cons_zero, List.set_cons_succ, i64_w, i32_w]
    rfl
  refine take_ (i := 2) (N := some 9) (v := ?_) (a' := ?_) #[true, false, true, false, false, false, false, false] rfl rfl (by kernel_rfl) (fun _ _ _ h => h) (Or.inl ⟨by rfl, ?_⟩) hHeld ?_ ?_
  rotate_left
  · rintro w' ⟨s0, s1⟩
    go_simp
    with_reducible rfl
  rotate_left
  · simp only [Act.put, List.setIfInBounds_toArray, List.set_cons_zero, List.set_cons_succ, i64_w, i32_w]
    rfl
  refine join_ (σ := Value × Nat × Nat × Value) 1 #[true, true, true, true, true, true, true, false] (fun s_ => [(8, s_.1), (10, s_.2.2.2), (4, .pointer (some ⟨s_.2.1, 0, none⟩)), (5, .pointer (some ⟨s_.2.2.1, 0, none⟩))]) (fun s_ w' => (Below wr.heap.size wr w' ∧ w'.cell? ⟨w.heap.size, 0, none⟩ = some (.int .i64 (n : Int))) ∧ ER wr w' n rows true true true true s_.1 s_.2.1 s_.2.2.1 s_.2.2.2 s_.1) ?_ ?_
  rotate_left
  · intro hJ1_3_4_5_6
    refine join_ (σ := Value × Nat × Nat × Value) 2 #[true, true, true, true, true, true, false, false] (fun s_ => [(8, s_.1), (10, s_.2.2.2), (4, .pointer (some ⟨s_.2.1, 0, none⟩)), (5, .pointer (some ⟨s_.2.2.1, 0, none⟩))]) (fun s_ w' => (Below wr.heap.size wr w' ∧ w'.cell? ⟨w.heap.size, 0, none⟩ = some (.int .i64 (n : Int))) ∧ ER wr w' n rows true true true true s_.1 s_.2.1 s_.2.2.1 s_.2.2.2 (.slice none 0 0)) ?_ ?_
    rotate_left
    · intro hJ1_3_4_5
      refine join_ (σ := Value × Nat × Nat × Value) 2 #[true, true, true, false, true, true, true, false] (fun s_ => [(8, s_.1), (4, .pointer (some ⟨s_.2.1, 0, none⟩)), (5, .pointer (some ⟨s_.2.2.1, 0, none⟩))]) (fun s_ w' => (Below wr.heap.size wr w' ∧ w'.cell? ⟨w.heap.size, 0, none⟩ = some (.int .i64 (n : Int))) ∧ ER wr w' n rows true false true true s_.1 s_.2.1 s_.2.2.1 s_.2.2.2 s_.1) ?_ ?_
      rotate_left
      · intro hJ1_4_5_6
        refine join_ (σ := Value × Nat × Nat × Value) 3 #[true, true, true, true, true, false, false, false] (fun s_ => [(8, s_.1), (10, s_.2.2.2), (4, .pointer (some ⟨s_.2.1, 0, none⟩))]) (fun s_ w' => (Below wr.heap.size wr w' ∧ w'.cell? ⟨w.heap.size, 0, none⟩ = some (.int .i64 (n : Int))) ∧ ER wr w' n rows true true true false s_.1 s_.2.1 s_.2.2.1 s_.2.2.2 (.slice none 0 0)) ?_ ?_
        rotate_left
        · intro hJ1_3_4
          refine join_ (σ := Value × Nat × Nat × Value) 3 #[true, true, true, true, false, true, false, false] (fun s_ => [(8, s_.1), (10, s_.2.2.2), (5, .pointer (some ⟨s_.2.2.1, 0, none⟩))]) (fun s_ w' => (Below wr.heap.size wr w' ∧ w'.cell? ⟨w.heap.size, 0, none⟩ = some (.int .i64 (n : Int))) ∧ ER wr w' n rows true true false true s_.1 s_.2.1 s_.2.2.1 s_.2.2.2 (.slice none 0 0)) ?_ ?_
          rotate_left
          · intro hJ1_3_5
            refine join_ (σ := Value × Nat × Nat × Value) 3 #[true, true, true, false, true, true, false, false] (fun s_ => [(8, s_.1), (4, .pointer (some ⟨s_.2.1, 0, none⟩)), (5, .pointer (some ⟨s_.2.2.1, 0, none⟩))]) (fun s_ w' => (Below wr.heap.size wr w' ∧ w'.cell? ⟨w.heap.size, 0, none⟩ = some (.int .i64 (n : Int))) ∧ ER wr w' n rows true false true true s_.1 s_.2.1 s_.2.2.1 s_.2.2.2 (.slice none 0 0)) ?_ ?_
            rotate_left
            · intro hJ1_4_5
              refine join_ (σ := Value × Nat × Nat × Value) 3 #[true, false, true, true, true, true, false, false] (fun s_ => [(10, s_.2.2.2), (4, .pointer (some ⟨s_.2.1, 0, none⟩)), (5, .pointer (some ⟨s_.2.2.1, 0, none⟩))]) (fun s_ w' => (Below wr.heap.size wr w' ∧ w'.cell? ⟨w.heap.size, 0, none⟩ = some (.int .i64 (n : Int))) ∧ ER wr w' n rows false true true true s_.1 s_.2.1 s_.2.2.1 s_.2.2.2 (.slice none 0 0)) ?_ ?_
              rotate_left
              · intro hJ3_4_5
                refine join_ (σ := Value × Nat × Nat × Value) 4 #[true, true, true, true, false, false, false, false] (fun s_ => [(8, s_.1), (10, s_.2.2.2)]) (fun s_ w' => (Below wr.heap.size wr w' ∧ w'.cell? ⟨w.heap.size, 0, none⟩ = some (.int .i64 (n : Int))) ∧ ER wr w' n rows true true false false s_.1 s_.2.1 s_.2.2.1 s_.2.2.2 (.slice none 0 0)) ?_ ?_
                rotate_left
                · intro hJ1_3
                  refine join_ (σ := Value × Nat × Nat × Value) 4 #[true, true, true, false, true, false, false, false] (fun s_ => [(8, s_.1), (4, .pointer (some ⟨s_.2.1, 0, none⟩))]) (fun s_ w' => (Below wr.heap.size wr w' ∧ w'.cell? ⟨w.heap.size, 0, none⟩ = some (.int .i64 (n : Int))) ∧ ER wr w' n rows true false true false s_.1 s_.2.1 s_.2.2.1 s_.2.2.2 (.slice none 0 0)) ?_ ?_
                  rotate_left
                  · intro hJ1_4
                    refine join_ (σ := Value × Nat × Nat × Value) 4 #[true, true, true, false, false, true, false, false] (fun s_ => [(8, s_.1), (5, .pointer (some ⟨s_.2.2.1, 0, none⟩))]) (fun s_ w' => (Below wr.heap.size wr w' ∧ w'.cell? ⟨w.heap.size, 0, none⟩ = some (.int .i64 (n : Int))) ∧ ER wr w' n rows true false false true s_.1 s_.2.1 s_.2.2.1 s_.2.2.2 (.slice none 0 0)) ?_ ?_
                    rotate_left
                    · intro hJ1_5
                      refine join_ (σ := Value × Nat × Nat × Value) 4 #[true, false, true, true, true, false, false, false] (fun s_ => [(10, s_.2.2.2), (4, .pointer (some ⟨s_.2.1, 0, none⟩))]) (fun s_ w' => (Below wr.heap.size wr w' ∧ w'.cell? ⟨w.heap.size, 0, none⟩ = some (.int .i64 (n : Int))) ∧ ER wr w' n rows false true true false s_.1 s_.2.1 s_.2.2.1 s_.2.2.2 (.slice none 0 0)) ?_ ?_
                      rotate_left
                      · intro hJ3_4
                        refine join_ (σ := Value × Nat × Nat × Value) 4 #[true, false, true, true, false, true, false, false] (fun s_ => [(10, s_.2.2.2), (5, .pointer (some ⟨s_.2.2.1, 0, none⟩))]) (fun s_ w' => (Below wr.heap.size wr w' ∧ w'.cell? ⟨w.heap.size, 0, none⟩ = some (.int .i64 (n : Int))) ∧ ER wr w' n rows false true false true s_.1 s_.2.1 s_.2.2.1 s_.2.2.2 (.slice none 0 0)) ?_ ?_
                        rotate_left
                        · intro hJ3_5
                          refine join_ (σ := Value × Nat × Nat × Value) 4 #[true, false, true, false, true, true, false, false] (fun s_ => [(4, .pointer (some ⟨s_.2.1, 0, none⟩)), (5, .pointer (some ⟨s_.2.2.1, 0, none⟩))]) (fun s_ w' => (Below wr.heap.size wr w' ∧ w'.cell? ⟨w.heap.size, 0, none⟩ = some (.int .i64 (n : Int))) ∧ ER wr w' n rows false false true true s_.1 s_.2.1 s_.2.2.1 s_.2.2.2 (.slice none 0 0)) ?_ ?_
                          rotate_left
                          · intro hJ4_5
                            refine join_ (σ := Value × Nat × Nat × Value) 5 #[true, true, true, false, false, false, false, false] (fun s_ => [(8, s_.1)]) (fun s_ w' => (Below wr.heap.size wr w' ∧ w'.cell? ⟨w.heap.size, 0, none⟩ = some (.int .i64 (n : Int))) ∧ ER wr w' n rows true false false false s_.1 s_.2.1 s_.2.2.1 s_.2.2.2 (.slice none 0 0)) ?_ ?_
                            rotate_left
                            · intro hJ1
                              refine join_ (σ := Value × Nat × Nat × Value) 5 #[true, false, true, true, false, false, false, false] (fun s_ => [(10, s_.2.2.2)]) (fun s_ w' => (Below wr.heap.size wr w' ∧ w'.cell? ⟨w.heap.size, 0, none⟩ = some (.int .i64 (n : Int))) ∧ ER wr w' n rows false true false false s_.1 s_.2.1 s_.2.2.1 s_.2.2.2 (.slice none 0 0)) ?_ ?_
                              rotate_left
                              · intro hJ3
                                refine join_ (σ := Value × Nat × Nat × Value) 5 #[true, false, true, false, true, false, false, false] (fun s_ => [(4, .pointer (some ⟨s_.2.1, 0, none⟩))]) (fun s_ w' => (Below wr.heap.size wr w' ∧ w'.cell? ⟨w.heap.size, 0, none⟩ = some (.int .i64 (n : Int))) ∧ ER wr w' n rows false false true false s_.1 s_.2.1 s_.2.2.1 s_.2.2.2 (.slice none 0 0)) ?_ ?_
                                rotate_left
                                · intro hJ4
                                  refine join_ (σ := Value × Nat × Nat × Value) 5 #[true, false, true, false, false, true, false, false] (fun s_ => [(5, .pointer (some ⟨s_.2.2.1, 0, none⟩))]) (fun s_ w' => (Below wr.heap.size wr w' ∧ w'.cell? ⟨w.heap.size, 0, none⟩ = some (.int .i64 (n : Int))) ∧ ER wr w' n rows false false false true s_.1 s_.2.1 s_.2.2.1 s_.2.2.2 (.slice none 0 0)) ?_ ?_
                                  rotate_left
                                  · intro hJ5
                                    refine four_ (i := 1) (j := 3) (k := 4) (m := 5) (Ni := some 8) (Nj := some 10) (Nk := some 4) (Nm := some 5) #[true, true, true, false, false, false, false, false] #[true, false, true, true, false, false, false, false] #[true, false, true, false, true, false, false, false] #[true, false, true, false, false, true, false, false] rfl rfl rfl rfl rfl rfl rfl rfl (by kernel_rfl) (by decide) (by decide) (by decide) (by decide) (fun K hK => ?_) (fun K hK => ?_) (fun K hK => ?_) (fun K hK => ?_)
                                    · skip
                                      have HE := Aside0.mk (ER.start (n := n) (rows := rows) hHeld.1 (.slice none 0 0) 0 0 (.slice none 0 0) (.slice none 0 0))
                                      refine goes_ Try.func111 (by kernel_rfl) rfl #[.int .i64 (n : Int)] (by rfl) rfl rfl (by simp only [List.map_toArray, List.map_cons, List.map_nil]; rfl) ?_
                                      with_reducible refine (impl_signRows.calls _ rows _ HROWS.out).mono ?_
                                      rintro e w4 ⟨v8n, rfl, hS, hb⟩
                                      refine ⟨_, rfl, ?_⟩
                                      have HE1 := Aside0.mk (HE.out.step1 hS hb)
                                      refine hK.out _ _ ⟨HE1.out.below, pw_cell_below HE1.out.below hc1⟩ (fun hHeld => ?_)
                                      clear hK K
                                      refine norm_ (a' := ?_) ?_ ?_
                                      rotate_left
                                      · show Act.put _ (some 8) _ = _
                                        simp only [Act.put, List.setIfInBounds_toArray, List.set_cons_zero, List.set_cons_succ, i64_w, i32_w]
                                        rfl
                                      exact norm_ (by first | (simp only [putAll, Act.put, List.setIfInBounds_toArray, List.set_cons_zero, List.set_cons_succ]; done) | (simp only [putAll, Act.put, List.setIfInBounds_toArray, List.set_cons_zero, List.set_cons_succ]; rfl)) (hJ1 (v8n, 0, 0, (.slice none 0 0)) _ ⟨hHeld, HE1.out⟩)
                                    · skip
                                      have HE := Aside0.mk (ER.start (n := n) (rows := rows) hHeld.1 (.slice none 0 0) 0 0 (.slice none 0 0) (.slice none 0 0))
                                      refine Kd.R_make_step (Kd.int .i64) (w0 := wr) wr.heap.size 3 (by rfl) (N := 10) rfl 39 (.tmp 9) (.tmp 9) rfl (n : Int) rfl rfl Try.underlying39 (.int .i64 0) 8 info3 rfl (by decide) (by decide) 0 (ok := fun _ => True) (okp := fun _ => True) rfl (fun _ h => h) trivial (by omega) (by rw [Int.toNat_natCast]; omega) hHeld.1 hHeld.1.size ?_
                                      intro v10n w4 hR hb hg hnew
                                      rw [Int.toNat_natCast] at hR
                                      have HE1 := Aside0.mk (HE.out.step3 hR hg hnew)
                                      refine hK.out _ _ ⟨HE1.out.below, pw_cell_below HE1.out.below hc1⟩ (fun hHeld => ?_)
                                      clear hK K
                                      refine norm_ (a' := ?_) ?_ ?_
                                      rotate_left
                                      · show Act.put _ (some 10) _ = _
                                        simp only [Act.put, List.setIfInBounds_toArray, List.set_cons_zero, List.set_cons_succ, i64_w, i32_w]
                                        rfl
                                      exact norm_ (by first | (simp only [putAll, Act.put, List.setIfInBounds_toArray, List.set_cons_zero, List.set_cons_succ]; done) | (simp only [putAll, Act.put, List.setIfInBounds_toArray, List.set_cons_zero, List.set_cons_succ]; rfl)) (hJ3 ((.slice none 0 0), 0, 0, v10n) _ ⟨hHeld, HE1.out⟩)
                                    · skip
                                      have HE := Aside0.mk (ER.start (n := n) (rows := rows) hHeld.1 (.slice none 0 0) 0 0 (.slice none 0 0) (.slice none 0 0))
                                      refine value_ (w1 := ?_) (v := ?_) (by rfl) rfl ?_ ?_
                                      rotate_left 2
                                      · go_simp
                                        constructor
                                        · rfl
                                        · rfl
                                      have HE1 := Aside0.mk HE.out.step4
                                      refine hK.out _ _ ⟨HE1.out.below, pw_cell_below HE1.out.below hc1⟩ (fun hHeld => ?_)
                                      clear hK K
                                      refine norm_ (a' := ?_) ?_ ?_
                                      rotate_left
                                      · show Act.put _ (some 4) _ = _
                                        simp only [Act.put, List.setIfInBounds_toArray, List.set_cons_zero, List.set_cons_succ, i64_w, i32_w]
                                        rfl
                                      exact norm_ (by first | (simp only [putAll, Act.put, List.setIfInBounds_toArray, List.set_cons_zero, List.set_cons_succ]; done) | (simp only [putAll, Act.put, List.setIfInBounds_toArray, List.set_cons_zero, List.set_cons_succ]; rfl)) (hJ4 ((.slice none 0 0), _, 0, (.slice none 0 0)) _ ⟨hHeld, HE1.out⟩)
                                    · skip
                                      have HE := Aside0.mk (ER.start (n := n) (rows := rows) hHeld.1 (.slice none 0 0) 0 0 (.slice none 0 0) (.slice none 0 0))
                                      refine value_ (w1 := ?_) (v := ?_) (by rfl) rfl ?_ ?_
                                      rotate_left 2
                                      · go_simp
                                        constructor
                                        · rfl
                                        · rfl
                                      have HE1 := Aside0.mk HE.out.step5
                                      refine hK.out _ _ ⟨HE1.out.below, pw_cell_below HE1.out.below hc1⟩ (fun hHeld => ?_)
                                      clear hK K
                                      refine norm_ (a' := ?_) ?_ ?_
                                      rotate_left
                                      · show Act.put _ (some 5) _ = _
                                        simp only [Act.put, List.setIfInBounds_toArray, List.set_cons_zero, List.set_cons_succ, i64_w, i32_w]
                                        rfl
                                      exact norm_ (by first | (simp only [putAll, Act.put, List.setIfInBounds_toArray, List.set_cons_zero, List.set_cons_succ]; done) | (simp only [putAll, Act.put, List.setIfInBounds_toArray, List.set_cons_zero, List.set_cons_succ]; rfl)) (hJ5 ((.slice none 0 0), 0, _, (.slice none 0 0)) _ ⟨hHeld, HE1.out⟩)
                                  · skip
                                    rintro ⟨v8, g4, g5, v10⟩ w3 ⟨hHeld, hE_⟩
                                    have HE := Aside0.mk hE_
                                    clear hE_
                                    refine norm_ (a' := ?_) ?_ ?_
                                    rotate_left
                                    · simp only [putAll, Act.put, List.setIfInBounds_toArray, List.set_cons_zero, List.set_cons_succ]
                                      rfl
                                    refine three_ (i := 1) (j := 3) (k := 4) (Ni := some 8) (Nj := some 10) (Nk := some 4) #[true, true, true, false, false, true, false, false] #[true, false, true, true, false, true, false, false] #[true, false, true, false, true, true, false, false] rfl rfl rfl rfl rfl rfl (by kernel_rfl) (by decide) (by decide) (by decide) (fun K hK => ?_) (fun K hK => ?_) (fun K hK => ?_)
                                    · skip
                                      refine goes_ Try.func111 (by kernel_rfl) rfl #[.int .i64 (n : Int)] (by rfl) rfl rfl (by simp only [List.map_toArray, List.map_cons, List.map_nil]; rfl) ?_
                                      with_reducible refine (impl_signRows.calls _ rows _ HROWS.out).mono ?_
                                      rintro e w4 ⟨v8n, rfl, hS, hb⟩
                                      refine ⟨_, rfl, ?_⟩
                                      have HE1 := Aside0.mk (HE.out.step1 hS hb)
                                      refine hK.out _ _ ⟨HE1.out.below, pw_cell_below HE1.out.below hc1⟩ (fun hHeld => ?_)
                                      clear hK K
                                      refine norm_ (a' := ?_) ?_ ?_
                                      rotate_left
                                      · show Act.put _ (some 8) _ = _
                                        simp only [Act.put, List.setIfInBounds_toArray, List.set_cons_zero, List.set_cons_succ, i64_w, i32_w]
                                        rfl
                                      exact norm_ (by first | (simp only [putAll, Act.put, List.setIfInBounds_toArray, List.set_cons_zero, List.set_cons_succ]; done) | (simp only [putAll, Act.put, List.setIfInBounds_toArray, List.set_cons_zero, List.set_cons_succ]; rfl)) (hJ1_5 (v8n, g4, g5, v10) _ ⟨hHeld, HE1.out⟩)
                                    · skip
                                      refine Kd.R_make_step (Kd.int .i64) (w0 := wr) wr.heap.size 3 (by rfl) (N := 10) rfl 39 (.tmp 9) (.tmp 9) rfl (n : Int) rfl rfl Try.underlying39 (.int .i64 0) 8 info3 rfl (by decide) (by decide) 0 (ok := fun _ => True) (okp := fun _ => True) rfl (fun _ h => h) trivial (by omega) (by rw [Int.toNat_natCast]; omega) hHeld.1 hHeld.1.size ?_
                                      intro v10n w4 hR hb hg hnew
                                      rw [Int.toNat_natCast] at hR
                                      have HE1 := Aside0.mk (HE.out.step3 hR hg hnew)
                                      refine hK.out _ _ ⟨HE1.out.below, pw_cell_below HE1.out.below hc1⟩ (fun hHeld => ?_)
                                      clear hK K
                                      refine norm_ (a' := ?_) ?_ ?_
                                      rotate_left
                                      · show Act.put _ (some 10) _ = _
                                        simp only [Act.put, List.setIfInBounds_toArray, List.set_cons_zero, List.set_cons_succ, i64_w, i32_w]
                                        rfl
                                      exact norm_ (by first | (simp only [putAll, Act.put, List.setIfInBounds_toArray, List.set_cons_zero, List.set_cons_succ]; done) | (simp only [putAll, Act.put, List.setIfInBounds_toArray, List.set_cons_zero, List.set_cons_succ]; rfl)) (hJ3_5 (v8, g4, g5, v10n) _ ⟨hHeld, HE1.out⟩)
                                    · skip
                                      refine value_ (w1 := ?_) (v := ?_) (by rfl) rfl ?_ ?_
                                      rotate_left 2
                                      · go_simp
                                        constructor
                                        · rfl
                                        · rfl
                                      have HE1 := Aside0.mk HE.out.step4
                                      refine hK.out _ _ ⟨HE1.out.below, pw_cell_below HE1.out.below hc1⟩ (fun hHeld => ?_)
                                      clear hK K
                                      refine norm_ (a' := ?_) ?_ ?_
                                      rotate_left
                                      · show Act.put _ (some 4) _ = _
                                        simp only [Act.put, List.setIfInBounds_toArray, List.set_cons_zero, List.set_cons_succ, i64_w, i32_w]
                                        rfl
                                      exact norm_ (by first | (simp only [putAll, Act.put, List.setIfInBounds_toArray, List.set_cons_zero, List.set_cons_succ]; done) | (simp only [putAll, Act.put, List.setIfInBounds_toArray, List.set_cons_zero, List.set_cons_succ]; rfl)) (hJ4_5 (v8, _, g5, v10) _ ⟨hHeld, HE1.out⟩)
                                · skip
                                  rintro ⟨v8, g4, g5, v10⟩ w3 ⟨hHeld, hE_⟩
                                  have HE := Aside0.mk hE_
                                  clear hE_
                                  refine norm_ (a' := ?_) ?_ ?_
                                  rotate_left
                                  · simp only [putAll, Act.put, List.setIfInBounds_toArray, List.set_cons_zero, List.set_cons_succ]
                                    rfl
                                  refine three_ (i := 1) (j := 3) (k := 5) (Ni := some 8) (Nj := some 10) (Nk := some 5) #[true, true, true, false, true, false, false, false] #[true, false, true, true, true, false, false, false] #[true, false, true, false, true, true, false, false] rfl rfl rfl rfl rfl rfl (by kernel_rfl) (by decide) (by decide) (by decide) (fun K hK => ?_) (fun K hK => ?_) (fun K hK => ?_)
                                  · skip
                                    refine goes_ Try.func111 (by kernel_rfl) rfl #[.int .i64 (n : Int)] (by rfl) rfl rfl (by simp only [List.map_toArray, List.map_cons, List.map_nil]; rfl) ?_
                                    with_reducible refine (impl_signRows.calls _ rows _ HROWS.out).mono ?_
                                    rintro e w4 ⟨v8n, rfl, hS, hb⟩
                                    refine ⟨_, rfl, ?_⟩
                                    have HE1 := Aside0.mk (HE.out.step1 hS hb)
                                    refine hK.out _ _ ⟨HE1.out.below, pw_cell_below HE1.out.below hc1⟩ (fun hHeld => ?_)
                                    clear hK K
                                    refine norm_ (a' := ?_) ?_ ?_
                                    rotate_left
                                    · show Act.put _ (some 8) _ = _
                                      simp only [Act.put, List.setIfInBounds_toArray, List.set_cons_zero, List.set_cons_succ, i64_w, i32_w]
                                      rfl
                                    exact norm_ (by first | (simp only [putAll, Act.put, List.setIfInBounds_toArray, List.set_cons_zero, List.set_cons_succ]; done) | (simp only [putAll, Act.put, List.setIfInBounds_toArray, List.set_cons_zero, List.set_cons_succ]; rfl)) (hJ1_4 (v8n, g4, g5, v10) _ ⟨hHeld, HE1.out⟩)
                                  · skip
                                    refine Kd.R_make_step (Kd.int .i64) (w0 := wr) wr.heap.size 3 (by rfl) (N := 10) rfl 39 (.tmp 9) (.tmp 9) rfl (n : Int) rfl rfl Try.underlying39 (.int .i64 0) 8 info3 rfl (by decide) (by decide) 0 (ok := fun _ => True) (okp := fun _ => True) rfl (fun _ h => h) trivial (by omega) (by rw [Int.toNat_natCast]; omega) hHeld.1 hHeld.1.size ?_
                                    intro v10n w4 hR hb hg hnew
                                    rw [Int.toNat_natCast] at hR
                                    have HE1 := Aside0.mk (HE.out.step3 hR hg hnew)
                                    refine hK.out _ _ ⟨HE1.out.below, pw_cell_below HE1.out.below hc1⟩ (fun hHeld => ?_)
                                    clear hK K
                                    refine norm_ (a' := ?_) ?_ ?_
                                    rotate_left
                                    · show Act.put _ (some 10) _ = _
                                      simp only [Act.put, List.setIfInBounds_toArray, List.set_cons_zero, List.set_cons_succ, i64_w, i32_w]
                                      rfl
                                    exact norm_ (by first | (simp only [putAll, Act.put, List.setIfInBounds_toArray, List.set_cons_zero, List.set_cons_succ]; done) | (simp only [putAll, Act.put, List.setIfInBounds_toArray, List.set_cons_zero, List.set_cons_succ]; rfl)) (hJ3_4 (v8, g4, g5, v10n) _ ⟨hHeld, HE1.out⟩)
                                  · skip
                                    refine value_ (w1 := ?_) (v := ?_) (by rfl) rfl ?_ ?_
                                    rotate_left 2
                                    · go_simp
                                      constructor
                                      · rfl
                                      · rfl
                                    have HE1 := Aside0.mk HE.out.step5
                                    refine hK.out _ _ ⟨HE1.out.below, pw_cell_below HE1.out.below hc1⟩ (fun hHeld => ?_)
                                    clear hK K
                                    refine norm_ (a' := ?_) ?_ ?_
                                    rotate_left
                                    · show Act.put _ (some 5) _ = _
                                      simp only [Act.put, List.setIfInBounds_toArray, List.set_cons_zero, List.set_cons_succ, i64_w, i32_w]
                                      rfl
                                    exact norm_ (by first | (simp only [putAll, Act.put, List.setIfInBounds_toArray, List.set_cons_zero, List.set_cons_succ]; done) | (simp only [putAll, Act.put, List.setIfInBounds_toArray, List.set_cons_zero, List.set_cons_succ]; rfl)) (hJ4_5 (v8, g4, _, v10) _ ⟨hHeld, HE1.out⟩)
                              · skip
                                rintro ⟨v8, g4, g5, v10⟩ w3 ⟨hHeld, hE_⟩
                                have HE := Aside0.mk hE_
                                clear hE_
                                refine norm_ (a' := ?_) ?_ ?_
                                rotate_left
                                · simp only [putAll, Act.put, List.setIfInBounds_toArray, List.set_cons_zero, List.set_cons_succ]
                                  rfl
                                refine three_ (i := 1) (j := 4) (k := 5) (Ni := some 8) (Nj := some 4) (Nk := some 5) #[true, true, true, true, false, false, false, false] #[true, false, true, true, true, false, false, false] #[true, false, true, true, false, true, false, false] rfl rfl rfl rfl rfl rfl (by kernel_rfl) (by decide) (by decide) (by decide) (fun K hK => ?_) (fun K hK => ?_) (fun K hK => ?_)
                                · skip
                                  refine goes_ Try.func111 (by kernel_rfl) rfl #[.int .i64 (n : Int)] (by rfl) rfl rfl (by simp only [List.map_toArray, List.map_cons, List.map_nil]; rfl) ?_
                                  with_reducible refine (impl_signRows.calls _ rows _ HROWS.out).mono ?_
                                  rintro e w4 ⟨v8n, rfl, hS, hb⟩
                                  refine ⟨_, rfl, ?_⟩
                                  have HE1 := Aside0.mk (HE.out.step1 hS hb)
                                  refine hK.out _ _ ⟨HE1.out.below, pw_cell_below HE1.out.below hc1⟩ (fun hHeld => ?_)
                                  clear hK K
                                  refine norm_ (a' := ?_) ?_ ?_
                                  rotate_left
                                  · show Act.put _ (some 8) _ = _
                                    simp only [Act.put, List.setIfInBounds_toArray, List.set_cons_zero, List.set_cons_succ, i64_w, i32_w]
                                    rfl
                                  exact norm_ (by first | (simp only [putAll, Act.put, List.setIfInBounds_toArray, List.set_cons_zero, List.set_cons_succ]; done) | (simp only [putAll, Act.put, List.setIfInBounds_toArray, List.set_cons_zero, List.set_cons_succ]; rfl)) (hJ1_3 (v8n, g4, g5, v10) _ ⟨hHeld, HE1.out⟩)
                                · skip
                                  refine value_ (w1 := ?_) (v := ?_) (by rfl) rfl ?_ ?_
                                  rotate_left 2
                                  · go_simp
                                    constructor
                                    · rfl
                                    · rfl
                                  have HE1 := Aside0.mk HE.out.step4
                                  refine hK.out _ _ ⟨HE1.out.below, pw_cell_below HE1.out.below hc1⟩ (fun hHeld => ?_)
                                  clear hK K
                                  refine norm_ (a' := ?_) ?_ ?_
                                  rotate_left
                                  · show Act.put _ (some 4) _ = _
                                    simp only [Act.put, List.setIfInBounds_toArray, List.set_cons_zero, List.set_cons_succ, i64_w, i32_w]
                                    rfl
                                  exact norm_ (by first | (simp only [putAll, Act.put, List.setIfInBounds_toArray, List.set_cons_zero, List.set_cons_succ]; done) | (simp only [putAll, Act.put, List.setIfInBounds_toArray, List.set_cons_zero, List.set_cons_succ]; rfl)) (hJ3_4 (v8, _, g5, v10) _ ⟨hHeld, HE1.out⟩)
                                · skip
                                  refine value_ (w1 := ?_) (v := ?_) (by rfl) rfl ?_ ?_
                                  rotate_left 2
                                  · go_simp
                                    constructor
                                    · rfl
                                    · rfl
                                  have HE1 := Aside0.mk HE.out.step5
                                  refine hK.out _ _ ⟨HE1.out.below, pw_cell_below HE1.out.below hc1⟩ (fun hHeld => ?_)
                                  clear hK K
                                  refine norm_ (a' := ?_) ?_ ?_
                                  rotate_left
                                  · show Act.put _ (some 5) _ = _
                                    simp only [Act.put, List.setIfInBounds_toArray, List.set_cons_zero, List.set_cons_succ, i64_w, i32_w]
                                    rfl
                                  exact norm_ (by first | (simp only [putAll, Act.put, List.setIfInBounds_toArray, List.set_cons_zero, List.set_cons_succ]; done) | (simp only [putAll, Act.put, List.setIfInBounds_toArray, List.set_cons_zero, List.set_cons_succ]; rfl)) (hJ3_5 (v8, g4, _, v10) _ ⟨hHeld, HE1.out⟩)
                            · skip
                              rintro ⟨v8, g4, g5, v10⟩ w3 ⟨hHeld, hE_⟩
                              have HE := Aside0.mk hE_
                              clear hE_
                              refine norm_ (a' := ?_) ?_ ?_
                              rotate_left
                              · simp only [putAll, Act.put, List.setIfInBounds_toArray, List.set_cons_zero, List.set_cons_succ]
                                rfl
                              refine three_ (i := 3) (j := 4) (k := 5) (Ni := some 10) (Nj := some 4) (Nk := some 5) #[true, true, true, true, false, false, false, false] #[true, true, true, false, true, false, false, false] #[true, true, true, false, false, true, false, false] rfl rfl rfl rfl rfl rfl (by kernel_rfl) (by decide) (by decide) (by decide) (fun K hK => ?_) (fun K hK => ?_) (fun K hK => ?_)
                              · skip
                                refine Kd.R_make_step (Kd.int .i64) (w0 := wr) wr.heap.size 3 (by rfl) (N := 10) rfl 39 (.tmp 9) (.tmp 9) rfl (n : Int) rfl rfl Try.underlying39 (.int .i64 0) 8 info3 rfl (by decide) (by decide) 0 (ok := fun _ => True) (okp := fun _ => True) rfl (fun _ h => h) trivial (by omega) (by rw [Int.toNat_natCast]; omega) hHeld.1 hHeld.1.size ?_
                                intro v10n w4 hR hb hg hnew
                                rw [Int.toNat_natCast] at hR
                                have HE1 := Aside0.mk (HE.out.step3 hR hg hnew)
                                refine hK.out _ _ ⟨HE1.out.below, pw_cell_below HE1.out.below hc1⟩ (fun hHeld => ?_)
                                clear hK K
                                refine norm_ (a' := ?_) ?_ ?_
                                rotate_left
                                · show Act.put _ (some 10) _ = _
                                  simp only [Act.put, List.setIfInBounds_toArray, List.set_cons_zero, List.set_cons_succ, i64_w, i32_w]
                                  rfl
                                exact norm_ (by first | (simp only [putAll, Act.put, List.setIfInBounds_toArray, List.set_cons_zero, List.set_cons_succ]; done) | (simp only [putAll, Act.put, List.setIfInBounds_toArray, List.set_cons_zero, List.set_cons_succ]; rfl)) (hJ1_3 (v8, g4, g5, v10n) _ ⟨hHeld, HE1.out⟩)
                              · skip
                                refine value_ (w1 := ?_) (v := ?_) (by rfl) rfl ?_ ?_
                                rotate_left 2
                                · go_simp
                                  constructor
                                  · rfl
                                  · rfl
                                have HE1 := Aside0.mk HE.out.step4
                                refine hK.out _ _ ⟨HE1.out.below, pw_cell_below HE1.out.below hc1⟩ (fun hHeld => ?_)
                                clear hK K
                                refine norm_ (a' := ?_) ?_ ?_
                                rotate_left
                                · show Act.put _ (some 4) _ = _
                                  simp only [Act.put, List.setIfInBounds_toArray, List.set_cons_zero, List.set_cons_succ, i64_w, i32_w]
                                  rfl
                                exact norm_ (by first | (simp only [putAll, Act.put, List.setIfInBounds_toArray, List.set_cons_zero, List.set_cons_succ]; done) | (simp only [putAll, Act.put, List.setIfInBounds_toArray, List.set_cons_zero, List.set_cons_succ]; rfl)) (hJ1_4 (v8, _, g5, v10) _ ⟨hHeld, HE1.out⟩)
                              · skip
                                refine value_ (w1 := ?_) (v := ?_) (by rfl) rfl ?_ ?_
                                rotate_left 2
                                · go_simp
                                  constructor
                                  · rfl
                                  · rfl
                                have HE1 := Aside0.mk HE.out.step5
                                refine hK.out _ _ ⟨HE1.out.below, pw_cell_below HE1.out.below hc1⟩ (fun hHeld => ?_)
                                clear hK K
                                refine norm_ (a' := ?_) ?_ ?_
                                rotate_left
                                · show Act.put _ (some 5) _ = _
                                  simp only [Act.put, List.setIfInBounds_toArray, List.set_cons_zero, List.set_cons_succ, i64_w, i32_w]
                                  rfl
                                exact norm_ (by first | (simp only [putAll, Act.put, List.setIfInBounds_toArray, List.set_cons_zero, List.set_cons_succ]; done) | (simp only [putAll, Act.put, List.setIfInBounds_toArray, List.set_cons_zero, List.set_cons_succ]; rfl)) (hJ1_5 (v8, g4, _, v10) _ ⟨hHeld, HE1.out⟩)
                          · skip
                            rintro ⟨v8, g4, g5, v10⟩ w3 ⟨hHeld, hE_⟩
                            have HE := Aside0.mk hE_
                            clear hE_
                            refine norm_ (a' := ?_) ?_ ?_
                            rotate_left
                            · simp only [putAll, Act.put, List.setIfInBounds_toArray, List.set_cons_zero, List.set_cons_succ]
                              rfl
                            refine two_ (i := 1) (j := 3) (Ni := some 8) (Nj := some 10) #[true, true, true, false, true, true, false, false] #[true, false, true, true, true, true, false, false] rfl rfl rfl rfl (by kernel_rfl) (by decide) (by decide) (fun K hK => ?_) (fun K hK => ?_)
                            · skip
                              refine goes_ Try.func111 (by kernel_rfl) rfl #[.int .i64 (n : Int)] (by rfl) rfl rfl (by simp only [List.map_toArray, List.map_cons, List.map_nil]; rfl) ?_
                              with_reducible refine (impl_signRows.calls _ rows _ HROWS.out).mono ?_
                              rintro e w4 ⟨v8n, rfl, hS, hb⟩
                              refine ⟨_, rfl, ?_⟩
                              have HE1 := Aside0.mk (HE.out.step1 hS hb)
                              refine hK.out _ _ ⟨HE1.out.below, pw_cell_below HE1.out.below hc1⟩ (fun hHeld => ?_)
                              clear hK K
                              refine norm_ (a' := ?_) ?_ ?_
                              rotate_left
                              · show Act.put _ (some 8) _ = _
                                simp only [Act.put, List.setIfInBounds_toArray, List.set_cons_zero, List.set_cons_succ, i64_w, i32_w]
                                rfl
                              exact norm_ (by first | (simp only [putAll, Act.put, List.setIfInBounds_toArray, List.set_cons_zero, List.set_cons_succ]; done) | (simp only [putAll, Act.put, List.setIfInBounds_toArray, List.set_cons_zero, List.set_cons_succ]; rfl)) (hJ1_4_5 (v8n, g4, g5, v10) _ ⟨hHeld, HE1.out⟩)
                            · skip
                              refine Kd.R_make_step (Kd.int .i64) (w0 := wr) wr.heap.size 3 (by rfl) (N := 10) rfl 39 (.tmp 9) (.tmp 9) rfl (n : Int) rfl rfl Try.underlying39 (.int .i64 0) 8 info3 rfl (by decide) (by decide) 0 (ok := fun _ => True) (okp := fun _ => True) rfl (fun _ h => h) trivial (by omega) (by rw [Int.toNat_natCast]; omega) hHeld.1 hHeld.1.size ?_
                              intro v10n w4 hR hb hg hnew
                              rw [Int.toNat_natCast] at hR
                              have HE1 := Aside0.mk (HE.out.step3 hR hg hnew)
                              refine hK.out _ _ ⟨HE1.out.below, pw_cell_below HE1.out.below hc1⟩ (fun hHeld => ?_)
                              clear hK K
                              refine norm_ (a' := ?_) ?_ ?_
                              rotate_left
                              · show Act.put _ (some 10) _ = _
                                simp only [Act.put, List.setIfInBounds_toArray, List.set_cons_zero, List.set_cons_succ, i64_w, i32_w]
                                rfl
                              exact norm_ (by first | (simp only [putAll, Act.put, List.setIfInBounds_toArray, List.set_cons_zero, List.set_cons_succ]; done) | (simp only [putAll, Act.put, List.setIfInBounds_toArray, List.set_cons_zero, List.set_cons_succ]; rfl)) (hJ3_4_5 (v8, g4, g5, v10n) _ ⟨hHeld, HE1.out⟩)
                        · skip
                          rintro ⟨v8, g4, g5, v10⟩ w3 ⟨hHeld, hE_⟩
                          have HE := Aside0.mk hE_
                          clear hE_
                          refine norm_ (a' := ?_) ?_ ?_
                          rotate_left
                          · simp only [putAll, Act.put, List.setIfInBounds_toArray, List.set_cons_zero, List.set_cons_succ]
                            rfl
                          refine two_ (i := 1) (j := 4) (Ni := some 8) (Nj := some 4) #[true, true, true, true, false, true, false, false] #[true, false, true, true, true, true, false, false] rfl rfl rfl rfl (by kernel_rfl) (by decide) (by decide) (fun K hK => ?_) (fun K hK => ?_)
                          · skip
                            refine goes_ Try.func111 (by kernel_rfl) rfl #[.int .i64 (n : Int)] (by rfl) rfl rfl (by simp only [List.map_toArray, List.map_cons, List.map_nil]; rfl) ?_
                            with_reducible refine (impl_signRows.calls _ rows _ HROWS.out).mono ?_
                            rintro e w4 ⟨v8n, rfl, hS, hb⟩
                            refine ⟨_, rfl, ?_⟩
                            have HE1 := Aside0.mk (HE.out.step1 hS hb)
                            refine hK.out _ _ ⟨HE1.out.below, pw_cell_below HE1.out.below hc1⟩ (fun hHeld => ?_)
                            clear hK K
                            refine norm_ (a' := ?_) ?_ ?_
                            rotate_left
                            · show Act.put _ (some 8) _ = _
                              simp only [Act.put, List.setIfInBounds_toArray, List.set_cons_zero, List.set_cons_succ, i64_w, i32_w]
                              rfl
                            exact norm_ (by first | (simp only [putAll, Act.put, List.setIfInBounds_toArray, List.set_cons_zero, List.set_cons_succ]; done) | (simp only [putAll, Act.put, List.setIfInBounds_toArray, List.set_cons_zero, List.set_cons_succ]; rfl)) (hJ1_3_5 (v8n, g4, g5, v10) _ ⟨hHeld, HE1.out⟩)
                          · skip
                            refine value_ (w1 := ?_) (v := ?_) (by rfl) rfl ?_ ?_
                            rotate_left 2
                            · go_simp
                              constructor
                              · rfl
                              · rfl
                            have HE1 := Aside0.mk HE.out.step4
                            refine hK.out _ _ ⟨HE1.out.below, pw_cell_below HE1.out.below hc1⟩ (fun hHeld => ?_)
                            clear hK K
                            refine norm_ (a' := ?_) ?_ ?_
                            rotate_left
                            · show Act.put _ (some 4) _ = _
                              simp only [Act.put, List.setIfInBounds_toArray, List.set_cons_zero, List.set_cons_succ, i64_w, i32_w]
                              rfl
                            exact norm_ (by first | (simp only [putAll, Act.put, List.setIfInBounds_toArray, List.set_cons_zero, List.set_cons_succ]; done) | (simp only [putAll, Act.put, List.setIfInBounds_toArray, List.set_cons_zero, List.set_cons_succ]; rfl)) (hJ3_4_5 (v8, _, g5, v10) _ ⟨hHeld, HE1.out⟩)
                      · skip
                        rintro ⟨v8, g4, g5, v10⟩ w3 ⟨hHeld, hE_⟩
                        have HE := Aside0.mk hE_
                        clear hE_
                        refine norm_ (a' := ?_) ?_ ?_
                        rotate_left
                        · simp only [putAll, Act.put, List.setIfInBounds_toArray, List.set_cons_zero, List.set_cons_succ]
                          rfl
                        refine two_ (i := 1) (j := 5) (Ni := some 8) (Nj := some 5) #[true, true, true, true, true, false, false, false] #[true, false, true, true, true, true, false, false] rfl rfl rfl rfl (by kernel_rfl) (by decide) (by decide) (fun K hK => ?_) (fun K hK => ?_)
                        · skip
                          refine goes_ Try.func111 (by kernel_rfl) rfl #[.int .i64 (n : Int)] (by rfl) rfl rfl (by simp only [List.map_toArray, List.map_cons, List.map_nil]; rfl) ?_
                          with_reducible refine (impl_signRows.calls _ rows _ HROWS.out).mono ?_
                          rintro e w4 ⟨v8n, rfl, hS, hb⟩
                          refine ⟨_, rfl, ?_⟩
                          have HE1 := Aside0.mk (HE.out.step1 hS hb)
                          refine hK.out _ _ ⟨HE1.out.below, pw_cell_below HE1.out.below hc1⟩ (fun hHeld => ?_)
                          clear hK K
                          refine norm_ (a' := ?_) ?_ ?_
                          rotate_left
                          · show Act.put _ (some 8) _ = _
                            simp only [Act.put, List.setIfInBounds_toArray, List.set_cons_zero, List.set_cons_succ, i64_w, i32_w]
                            rfl
                          exact norm_ (by first | (simp only [putAll, Act.put, List.setIfInBounds_toArray, List.set_cons_zero, List.set_cons_succ]; done) | (simp only [putAll, Act.put, List.setIfInBounds_toArray, List.set_cons_zero, List.set_cons_succ]; rfl)) (hJ1_3_4 (v8n, g4, g5, v10) _ ⟨hHeld, HE1.out⟩)
                        · skip
                          refine value_ (w1 := ?_) (v := ?_) (by rfl) rfl ?_ ?_
                          rotate_left 2
                          · go_simp
                            constructor
                            · rfl
                            · rfl
                          have HE1 := Aside0.mk HE.out.step5
                          refine hK.out _ _ ⟨HE1.out.below, pw_cell_below HE1.out.below hc1⟩ (fun hHeld => ?_)
                          clear hK K
                          refine norm_ (a' := ?_) ?_ ?_
                          rotate_left
                          · show Act.put _ (some 5) _ = _
                            simp only [Act.put, List.setIfInBounds_toArray, List.set_cons_zero, List.set_cons_succ, i64_w, i32_w]
                            rfl
                          exact norm_ (by first | (simp only [putAll, Act.put, List.setIfInBounds_toArray, List.set_cons_zero, List.set_cons_succ]; done) | (simp only [putAll, Act.put, List.setIfInBounds_toArray, List.set_cons_zero, List.set_cons_succ]; rfl)) (hJ3_4_5 (v8, g4, _, v10) _ ⟨hHeld, HE1.out⟩)
                    · skip
                      rintro ⟨v8, g4, g5, v10⟩ w3 ⟨hHeld, hE_⟩
                      have HE := Aside0.mk hE_
                      clear hE_
                      refine norm_ (a' := ?_) ?_ ?_
                      rotate_left
                      · simp only [putAll, Act.put, List.setIfInBounds_toArray, List.set_cons_zero, List.set_cons_succ]
                        rfl
                      refine two_ (i := 3) (j := 4) (Ni := some 10) (Nj := some 4) #[true, true, true, true, false, true, false, false] #[true, true, true, false, true, true, false, false] rfl rfl rfl rfl (by kernel_rfl) (by decide) (by decide) (fun K hK => ?_) (fun K hK => ?_)
                      · skip
                        refine Kd.R_make_step (Kd.int .i64) (w0 := wr) wr.heap.size 3 (by rfl) (N := 10) rfl 39 (.tmp 9) (.tmp 9) rfl (n : Int) rfl rfl Try.underlying39 (.int .i64 0) 8 info3 rfl (by decide) (by decide) 0 (ok := fun _ => True) (okp := fun _ => True) rfl (fun _ h => h) trivial (by omega) (by rw [Int.toNat_natCast]; omega) hHeld.1 hHeld.1.size ?_
                        intro v10n w4 hR hb hg hnew
                        rw [Int.toNat_natCast] at hR
                        have HE1 := Aside0.mk (HE.out.step3 hR hg hnew)
                        refine hK.out _ _ ⟨HE1.out.below, pw_cell_below HE1.out.below hc1⟩ (fun hHeld => ?_)
                        clear hK K
                        refine norm_ (a' := ?_) ?_ ?_
                        rotate_left
                        · show Act.put _ (some 10) _ = _
                          simp only [Act.put, List.setIfInBounds_toArray, List.set_cons_zero, List.set_cons_succ, i64_w, i32_w]
                          rfl
                        exact norm_ (by first | (simp only [putAll, Act.put, List.setIfInBounds_toArray, List.set_cons_zero, List.set_cons_succ]; done) | (simp only [putAll, Act.put, List.setIfInBounds_toArray, List.set_cons_zero, List.set_cons_succ]; rfl)) (hJ1_3_5 (v8, g4, g5, v10n) _ ⟨hHeld, HE1.out⟩)
                      · skip
                        refine value_ (w1 := ?_) (v := ?_) (by rfl) rfl ?_ ?_
                        rotate_left 2
                        · go_simp
                          constructor
                          · rfl
                          · rfl
                        have HE1 := Aside0.mk HE.out.step4
                        refine hK.out _ _ ⟨HE1.out.below, pw_cell_below HE1.out.below hc1⟩ (fun hHeld => ?_)
                        clear hK K
                        refine norm_ (a' := ?_) ?_ ?_
                        rotate_left
                        · show Act.put _ (some 4) _ = _
                          simp only [Act.put, List.setIfInBounds_toArray, List.set_cons_zero, List.set_cons_succ, i64_w, i32_w]
                          rfl
                        exact norm_ (by first | (simp only [putAll, Act.put, List.setIfInBounds_toArray, List.set_cons_zero, List.set_cons_succ]; done) | (simp only [putAll, Act.put, List.setIfInBounds_toArray, List.set_cons_zero, List.set_cons_succ]; rfl)) (hJ1_4_5 (v8, _, g5, v10) _ ⟨hHeld, HE1.out⟩)
                  · skip
                    rintro ⟨v8, g4, g5, v10⟩ w3 ⟨hHeld, hE_⟩
                    have HE := Aside0.mk hE_
                    clear hE_
                    refine norm_ (a' := ?_) ?_ ?_
                    rotate_left
                    · simp only [putAll, Act.put, List.setIfInBounds_toArray, List.set_cons_zero, List.set_cons_succ]
                      rfl
                    refine two_ (i := 3) (j := 5) (Ni := some 10) (Nj := some 5) #[true, true, true, true, true, false, false, false] #[true, true, true, false, true, true, false, false] rfl rfl rfl rfl (by kernel_rfl) (by decide) (by decide) (fun K hK => ?_) (fun K hK => ?_)
                    · skip
                      refine Kd.R_make_step (Kd.int .i64) (w0 := wr) wr.heap.size 3 (by rfl) (N := 10) rfl 39 (.tmp 9) (.tmp 9) rfl (n : Int) rfl rfl Try.underlying39 (.int .i64 0) 8 info3 rfl (by decide) (by decide) 0 (ok := fun _ => True) (okp := fun _ => True) rfl (fun _ h => h) trivial (by omega) (by rw [Int.toNat_natCast]; omega) hHeld.1 hHeld.1.size ?_
                      intro v10n w4 hR hb hg hnew
                      rw [Int.toNat_natCast] at hR
                      have HE1 := Aside0.mk (HE.out.step3 hR hg hnew)
                      refine hK.out _ _ ⟨HE1.out.below, pw_cell_below HE1.out.below hc1⟩ (fun hHeld => ?_)
                      clear hK K
                      refine norm_ (a' := ?_) ?_ ?_
                      rotate_left
                      · show Act.put _ (some 10) _ = _
                        simp only [Act.put, List.setIfInBounds_toArray, List.set_cons_zero, List.set_cons_succ, i64_w, i32_w]
                        rfl
                      exact norm_ (by first | (simp only [putAll, Act.put, List.setIfInBounds_toArray, List.set_cons_zero, List.set_cons_succ]; done) | (simp only [putAll, Act.put, List.setIfInBounds_toArray, List.set_cons_zero, List.set_cons_succ]; rfl)) (hJ1_3_4 (v8, g4, g5, v10n) _ ⟨hHeld, HE1.out⟩)
                    · skip
                      refine value_ (w1 := ?_) (v := ?_) (by rfl) rfl ?_ ?_
                      rotate_left 2
                      · go_simp
                        constructor
                        · rfl
                        · rfl
                      have HE1 := Aside0.mk HE.out.step5
                      refine hK.out _ _ ⟨HE1.out.below, pw_cell_below HE1.out.below hc1⟩ (fun hHeld => ?_)
                      clear hK K
                      refine norm_ (a' := ?_) ?_ ?_
                      rotate_left
                      · show Act.put _ (some 5) _ = _
                        simp only [Act.put, List.setIfInBounds_toArray, List.set_cons_zero, List.set_cons_succ, i64_w, i32_w]
                        rfl
                      exact norm_ (by first | (simp only [putAll, Act.put, List.setIfInBounds_toArray, List.set_cons_zero, List.set_cons_succ]; done) | (simp only [putAll, Act.put, List.setIfInBounds_toArray, List.set_cons_zero, List.set_cons_succ]; rfl)) (hJ1_4_5 (v8, g4, _, v10) _ ⟨hHeld, HE1.out⟩)
                · skip
                  rintro ⟨v8, g4, g5, v10⟩ w3 ⟨hHeld, hE_⟩
                  have HE := Aside0.mk hE_
                  clear hE_
                  refine norm_ (a' := ?_) ?_ ?_
                  rotate_left
                  · simp only [putAll, Act.put, List.setIfInBounds_toArray, List.set_cons_zero, List.set_cons_succ]
                    rfl
                  refine two_ (i := 4) (j := 5) (Ni := some 4) (Nj := some 5) #[true, true, true, true, true, false, false, false] #[true, true, true, true, false, true, false, false] rfl rfl rfl rfl (by kernel_rfl) (by decide) (by decide) (fun K hK => ?_) (fun K hK => ?_)
                  · skip
                    refine value_ (w1 := ?_) (v := ?_) (by rfl) rfl ?_ ?_
                    rotate_left 2
                    · go_simp
                      constructor
                      · rfl
                      · rfl
                    have HE1 := Aside0.mk HE.out.step4
                    refine hK.out _ _ ⟨HE1.out.below, pw_cell_below HE1.out.below hc1⟩ (fun hHeld => ?_)
                    clear hK K
                    refine norm_ (a' := ?_) ?_ ?_
                    rotate_left
                    · show Act.put _ (some 4) _ = _
                      simp only [Act.put, List.setIfInBounds_toArray, List.set_cons_zero, List.set_cons_succ, i64_w, i32_w]
                      rfl
                    exact norm_ (by first | (simp only [putAll, Act.put, List.setIfInBounds_toArray, List.set_cons_zero, List.set_cons_succ]; done) | (simp only [putAll, Act.put, List.setIfInBounds_toArray, List.set_cons_zero, List.set_cons_succ]; rfl)) (hJ1_3_4 (v8, _, g5, v10) _ ⟨hHeld, HE1.out⟩)
                  · skip
                    refine value_ (w1 := ?_) (v := ?_) (by rfl) rfl ?_ ?_
                    rotate_left 2
                    · go_simp
                      constructor
                      · rfl
                      · rfl
                    have HE1 := Aside0.mk HE.out.step5
                    refine hK.out _ _ ⟨HE1.out.below, pw_cell_below HE1.out.below hc1⟩ (fun hHeld => ?_)
                    clear hK K
                    refine norm_ (a' := ?_) ?_ ?_
                    rotate_left
                    · show Act.put _ (some 5) _ = _
                      simp only [Act.put, List.setIfInBounds_toArray, List.set_cons_zero, List.set_cons_succ, i64_w, i32_w]
                      rfl
                    exact norm_ (by first | (simp only [putAll, Act.put, List.setIfInBounds_toArray, List.set_cons_zero, List.set_cons_succ]; done) | (simp only [putAll, Act.put, List.setIfInBounds_toArray, List.set_cons_zero, List.set_cons_succ]; rfl)) (hJ1_3_5 (v8, g4, _, v10) _ ⟨hHeld, HE1.out⟩)
              · skip
                rintro ⟨v8, g4, g5, v10⟩ w3 ⟨hHeld, hE_⟩
                have HE := Aside0.mk hE_
                clear hE_
                refine norm_ (a' := ?_) ?_ ?_
                rotate_left
                · simp only [putAll, Act.put, List.setIfInBounds_toArray, List.set_cons_zero, List.set_cons_succ]
                  rfl
                refine one_ (i := 1) (N := some 8) #[true, true, true, true, true, true, false, false] rfl rfl (by kernel_rfl) (by decide) (fun K hK => ?_)
                refine goes_ Try.func111 (by kernel_rfl) rfl #[.int .i64 (n : Int)] (by rfl) rfl rfl (by simp only [List.map_toArray, List.map_cons, List.map_nil]; rfl) ?_
                with_reducible refine (impl_signRows.calls _ rows _ HROWS.out).mono ?_
                rintro e w4 ⟨v8n, rfl, hS, hb⟩
                refine ⟨_, rfl, ?_⟩
                have HE1 := Aside0.mk (HE.out.step1 hS hb)
                refine hK.out _ _ ⟨HE1.out.below, pw_cell_below HE1.out.below hc1⟩ (fun hHeld => ?_)
                clear hK K
                refine norm_ (a' := ?_) ?_ ?_
                rotate_left
                · show Act.put _ (some 8) _ = _
                  simp only [Act.put, List.setIfInBounds_toArray, List.set_cons_zero, List.set_cons_succ, i64_w, i32_w]
                  rfl
                exact norm_ (by first | (simp only [putAll, Act.put, List.setIfInBounds_toArray, List.set_cons_zero, List.set_cons_succ]; done) | (simp only [putAll, Act.put, List.setIfInBounds_toArray, List.set_cons_zero, List.set_cons_succ]; rfl)) (hJ1_3_4_5 (v8n, g4, g5, v10) _ ⟨hHeld, HE1.out⟩)
            · skip
              rintro ⟨v8, g4, g5, v10⟩ w3 ⟨hHeld, hE_⟩
              have HE := Aside0.mk hE_
              clear hE_
              refine norm_ (a' := ?_) ?_ ?_
              rotate_left
              · simp only [putAll, Act.put, List.setIfInBounds_toArray, List.set_cons_zero, List.set_cons_succ]
                rfl
              refine two_ (i := 3) (j := 6) (Ni := some 10) (Nj := none) #[true, true, true, true, true, true, false, false] #[true, true, true, false, true, true, true, false] rfl rfl rfl rfl (by kernel_rfl) (by decide) (by decide) (fun K hK => ?_) (fun K hK => ?_)
              · skip
                refine Kd.R_make_step (Kd.int .i64) (w0 := wr) wr.heap.size 3 (by rfl) (N := 10) rfl 39 (.tmp 9) (.tmp 9) rfl (n : Int) rfl rfl Try.underlying39 (.int .i64 0) 8 info3 rfl (by decide) (by decide) 0 (ok := fun _ => True) (okp := fun _ => True) rfl (fun _ h => h) trivial (by omega) (by rw [Int.toNat_natCast]; omega) hHeld.1 hHeld.1.size ?_
                intro v10n w4 hR hb hg hnew
                rw [Int.toNat_natCast] at hR
                have HE1 := Aside0.mk (HE.out.step3 hR hg hnew)
                refine hK.out _ _ ⟨HE1.out.below, pw_cell_below HE1.out.below hc1⟩ (fun hHeld => ?_)
                clear hK K
                refine norm_ (a' := ?_) ?_ ?_
                rotate_left
                · show Act.put _ (some 10) _ = _
                  simp only [Act.put, List.setIfInBounds_toArray, List.set_cons_zero, List.set_cons_succ, i64_w, i32_w]
                  rfl
                exact norm_ (by first | (simp only [putAll, Act.put, List.setIfInBounds_toArray, List.set_cons_zero, List.set_cons_succ]; done) | (simp only [putAll, Act.put, List.setIfInBounds_toArray, List.set_cons_zero, List.set_cons_succ]; rfl)) (hJ1_3_4_5 (v8, g4, g5, v10n) _ ⟨hHeld, HE1.out⟩)
              · skip
                obtain ⟨A8, c8, e8⟩ := Kd.S_slice (HE.out.f1 rfl)
                subst e8
                have hx4 := (HE.out.f4 rfl).1.cell
                have hz4 := (HE.out.f4 rfl).1.frozen
                refine skip_ (w1 := ?_) (by rfl) rfl ?_ ?_
                rotate_left
                · go_simp
                  rfl
                have HE1 := Aside0.mk HE.out.step6
                refine hK.out _ _ ⟨HE1.out.below, pw_cell_below HE1.out.below hc1⟩ (fun hHeld => ?_)
                clear hK K
                exact norm_ (by first | (simp only [putAll, Act.put, List.setIfInBounds_toArray, List.set_cons_zero, List.set_cons_succ]; done) | (simp only [putAll, Act.put, List.setIfInBounds_toArray, List.set_cons_zero, List.set_cons_succ]; rfl)) (hJ1_4_5_6 (.slice A8 rows.length c8, g4, g5, v10) _ ⟨hHeld, HE1.out⟩)
          · skip
            rintro ⟨v8, g4, g5, v10⟩ w3 ⟨hHeld, hE_⟩
            have HE := Aside0.mk hE_
            clear hE_
            refine norm_ (a' := ?_) ?_ ?_
            rotate_left
            · simp only [putAll, Act.put, List.setIfInBounds_toArray, List.set_cons_zero, List.set_cons_succ]
              rfl
            refine one_ (i := 4) (N := some 4) #[true, true, true, true, true, true, false, false] rfl rfl (by kernel_rfl) (by decide) (fun K hK => ?_)
            refine value_ (w1 := ?_) (v := ?_) (by rfl) rfl ?_ ?_
            rotate_left 2
            · go_simp
              constructor
              · rfl
              · rfl
            have HE1 := Aside0.mk HE.out.step4
            refine hK.out _ _ ⟨HE1.out.below, pw_cell_below HE1.out.below hc1⟩ (fun hHeld => ?_)
            clear hK K
            refine norm_ (a' := ?_) ?_ ?_
            rotate_left
            · show Act.put _ (some 4) _ = _
              simp only [Act.put, List.setIfInBounds_toArray, List.set_cons_zero, List.set_cons_succ, i64_w, i32_w]
              rfl
            exact norm_ (by first | (simp only [putAll, Act.put, List.setIfInBounds_toArray, List.set_cons_zero, List.set_cons_succ]; done) | (simp only [putAll, Act.put, List.setIfInBounds_toArray, List.set_cons_zero, List.set_cons_succ]; rfl)) (hJ1_3_4_5 (v8, _, g5, v10) _ ⟨hHeld, HE1.out⟩)
        · skip
          rintro ⟨v8, g4, g5, v10⟩ w3 ⟨hHeld, hE_⟩
          have HE := Aside0.mk hE_
          clear hE_
          refine norm_ (a' := ?_) ?_ ?_
          rotate_left
          · simp only [putAll, Act.put, List.setIfInBounds_toArray, List.set_cons_zero, List.set_cons_succ]
            rfl
          refine one_ (i := 5) (N := some 5) #[true, true, true, true, true, true, false, false] rfl rfl (by kernel_rfl) (by decide) (fun K hK => ?_)
          refine value_ (w1 := ?_) (v := ?_) (by rfl) rfl ?_ ?_
          rotate_left 2
          · go_simp
            constructor
            · rfl
            · rfl
          have HE1 := Aside0.mk HE.out.step5
          refine hK.out _ _ ⟨HE1.out.below, pw_cell_below HE1.out.below hc1⟩ (fun hHeld => ?_)
          clear hK K
          refine norm_ (a' := ?_) ?_ ?_
          rotate_left
          · show Act.put _ (some 5) _ = _
            simp only [Act.put, List.setIfInBounds_toArray, List.set_cons_zero, List.set_cons_succ, i64_w, i32_w]
            rfl
          exact norm_ (by first | (simp only [putAll, Act.put, List.setIfInBounds_toArray, List.set_cons_zero, List.set_cons_succ]; done) | (simp only [putAll, Act.put, List.setIfInBounds_toArray, List.set_cons_zero, List.set_cons_succ]; rfl)) (hJ1_3_4_5 (v8, g4, _, v10) _ ⟨hHeld, HE1.out⟩)
      · skip
        rintro ⟨v8, g4, g5, v10⟩ w3 ⟨hHeld, hE_⟩
        have HE := Aside0.mk hE_
        clear hE_
        refine norm_ (a' := ?_) ?_ ?_
        rotate_left
        · simp only [putAll, Act.put, List.setIfInBounds_toArray, List.set_cons_zero, List.set_cons_succ]
          rfl
        refine one_ (i := 3) (N := some 10) #[true, true, true, true, true, true, true, false] rfl rfl (by kernel_rfl) (by decide) (fun K hK => ?_)
        refine Kd.R_make_step (Kd.int .i64) (w0 := wr) wr.heap.size 3 (by rfl) (N := 10) rfl 39 (.tmp 9) (.tmp 9) rfl (n : Int) rfl rfl Try.underlying39 (.int .i64 0) 8 info3 rfl (by decide) (by decide) 0 (ok := fun _ => True) (okp := fun _ => True) rfl (fun _ h => h) trivial (by omega) (by rw [Int.toNat_natCast]; omega) hHeld.1 hHeld.1.size ?_
        intro v10n w4 hR hb hg hnew
        rw [Int.toNat_natCast] at hR
        have HE1 := Aside0.mk (HE.out.step3 hR hg hnew)
        refine hK.out _ _ ⟨HE1.out.below, pw_cell_below HE1.out.below hc1⟩ (fun hHeld => ?_)
        clear hK K
        refine norm_ (a' := ?_) ?_ ?_
        rotate_left
        · show Act.put _ (some 10) _ = _
          simp only [Act.put, List.setIfInBounds_toArray, List.set_cons_zero, List.set_cons_succ, i64_w, i32_w]
          rfl
        exact norm_ (by first | (simp only [putAll, Act.put, List.setIfInBounds_toArray, List.set_cons_zero, List.set_cons_succ]; done) | (simp only [putAll, Act.put, List.setIfInBounds_toArray, List.set_cons_zero, List.set_cons_succ]; rfl)) (hJ1_3_4_5_6 (v8, g4, g5, v10n) _ ⟨hHeld, HE1.out⟩)
    · skip
      rintro ⟨v8, g4, g5, v10⟩ w3 ⟨hHeld, hE_⟩
      have HE := Aside0.mk hE_
      clear hE_
      refine norm_ (a' := ?_) ?_ ?_
      rotate_left
      · simp only [putAll, Act.put, List.setIfInBounds_toArray, List.set_cons_zero, List.set_cons_succ]
        rfl
      refine one_ (i := 6) (N := none) #[true, true, true, true, true, true, true, false] rfl rfl (by kernel_rfl) (by decide) (fun K hK => ?_)
      obtain ⟨A8, c8, e8⟩ := Kd.S_slice (HE.out.f1 rfl)
      subst e8
      have hx4 := (HE.out.f4 rfl).1.cell
      have hz4 := (HE.out.f4 rfl).1.frozen
      refine skip_ (w1 := ?_) (by rfl) rfl ?_ ?_
      rotate_left
      · go_simp
        rfl
      have HE1 := Aside0.mk HE.out.step6
      refine hK.out _ _ ⟨HE1.out.below, pw_cell_below HE1.out.below hc1⟩ (fun hHeld => ?_)
      clear hK K
      exact norm_ (by first | (simp only [putAll, Act.put, List.setIfInBounds_toArray, List.set_cons_zero, List.set_cons_succ]; done) | (simp only [putAll, Act.put, List.setIfInBounds_toArray, List.set_cons_zero, List.set_cons_succ]; rfl)) (hJ1_3_4_5_6 (.slice A8 rows.length c8, g4, g5, v10) _ ⟨hHeld, HE1.out⟩)
  rintro ⟨v8, g4, g5, v10⟩ w3 ⟨hHeld, hE_⟩
  have HE := Aside0.mk hE_
  clear hE_
  refine norm_ (a' := ?_) ?_ ?_
  rotate_left
  · simp only [putAll, Act.put, List.setIfInBounds_toArray, List.set_cons_zero, List.set_cons_succ]
    rfl
  refine last_ (i := 7) (N := none) #[true, true, true, true, true, true, true, true] rfl rfl (by kernel_rfl) (by decide) (fun K hK => ?_)
  obtain ⟨A10, c10, e10⟩ := Kd.R_slice (HE.out.f3 rfl)
  rw [List.length_replicate] at e10
  subst e10
  have hx5 := (HE.out.f5 rfl).1.cell
  have hz5 := (HE.out.f5 rfl).1.frozen
  refine skip_ (w1 := ?_) (by rfl) rfl ?_ ?_
  rotate_left
  · go_simp
    rfl
  refine hK.out _ _ ?_
  clear hK K
  refine done_ (by kernel_rfl) ?_

  have hl := HE.out.last
  obtain ⟨wq, hwq⟩ : ∃ wq : World, wq = w3.setCell ⟨g5, 0, none⟩ (.slice A10 n c10) := ⟨_, rfl⟩
  rw [← hwq] at hl ⊢
  clear hwq HE hc1
  obtain ⟨l1, l2, l3, l4, l5, l6, l7⟩ := hl
  obtain ⟨gr, cr, e8, _, _, _⟩ := Kd.S_form l2 HR2.out
  obtain ⟨gs, cs, e10, hgs1, hgs2, cl, hgs3⟩ := Kd.R_form l3 (by rw [List.length_replicate]; have := HN.out; omega)
  rw [List.length_replicate] at e10
  subst e8
  cases e10
  have HL := Aside0.mk (And.intro l1 (And.intro l2 (And.intro l3 (And.intro l4 (And.intro l5 (And.intro l6 l7))))))
  have HGS := Aside0.mk (And.intro hgs1 (And.intro hgs2 (And.intro (show g4 ≠ gs from blk_ne l4 hgs3 (by decide)) (show g5 ≠ gs from blk_ne l5 hgs3 (by decide)))))
  have hxq3 := l4.cell
  have hxq4 := l5.cell
  clear l1 l2 l3 l4 l5 l6 l7 hgs1 hgs2 hgs3
  go_wp2_with fail
  obtain ⟨wz, hwz⟩ : ∃ wz : World, wz = wq.alloc (.cells #[.func (.func 112) #[] #[.pointer (some ⟨w.heap.size, 0, none⟩), .pointer (some ⟨w.heap.size + 1, 0, none⟩), .pointer (some ⟨g4, 0, none⟩), .pointer (some ⟨g5, 0, none⟩), .pointer (some ⟨wq.heap.size, 0, none⟩)]] 30) := ⟨_, rfl⟩
  rw [← hwz]
  have hz5 : Boxed wz wq.heap.size 30 (.func (.func 112) #[] #[.pointer (some ⟨w.heap.size, 0, none⟩), .pointer (some ⟨w.heap.size + 1, 0, none⟩), .pointer (some ⟨g4, 0, none⟩), .pointer (some ⟨g5, 0, none⟩), .pointer (some ⟨wq.heap.size, 0, none⟩)]) := by rw [hwz]; exact Boxed.new _ _ _
  have hqz : Below wq.heap.size wq wz := by rw [hwz]; exact below_alloc (Below.refl _ _) _
  have hrz : Below wr.heap.size wr wz := below_step HL.out.1 hqz
  have hwz2 : Below w.heap.size w wz := below_step HWB.out hrz
  have hown : ∀ k, own k → k < w.heap.size := HST.out.lt _ _ _ HS0.out
  have hlt2 := HB1.out.2.lt
  have hEST : ESt w0 n F caps rows (some ⟨gr, 0, none⟩) cr w.heap.size (w.heap.size + 1) g4 g5 wq.heap.size gs c10 wz own (List.replicate n 0) := by
    have hq1 := HL.out.1.size
    refine ⟨below_step HB0.out hwz2, pw_cell_below hrz HB1.out.1.cell, pw_cell_below hrz HB1.out.2.cell, pw_cell_below hqz hxq3, pw_cell_below hqz hxq4, hz5.cell, ?_, ?_, ⟨fun h => ?_, fun h => ?_, fun h => ?_, fun h => ?_, fun h => ?_, fun h => ?_⟩, ⟨?_, ?_, HGS.out.2.2.1, HGS.out.2.2.2, ?_⟩⟩
    · exact Kd.S_V (Kd.S_mono (Kd.S_bound (Kd.S_below HL.out.2.1 hqz)) (fun k hk => ⟨fun h => by have := hown k h; have := hk.2.1; omega, fun e => hk.1.2 (by simp [Value.ownBlock, e])⟩))
    · exact Kd.R_lower (Kd.R_mono (Kd.R_tight rfl (Kd.R_below HL.out.2.2.1 hqz)) (fun k hk => by simpa [Value.ownBlock] using hk)) (Nat.le_trans HB0.out.size (by omega))
    · have := hown _ h; omega
    · have := hown _ h; omega
    · have := hown _ h; have := HL.out.2.2.2.2.2.1; omega
    · have := hown _ h; have := HL.out.2.2.2.2.2.2; omega
    · have := hown _ h; omega
    · have := hown _ h; have := HGS.out.1; omega
    · have := HGS.out.1; omega
    · have := HGS.out.1; omega
    · have := HGS.out.2.1; omega
  have HEST := Aside0.mk hEST
  have HWZ := Aside0.mk hwz2
  clear hwz hz5 hqz hrz hwz2 hEST hxq3 hxq4 hlt2
  refine (es_add n F caps HF.out HN.out.1 HN.out.2 rows HR1.out HR3.out ⟨gr, 0, none⟩ cr w0 w.heap.size (w.heap.size + 1) g4 g5 wq.heap.size gs c10 ?k1 St HST.out b all HCB.out n wz own none 0 [] (List.replicate n 0) 0 ?k2 ?k3 HEST.out ?k4 ?k5 ?k6).mono ?_
  case k1 => exact (Kd.R_reads' HEST.out.su).2.1
  case k2 => simp
  case k3 => exact sum_zero n
  case k4 => exact HST.out.below HS0.out HWZ.out
  case k5 => exact Kd.V_nil _ _ _ _ _
  case k6 =>
    intro i M' hi
    rw [Nat.zero_add, HALL.out]
    exact hi
  rintro e w6 ⟨rfl, own', hE6, hS6, hK6, hO6⟩
  rw [← HALL.out] at hS6
  have HE6 := Aside0.mk (And.intro hE6 (And.intro hS6 (And.intro hK6 hO6)))
  clear hE6 hS6 hK6 hO6
  go_wp2
  refine bodyPost_end (v := .tuple #[]) (by simp [results, Try.results62, go_sem]) rfl ⟨rfl, HE6.out.1.below, own', HE6.out.2.1, ?_, fun k hk => (HE6.out.2.2.2 k hk).elim .inl (fun h => .inr (Nat.le_trans HWZ.out.size h))⟩
  have hks : Kept w wz (fun k => False) := Kept.of_below HWZ.out _
  exact (hks.mono (fun _ h => h.elim)).then_ HE6.out.2.2.1 (fun k hk => hk.elim .inl (fun h => .inr (by rw [h]; have := HGS.out.1; have := HWB.out.size; omega)))

end Go.Proofs.Ytadepmjfhcmkoaa.P
