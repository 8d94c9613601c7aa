-- By gp.py (this session's own driver over the kit's print). Not trusted: Lean checks it.
import Derived.Test.YthjiajkmaimbjaaF0
import Derived.Test.YthjiajkmaimbjaaB
import Derived.Test.YthjiajkmaimbjaaFImplAbove
import Derived.Test.YthjiajkmaimbjaaRevT
import Derived.Test.YthjiajkmaimbjaaFImplAbove
import Derived.Test.YthjiajkmaimbjaaFImplIsRow
import Derived.Test.YthjiajkmaimbjaaFSlicesCloneIntInt
namespace Go.Proofs.Ythjiajkmaimbjaa.P
open Go.Proofs.Ythjiajkmaimbjaa.B
open Go.RowKit Go.Proofs.YthjiajkmaimbjaaW.PrintWords Go.Proofs.YthjiajkmaimbjaaW.PrintLast Go.Proofs.YthjiajkmaimbjaaW.PrintMore
attribute [local go_sem] max2_int min2_int max_two min_two max_three min_three max_four min_four   -- for this text's walks alone
set_option linter.unusedVariables false
set_option linter.unusedSimpArgs false

/-! ### impl_FirstUnder: function 23 (given) -/
def impl_FirstUnder.l0 : Nat → List Int → List (List Int) → Option (List (List Int))
  | 0, _, _ => none
  | k + 1, x0, x4 => if 1 < (x0.length : Int) then (if x4.length < 5864062014805 then ((impl_above.f x0).bind fun t => if 0 < t.length then impl_FirstUnder.l0 k (rd_L1 t 0) (x4 ++ [rd_L1 t 0]) else none) else none) else some x4.reverse
def impl_FirstUnder.f (k : Nat) (l0 : List Int) : Option (List (List Int) × Bool) := (impl_isRow.f k l0).bind fun t => if t = true then (slices_Clone_int_int.f l0).bind fun c => (impl_FirstUnder.l0 k l0 [c]).bind fun r => some (r, true) else some (([] : List (List Int)), false)
theorem impl_FirstUnder.mono_l : ∀ k y0 y1, LeO (impl_FirstUnder.l0 k y0 y1) (impl_FirstUnder.l0 (k + 1) y0 y1)
  | 0, _, _ => fun r h => by simp [impl_FirstUnder.l0] at h
  | k + 1, y0, y1 => by
    have ih := impl_FirstUnder.mono_l k
    unfold impl_FirstUnder.l0
    exact LeO.ite (LeO.ite (LeO.bind (LeO.refl _) (fun _ => LeO.ite (ih _ _) (LeO.none _))) (LeO.none _)) (LeO.refl _)
theorem impl_FirstUnder.mono : ∀ a0 k, LeO (impl_FirstUnder.f k a0) (impl_FirstUnder.f (k + 1) a0) := by
  intro a0 k
  unfold impl_FirstUnder.f
  exact LeO.bind (impl_isRow.mono _ _) (fun _ => LeO.ite (LeO.bind (LeO.refl _) (fun _ => LeO.bind (impl_FirstUnder.mono_l _ _ _) (fun _ => LeO.refl _))) (LeO.refl _))
theorem S_one {w : World} {base : Nat} {ok : Nat → Prop} {v : Value} {x : List Int} (h : Kd.R (Kd.slice 3 (Kd.int .i64)) 22 w base ok v [x]) : Kd.S (Kd.slice 3 (Kd.int .i64)) 22 w base ok v [x] := by
  obtain ⟨h0, inner, ho, hr⟩ := h
  refine ⟨fun _ => 0, h0, inner, ho, hr.1, fun j p hp => ?_⟩
  cases j with
  | zero =>
    have e : p = (x, 0) := by simpa using hp.symm
    subst e
    exact Kd.M_mono (Kd.slice 3 (Kd.int .i64)) (fun k hk => ⟨hk, rfl⟩) (hr.2 0 x rfl)
  | succ j => simp at hp
theorem first_row {W w5 : World} {base n5 : Nat} {v5 u4 : Value} {rs x4 : List (List Int)} {x1 : List Int} (hS : Kd.S (Kd.slice 3 (Kd.int .i64)) 22 w5 W.heap.size (fun _ => True) v5 rs) (hb : Below W.heap.size W w5) (S4 : Kd.S (Kd.slice 3 (Kd.int .i64)) 22 W base (fun _ => True) u4 x4) (hbase : base ≤ W.heap.size) (hn : n5 = rs.length) (h0 : 0 < n5) (hx : x1 = rd_L1 rs 0) :
    ∃ ad c5 A1 c1, v5 = .slice (some ad) n5 c5 ∧ w5.cell? ad = some (.slice A1 x1.length c1) ∧ Aside0 (Kd.S (Kd.slice 3 (Kd.int .i64)) 22 w5 base (fun k => True ∧ ¬ some k = (.slice A1 x1.length c1 : Value).ownBlock) u4 x4) ∧ Aside0 (Kd.R (Kd.int .i64) 3 w5 base (fun k => True ∧ some k ≠ u4.ownBlock) (.slice A1 x1.length c1) x1) := by
  subst hn
  obtain ⟨A, c, rfl⟩ := Kd.S_slice hS
  obtain ⟨ad, cq, eA, _⟩ := Kd.C_get (Kd.S_reads' hS).2.2 ([] : List Int) 0 (by omega) (by omega)
  subst eA
  obtain ⟨cs, hl, hM, hcell⟩ := Kd.S_get hS ([] : List Int) 0 (by omega) (by omega)
  obtain ⟨v, rfl, hR⟩ := hM
  rw [show rs.getD (0 : Int).toNat [] = x1 from hx.symm] at hR
  obtain ⟨A1, c1, rfl⟩ := Kd.R_slice hR
  have hc := hcell 0 _ rfl
  rw [show (0 : Int).toNat * (Kd.sz (Kd.slice 3 (Kd.int .i64))) + 0 = 0 from rfl, Addr.add_zero'] at hc
  exact ⟨ad, c, A1, c1, rfl, hc, ⟨Kd.S_mono (Kd.S_elder' S4 (Kd.R_base hR) hb) (fun k hk => ⟨trivial, hk.2⟩)⟩, ⟨Kd.R_mono (Kd.R_lower (Kd.R_new' hR (Kd.S_lt S4)) hbase) (fun k hk => ⟨trivial, hk.2⟩)⟩⟩
theorem S_len {w : World} {base : Nat} {ok : Nat → Prop} {v : Value} {xs : List (List Int)} (h : Kd.S (Kd.slice 3 (Kd.int .i64)) 22 w base ok v xs) : xs.length ≤ 9223372036854775807 := by
  obtain ⟨A, c, rfl⟩ := Kd.S_slice h
  exact (Kd.S_reads' h).2.2.2.1
set_option maxHeartbeats 8000000 in
set_option maxRecDepth 100000 in
theorem impl_FirstUnder.calls (k : Nat) (A0 : Option Addr) (c0 : Nat) (l0 : List Int) (r1 : List (List Int)) (r2 : Bool) (w : World) (hr0 : Kd.C (Kd.int .i64) w A0 l0.length l0) (hc0 : l0.length ≤ c0) (h : impl_FirstUnder.f k l0 = some (r1, r2)) :
    Calls Try.prog 23 #[.slice A0 l0.length c0] w fun e w' => ∃ v0_ : Value, e = .returned (.tuple #[v0_, .bool r2]) ∧ Kd.S (Kd.slice 3 (Kd.int .i64)) 22 w' w.heap.size (fun _ => True) v0_ r1 ∧ Below w.heap.size w w' := by
  have HR0 := Aside0.mk hr0
  have HC0 := Aside0.mk hc0
  have HB := Aside0.mk (Below.refl w.heap.size w)
  obtain ⟨b, hb, h⟩ := Option.bind_eq_some_iff.mp h
  have HH := Aside0.mk hb
  cases b with
  | false =>
    rw [if_neg (by decide)] at h
    simp only [Option.some.injEq, Prod.mk.injEq] at h
    obtain ⟨rfl, rfl⟩ := h
    clear hr0 hc0 hb
    go_enter Try.func23, Try.ntmps23
    go_wp2_with (go_at_call 46; (with_reducible refine (impl_isRow.calls k _ _ l0 false _ HR0.out HC0.out HH.out).mono ?_); rintro e w5 ⟨rfl, hb⟩; have HB1 := Aside0.mk (below_step (by repeat (first | (with_reducible first | exact HB.out | apply below_alloc | apply pw_below_drewN | apply below_drew1) | exact HB.out)) hb); clear hb)
    go_ret2
    exact ⟨_, rfl, Kd.S_nil _ _ _ _ _, HB1.out⟩
  | true =>
    rw [if_pos rfl] at h
    obtain ⟨c, hcl, h⟩ := Option.bind_eq_some_iff.mp h
    obtain ⟨r, hr, h⟩ := Option.bind_eq_some_iff.mp h
    simp only [Option.some.injEq, Prod.mk.injEq] at h
    obtain ⟨rfl, rfl⟩ := h
    have HCL := Aside0.mk hcl
    obtain ⟨y, hy⟩ : ∃ y, y = [c] := ⟨_, rfl⟩
    rw [← hy] at hr
    have NY := Aside0.mk hy
    have HR := Aside0.mk hr
    clear hr0 hc0 hb hcl hr hy
    go_enter Try.func23, Try.ntmps23
    go_wp2_with (first | (go_at_call 46; (with_reducible refine (impl_isRow.calls k _ _ l0 true _ HR0.out HC0.out HH.out).mono ?_); rintro e w5 ⟨rfl, hb⟩; have HB1 := Aside0.mk (below_step (by repeat (first | (with_reducible first | exact HB.out | apply below_alloc | apply pw_below_drewN | apply below_drew1) | exact HB.out)) hb); clear hb; clear HB; have HB := HB1; clear HB1) | (go_at_call 50; (with_reducible refine (slices_Clone_int_int.calls A0 c0 l0 c _ (by (with_reducible repeat (first | apply Kd.C_alloc | apply Kd.C_drewN | apply Kd.C_drew)); exact Kd.C_below HR0.out HB.out) HC0.out HCL.out).mono ?_); rintro e w6 ⟨v6, rfl, hR, hb⟩; have HR6 := Aside0.mk (Kd.R_lower hR (below_size (by repeat (first | (with_reducible first | exact HB.out | apply below_alloc | apply pw_below_drewN | apply below_drew1) | exact HB.out)))); have HB1 := Aside0.mk (below_step (by repeat (first | (with_reducible first | exact HB.out | apply below_alloc | apply pw_below_drewN | apply below_drew1) | exact HB.out)) hb); clear hb hR; clear HB; have HB := HB1; clear HB1; obtain ⟨A6, c6, e6⟩ := Kd.R_slice HR6.out; subst e6) | ((with_reducible refine gate_dst (N := 10) rfl ?_); refine Kd.R_lit (Kd.slice 3 (Kd.int .i64)) w.heap.size 22 ?hg (N := 10) ?hd (xs := [c]) (inner := [.slice A6 c.length c6]) (ok := fun _ => True) (okp := fun _ => True) ?hr ?hp (fun _ hk => hk) trivial (by repeat (first | (with_reducible first | exact HB.out | apply below_alloc | apply pw_below_drewN | apply below_drew1) | exact HB.out)) (below_size (by repeat (first | (with_reducible first | exact HB.out | apply below_alloc | apply pw_below_drewN | apply below_drew1) | exact HB.out))) (by simp) ?_; (case hd => rfl); (case hg => rfl); (case hr => first | (go_simp; done) | (go_simp; rfl)); (case hp => exact Reps.one (Kd.M_row (by (with_reducible repeat (first | apply Kd.R_alloc | apply Kd.R_drewN | apply Kd.R_drew)); exact HR6.out)) (Reps.none _ _)); intro v7 w7 ho hb hg_ hnew_; have S7 := Aside0.mk (S_one ho); rw [← NY.out] at S7; have HB1 := Aside0.mk hb; clear hb ho hg_ hnew_; clear HB; have HB := HB1; clear HB1))
    go_loopg [0, 4] k (fun kq v0 v4 w' => ∃ (x0 : List Int) (x4 : List (List Int)), Aside0 (impl_FirstUnder.l0 kq x0 x4 = some r) ∧ Aside0 (kq ≤ k) ∧ Aside0 (Kd.V (Kd.int .i64) 3 w' w.heap.size (fun k_ => True ∧ some k_ ≠ (v4 : Value).ownBlock) v0 x0) ∧ Aside0 (Kd.S (Kd.slice 3 (Kd.int .i64)) 22 w' w.heap.size (fun _ => True) v4 x4) ∧ Aside0 (Below w.heap.size w w'))
    case atStart => exact ⟨l0, y, HR, ⟨Nat.le_refl _⟩, ⟨by
      have h1 : Kd.V (Kd.int .i64) 3 w w.heap.size (fun k => k < w.heap.size) (.slice A0 l0.length c0) l0 := Kd.V_mk HC0.out (Kd.C_F (Kd.heap_int _) HR0.out)
      exact Kd.V_mono (Kd.V_elder' h1 (Kd.S_base S7.out) HB.out) (fun k hk => ⟨trivial, hk.2⟩)⟩, S7, HB⟩
    case round =>
      clear HR S7
      obtain ⟨x0, x4, HA, HK1, V0, S4, HB⟩ := hrel
      cases gk with
      | zero => exact absurd HA.out (by simp [impl_FirstUnder.l0])
      | succ k1 =>
        have H := HA.out
        clear HA
        simp only [impl_FirstUnder.l0] at H
        obtain ⟨A0', c0', e0⟩ := Kd.V_slice V0.out
        subst e0
        by_cases c4 : 1 < (x0.length : Int)
        · rw [if_pos c4] at H
          have c4b0 : decide ((x0.length : Int) > 1) = true := decide_eq_true c4
          have c4b1 : decide (1 < (x0.length : Int)) = true := decide_eq_true c4
          by_cases c5 : x4.length < 5864062014805
          · rw [if_pos c5] at H
            have LM := Aside0.mk c5
            obtain ⟨rs, hrs, H⟩ := Option.bind_eq_some_iff.mp H
            have HRS := Aside0.mk hrs
            by_cases c6 : 0 < rs.length
            · rw [if_pos c6] at H
              obtain ⟨x1, hx1⟩ : ∃ x1, x1 = rd_L1 rs 0 := ⟨_, rfl⟩
              rw [← hx1] at H
              obtain ⟨y4, hy4⟩ : ∃ y4, y4 = x4 ++ [x1] := ⟨_, rfl⟩
              rw [← hy4] at H
              have NX := Aside0.mk hx1
              have NY4 := Aside0.mk hy4
              have H' := Aside0.mk H
              have C6 := Aside0.mk c6
              obtain ⟨n5, hn5⟩ : ∃ n5, n5 = rs.length := ⟨_, rfl⟩
              have N5 := Aside0.mk hn5
              have c7 : decide ((0 : Int) < (n5 : Int)) = true := decide_eq_true (by rw [hn5]; omega)
              have c8 : 0 < n5 := by rw [hn5]; exact c6
              clear c4 c5 c6 hrs H hx1 hy4 hn5
              go_wp2_with (first | (go_at_call 47; (with_reducible refine (impl_above.calls A0' c0' x0 rs _ (by (with_reducible repeat (first | apply Kd.C_alloc | apply Kd.C_drewN | apply Kd.C_drew)); exact (Kd.V_reads' V0.out).2.2) (Kd.V_reads' V0.out).2.1 HRS.out).mono ?_); rintro e w5 ⟨v5, rfl, hS, hb⟩; obtain ⟨ad, c5, A1, c1, rfl, hcell, OUT, ROW⟩ := first_row hS hb (by (with_reducible repeat (first | apply Kd.S_alloc | apply Kd.S_drewN | apply Kd.S_drew)); exact S4.out) (below_size (by repeat (first | (with_reducible first | exact HB.out | apply below_alloc | apply pw_below_drewN | apply below_drew1) | exact HB.out))) N5.out c8 NX.out; have HB1 := Aside0.mk (below_step (by repeat (first | (with_reducible first | exact HB.out | apply below_alloc | apply pw_below_drewN | apply below_drew1) | exact HB.out)) hb); clear hb hS; clear HB; have HB := HB1; clear HB1) | ((with_reducible refine gate_builtin (b := .append) (xs := #[.tmp 18, .tmp 20]) rfl ?_); at_builtin; refine Kd.S_append (Kd.slice 3 (Kd.int .i64)) (w0 := w) w.heap.size rfl (.tmp 18) (.tmp 20) 23 22 (.slice none 0 0) 24 rfl Try.underlying23 info22 rfl (by decide) (by omega) u4 x4 x1 [.slice A1 x1.length c1] (fun _ => True) (fun k_ => some k_ = (.slice A1 x1.length c1 : Value).ownBlock) rfl rfl ?aP (fun k_ hk_ => ROW.out.1 k_ hk_.symm) ?aF ?aO ?aB ?aS ?aL ?_; (case aP => exact Kd.M_row (Kd.R_mono (Kd.R_tight rfl (by (with_reducible repeat (first | apply Kd.R_alloc | apply Kd.R_drewN | apply Kd.R_drew)); exact ROW.out)) (fun _ h_ => h_))); (case aB => exact (by repeat (first | (with_reducible first | exact HB.out | apply below_alloc | apply pw_below_drewN | apply below_drew1) | exact HB.out))); (case aF => exact (fun _ _ => trivial)); (case aO => exact (by (with_reducible repeat (first | apply Kd.S_alloc | apply Kd.S_drewN | apply Kd.S_drew)); exact OUT.out)); (case aS => exact (below_size (by repeat (first | (with_reducible first | exact HB.out | apply below_alloc | apply pw_below_drewN | apply below_drew1) | exact HB.out)))); (case aL => have := LM.out; omega); intro v7 w7 ho hb hg hat; rw [← NY4.out] at ho; have S7 := Aside0.mk ho; have V7 := Aside0.mk (Kd.V_afterv (ok := fun _ => True) (Kd.R_V (base' := w.heap.size) (by (with_reducible repeat (first | apply Kd.R_alloc | apply Kd.R_drewN | apply Kd.R_drew)); exact ROW.out)) hg hat); have HB1 := Aside0.mk hb; clear hb ho hg hat; clear HB; have HB := HB1; clear HB1))
              go_roundg k1
              case measure => have := HK1.out; omega
              case rel => exact ⟨x1, y4, H', ⟨by have := HK1.out; omega⟩, V7, S7, HB⟩
            · rw [if_neg c6] at H
              cases H
          · rw [if_neg c5] at H
            cases H
        · rw [if_neg c4] at H
          have c4b0 : decide ((x0.length : Int) > 1) = false := decide_eq_false c4
          have c4b1 : decide (1 < (x0.length : Int)) = false := decide_eq_false c4
          obtain rfl := Option.some.inj H
          clear H
          go_wp2_with (go_loud (go_at_call 51; (refine (S_reverse w.heap.size (fun _ => True) _ x4 _ S4.out ?hn).mono ?_); (case hn => exact S_len S4.out); rintro e w9 ⟨rfl, hS, hb⟩; have HS := Aside0.mk hS; have HB9 := Aside0.mk (HB.out.trans hb); clear hS hb))
          go_ret2
          exact ⟨_, rfl, HS.out, HB9.out⟩

end Go.Proofs.Ythjiajkmaimbjaa.P
