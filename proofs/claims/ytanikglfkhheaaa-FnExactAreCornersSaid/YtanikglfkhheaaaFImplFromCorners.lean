-- By gp.py (this session's own driver over the kit's print). Not trusted: Lean checks it.
import Derived.Test.YtanikglfkhheaaaF0
import Derived.Test.YtanikglfkhheaaaB
import Derived.Laws.EntriesVeiled
import Derived.Test.YtanikglfkhheaaaTab
import Derived.Test.YtanikglfkhheaaaFImplGood
import Derived.Test.YtanikglfkhheaaaFImplIn
namespace Go.Proofs.Ytanikglfkhheaaa.P
open Go.Proofs.Ytanikglfkhheaaa.B
open Go.RowKit Go.Proofs.YtanikglfkhheaaaW.PrintWords Go.Proofs.YtanikglfkhheaaaW.PrintLast Go.Proofs.YtanikglfkhheaaaW.PrintMore
attribute [local go_sem] max2_int min2_int max_two min_two max_three min_three max_four min_four   -- for this text's walks alone
set_option linter.unusedVariables false
set_option linter.unusedSimpArgs false

/-! ### impl_FromCorners: function 43 (given) -/
def impl_FromCorners.f (k : Nat) (l0 : List (List Int)) : Option (List (List Int) × Bool) := (impl_isSide.f (l0.length : Int)).bind fun t => if t = true then (impl_isSquare.f l0).bind fun u => if u = true then (if l0.length ≤ 1048576 then (impl_IsSignMatrix.f k (tabOf l0.length l0.length (outV l0))).bind fun b => if b = true then some (tabOf l0.length l0.length (outV l0), true) else some (([] : List (List Int)), false) else none) else some (([] : List (List Int)), false) else some (([] : List (List Int)), false)
theorem impl_FromCorners.mono : ∀ a0 k, LeO (impl_FromCorners.f k a0) (impl_FromCorners.f (k + 1) a0) := by
  intro a0 k
  unfold impl_FromCorners.f
  exact LeO.bind (LeO.refl _) (fun _ => LeO.ite (LeO.bind (LeO.refl _) (fun _ => LeO.ite (LeO.ite (LeO.bind (impl_IsSignMatrix.mono _ _) (fun _ => LeO.refl _)) (LeO.refl _)) (LeO.refl _))) (LeO.refl _))
set_option maxHeartbeats 8000000 in
set_option maxRecDepth 100000 in
theorem impl_FromCorners.clo1 (l : List (List Int)) (A : Option Addr) (c : Nat) (g1 : Addr) (w : World) (hr : Kd.C (Kd.slice 3 (Kd.int .i64)) w A l.length l) (hsq : ∀ x ∈ l, x.length = l.length) (h1 : w.cell? g1 = some (.slice A l.length c)) (i j : Int) (hi0 : -1 ≤ i) (hi : i < l.length) (hj0 : -1 ≤ j) (hj : j < l.length) :
    Calls Try.prog 71 #[.int .i64 i, .int .i64 j, .pointer (some g1)] w fun e w' => e = .returned (.int .i64 (atV l i j)) ∧ Drawn0 w w' := by
  by_cases ci : i < 0
  · have hv : atV l i j = 0 := by unfold atV; rw [if_pos (Or.inl ci)]
    rw [hv]
    have c1 : decide (i < 0) = true := decide_eq_true ci
    clear hr hsq h1 hv hi hj
    go_enter Try.func71, Try.ntmps71
    go_wp2
    go_ret
    exact ⟨rfl, (by repeat (first | exact Drawn0.refl _ | apply Drawn0.step))⟩
  · have c1 : decide (i < 0) = false := decide_eq_false ci
    by_cases cj : j < 0
    · have hv : atV l i j = 0 := by unfold atV; rw [if_pos (Or.inr cj)]
      rw [hv]
      have c2 : decide (j < 0) = true := decide_eq_true cj
      clear hr hsq h1 hv hi hj
      go_enter Try.func71, Try.ntmps71
      go_wp2
      go_ret
      exact ⟨rfl, (by repeat (first | exact Drawn0.refl _ | apply Drawn0.step))⟩
    · have c2 : decide (j < 0) = false := decide_eq_false cj
      obtain ⟨i, rfl⟩ := Int.eq_ofNat_of_zero_le (show 0 ≤ i by omega)
      obtain ⟨j, rfl⟩ := Int.eq_ofNat_of_zero_le (show 0 ≤ j by omega)
      have hv : atV l (i : Int) (j : Int) = gd l i j := by unfold atV; rw [if_neg (by omega)]; rfl
      rw [hv]
      clear hv
      have hi' : i < l.length := by omega
      have hj' : j < l.length := by omega
      obtain ⟨ad, A0, c0, rfl, hx0, hc0, hr0⟩ := at_row hr i hi'
      have hlen : (l.getD i []).length = l.length := getD_row hsq hi'
      obtain ⟨ad2, rfl, hx1⟩ := at_num hr0 j (by omega)
      rw [hlen] at hx0
      obtain ⟨v, hv⟩ : ∃ v, v = gd l i j := ⟨_, rfl⟩
      change w.cell? _ = some (.int .i64 (gd l i j)) at hx1
      rw [← hv] at hx1 ⊢
      clear hv
      have b3 : decide (i < l.length) = true := decide_eq_true hi'
      have b4 : decide (j < l.length) = true := decide_eq_true hj'
      have b5 : (0 : Int) ≤ (i : Int) := by omega
      have b6 : (0 : Int) ≤ (j : Int) := by omega
      clear hr hr0 hc0 hlen hsq
      go_enter Try.func71, Try.ntmps71
      go_wp2
      go_ret
      exact ⟨rfl, (by repeat (first | exact Drawn0.refl _ | apply Drawn0.step))⟩
set_option maxHeartbeats 8000000 in
set_option maxRecDepth 100000 in
theorem impl_FromCorners.clo2 (l : List (List Int)) (A : Option Addr) (c : Nat) (g1 g2 : Addr) (w : World) (hr : Kd.C (Kd.slice 3 (Kd.int .i64)) w A l.length l) (hl : l.length ≤ 1048576) (hsq : ∀ x ∈ l, x.length = l.length) (h1 : w.cell? g1 = some (.slice A l.length c)) (h2 : w.cell? g2 = some (.func (.func 71) #[] #[.pointer (some g1)])) (i j : Nat) (hi : i < l.length) (hj : j < l.length) :
    Calls Try.prog 72 (#[.int .i64 (i : Int), .int .i64 (j : Int)] ++ #[.pointer (some g2)]) w fun e w' => e = .returned (.int .i64 (outV l i j)) ∧ Drawn0 w w' := by
  have HC : ∀ (n : Nat) (i j : Int), -1 ≤ i → i < l.length → -1 ≤ j → j < l.length → Calls Try.prog 71 #[.int .i64 i, .int .i64 j, .pointer (some g1)] (w.drewN n) fun e w' => e = .returned (.int .i64 (atV l i j)) ∧ Drawn0 (w.drewN n) w' :=
    fun n i j a1 a2 a3 a4 => impl_FromCorners.clo1 l A c g1 (w.drewN n) (Kd.C_drewN hr n) hsq h1 i j a1 a2 a3 a4
  have HF := Aside0.mk HC
  obtain ⟨v0, hv0⟩ : ∃ v, v = atV l i j := ⟨_, rfl⟩
  obtain ⟨v1, hv1⟩ : ∃ v, v = atV l ((i : Int) - 1) j := ⟨_, rfl⟩
  obtain ⟨v2, hv2⟩ : ∃ v, v = atV l i ((j : Int) - 1) := ⟨_, rfl⟩
  obtain ⟨v3, hv3⟩ : ∃ v, v = atV l ((i : Int) - 1) ((j : Int) - 1) := ⟨_, rfl⟩
  have K0 := fun n => HC n i j (by omega) (by omega) (by omega) (by omega)
  have K1 := fun n => HC n ((i : Int) - 1) j (by omega) (by omega) (by omega) (by omega)
  have K2 := fun n => HC n i ((j : Int) - 1) (by omega) (by omega) (by omega) (by omega)
  have K3 := fun n => HC n ((i : Int) - 1) ((j : Int) - 1) (by omega) (by omega) (by omega) (by omega)
  rw [← hv0] at K0
  rw [← hv1] at K1
  rw [← hv2] at K2
  rw [← hv3] at K3
  have hv : outV l i j = wrap64 (wrap64 (wrap64 (v0 - v1) - v2) + v3) := by unfold outV; rw [hv0, hv1, hv2, hv3]
  rw [hv]
  have k0 := Aside0.mk K0
  have k1 := Aside0.mk K1
  have k2 := Aside0.mk K2
  have k3 := Aside0.mk K3
  have e1 : IntKind.i64.wrap ((i : Int) - 1) = (i : Int) - 1 := by rw [i64_w]; exact wrapE _ (by omega) (by omega)
  have e2 : IntKind.i64.wrap ((j : Int) - 1) = (j : Int) - 1 := by rw [i64_w]; exact wrapE _ (by omega) (by omega)
  have hE1 := enters_of Try.func71 (by kernel_rfl) rfl
  clear hr hsq h1 HC hv hv0 hv1 hv2 hv3 K0 K1 K2 K3 HF hi hj hl
  go_enter Try.func72, Try.ntmps72
  go_wp2
  refine wp_region_quiet_lit (by kernel_rfl) (by kernel_rfl) ?_
  repeat (first | (refine wpQuiet_step (fun K hK => ?_); refine quietF_ (v := .int .i64 v0) 71 #[.pointer (some g1)] #[.int .i64 ((i : Int)), .int .i64 ((j : Int)), .pointer (some g1)] hE1 (by rfl) rfl (by rfl) (by simp only [List.map_toArray, List.map_cons, List.map_nil]; rfl) ?_ (hK _ ?_); (focus (rintro W ⟨n, rfl⟩; refine (k0.out n).mono ?_; rintro e w' ⟨rfl, ⟨nd, rfl⟩⟩; exact ⟨rfl, _, World.drewN_drewN _ _ _⟩)); clear hK K) | (refine wpQuiet_step (fun K hK => ?_); refine quietF_ (v := .int .i64 v1) 71 #[.pointer (some g1)] #[.int .i64 ((i : Int) - 1), .int .i64 ((j : Int)), .pointer (some g1)] hE1 (by rfl) rfl (by rfl) (by simp only [List.map_toArray, List.map_cons, List.map_nil]; rfl) ?_ (hK _ ?_); (focus (rintro W ⟨n, rfl⟩; refine (k1.out n).mono ?_; rintro e w' ⟨rfl, ⟨nd, rfl⟩⟩; exact ⟨rfl, _, World.drewN_drewN _ _ _⟩)); clear hK K) | (refine wpQuiet_step (fun K hK => ?_); refine quietF_ (v := .int .i64 v2) 71 #[.pointer (some g1)] #[.int .i64 ((i : Int)), .int .i64 ((j : Int) - 1), .pointer (some g1)] hE1 (by rfl) rfl (by rfl) (by simp only [List.map_toArray, List.map_cons, List.map_nil]; rfl) ?_ (hK _ ?_); (focus (rintro W ⟨n, rfl⟩; refine (k2.out n).mono ?_; rintro e w' ⟨rfl, ⟨nd, rfl⟩⟩; exact ⟨rfl, _, World.drewN_drewN _ _ _⟩)); clear hK K) | (refine wpQuiet_step (fun K hK => ?_); refine quietF_ (v := .int .i64 v3) 71 #[.pointer (some g1)] #[.int .i64 ((i : Int) - 1), .int .i64 ((j : Int) - 1), .pointer (some g1)] hE1 (by rfl) rfl (by rfl) (by simp only [List.map_toArray, List.map_cons, List.map_nil]; rfl) ?_ (hK _ ?_); (focus (rintro W ⟨n, rfl⟩; refine (k3.out n).mono ?_; rintro e w' ⟨rfl, ⟨nd, rfl⟩⟩; exact ⟨rfl, _, World.drewN_drewN _ _ _⟩)); clear hK K) | quiet_step (fail))
  refine wpQuiet_nil ?_
  intro _ hw'
  obtain ⟨nq, hw''⟩ := hw'
  subst hw''
  go_wp2
  go_ret
  exact ⟨by simp only [i64_w]; rfl, (by repeat (first | exact Drawn0.refl _ | apply Drawn0.step))⟩
set_option maxHeartbeats 8000000 in
set_option maxRecDepth 100000 in
theorem impl_FromCorners.calls (k : Nat) (A0 : Option Addr) (c0 : Nat) (l0 : List (List Int)) (r1 : List (List Int)) (r2 : Bool) (w : World) (hr0 : Kd.C (Kd.slice 3 (Kd.int .i64)) w A0 l0.length l0) (hc0 : l0.length ≤ c0) (h : impl_FromCorners.f k l0 = some (r1, r2)) :
    Calls Try.prog 43 #[.slice A0 l0.length c0] w fun e w' => ∃ v0_ : Value, e = .returned (.tuple #[v0_, .bool r2]) ∧ Kd.S (Kd.slice 3 (Kd.int .i64)) 34 w' w.heap.size (fun _ => True) v0_ r1 ∧ Below w.heap.size w w' := by
  have HR0 := Aside0.mk hr0
  have HC0 := Aside0.mk hc0
  have HB0 := Aside0.mk (Below.refl w.heap.size w)
  obtain ⟨s, hs, h⟩ := Option.bind_eq_some_iff.mp h
  have A1 := Aside0.mk hs
  have hmf : ∀ (fn : Fn) (first cap : Array Value) (w : World), (Instr.makeFunc fn first cap).run Try.prog w = .ok (.func fn first cap) w := fun _ _ _ _ => rfl
  cases s with
  | false =>
    rw [if_neg (by decide)] at h
    simp only [Option.some.injEq, Prod.mk.injEq] at h
    obtain ⟨rfl, rfl⟩ := h
    clear hr0 hc0 hs
    go_enter Try.func43, Try.ntmps43
    go_wp2_with (go_at_call 47; (with_reducible refine (impl_isSide.calls _ false _ A1.out).mono ?_); rintro e w5 ⟨rfl, ⟨n1, rfl⟩⟩)
    go_ret2
    exact ⟨_, rfl, Kd.S_nil _ _ _ _ _, (by repeat (first | exact HB0.out | apply below_alloc | apply pw_below_drewN | apply below_drew1))⟩
  | true =>
    rw [if_pos rfl] at h
    obtain ⟨q, hq, h⟩ := Option.bind_eq_some_iff.mp h
    have A2 := Aside0.mk hq
    cases q with
    | false =>
      rw [if_neg (by decide)] at h
      simp only [Option.some.injEq, Prod.mk.injEq] at h
      obtain ⟨rfl, rfl⟩ := h
      clear hr0 hc0 hs hq
      go_enter Try.func43, Try.ntmps43
      go_wp2_with (first | (go_at_call 47; (with_reducible refine (impl_isSide.calls _ true _ A1.out).mono ?_); rintro e w5 ⟨rfl, ⟨n1, rfl⟩⟩) | (go_at_call 48; (with_reducible refine (impl_isSquare.calls _ _ l0 false _ (by repeat (first | exact HR0.out | (with_reducible refine Kd.C_drewN ?_ _) | (with_reducible refine Kd.C_drew ?_) | (with_reducible refine Kd.C_alloc ?_ _))) HC0.out A2.out).mono ?_); rintro e w5 ⟨rfl, hb⟩; have HB := Aside0.mk (below_step (by repeat (first | exact HB0.out | apply below_alloc | apply pw_below_drewN | apply below_drew1)) hb); clear hb))
      go_ret2
      exact ⟨_, rfl, Kd.S_nil _ _ _ _ _, HB.out⟩
    | true =>
      rw [if_pos rfl] at h
      by_cases hl : l0.length ≤ 1048576
      · rw [if_pos hl] at h
        have hsq : ∀ x ∈ l0, x.length = l0.length := by
          unfold impl_isSquare.f at hq
          simpa using hq
        obtain ⟨b, hb, h⟩ := Option.bind_eq_some_iff.mp h
        have A3 := Aside0.mk hb
        have HT := Aside0.mk (fun (W : World) (hb : Below w.heap.size w W) (g1 g2 : Addr) (h1 : W.cell? g1 = some (.slice A0 l0.length c0)) (h2 : W.cell? g2 = some (.func (.func 71) #[] #[.pointer (some g1)])) =>
          table_any 72 #[.pointer (some g2)] (outV l0) l0.length l0.length hl hl W (enters_of Try.func72 (by kernel_rfl) rfl)
            (fun W' hb' i j hi hj => impl_FromCorners.clo2 l0 A0 c0 g1 g2 W' (Kd.C_below (Kd.C_below hr0 hb) hb') hl hsq (pw_cell_below hb' h1) (pw_cell_below hb' h2) i j hi hj))
        obtain ⟨T, hTT⟩ : ∃ T, T = tabOf l0.length l0.length (outV l0) := ⟨_, rfl⟩
        rw [← hTT] at A3 HT h
        clear hr0 hc0 hs hq hl hsq hb hTT
        have H2 : ∃ r, r1 = (if b = true then T else []) ∧ r2 = b ∧ r = r1 := by
          cases b with
          | true =>
            rw [if_pos rfl] at h
            simp only [Option.some.injEq, Prod.mk.injEq] at h
            exact ⟨_, h.1.symm, h.2.symm, rfl⟩
          | false =>
            rw [if_neg (by decide)] at h
            simp only [Option.some.injEq, Prod.mk.injEq] at h
            exact ⟨_, h.1.symm, h.2.symm, rfl⟩
        clear h
        obtain ⟨_, rfl, rfl, _⟩ := H2
        cases r2 with
        | true =>
          go_enter Try.func43, Try.ntmps43
          go_wp2_with (first | (go_at_call 47; (with_reducible refine (impl_isSide.calls _ true _ A1.out).mono ?_); rintro e w5 ⟨rfl, ⟨n1, rfl⟩⟩) | (go_at_call 48; (with_reducible refine (impl_isSquare.calls _ _ l0 true _ (by repeat (first | exact HR0.out | (with_reducible refine Kd.C_drewN ?_ _) | (with_reducible refine Kd.C_drew ?_) | (with_reducible refine Kd.C_alloc ?_ _))) HC0.out A2.out).mono ?_); rintro e w5 ⟨rfl, hb⟩; have hx5 := pw_cell_below hb (show World.cell? _ ⟨w.heap.size, 0, none⟩ = some (.slice A0 l0.length c0) by go_simp); have hlt5 : w.heap.size < w5.heap.size := World.block_lt_of_cell? w5 _ hx5; have hx6 : ∀ o, (w5.alloc o).cell? ⟨w.heap.size, 0, none⟩ = some (.slice A0 l0.length c0) := fun o => pw_cell_below (by repeat (first | exact Below.refl _ _ | apply below_alloc)) hx5; have HB1 := Aside0.mk (below_step (by repeat (first | exact HB0.out | apply below_alloc | apply pw_below_drewN | apply below_drew1)) hb); clear hb) | (go_at_call 66; (with_reducible refine (HT.out _ ?hb ⟨w.heap.size, 0, none⟩ _ ?h1 ?h2).mono ?_); (case hb => (repeat (first | exact HB1.out | apply below_alloc | apply pw_below_drewN | apply below_drew1))); (case h1 => exact hx6 _); (case h2 => go_simp); rintro e w' ⟨v, rfl, hS, hb⟩; obtain ⟨At, ct, rfl⟩ := Kd.S_slice hS; have hR := Kd.S_reads' hS; have HRT := Aside0.mk hR; have HST := Aside0.mk (Kd.S_lower hS (below_size (by repeat (first | exact HB1.out | apply below_alloc | apply pw_below_drewN | apply below_drew1)))); have HBT := Aside0.mk (below_step (by repeat (first | exact HB1.out | apply below_alloc | apply pw_below_drewN | apply below_drew1)) hb); clear hS hR hb) | (go_at_call 18; (with_reducible refine (impl_IsSignMatrix.calls k _ _ T _ _ HRT.out.2.2 HRT.out.2.1 A3.out).mono ?_); rintro e w7 ⟨rfl, hb⟩; have HSE := Aside0.mk (Kd.S_below HST.out hb); have HBE := Aside0.mk (below_step HBT.out hb); clear hb))
          go_ret2
          exact ⟨_, rfl, HSE.out, HBE.out⟩
        | false =>
          go_enter Try.func43, Try.ntmps43
          go_wp2_with (first | (go_at_call 47; (with_reducible refine (impl_isSide.calls _ true _ A1.out).mono ?_); rintro e w5 ⟨rfl, ⟨n1, rfl⟩⟩) | (go_at_call 48; (with_reducible refine (impl_isSquare.calls _ _ l0 true _ (by repeat (first | exact HR0.out | (with_reducible refine Kd.C_drewN ?_ _) | (with_reducible refine Kd.C_drew ?_) | (with_reducible refine Kd.C_alloc ?_ _))) HC0.out A2.out).mono ?_); rintro e w5 ⟨rfl, hb⟩; have hx5 := pw_cell_below hb (show World.cell? _ ⟨w.heap.size, 0, none⟩ = some (.slice A0 l0.length c0) by go_simp); have hlt5 : w.heap.size < w5.heap.size := World.block_lt_of_cell? w5 _ hx5; have hx6 : ∀ o, (w5.alloc o).cell? ⟨w.heap.size, 0, none⟩ = some (.slice A0 l0.length c0) := fun o => pw_cell_below (by repeat (first | exact Below.refl _ _ | apply below_alloc)) hx5; have HB1 := Aside0.mk (below_step (by repeat (first | exact HB0.out | apply below_alloc | apply pw_below_drewN | apply below_drew1)) hb); clear hb) | (go_at_call 66; (with_reducible refine (HT.out _ ?hb ⟨w.heap.size, 0, none⟩ _ ?h1 ?h2).mono ?_); (case hb => (repeat (first | exact HB1.out | apply below_alloc | apply pw_below_drewN | apply below_drew1))); (case h1 => exact hx6 _); (case h2 => go_simp); rintro e w' ⟨v, rfl, hS, hb⟩; obtain ⟨At, ct, rfl⟩ := Kd.S_slice hS; have hR := Kd.S_reads' hS; have HRT := Aside0.mk hR; have HST := Aside0.mk (Kd.S_lower hS (below_size (by repeat (first | exact HB1.out | apply below_alloc | apply pw_below_drewN | apply below_drew1)))); have HBT := Aside0.mk (below_step (by repeat (first | exact HB1.out | apply below_alloc | apply pw_below_drewN | apply below_drew1)) hb); clear hS hR hb) | (go_at_call 18; (with_reducible refine (impl_IsSignMatrix.calls k _ _ T _ _ HRT.out.2.2 HRT.out.2.1 A3.out).mono ?_); rintro e w7 ⟨rfl, hb⟩; have HSE := Aside0.mk (Kd.S_below HST.out hb); have HBE := Aside0.mk (below_step HBT.out hb); clear hb))
          go_ret2
          exact ⟨_, rfl, Kd.S_nil _ _ _ _ _, HBE.out⟩
      · rw [if_neg hl] at h
        cases h

end Go.Proofs.Ytanikglfkhheaaa.P
