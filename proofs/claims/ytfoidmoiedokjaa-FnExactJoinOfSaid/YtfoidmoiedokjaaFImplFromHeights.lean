-- By gp.py (this session's own driver over the kit's print). Not trusted: Lean checks it.
import Derived.Test.YtfoidmoiedokjaaF0
import Derived.Test.YtfoidmoiedokjaaB
import Derived.Laws.EntriesVeiled
import Derived.Test.YtfoidmoiedokjaaTab
import Derived.Test.YtfoidmoiedokjaaFImplCompareTables
import Derived.Test.YtfoidmoiedokjaaFImplCorn
import Derived.Test.YtfoidmoiedokjaaFImplGood
import Derived.Test.YtfoidmoiedokjaaFImplIn
namespace Go.Proofs.Ytfoidmoiedokjaa.P
open Go.Proofs.Ytfoidmoiedokjaa.B
open Go.RowKit Go.Proofs.YtfoidmoiedokjaaW.PrintWords Go.Proofs.YtfoidmoiedokjaaW.PrintLast Go.Proofs.YtfoidmoiedokjaaW.PrintMore
attribute [local go_sem] max2_int min2_int max_two min_two max_three min_three max_four min_four   -- for this text's walks alone
set_option linter.unusedVariables false
set_option linter.unusedSimpArgs false

/-! ### impl_fromHeights: function 72 (given) -/
/-- The corner sum that a height tells. -/
def cnV (l : List (List Int)) (i j : Nat) : Int := wrap64 ((wrap64 ((i : Int) + (j : Int) - gd l i j)).tdiv 2)
/-- The number that four of them make. -/
def fhV (l : List (List Int)) (i j : Nat) : Int := wrap64 (wrap64 (wrap64 (cnV l (i + 1) (j + 1) - cnV l i (j + 1)) - cnV l (i + 1) j) + cnV l i j)
def impl_fromHeights.f (l0 : List (List Int)) : Option (List (List Int)) := if 1 ≤ l0.length ∧ l0.length ≤ 1048576 ∧ ∀ x ∈ l0, x.length = l0.length then some (tabOf (l0.length - 1) (l0.length - 1) (fhV l0)) else none
set_option maxHeartbeats 8000000 in
set_option maxRecDepth 100000 in
theorem impl_fromHeights.clo1 (l : List (List Int)) (A : Option Addr) (c : Nat) (g1 : Addr) (w : World) (hr : Kd.C (Kd.slice 3 (Kd.int .i64)) w A l.length l) (hl : l.length ≤ 1048576) (hsq : ∀ x ∈ l, x.length = l.length) (h1 : w.cell? g1 = some (.slice A l.length c)) (i j : Nat) (hi : i < l.length) (hj : j < l.length) :
    Calls Try.prog 102 #[.int .i64 (i : Int), .int .i64 (j : Int), .pointer (some g1)] w fun e w' => e = .returned (.int .i64 (cnV l i j)) ∧ Drawn0 w w' := by
  obtain ⟨ad, A0, c0, rfl, hx0, hc0, hr0⟩ := at_row hr i hi
  have hlen : (l.getD i []).length = l.length := getD_row hsq hi
  obtain ⟨ad2, rfl, hx1⟩ := at_num hr0 j (by omega)
  rw [hlen] at hx0
  unfold cnV
  obtain ⟨v, hv⟩ : ∃ v, v = gd l i j := ⟨_, rfl⟩
  change w.cell? _ = some (.int .i64 (gd l i j)) at hx1
  rw [← hv] at hx1 ⊢
  clear hv
  have b3 : decide (i < l.length) = true := decide_eq_true hi
  have b4 : decide (j < l.length) = true := decide_eq_true hj
  have b5 : (0 : Int) ≤ (i : Int) := by omega
  have b6 : (0 : Int) ≤ (j : Int) := by omega
  clear hr hr0 hc0 hlen hsq
  go_enter Try.func102, Try.ntmps102
  go_wp2
  go_ret
  exact ⟨by first | rfl | (simp only [i64_w]; rfl), (by repeat (first | exact Drawn0.refl _ | apply Drawn0.step))⟩
set_option maxHeartbeats 8000000 in
set_option maxRecDepth 100000 in
theorem impl_fromHeights.clo2 (l : List (List Int)) (A : Option Addr) (c : Nat) (g1 g2 : Addr) (w : World) (hr : Kd.C (Kd.slice 3 (Kd.int .i64)) w A l.length l) (hl : l.length ≤ 1048576) (hsq : ∀ x ∈ l, x.length = l.length) (h1 : w.cell? g1 = some (.slice A l.length c)) (h2 : w.cell? g2 = some (.func (.func 102) #[] #[.pointer (some g1)])) (i j : Nat) (hi : i + 1 < l.length) (hj : j + 1 < l.length) :
    Calls Try.prog 103 (#[.int .i64 (i : Int), .int .i64 (j : Int)] ++ #[.pointer (some g2)]) w fun e w' => e = .returned (.int .i64 (fhV l i j)) ∧ Drawn0 w w' := by
  have HC : ∀ (n : Nat) (i j : Nat), i < l.length → j < l.length → Calls Try.prog 102 #[.int .i64 (i : Int), .int .i64 (j : Int), .pointer (some g1)] (w.drewN n) fun e w' => e = .returned (.int .i64 (cnV l i j)) ∧ Drawn0 (w.drewN n) w' :=
    fun n i j a1 a2 => impl_fromHeights.clo1 l A c g1 (w.drewN n) (Kd.C_drewN hr n) hl hsq h1 i j a1 a2
  obtain ⟨v0, hv0⟩ : ∃ v, v = cnV l (i + 1) (j + 1) := ⟨_, rfl⟩
  obtain ⟨v1, hv1⟩ : ∃ v, v = cnV l i (j + 1) := ⟨_, rfl⟩
  obtain ⟨v2, hv2⟩ : ∃ v, v = cnV l (i + 1) j := ⟨_, rfl⟩
  obtain ⟨v3, hv3⟩ : ∃ v, v = cnV l i j := ⟨_, rfl⟩
  have K0 := fun n => HC n (i + 1) (j + 1) (by omega) (by omega)
  have K1 := fun n => HC n i (j + 1) (by omega) (by omega)
  have K2 := fun n => HC n (i + 1) j (by omega) (by omega)
  have K3 := fun n => HC n i j (by omega) (by omega)
  have c1 : ((i + 1 : Nat) : Int) = (i : Int) + 1 := by omega
  have c2 : ((j + 1 : Nat) : Int) = (j : Int) + 1 := by omega
  rw [← hv0, c1, c2] at K0
  rw [← hv1, c2] at K1
  rw [← hv2, c1] at K2
  rw [← hv3] at K3
  have hv : fhV l i j = wrap64 (wrap64 (wrap64 (v0 - v1) - v2) + v3) := by unfold fhV; rw [hv0, hv1, hv2, hv3]
  rw [hv]
  have k0 := Aside0.mk K0
  have k1 := Aside0.mk K1
  have k2 := Aside0.mk K2
  have k3 := Aside0.mk K3
  have e1 : IntKind.i64.wrap ((i : Int) + 1) = (i : Int) + 1 := by rw [i64_w]; exact wrapE _ (by omega) (by omega)
  have e2 : IntKind.i64.wrap ((j : Int) + 1) = (j : Int) + 1 := by rw [i64_w]; exact wrapE _ (by omega) (by omega)
  have hE1 := enters_of Try.func102 (by kernel_rfl) rfl
  clear hr hsq h1 HC hv hv0 hv1 hv2 hv3 K0 K1 K2 K3 c1 c2 hi hj hl
  go_enter Try.func103, Try.ntmps103
  go_wp2
  refine wp_region_quiet_lit (by kernel_rfl) (by kernel_rfl) ?_
  repeat (first | (refine wpQuiet_step (fun K hK => ?_); refine quietF_ (v := .int .i64 v0) 102 #[.pointer (some g1)] #[.int .i64 ((i : Int) + 1), .int .i64 ((j : Int) + 1), .pointer (some g1)] hE1 (by rfl) rfl (by rfl) (by simp only [List.map_toArray, List.map_cons, List.map_nil]; rfl) ?_ (hK _ ?_); (focus (rintro W ⟨n, rfl⟩; refine (k0.out n).mono ?_; rintro e w' ⟨rfl, ⟨nd, rfl⟩⟩; exact ⟨rfl, _, World.drewN_drewN _ _ _⟩)); clear hK K) | (refine wpQuiet_step (fun K hK => ?_); refine quietF_ (v := .int .i64 v1) 102 #[.pointer (some g1)] #[.int .i64 ((i : Int)), .int .i64 ((j : Int) + 1), .pointer (some g1)] hE1 (by rfl) rfl (by rfl) (by simp only [List.map_toArray, List.map_cons, List.map_nil]; rfl) ?_ (hK _ ?_); (focus (rintro W ⟨n, rfl⟩; refine (k1.out n).mono ?_; rintro e w' ⟨rfl, ⟨nd, rfl⟩⟩; exact ⟨rfl, _, World.drewN_drewN _ _ _⟩)); clear hK K) | (refine wpQuiet_step (fun K hK => ?_); refine quietF_ (v := .int .i64 v2) 102 #[.pointer (some g1)] #[.int .i64 ((i : Int) + 1), .int .i64 ((j : Int)), .pointer (some g1)] hE1 (by rfl) rfl (by rfl) (by simp only [List.map_toArray, List.map_cons, List.map_nil]; rfl) ?_ (hK _ ?_); (focus (rintro W ⟨n, rfl⟩; refine (k2.out n).mono ?_; rintro e w' ⟨rfl, ⟨nd, rfl⟩⟩; exact ⟨rfl, _, World.drewN_drewN _ _ _⟩)); clear hK K) | (refine wpQuiet_step (fun K hK => ?_); refine quietF_ (v := .int .i64 v3) 102 #[.pointer (some g1)] #[.int .i64 ((i : Int)), .int .i64 ((j : Int)), .pointer (some g1)] hE1 (by rfl) rfl (by rfl) (by simp only [List.map_toArray, List.map_cons, List.map_nil]; rfl) ?_ (hK _ ?_); (focus (rintro W ⟨n, rfl⟩; refine (k3.out n).mono ?_; rintro e w' ⟨rfl, ⟨nd, rfl⟩⟩; exact ⟨rfl, _, World.drewN_drewN _ _ _⟩)); clear hK K) | quiet_step (fail))
  refine wpQuiet_nil ?_
  intro _ hw'
  obtain ⟨nq, hw''⟩ := hw'
  subst hw''
  go_wp2
  go_ret
  exact ⟨by simp only [i64_w]; rfl, (by repeat (first | exact Drawn0.refl _ | apply Drawn0.step))⟩
set_option maxHeartbeats 8000000 in
set_option maxRecDepth 100000 in
theorem impl_fromHeights.calls (A0 : Option Addr) (c0 : Nat) (l0 : List (List Int)) (r : List (List Int)) (w : World) (hr0 : Kd.C (Kd.slice 3 (Kd.int .i64)) w A0 l0.length l0) (hc0 : l0.length ≤ c0) (h : impl_fromHeights.f l0 = some r) :
    Calls Try.prog 72 #[.slice A0 l0.length c0] w fun e w' => ∃ v0_ : Value, e = .returned (v0_) ∧ Kd.S (Kd.slice 3 (Kd.int .i64)) 41 w' w.heap.size (fun _ => True) v0_ r ∧ Below w.heap.size w w' := by
  unfold impl_fromHeights.f at h
  by_cases hc : 1 ≤ l0.length ∧ l0.length ≤ 1048576 ∧ ∀ x ∈ l0, x.length = l0.length
  · rw [if_pos hc] at h
    obtain rfl := Option.some.inj h
    clear h
    obtain ⟨h1', hl, hsq⟩ := hc
    have HB0 := Aside0.mk (Below.refl w.heap.size w)
    have HT := Aside0.mk (fun (W : World) (hb : Below w.heap.size w W) (g1 g2 : Addr) (h1 : W.cell? g1 = some (.slice A0 l0.length c0)) (h2 : W.cell? g2 = some (.func (.func 102) #[] #[.pointer (some g1)])) =>
      table_any 103 #[.pointer (some g2)] (fhV l0) (l0.length - 1) (l0.length - 1) (by omega) (by omega) W (enters_of Try.func103 (by kernel_rfl) rfl)
        (fun W' hb' i j hi hj => impl_fromHeights.clo2 l0 A0 c0 g1 g2 W' (Kd.C_below (Kd.C_below hr0 hb) hb') hl hsq (pw_cell_below hb' h1) (pw_cell_below hb' h2) i j (by omega) (by omega)))
    have hn : ((l0.length - 1 : Nat) : Int) = wrap64 ((l0.length : Int) - 1) := by rw [wrapE _ (by omega) (by omega)]; omega
    rw [hn] at HT
    clear hl hsq hn h1'
    have hmf : ∀ (fn : Fn) (first cap : Array Value) (w : World), (Instr.makeFunc fn first cap).run Try.prog w = .ok (.func fn first cap) w := fun _ _ _ _ => rfl
    go_enter Try.func72, Try.ntmps72
    go_wp2_with (go_at_call 83; (with_reducible refine (HT.out _ ?hb ⟨w.heap.size, 0, none⟩ _ ?h1 ?h2).mono ?_); (case hb => exact (by repeat (first | exact HB0.out | apply below_alloc | apply pw_below_drewN | apply below_drew1))); (case h1 => go_simp); (case h2 => go_simp); rintro e w' ⟨v, rfl, hS, hb⟩; have HS := Aside0.mk (Kd.S_lower hS (below_size (by repeat (first | exact HB0.out | apply below_alloc | apply pw_below_drewN | apply below_drew1)))); have HB := Aside0.mk (below_step (by repeat (first | exact HB0.out | apply below_alloc | apply pw_below_drewN | apply below_drew1)) hb); clear hS hb)
    go_ret
    exact ⟨_, rfl, HS.out, HB.out⟩
  · rw [if_neg hc] at h
    cases h

/-! ### impl_FromHeights: function 39 -/
def impl_FromHeights.j0 : Nat → List (List Int) → Bool → Option ((List (List Int)) × Bool)
  | 0, _, _ => none
  | k + 1, x0, x14 => if x14 = true then (some (([] : List (List Int)), false)) else ((impl_fromHeights.f x0).bind fun t625 => ((impl_IsSignMatrix.f k t625).bind fun t628 => (if t628 = true then ((impl_heights.f k t625).bind fun t629 => ((impl_compareTables.f k t629 x0).bind fun t632 => (if t632 = 0 then (some (t625, true)) else (some (([] : List (List Int)), false))))) else (some (([] : List (List Int)), false)))))
def impl_FromHeights.f (k : Nat) (l0 : List (List Int)) : Option ((List (List Int)) × Bool) := (impl_isSide.f (wrap64 ((l0.length : Int) - 1))).bind fun t623 => (if t623 = true then ((impl_isSquare.f l0).bind fun t624 => (impl_FromHeights.j0 k l0 (!t624))) else (impl_FromHeights.j0 k l0 true))
theorem impl_FromHeights.mono_l : ∀ k, (∀ y0 y1, LeO (impl_FromHeights.j0 k y0 y1) (impl_FromHeights.j0 (k + 1) y0 y1))
  | 0 => fun _ _ r h => by simp [impl_FromHeights.j0] at h
  | k + 1 => by
    have ih0 := impl_FromHeights.mono_l k
    · intro y0 y1
      unfold impl_FromHeights.j0
      repeat' first
      | (with_reducible exact ih0 _ _)
      | (with_reducible exact impl_IsSignMatrix.mono _ _)
      | (with_reducible exact impl_compareTables.mono _ _ _)
      | (with_reducible exact impl_heights.mono _ _)
      | (with_reducible exact LeO.refl _)
      | (with_reducible exact LeO.none _)
      | (with_reducible refine LeO.ite ?_ ?_)
      | (with_reducible refine LeO.bind ?_ (fun _ => ?_))
      | exact ih0 _ _
      | exact impl_IsSignMatrix.mono _ _
      | exact impl_compareTables.mono _ _ _
      | exact impl_heights.mono _ _
      | exact LeO.none _
      | refine LeO.ite ?_ ?_
      | refine LeO.bind ?_ (fun _ => ?_)
theorem impl_FromHeights.mono : ∀ a0 k, LeO (impl_FromHeights.f k a0) (impl_FromHeights.f (k + 1) a0) := by
  intro a0 k
  have ih0 := impl_FromHeights.mono_l k
  unfold impl_FromHeights.f
  repeat' first
      | (with_reducible exact ih0 _ _)
      | (with_reducible exact impl_IsSignMatrix.mono _ _)
      | (with_reducible exact impl_compareTables.mono _ _ _)
      | (with_reducible exact impl_heights.mono _ _)
      | (with_reducible exact LeO.refl _)
      | (with_reducible exact LeO.none _)
      | (with_reducible refine LeO.ite ?_ ?_)
      | (with_reducible refine LeO.bind ?_ (fun _ => ?_))
      | exact ih0 _ _
      | exact impl_IsSignMatrix.mono _ _
      | exact impl_compareTables.mono _ _ _
      | exact impl_heights.mono _ _
      | exact LeO.none _
      | refine LeO.ite ?_ ?_
      | refine LeO.bind ?_ (fun _ => ?_)
set_option maxHeartbeats 8000000 in
set_option maxRecDepth 100000 in
theorem impl_FromHeights.calls (k : Nat) (A0 : Option Addr) (c0 : Nat) (l0 : List (List Int)) (r1 : List (List Int)) (r2 : Bool) (w : World) (hr0 : Kd.C (Kd.slice 3 (Kd.int .i64)) w A0 l0.length l0) (hc0 : l0.length ≤ c0) (h : impl_FromHeights.f k l0 = some (r1, r2)) :
    Calls Try.prog 39 #[.slice A0 l0.length c0] w fun e w' => ∃ v0_ : Value, e = .returned (.tuple #[v0_, .bool r2]) ∧ Kd.S (Kd.slice 3 (Kd.int .i64)) 41 w' w.heap.size (fun _ => True) v0_ r1 ∧ Below w.heap.size w w' := by
  have HR0 := Aside0.mk hr0
  have HC0 := Aside0.mk hc0
  clear hr0 hc0
  have HB := Aside0.mk (Below.refl w.heap.size w)
  have H : ((impl_isSide.f (wrap64 ((l0.length : Int) - 1))).bind fun t623 => (if t623 = true then ((impl_isSquare.f l0).bind fun t624 => (impl_FromHeights.j0 k l0 (!t624))) else (impl_FromHeights.j0 k l0 true))) = some (r1, r2) := h
  clear h
  have HC2 := Aside0.mk H
  clear H
  go_enter Try.func39, Try.ntmps39
  go_upto_region 1 with (fail)
  go_cut [14] (fun v14 wc => ∃ (kq : Nat) (x14_1 : Bool), v14 = .bool x14_1 ∧ Aside0 (impl_FromHeights.j0 kq l0 x14_1 = some (r1, r2)) ∧ Aside0 (kq ≤ k) ∧ Aside0 (Below w.heap.size w wc))
  case first =>
    have H := HC2.out
    clear HC2
    replace H := Option.bind_eq_some_iff.mp H
    obtain ⟨t623, A30, H⟩ := H
    replace H : (if t623 = true then ((impl_isSquare.f l0).bind fun t624 => (impl_FromHeights.j0 k l0 (!t624))) else (impl_FromHeights.j0 k l0 true)) = some (r1, r2) := H
    have A3 := Aside0.mk A30
    clear A30
    by_cases c4 : t623 = true
    · subst c4
      have H1 : ((impl_isSquare.f l0).bind fun t624 => (impl_FromHeights.j0 k l0 (!t624))) = some (r1, r2) := by rw [if_pos rfl] at H; exact H
      clear H
      have H := H1
      clear H1
      replace H := Option.bind_eq_some_iff.mp H
      obtain ⟨t624, A50, H⟩ := H
      replace H : (impl_FromHeights.j0 k l0 (!t624)) = some (r1, r2) := H
      have A5 := Aside0.mk A50
      clear A50
      have H' := Aside0.mk H
      clear H
      go_wp2_with (first | ((with_reducible refine gate_callee (f := 70) rfl ?_); refine goesL_ (some 8) rfl rfl Try.func70 (by kernel_rfl) rfl #[.int .i64 (wrap64 ((l0.length : Int) - 1))] rfl (by (try simp only [List.map_toArray, List.map_cons, List.map_nil]); first | done | rfl | (simp only [List.length_drop, List.length_take]; rfl)) ?_; (with_reducible refine (impl_isSide.calls (wrap64 ((l0.length : Int) - 1)) true _ A3.out).mono ?_); rintro e w' ⟨rfl, ⟨nd, rfl⟩⟩; refine ⟨_, rfl, ?_⟩) | (go_at_call 71; (with_reducible refine (impl_isSquare.calls _ _ l0 t624 _ ?side1 ?side2 A5.out).mono ?_); (case side1 => repeat (first | exact (Kd.C_below HR0.out (by repeat (first | (with_reducible first | exact HB.out | apply below_alloc | apply pw_below_drewN | apply below_drew1) | exact HB.out))) | (with_reducible refine Kd.C_alloc ?_ _) | (with_reducible refine Kd.C_drewN ?_ _) | (with_reducible refine Kd.C_drew ?_))); (case side2 => exact HC0.out); rintro e w6 ⟨rfl, hb⟩; have n0_ := Aside0.mk (below_step (by repeat (first | (with_reducible first | exact HB.out | apply below_alloc | apply pw_below_drewN | apply below_drew1) | exact HB.out)) hb); clear HB; have HB := n0_; clear n0_; (try clear hb); (try clear hb2); (try clear hk); (try clear hi)))
      go_meet
      case rel => exact ⟨_, (!t624), (by first | rfl | (simp; done) | (simp [*]; done)), H', ⟨by first | omega | exact Nat.le_refl _⟩, ⟨by repeat (first | (with_reducible first | exact HB.out | apply below_alloc | apply pw_below_drewN | apply below_drew1) | exact HB.out)⟩⟩
    · replace c4 := Bool.eq_false_iff.mpr c4
      subst c4
      have H1 : (impl_FromHeights.j0 k l0 true) = some (r1, r2) := by rw [if_neg (show ¬ (false = true) by decide)] at H; exact H
      clear H
      have H := H1
      clear H1
      have H' := Aside0.mk H
      clear H
      go_wp2_with (first | ((with_reducible refine gate_callee (f := 70) rfl ?_); refine goesL_ (some 8) rfl rfl Try.func70 (by kernel_rfl) rfl #[.int .i64 (wrap64 ((l0.length : Int) - 1))] rfl (by (try simp only [List.map_toArray, List.map_cons, List.map_nil]); first | done | rfl | (simp only [List.length_drop, List.length_take]; rfl)) ?_; (with_reducible refine (impl_isSide.calls (wrap64 ((l0.length : Int) - 1)) false _ A3.out).mono ?_); rintro e w' ⟨rfl, ⟨nd, rfl⟩⟩; refine ⟨_, rfl, ?_⟩))
      go_meet
      case rel => exact ⟨_, (true), (by first | rfl | (simp; done) | (simp [*]; done)), H', ⟨by first | omega | exact Nat.le_refl _⟩, ⟨by repeat (first | (with_reducible first | exact HB.out | apply below_alloc | apply pw_below_drewN | apply below_drew1) | exact HB.out)⟩⟩
  case rest =>
    clear HC2
    try clear p2
    try clear c3
    try clear c4
    try clear p6
    obtain ⟨kq, x14_1, rfl, HA, HJ1, HB⟩ := hcut
    cases kq with
    | zero => exact absurd HA.out (by simp [impl_FromHeights.j0])
    | succ kj1 =>
      have H := HA.out
      clear HA
      simp only [impl_FromHeights.j0] at H
      by_cases c7 : x14_1 = true
      · subst c7
        have H1 : (some (([] : List (List Int)), false)) = some (r1, r2) := by rw [if_pos rfl] at H; exact H
        clear H
        have H := H1
        clear H1
        simp only [Option.some.injEq, Prod.mk.injEq] at H
        obtain ⟨rfl, rfl⟩ := H
        go_wp2
        go_ret2
        exact ⟨_, by first | rfl | (simp [errW_none, errW_some] <;> rfl) | (simp [*, errW_none, errW_some] <;> rfl), by first | exact Kd.S_nil _ _ _ _ _ | exact Kd.N_nil _ _ _ _ _ | exact Kd.V_nil _ _ _ _ _ | exact Kd.Q_nil _ _ _ _ _ | exact Kd.R_nil _ _ _ _ _, by repeat (first | (with_reducible first | exact HB.out | apply below_alloc | apply pw_below_drewN | apply below_drew1) | exact HB.out)⟩
      · replace c7 := Bool.eq_false_iff.mpr c7
        subst c7
        have H1 : ((impl_fromHeights.f l0).bind fun t625 => ((impl_IsSignMatrix.f kj1 t625).bind fun t628 => (if t628 = true then ((impl_heights.f kj1 t625).bind fun t629 => ((impl_compareTables.f kj1 t629 l0).bind fun t632 => (if t632 = 0 then (some (t625, true)) else (some (([] : List (List Int)), false))))) else (some (([] : List (List Int)), false))))) = some (r1, r2) := by rw [if_neg (show ¬ (false = true) by decide)] at H; exact H
        clear H
        have H := H1
        clear H1
        replace H := Option.bind_eq_some_iff.mp H
        obtain ⟨t625, A80, H⟩ := H
        replace H : ((impl_IsSignMatrix.f kj1 t625).bind fun t628 => (if t628 = true then ((impl_heights.f kj1 t625).bind fun t629 => ((impl_compareTables.f kj1 t629 l0).bind fun t632 => (if t632 = 0 then (some (t625, true)) else (some (([] : List (List Int)), false))))) else (some (([] : List (List Int)), false)))) = some (r1, r2) := H
        have A8 := Aside0.mk A80
        clear A80
        replace H := Option.bind_eq_some_iff.mp H
        obtain ⟨t628, A90, H⟩ := H
        replace H : (if t628 = true then ((impl_heights.f kj1 t625).bind fun t629 => ((impl_compareTables.f kj1 t629 l0).bind fun t632 => (if t632 = 0 then (some (t625, true)) else (some (([] : List (List Int)), false))))) else (some (([] : List (List Int)), false))) = some (r1, r2) := H
        have A9 := Aside0.mk A90
        clear A90
        by_cases c10 : t628 = true
        · subst c10
          have H1 : ((impl_heights.f kj1 t625).bind fun t629 => ((impl_compareTables.f kj1 t629 l0).bind fun t632 => (if t632 = 0 then (some (t625, true)) else (some (([] : List (List Int)), false))))) = some (r1, r2) := by rw [if_pos rfl] at H; exact H
          clear H
          have H := H1
          clear H1
          replace H := Option.bind_eq_some_iff.mp H
          obtain ⟨t629, A110, H⟩ := H
          replace H : ((impl_compareTables.f kj1 t629 l0).bind fun t632 => (if t632 = 0 then (some (t625, true)) else (some (([] : List (List Int)), false)))) = some (r1, r2) := H
          have A11 := Aside0.mk A110
          clear A110
          replace H := Option.bind_eq_some_iff.mp H
          obtain ⟨t632, A120, H⟩ := H
          replace H : (if t632 = 0 then (some (t625, true)) else (some (([] : List (List Int)), false))) = some (r1, r2) := H
          have A12 := Aside0.mk A120
          clear A120
          by_cases c13 : t632 = 0
          · rw [if_pos c13] at H
            have c13b0 : (t632 == 0) = true := beq_iff_eq.mpr c13
            have c13b1 : (t632 != 0) = false := bne_eq_false_iff_eq.mpr c13
            clear c13
            simp only [Option.some.injEq, Prod.mk.injEq] at H
            obtain ⟨rfl, rfl⟩ := H
            go_wp2_with (first | ((with_reducible refine gate_callee (f := 72) rfl ?_); refine goesL_ (some 16) rfl rfl Try.func72 (by kernel_rfl) rfl #[.slice A0 l0.length c0] rfl (by (try simp only [List.map_toArray, List.map_cons, List.map_nil]); first | done | rfl | (simp only [List.length_drop, List.length_take]; rfl)) ?_; (with_reducible refine (impl_fromHeights.calls _ _ l0 t625 _ ?side1 ?side2 A8.out).mono ?_); (case side1 => repeat (first | exact (Kd.C_below HR0.out HB.out) | (with_reducible refine Kd.C_alloc ?_ _) | (with_reducible refine Kd.C_drewN ?_ _) | (with_reducible refine Kd.C_drew ?_))); (case side2 => exact HC0.out); rintro e w14 ⟨v626, rfl, ho0, hb⟩; refine ⟨_, rfl, ?_⟩; have n0_ := Aside0.mk (Kd.S_lower ho0 (below_size (by repeat (first | (with_reducible first | exact HB.out | apply below_alloc | apply pw_below_drewN | apply below_drew1) | exact HB.out)))); have n1_ := Aside0.mk (below_step (by repeat (first | (with_reducible first | exact HB.out | apply below_alloc | apply pw_below_drewN | apply below_drew1) | exact HB.out)) hb); clear HB; have HO627 := n0_; have HB := n1_; clear n0_ n1_; (try clear hb); (try clear hb2); (try clear hk); (try clear hi); (try clear ho0); obtain ⟨Ao15, co15, eo15⟩ := Kd.S_slice HO627.out; subst eo15) | ((with_reducible refine gate_callee (f := 55) rfl ?_); refine goesL_ (some 18) rfl rfl Try.func55 (by kernel_rfl) rfl #[.slice Ao15 t625.length co15] rfl (by (try simp only [List.map_toArray, List.map_cons, List.map_nil]); first | done | rfl | (simp only [List.length_drop, List.length_take]; rfl)) ?_; (with_reducible refine (impl_IsSignMatrix.calls kj1 _ _ t625 true _ ?side1 ?side2 A9.out).mono ?_); (case side1 => repeat (first | exact (Kd.S_reads' HO627.out).2.2 | (with_reducible refine Kd.C_alloc ?_ _) | (with_reducible refine Kd.C_drewN ?_ _) | (with_reducible refine Kd.C_drew ?_))); (case side2 => exact (Kd.S_reads' HO627.out).2.1); rintro e w16 ⟨rfl, hb⟩; refine ⟨_, rfl, ?_⟩; have n0_ := Aside0.mk (Kd.S_below (by (with_reducible repeat (first | apply Kd.S_alloc | apply Kd.S_drewN | apply Kd.S_drew)); exact HO627.out) hb); have n1_ := Aside0.mk (below_step (by repeat (first | (with_reducible first | exact HB.out | apply below_alloc | apply pw_below_drewN | apply below_drew1) | exact HB.out)) hb); clear HO627; clear HB; have HO627 := n0_; have HB := n1_; clear n0_ n1_; (try clear hb); (try clear hb2); (try clear hk); (try clear hi)) | (go_at_call 49; (with_reducible refine (impl_heights.calls kj1 _ _ t625 t629 _ ?side1 ?side2 A11.out).mono ?_); (case side1 => repeat (first | exact (Kd.S_reads' HO627.out).2.2 | (with_reducible refine Kd.C_alloc ?_ _) | (with_reducible refine Kd.C_drewN ?_ _) | (with_reducible refine Kd.C_drew ?_))); (case side2 => exact (Kd.S_reads' HO627.out).2.1); rintro e w17 ⟨v630, rfl, ho0, hb⟩; have n0_ := Aside0.mk (Kd.S_elder' (by (with_reducible repeat (first | apply Kd.S_alloc | apply Kd.S_drewN | apply Kd.S_drew)); exact HO627.out) (Kd.S_base ho0) hb); have n1_ := Aside0.mk (Kd.S_lower (Kd.S_new' ho0 (Kd.S_lt (by (with_reducible repeat (first | apply Kd.S_alloc | apply Kd.S_drewN | apply Kd.S_drew)); exact HO627.out))) (below_size (by repeat (first | (with_reducible first | exact HB.out | apply below_alloc | apply pw_below_drewN | apply below_drew1) | exact HB.out)))); have n2_ := Aside0.mk (below_step (by repeat (first | (with_reducible first | exact HB.out | apply below_alloc | apply pw_below_drewN | apply below_drew1) | exact HB.out)) hb); clear HO627; clear HB; have HO627 := n0_; have HO631 := n1_; have HB := n2_; clear n0_ n1_ n2_; (try clear hb); (try clear hb2); (try clear hk); (try clear hi); (try clear ho0); obtain ⟨Ao18, co18, eo18⟩ := Kd.S_slice HO631.out; subst eo18) | (go_at_call 73; (with_reducible refine (impl_compareTables.calls kj1 _ _ t629 _ _ l0 t632 _ ?side1 ?side2 ?side3 ?side4 A12.out).mono ?_); (case side1 => repeat (first | exact (Kd.S_reads' HO631.out).2.2 | (with_reducible refine Kd.C_alloc ?_ _) | (with_reducible refine Kd.C_drewN ?_ _) | (with_reducible refine Kd.C_drew ?_))); (case side2 => exact (Kd.S_reads' HO631.out).2.1); (case side3 => repeat (first | exact (Kd.C_below HR0.out HB.out) | (with_reducible refine Kd.C_alloc ?_ _) | (with_reducible refine Kd.C_drewN ?_ _) | (with_reducible refine Kd.C_drew ?_))); (case side4 => exact HC0.out); rintro e w' ⟨rfl, ⟨nd, rfl⟩⟩))
            go_ret2
            exact ⟨_, by first | rfl | (simp [errW_none, errW_some] <;> rfl) | (simp [*, errW_none, errW_some] <;> rfl), by (with_reducible repeat (first | apply Kd.S_alloc | apply Kd.S_drewN | apply Kd.S_drew)); exact Kd.S_mono HO627.out (fun _ hk => trivial), by repeat (first | (with_reducible first | exact HB.out | apply below_alloc | apply pw_below_drewN | apply below_drew1) | exact HB.out)⟩
          · rw [if_neg c13] at H
            have c13b0 : (t632 == 0) = false := beq_eq_false_iff_ne.mpr c13
            have c13b1 : (t632 != 0) = true := bne_iff_ne.mpr c13
            simp only [Option.some.injEq, Prod.mk.injEq] at H
            obtain ⟨rfl, rfl⟩ := H
            go_wp2_with (first | ((with_reducible refine gate_callee (f := 72) rfl ?_); refine goesL_ (some 16) rfl rfl Try.func72 (by kernel_rfl) rfl #[.slice A0 l0.length c0] rfl (by (try simp only [List.map_toArray, List.map_cons, List.map_nil]); first | done | rfl | (simp only [List.length_drop, List.length_take]; rfl)) ?_; (with_reducible refine (impl_fromHeights.calls _ _ l0 t625 _ ?side1 ?side2 A8.out).mono ?_); (case side1 => repeat (first | exact (Kd.C_below HR0.out HB.out) | (with_reducible refine Kd.C_alloc ?_ _) | (with_reducible refine Kd.C_drewN ?_ _) | (with_reducible refine Kd.C_drew ?_))); (case side2 => exact HC0.out); rintro e w19 ⟨v626, rfl, ho0, hb⟩; refine ⟨_, rfl, ?_⟩; have n0_ := Aside0.mk (Kd.S_lower ho0 (below_size (by repeat (first | (with_reducible first | exact HB.out | apply below_alloc | apply pw_below_drewN | apply below_drew1) | exact HB.out)))); have n1_ := Aside0.mk (below_step (by repeat (first | (with_reducible first | exact HB.out | apply below_alloc | apply pw_below_drewN | apply below_drew1) | exact HB.out)) hb); clear HB; have HO627 := n0_; have HB := n1_; clear n0_ n1_; (try clear hb); (try clear hb2); (try clear hk); (try clear hi); (try clear ho0); obtain ⟨Ao20, co20, eo20⟩ := Kd.S_slice HO627.out; subst eo20) | ((with_reducible refine gate_callee (f := 55) rfl ?_); refine goesL_ (some 18) rfl rfl Try.func55 (by kernel_rfl) rfl #[.slice Ao20 t625.length co20] rfl (by (try simp only [List.map_toArray, List.map_cons, List.map_nil]); first | done | rfl | (simp only [List.length_drop, List.length_take]; rfl)) ?_; (with_reducible refine (impl_IsSignMatrix.calls kj1 _ _ t625 true _ ?side1 ?side2 A9.out).mono ?_); (case side1 => repeat (first | exact (Kd.S_reads' HO627.out).2.2 | (with_reducible refine Kd.C_alloc ?_ _) | (with_reducible refine Kd.C_drewN ?_ _) | (with_reducible refine Kd.C_drew ?_))); (case side2 => exact (Kd.S_reads' HO627.out).2.1); rintro e w21 ⟨rfl, hb⟩; refine ⟨_, rfl, ?_⟩; have n0_ := Aside0.mk (Kd.S_below (by (with_reducible repeat (first | apply Kd.S_alloc | apply Kd.S_drewN | apply Kd.S_drew)); exact HO627.out) hb); have n1_ := Aside0.mk (below_step (by repeat (first | (with_reducible first | exact HB.out | apply below_alloc | apply pw_below_drewN | apply below_drew1) | exact HB.out)) hb); clear HO627; clear HB; have HO627 := n0_; have HB := n1_; clear n0_ n1_; (try clear hb); (try clear hb2); (try clear hk); (try clear hi)) | (go_at_call 49; (with_reducible refine (impl_heights.calls kj1 _ _ t625 t629 _ ?side1 ?side2 A11.out).mono ?_); (case side1 => repeat (first | exact (Kd.S_reads' HO627.out).2.2 | (with_reducible refine Kd.C_alloc ?_ _) | (with_reducible refine Kd.C_drewN ?_ _) | (with_reducible refine Kd.C_drew ?_))); (case side2 => exact (Kd.S_reads' HO627.out).2.1); rintro e w22 ⟨v630, rfl, ho0, hb⟩; have n0_ := Aside0.mk (Kd.S_elder' (by (with_reducible repeat (first | apply Kd.S_alloc | apply Kd.S_drewN | apply Kd.S_drew)); exact HO627.out) (Kd.S_base ho0) hb); have n1_ := Aside0.mk (Kd.S_lower (Kd.S_new' ho0 (Kd.S_lt (by (with_reducible repeat (first | apply Kd.S_alloc | apply Kd.S_drewN | apply Kd.S_drew)); exact HO627.out))) (below_size (by repeat (first | (with_reducible first | exact HB.out | apply below_alloc | apply pw_below_drewN | apply below_drew1) | exact HB.out)))); have n2_ := Aside0.mk (below_step (by repeat (first | (with_reducible first | exact HB.out | apply below_alloc | apply pw_below_drewN | apply below_drew1) | exact HB.out)) hb); clear HO627; clear HB; have HO627 := n0_; have HO631 := n1_; have HB := n2_; clear n0_ n1_ n2_; (try clear hb); (try clear hb2); (try clear hk); (try clear hi); (try clear ho0); obtain ⟨Ao23, co23, eo23⟩ := Kd.S_slice HO631.out; subst eo23) | (go_at_call 73; (with_reducible refine (impl_compareTables.calls kj1 _ _ t629 _ _ l0 t632 _ ?side1 ?side2 ?side3 ?side4 A12.out).mono ?_); (case side1 => repeat (first | exact (Kd.S_reads' HO631.out).2.2 | (with_reducible refine Kd.C_alloc ?_ _) | (with_reducible refine Kd.C_drewN ?_ _) | (with_reducible refine Kd.C_drew ?_))); (case side2 => exact (Kd.S_reads' HO631.out).2.1); (case side3 => repeat (first | exact (Kd.C_below HR0.out HB.out) | (with_reducible refine Kd.C_alloc ?_ _) | (with_reducible refine Kd.C_drewN ?_ _) | (with_reducible refine Kd.C_drew ?_))); (case side4 => exact HC0.out); rintro e w' ⟨rfl, ⟨nd, rfl⟩⟩))
            go_ret2
            exact ⟨_, by first | rfl | (simp [errW_none, errW_some] <;> rfl) | (simp [*, errW_none, errW_some] <;> rfl), by first | exact Kd.S_nil _ _ _ _ _ | exact Kd.N_nil _ _ _ _ _ | exact Kd.V_nil _ _ _ _ _ | exact Kd.Q_nil _ _ _ _ _ | exact Kd.R_nil _ _ _ _ _, by repeat (first | (with_reducible first | exact HB.out | apply below_alloc | apply pw_below_drewN | apply below_drew1) | exact HB.out)⟩
        · replace c10 := Bool.eq_false_iff.mpr c10
          subst c10
          have H1 : (some (([] : List (List Int)), false)) = some (r1, r2) := by rw [if_neg (show ¬ (false = true) by decide)] at H; exact H
          clear H
          have H := H1
          clear H1
          simp only [Option.some.injEq, Prod.mk.injEq] at H
          obtain ⟨rfl, rfl⟩ := H
          go_wp2_with (first | ((with_reducible refine gate_callee (f := 72) rfl ?_); refine goesL_ (some 16) rfl rfl Try.func72 (by kernel_rfl) rfl #[.slice A0 l0.length c0] rfl (by (try simp only [List.map_toArray, List.map_cons, List.map_nil]); first | done | rfl | (simp only [List.length_drop, List.length_take]; rfl)) ?_; (with_reducible refine (impl_fromHeights.calls _ _ l0 t625 _ ?side1 ?side2 A8.out).mono ?_); (case side1 => repeat (first | exact (Kd.C_below HR0.out HB.out) | (with_reducible refine Kd.C_alloc ?_ _) | (with_reducible refine Kd.C_drewN ?_ _) | (with_reducible refine Kd.C_drew ?_))); (case side2 => exact HC0.out); rintro e w24 ⟨v626, rfl, ho0, hb⟩; refine ⟨_, rfl, ?_⟩; have n0_ := Aside0.mk (Kd.S_lower ho0 (below_size (by repeat (first | (with_reducible first | exact HB.out | apply below_alloc | apply pw_below_drewN | apply below_drew1) | exact HB.out)))); have n1_ := Aside0.mk (below_step (by repeat (first | (with_reducible first | exact HB.out | apply below_alloc | apply pw_below_drewN | apply below_drew1) | exact HB.out)) hb); clear HB; have HO627 := n0_; have HB := n1_; clear n0_ n1_; (try clear hb); (try clear hb2); (try clear hk); (try clear hi); (try clear ho0); obtain ⟨Ao25, co25, eo25⟩ := Kd.S_slice HO627.out; subst eo25) | ((with_reducible refine gate_callee (f := 55) rfl ?_); refine goesL_ (some 18) rfl rfl Try.func55 (by kernel_rfl) rfl #[.slice Ao25 t625.length co25] rfl (by (try simp only [List.map_toArray, List.map_cons, List.map_nil]); first | done | rfl | (simp only [List.length_drop, List.length_take]; rfl)) ?_; (with_reducible refine (impl_IsSignMatrix.calls kj1 _ _ t625 false _ ?side1 ?side2 A9.out).mono ?_); (case side1 => repeat (first | exact (Kd.S_reads' HO627.out).2.2 | (with_reducible refine Kd.C_alloc ?_ _) | (with_reducible refine Kd.C_drewN ?_ _) | (with_reducible refine Kd.C_drew ?_))); (case side2 => exact (Kd.S_reads' HO627.out).2.1); rintro e w26 ⟨rfl, hb⟩; refine ⟨_, rfl, ?_⟩; have n0_ := Aside0.mk (Kd.S_below (by (with_reducible repeat (first | apply Kd.S_alloc | apply Kd.S_drewN | apply Kd.S_drew)); exact HO627.out) hb); have n1_ := Aside0.mk (below_step (by repeat (first | (with_reducible first | exact HB.out | apply below_alloc | apply pw_below_drewN | apply below_drew1) | exact HB.out)) hb); clear HO627; clear HB; have HO627 := n0_; have HB := n1_; clear n0_ n1_; (try clear hb); (try clear hb2); (try clear hk); (try clear hi)))
          go_ret2
          exact ⟨_, by first | rfl | (simp [errW_none, errW_some] <;> rfl) | (simp [*, errW_none, errW_some] <;> rfl), by first | exact Kd.S_nil _ _ _ _ _ | exact Kd.N_nil _ _ _ _ _ | exact Kd.V_nil _ _ _ _ _ | exact Kd.Q_nil _ _ _ _ _ | exact Kd.R_nil _ _ _ _ _, by repeat (first | (with_reducible first | exact HB.out | apply below_alloc | apply pw_below_drewN | apply below_drew1) | exact HB.out)⟩

end Go.Proofs.Ytfoidmoiedokjaa.P
