-- By gp.py (this session's own driver over the kit's print). Not trusted: Lean checks it.
import Derived.Test.YtadepmjfhcmkoaaF0
import Derived.Test.YtadepmjfhcmkoaaB
import Derived.Deep.RegionHeld3
import Derived.Laws.EntriesVeiled
import Derived.Test.YtadepmjfhcmkoaaIndexFuncRow
import Derived.Test.YtadepmjfhcmkoaaTab
import Derived.Test.YtadepmjfhcmkoaaFImplCorn
import Derived.Test.YtadepmjfhcmkoaaFImplGood
import Derived.Test.YtadepmjfhcmkoaaFImplIn
import Derived.Test.YtadepmjfhcmkoaaFImplWay
namespace Go.Proofs.Ytadepmjfhcmkoaa.P
open Go.Proofs.Ytadepmjfhcmkoaa.B
open Go.RowKit Go.Proofs.YtadepmjfhcmkoaaW.PrintWords Go.Proofs.YtadepmjfhcmkoaaW.PrintLast Go.Proofs.YtadepmjfhcmkoaaW.PrintMore
attribute [local go_sem] max2_int min2_int max_two min_two max_three min_three max_four min_four   -- for this text's walks alone
set_option linter.unusedVariables false
set_option linter.unusedSimpArgs false
/-! ### impl_isCell: function 173 -/
def impl_isCell.f (a0 : Int) (a1 : Int) (a2 : Int) : Option (Bool) := (impl_within.f a1 1 (wrap64 (a0 - 1))).bind fun t712 => (if t712 = true then ((impl_within.f a2 1 (wrap64 (a0 - 1))).bind fun t713 => (some t713)) else (some false))
set_option maxHeartbeats 8000000 in
set_option maxRecDepth 100000 in
theorem impl_isCell.calls (a0 : Int) (a1 : Int) (a2 : Int) (r : Bool) (w : World) (h : impl_isCell.f a0 a1 a2 = some r) :
  Calls Try.prog 173 #[.int .i64 a0, .int .i64 a1, .int .i64 a2] w fun e w' => e = .returned (.bool r) ∧ Drawn0 w w' := by
 have H : ((impl_within.f a1 1 (wrap64 (a0 - 1))).bind fun t712 => (if t712 = true then ((impl_within.f a2 1 (wrap64 (a0 - 1))).bind fun t713 => (some t713)) else (some false))) = some r := h; clear h; replace H := Option.bind_eq_some_iff.mp H; obtain ⟨t712, A40, H⟩ := H; replace H : (if t712 = true then ((impl_within.f a2 1 (wrap64 (a0 - 1))).bind fun t713 => (some t713)) else (some false)) = some r := H; have A4 := Aside0.mk A40; clear A40
 by_cases c5 : t712 = true
 ·subst c5
  have H1 : ((impl_within.f a2 1 (wrap64 (a0 - 1))).bind fun t713 => (some t713)) = some r := by rw [if_pos rfl] at H; exact H
  clear H; have H := H1; clear H1; replace H := Option.bind_eq_some_iff.mp H; obtain ⟨t713, A60, H⟩ := H; replace H : (some t713) = some r := H; have A6 := Aside0.mk A60; clear A60; obtain rfl := Option.some.inj H; go_enter Try.func173, Try.ntmps173
  go_wp2_with (first | ((with_reducible refine gate_callee (f := 79) rfl ?_); refine goesL_ (some 10) rfl rfl Try.func79 (by kernel_rfl) rfl #[.int .i64 a1, .int .i64 1, .int .i64 (wrap64 (a0 - 1))] rfl (by (try simp only [List.map_toArray, List.map_cons, List.map_nil]); first | done | rfl | (simp only [List.length_drop, List.length_take]; rfl)) ?_; (with_reducible refine (impl_within.calls a1 1 (wrap64 (a0 - 1)) true _ A4.out).mono ?_); rintro e w' ⟨rfl, ⟨nd, rfl⟩⟩; refine ⟨_, rfl, ?_⟩) | (go_at_call 79; (with_reducible refine (impl_within.calls a2 1 (wrap64 (a0 - 1)) t713 _ A6.out).mono ?_); rintro e w' ⟨rfl, ⟨nd, rfl⟩⟩))
  go_ret; exact ⟨by first | rfl | (simp; done) | (simp [*]; done), by repeat (first | exact Drawn0.refl _ | apply Drawn0.step)⟩
 ·replace c5 := Bool.eq_false_iff.mpr c5
  subst c5
  have H1 : (some false) = some r := by rw [if_neg (show ¬ (false = true) by decide)] at H; exact H
  clear H; have H := H1; clear H1; obtain rfl := Option.some.inj H; go_enter Try.func173, Try.ntmps173
  go_wp2_with (first | ((with_reducible refine gate_callee (f := 79) rfl ?_); refine goesL_ (some 10) rfl rfl Try.func79 (by kernel_rfl) rfl #[.int .i64 a1, .int .i64 1, .int .i64 (wrap64 (a0 - 1))] rfl (by (try simp only [List.map_toArray, List.map_cons, List.map_nil]); first | done | rfl | (simp only [List.length_drop, List.length_take]; rfl)) ?_; (with_reducible refine (impl_within.calls a1 1 (wrap64 (a0 - 1)) false _ A4.out).mono ?_); rintro e w' ⟨rfl, ⟨nd, rfl⟩⟩; refine ⟨_, rfl, ?_⟩))
  go_ret; exact ⟨by first | rfl | (simp; done) | (simp [*]; done), by repeat (first | exact Drawn0.refl _ | apply Drawn0.step)⟩
/-! ### impl_areCells: function 165 (given) -/
def badCell (n : Int) (x : List Int) : Bool := !(decide (x.length = 2) && (impl_isCell.f n (rd x 0) (rd x 1)).getD false)
def impl_areCells.f (a0 : Int) (l1 : List (List Int)) : Option Bool := some (decide ((l1.length : Int) ≤ 200) && !l1.any (badCell a0))
theorem isCell_some (n i j : Int) : impl_isCell.f n i j = some ((impl_isCell.f n i j).getD false) := by
 unfold impl_isCell.f impl_within.f
 repeat' split
 all_goals simp_all [Option.bind]
 all_goals repeat' split
 all_goals simp_all
set_option maxHeartbeats 8000000 in
set_option maxRecDepth 100000 in
theorem impl_areCells.clo (x : List Int) (A : Option Addr) (c : Nat) (n : Int) (g1 : Addr) (w : World) (hc : x.length ≤ c) (hr : Kd.C (Kd.int .i64) w A x.length x) (h1 : w.cell? g1 = some (.int .i64 n)) :
  Calls Try.prog 172 #[.slice A x.length c, .pointer (some g1)] w fun e w' => e = .returned (.bool (badCell n x)) ∧ Drawn0 w w' := by
 by_cases h : x.length = 2
 ·have hv := isCell_some n (rd x 0) (rd x 1)
  obtain ⟨v, hv1⟩ : ∃ v, v = (impl_isCell.f n (rd x 0) (rd x 1)).getD false := ⟨_, rfl⟩
  have hb : badCell n x = !v := by unfold badCell; rw [hv1]; simp [h]
  rw [← hv1] at hv; rw [hb]; obtain ⟨ad, e1, hx0⟩ := Kd.at_int hr 0 (by omega) (by omega); obtain ⟨ad2, e2, hx1⟩ := Kd.at_int hr 1 (by omega) (by omega); rw [e1] at e2; injection e2 with e2; subst e2; subst e1; rw [h]; rw [show (0 : Int).toNat = 0 from rfl, Addr.add_zero'] at hx0; rw [show (1 : Int).toNat = 1 from rfl] at hx1; rw [Addr.add_succ' ad 0] at hx1
  obtain ⟨a, ha⟩ : ∃ a, a = rd x 0 := ⟨_, rfl⟩
  obtain ⟨b, hbb⟩ : ∃ b, b = rd x 1 := ⟨_, rfl⟩
  rw [← ha] at hx0 hv; rw [← hbb] at hx1 hv; have HV := Aside0.mk hv
  have hk : ∀ w, Calls Try.prog 173 #[.int .i64 n, .int .i64 a, .int .i64 b] w fun e w' => e = .returned (.bool v) ∧ Drawn0 w w' := fun w => impl_isCell.calls n a b v w HV.out
  have HK := Aside0.mk hk; clear hr hc h hv hb hv1 ha hbb hk; go_enter Try.func172, Try.ntmps172; go_wp2
  go_quiet ((refine (HK.out _).mono ?_; rintro e w' ⟨rfl, ⟨m, rfl⟩⟩; exact ⟨rfl, _, World.drewN_drewN _ _ _⟩))
  go_wp2; go_ret; exact ⟨by first | rfl | (simp; done), (by repeat (first | exact Drawn0.refl _ | apply Drawn0.step))⟩
 ·have hb : badCell n x = true := by unfold badCell; simp [h]
  rw [hb]
  have h2 : ((x.length : Int) == 2) = false := by simp; omega
  have h3 : ((x.length : Int) != 2) = true := by simp; omega
  have h4 : (x.length == 2) = false := by simp [h]
  have h5 : decide (x.length = 2) = false := decide_eq_false h; clear hr hc h hb; go_enter Try.func172, Try.ntmps172; go_wp2
  go_quiet (fail)
  go_wp2; go_ret; exact ⟨by first | rfl | (simp; done), (by repeat (first | exact Drawn0.refl _ | apply Drawn0.step))⟩
set_option maxHeartbeats 8000000 in
set_option maxRecDepth 100000 in
theorem impl_areCells.calls (a0 : Int) (A1 : Option Addr) (c1 : Nat) (l1 : List (List Int)) (r : Bool) (w : World) (hr1 : Kd.C (Kd.slice 3 (Kd.int .i64)) w A1 l1.length l1) (hc1 : l1.length ≤ c1) (h : impl_areCells.f a0 l1 = some r) :
  Calls Try.prog 165 #[.int .i64 a0, .slice A1 l1.length c1] w fun e w' => e = .returned (.bool r) ∧ Below w.heap.size w w' := by
 have HR1 := Aside0.mk hr1; obtain rfl := Option.some.inj h; have HB0 := Aside0.mk (Below.refl w.heap.size w); clear hr1 h
 have hF : ∀ (W : World) (g1 : Addr), W.cell? g1 = some (.int .i64 a0) → Below w.heap.size w W → ∀ (x : List Int) (A : Option Addr) (c n : Nat), x ∈ l1 → x.length ≤ c → Kd.C (Kd.int .i64) W A x.length x → Calls Try.prog 172 (#[.slice A x.length c] ++ #[.pointer (some g1)]) (W.drewN n) fun e w' => e = .returned (.bool (badCell a0 x)) ∧ Drawn0 (W.drewN n) w' :=
  fun W g1 h1 _ x A c n _ hc hC => impl_areCells.clo x A c a0 g1 (W.drewN n) hc (by repeat (first | exact hC | (with_reducible refine Kd.C_drewN ?_ _))) h1
 have HF := Aside0.mk hF; clear hF
 have hmf : ∀ (fn : Fn) (first cap : Array Value) (w : World), (Instr.makeFunc fn first cap).run Try.prog w = .ok (.func fn first cap) w := fun _ _ _ _ => rfl
 by_cases hl : (l1.length : Int) ≤ 200
 ·have hd : decide ((l1.length : Int) ≤ 200) = true := decide_eq_true hl
  have hd2 : decide (l1.length ≤ 200) = true := decide_eq_true (by omega); rw [hd]; clear hl; go_enter Try.func165, Try.ntmps165
  go_wp2_with (go_at_call 153; refine (containsFunc_rows 172 _ _ A1 c1 l1 _ (Kd.C_alloc HR1.out _) (enters_of Try.func172 (by kernel_rfl) rfl) (HF.out _ _ (by go_simp) (by repeat (first | exact HB0.out | apply below_alloc | apply pw_below_drewN | apply below_drew1)))).mono ?_; rintro e w' ⟨rfl, ⟨n2, rfl⟩⟩)
  go_ret; exact ⟨by first | rfl | (simp; done) | (simp [*]; done), (by repeat (first | exact HB0.out | apply below_alloc | apply pw_below_drewN | apply below_drew1))⟩
 ·have hd : decide ((l1.length : Int) ≤ 200) = false := decide_eq_false hl; have hd2 : decide (l1.length ≤ 200) = false := decide_eq_false (by omega); rw [hd]; clear hl; go_enter Try.func165, Try.ntmps165; go_wp2; go_ret; exact ⟨by first | rfl | (simp; done) | (simp [*]; done), (by repeat (first | exact HB0.out | apply below_alloc | apply pw_below_drewN | apply below_drew1))⟩
/-! ### impl_fromHeights: function 166 (given) -/
def cnV (l : List (List Int)) (i j : Nat) : Int := wrap64 ((wrap64 ((i : Int) + (j : Int) - gd l i j)).tdiv 2)
def fhV (l : List (List Int)) (i j : Nat) : Int := wrap64 (wrap64 (wrap64 (cnV l (i + 1) (j + 1) - cnV l i (j + 1)) - cnV l (i + 1) j) + cnV l i j)
def impl_fromHeights.f (l0 : List (List Int)) : Option (List (List Int)) := if 1 ≤ l0.length ∧ l0.length ≤ 1048576 ∧ ∀ x ∈ l0, x.length = l0.length then some (tabOf (l0.length - 1) (l0.length - 1) (fhV l0)) else none
set_option maxHeartbeats 8000000 in
set_option maxRecDepth 100000 in
theorem impl_fromHeights.clo1 (l : List (List Int)) (A : Option Addr) (c : Nat) (g1 : Addr) (w : World) (hr : Kd.C (Kd.slice 3 (Kd.int .i64)) w A l.length l) (hl : l.length ≤ 1048576) (hsq : ∀ x ∈ l, x.length = l.length) (h1 : w.cell? g1 = some (.slice A l.length c)) (i j : Nat) (hi : i < l.length) (hj : j < l.length) :
  Calls Try.prog 174 #[.int .i64 (i : Int), .int .i64 (j : Int), .pointer (some g1)] w fun e w' => e = .returned (.int .i64 (cnV l i j)) ∧ Drawn0 w w' := by
 obtain ⟨ad, A0, c0, rfl, hx0, hc0, hr0⟩ := at_row hr i hi; have hlen : (l.getD i []).length = l.length := getD_row hsq hi; obtain ⟨ad2, rfl, hx1⟩ := at_num hr0 j (by omega); rw [hlen] at hx0; unfold cnV
 obtain ⟨v, hv⟩ : ∃ v, v = gd l i j := ⟨_, rfl⟩
 change w.cell? _ = some (.int .i64 (gd l i j)) at hx1
 rw [← hv] at hx1 ⊢; clear hv; have b3 : decide (i < l.length) = true := decide_eq_true hi; have b4 : decide (j < l.length) = true := decide_eq_true hj
 have b5 : (0 : Int) ≤ (i : Int) := by omega
 have b6 : (0 : Int) ≤ (j : Int) := by omega
 clear hr hr0 hc0 hlen hsq; go_enter Try.func174, Try.ntmps174; go_wp2; go_ret; exact ⟨by first | rfl | (simp only [i64_w]; rfl), (by repeat (first | exact Drawn0.refl _ | apply Drawn0.step))⟩
set_option maxHeartbeats 8000000 in
set_option maxRecDepth 100000 in
theorem impl_fromHeights.clo2 (l : List (List Int)) (A : Option Addr) (c : Nat) (g1 g2 : Addr) (w : World) (hr : Kd.C (Kd.slice 3 (Kd.int .i64)) w A l.length l) (hl : l.length ≤ 1048576) (hsq : ∀ x ∈ l, x.length = l.length) (h1 : w.cell? g1 = some (.slice A l.length c)) (h2 : w.cell? g2 = some (.func (.func 174) #[] #[.pointer (some g1)])) (i j : Nat) (hi : i + 1 < l.length) (hj : j + 1 < l.length) :
  Calls Try.prog 175 (#[.int .i64 (i : Int), .int .i64 (j : Int)] ++ #[.pointer (some g2)]) w fun e w' => e = .returned (.int .i64 (fhV l i j)) ∧ Drawn0 w w' := by
 have HC : ∀ (n : Nat) (i j : Nat), i < l.length → j < l.length → Calls Try.prog 174 #[.int .i64 (i : Int), .int .i64 (j : Int), .pointer (some g1)] (w.drewN n) fun e w' => e = .returned (.int .i64 (cnV l i j)) ∧ Drawn0 (w.drewN n) w' :=
  fun n i j a1 a2 => impl_fromHeights.clo1 l A c g1 (w.drewN n) (Kd.C_drewN hr n) hl hsq h1 i j a1 a2
 obtain ⟨v0, hv0⟩ : ∃ v, v = cnV l (i + 1) (j + 1) := ⟨_, rfl⟩
 obtain ⟨v1, hv1⟩ : ∃ v, v = cnV l i (j + 1) := ⟨_, rfl⟩
 obtain ⟨v2, hv2⟩ : ∃ v, v = cnV l (i + 1) j := ⟨_, rfl⟩
 obtain ⟨v3, hv3⟩ : ∃ v, v = cnV l i j := ⟨_, rfl⟩
 have K0 := fun n => HC n (i + 1) (j + 1) (by omega) (by omega)
 have K1 := fun n => HC n i (j + 1) (by omega) (by omega)
 have K2 := fun n => HC n (i + 1) j (by omega) (by omega)
 have K3 := fun n => HC n i j (by omega) (by omega)
 have c1 : ((i + 1 : Nat) : Int) = (i : Int) + 1 := by omega
 have c2 : ((j + 1 : Nat) : Int) = (j : Int) + 1 := by omega
 rw [← hv0, c1, c2] at K0; rw [← hv1, c2] at K1; rw [← hv2, c1] at K2; rw [← hv3] at K3
 have hv : fhV l i j = wrap64 (wrap64 (wrap64 (v0 - v1) - v2) + v3) := by unfold fhV; rw [hv0, hv1, hv2, hv3]
 rw [hv]; have k0 := Aside0.mk K0; have k1 := Aside0.mk K1; have k2 := Aside0.mk K2; have k3 := Aside0.mk K3
 have e1 : IntKind.i64.wrap ((i : Int) + 1) = (i : Int) + 1 := by rw [i64_w]; exact wrapE _ (by omega) (by omega)
 have e2 : IntKind.i64.wrap ((j : Int) + 1) = (j : Int) + 1 := by rw [i64_w]; exact wrapE _ (by omega) (by omega)
 have hE1 := enters_of Try.func174 (by kernel_rfl) rfl; clear hr hsq h1 HC hv hv0 hv1 hv2 hv3 K0 K1 K2 K3 c1 c2 hi hj hl; go_enter Try.func175, Try.ntmps175; go_wp2; refine wp_region_quiet_lit (by kernel_rfl) (by kernel_rfl) ?_
 repeat (first | (refine wpQuiet_step (fun K hK => ?_); refine quietF_ (v := .int .i64 v0) 174 #[.pointer (some g1)] #[.int .i64 ((i : Int) + 1), .int .i64 ((j : Int) + 1), .pointer (some g1)] hE1 (by rfl) rfl (by rfl) (by simp only [List.map_toArray, List.map_cons, List.map_nil]; rfl) ?_ (hK _ ?_); (focus (rintro W ⟨n, rfl⟩; refine (k0.out n).mono ?_; rintro e w' ⟨rfl, ⟨nd, rfl⟩⟩; exact ⟨rfl, _, World.drewN_drewN _ _ _⟩)); clear hK K) | (refine wpQuiet_step (fun K hK => ?_); refine quietF_ (v := .int .i64 v1) 174 #[.pointer (some g1)] #[.int .i64 ((i : Int)), .int .i64 ((j : Int) + 1), .pointer (some g1)] hE1 (by rfl) rfl (by rfl) (by simp only [List.map_toArray, List.map_cons, List.map_nil]; rfl) ?_ (hK _ ?_); (focus (rintro W ⟨n, rfl⟩; refine (k1.out n).mono ?_; rintro e w' ⟨rfl, ⟨nd, rfl⟩⟩; exact ⟨rfl, _, World.drewN_drewN _ _ _⟩)); clear hK K) | (refine wpQuiet_step (fun K hK => ?_); refine quietF_ (v := .int .i64 v2) 174 #[.pointer (some g1)] #[.int .i64 ((i : Int) + 1), .int .i64 ((j : Int)), .pointer (some g1)] hE1 (by rfl) rfl (by rfl) (by simp only [List.map_toArray, List.map_cons, List.map_nil]; rfl) ?_ (hK _ ?_); (focus (rintro W ⟨n, rfl⟩; refine (k2.out n).mono ?_; rintro e w' ⟨rfl, ⟨nd, rfl⟩⟩; exact ⟨rfl, _, World.drewN_drewN _ _ _⟩)); clear hK K) | (refine wpQuiet_step (fun K hK => ?_); refine quietF_ (v := .int .i64 v3) 174 #[.pointer (some g1)] #[.int .i64 ((i : Int)), .int .i64 ((j : Int)), .pointer (some g1)] hE1 (by rfl) rfl (by rfl) (by simp only [List.map_toArray, List.map_cons, List.map_nil]; rfl) ?_ (hK _ ?_); (focus (rintro W ⟨n, rfl⟩; refine (k3.out n).mono ?_; rintro e w' ⟨rfl, ⟨nd, rfl⟩⟩; exact ⟨rfl, _, World.drewN_drewN _ _ _⟩)); clear hK K) | quiet_step (fail))
 refine wpQuiet_nil ?_; intro _ hw'; obtain ⟨nq, hw''⟩ := hw'; subst hw''; go_wp2; go_ret; exact ⟨by simp only [i64_w]; rfl, (by repeat (first | exact Drawn0.refl _ | apply Drawn0.step))⟩
set_option maxHeartbeats 8000000 in
set_option maxRecDepth 100000 in
theorem impl_fromHeights.calls (A0 : Option Addr) (c0 : Nat) (l0 : List (List Int)) (r : List (List Int)) (w : World) (hr0 : Kd.C (Kd.slice 3 (Kd.int .i64)) w A0 l0.length l0) (hc0 : l0.length ≤ c0) (h : impl_fromHeights.f l0 = some r) :
  Calls Try.prog 166 #[.slice A0 l0.length c0] w fun e w' => ∃ v0_ : Value, e = .returned (v0_) ∧ Kd.S (Kd.slice 3 (Kd.int .i64)) 39 w' w.heap.size (fun _ => True) v0_ r ∧ Below w.heap.size w w' := by
 unfold impl_fromHeights.f at h
 by_cases hc : 1 ≤ l0.length ∧ l0.length ≤ 1048576 ∧ ∀ x ∈ l0, x.length = l0.length
 ·rw [if_pos hc] at h
  obtain rfl := Option.some.inj h; clear h; obtain ⟨h1', hl, hsq⟩ := hc; have HB0 := Aside0.mk (Below.refl w.heap.size w)
  have HT := Aside0.mk (fun (W : World) (hb : Below w.heap.size w W) (g1 g2 : Addr) (h1 : W.cell? g1 = some (.slice A0 l0.length c0)) (h2 : W.cell? g2 = some (.func (.func 174) #[] #[.pointer (some g1)])) =>
   table_any 175 #[.pointer (some g2)] (fhV l0) (l0.length - 1) (l0.length - 1) (by omega) (by omega) W (enters_of Try.func175 (by kernel_rfl) rfl)
    (fun W' hb' i j hi hj => impl_fromHeights.clo2 l0 A0 c0 g1 g2 W' (Kd.C_below (Kd.C_below hr0 hb) hb') hl hsq (pw_cell_below hb' h1) (pw_cell_below hb' h2) i j (by omega) (by omega)))
  have hn : ((l0.length - 1 : Nat) : Int) = wrap64 ((l0.length : Int) - 1) := by rw [wrapE _ (by omega) (by omega)]; omega
  rw [hn] at HT; clear hl hsq hn h1'
  have hmf : ∀ (fn : Fn) (first cap : Array Value) (w : World), (Instr.makeFunc fn first cap).run Try.prog w = .ok (.func fn first cap) w := fun _ _ _ _ => rfl
  go_enter Try.func166, Try.ntmps166
  go_wp2_with (go_at_call 146; (with_reducible refine (HT.out _ ?hb ⟨w.heap.size, 0, none⟩ _ ?h1 ?h2).mono ?_); (case hb => exact (by repeat (first | exact HB0.out | apply below_alloc | apply pw_below_drewN | apply below_drew1))); (case h1 => go_simp); (case h2 => go_simp); rintro e w' ⟨v, rfl, hS, hb⟩; have HS := Aside0.mk (Kd.S_lower hS (below_size (by repeat (first | exact HB0.out | apply below_alloc | apply pw_below_drewN | apply below_drew1)))); have HB := Aside0.mk (below_step (by repeat (first | exact HB0.out | apply below_alloc | apply pw_below_drewN | apply below_drew1)) hb); clear hS hb)
  go_ret; exact ⟨_, rfl, HS.out, HB.out⟩
 ·rw [if_neg hc] at h
  cases h
/-! ### impl_FollowFlips: function 145 -/
mutual
def impl_FollowFlips.j0 : Nat → List (List Int) → List (List Int) → Bool → Option ((List (List Int)) × Bool)
 | 0, _, _, _ => none
 | k + 1, x0, x1, x19 => if x19 = true then (some (([] : List (List Int)), false)) else ((impl_heights.f k x0).bind fun t716 => (impl_FollowFlips.l0 k t716 x1 (x1.length : Int) 0))
def impl_FollowFlips.l0 : Nat → List (List Int) → List (List Int) → Int → Int → Option ((List (List Int)) × Bool)
 | 0, _, _, _, _ => none
 | k + 1, x6, x22, x23, x24 => if x24 < x23 then (if 0 ≤ x24 then (if x24 < (x22.length : Int) then (if 0 < ((rd_L1 x22 x24).length : Int) then (if 1 < ((rd_L1 x22 x24).length : Int) then ((impl_way.f x6 (rd (rd_L1 x22 x24) 0) (rd (rd_L1 x22 x24) 1)).bind fun t722 => (if t722 = 0 then (some (([] : List (List Int)), false)) else (if 0 ≤ (rd (rd_L1 x22 x24) 0) then (if (rd (rd_L1 x22 x24) 0) < (x6.length : Int) then (if 0 ≤ (rd (rd_L1 x22 x24) 1) then (if (rd (rd_L1 x22 x24) 1) < ((rd_L1 x6 (rd (rd_L1 x22 x24) 0)).length : Int) then (impl_FollowFlips.l0 k (x6.set ((rd (rd_L1 x22 x24) 0) : Int).toNat ((rd_L1 x6 (rd (rd_L1 x22 x24) 0)).set ((rd (rd_L1 x22 x24) 1) : Int).toNat (wrap64 ((rd (rd_L1 x6 (rd (rd_L1 x22 x24) 0)) (rd (rd_L1 x22 x24) 1)) + t722)))) x22 x23 (wrap64 (x24 + 1))) else (none)) else (none)) else (none)) else (none)))) else (none)) else (none)) else (none)) else (none)) else ((impl_fromHeights.f x6).bind fun t730 => (some (t730, true)))
end
def impl_FollowFlips.f (k : Nat) (l0 : List (List Int)) (l1 : List (List Int)) : Option ((List (List Int)) × Bool) := (impl_IsSignMatrix.f k l0).bind fun t714 => (if t714 = true then ((impl_areCells.f (l0.length : Int) l1).bind fun t715 => (impl_FollowFlips.j0 k l0 l1 (!t715))) else (impl_FollowFlips.j0 k l0 l1 true))
def impl_FollowFlips.T7 : Bool × List (List Nat × List Nat) := (true, [([], []), ([], []), ([1], [1]), ([2], [2]), ([], []), ([4], [4]), ([5], [5]), ([0, 3, 6], [0, 3, 6]), ([7, 7, 0, 1, 2, 3, 4, 5, 6, 7], [7])])
def impl_FollowFlips.B7 : List Nat := [0, 0, 2, 6, 0, 16, 48, 127, 255]
theorem impl_FollowFlips.tab7 : rtab .any (opsOf Try.f145 7) = impl_FollowFlips.T7 := by kernel_rfl
theorem impl_FollowFlips.bits7 : waitsOk impl_FollowFlips.T7.2 impl_FollowFlips.B7 = true := by kernel_rfl
def impl_FollowFlips.T10 : Bool × List (List Nat × List Nat) := (true, [([], []), ([], []), ([1], [1]), ([2], [2]), ([0, 3], [0, 3]), ([4], [4]), ([], []), ([6], [6]), ([7], [7]), ([5, 8], [5, 8]), ([9], [9]), ([], []), ([10, 11], [10, 11]), ([5, 8, 0, 1, 2, 3, 4, 5, 6, 7, 8, 9, 10, 11, 12], [5, 8]), ([13, 12, 0, 1, 2, 3, 4, 5, 6, 7, 8, 9, 10, 11, 12], [12, 13])])
def impl_FollowFlips.B10 : List Nat := [0, 0, 2, 6, 15, 31, 0, 64, 192, 511, 1023, 0, 4095, 8191, 16383]
theorem impl_FollowFlips.tab10 : rtab .any (opsOf Try.f145 10) = impl_FollowFlips.T10 := by kernel_rfl
theorem impl_FollowFlips.bits10 : waitsOk impl_FollowFlips.T10.2 impl_FollowFlips.B10 = true := by kernel_rfl
set_option maxHeartbeats 8000000 in
set_option maxRecDepth 100000 in
theorem impl_FollowFlips.calls (k : Nat) (A0 : Option Addr) (c0 : Nat) (l0 : List (List Int)) (A1 : Option Addr) (c1 : Nat) (l1 : List (List Int)) (r1 : List (List Int)) (r2 : Bool) (w : World) (hr0 : Kd.C (Kd.slice 3 (Kd.int .i64)) w A0 l0.length l0) (hc0 : l0.length ≤ c0) (hr1 : Kd.C (Kd.slice 3 (Kd.int .i64)) w A1 l1.length l1) (hc1 : l1.length ≤ c1) (h : impl_FollowFlips.f k l0 l1 = some (r1, r2)) :
  Calls Try.prog 145 #[.slice A0 l0.length c0, .slice A1 l1.length c1] w fun e w' => ∃ v0_ : Value, e = .returned (.tuple #[v0_, .bool r2]) ∧ Kd.S (Kd.slice 3 (Kd.int .i64)) 39 w' w.heap.size (fun _ => True) v0_ r1 ∧ Below w.heap.size w w' := by
 have HR0 := Aside0.mk hr0; have HC0 := Aside0.mk hc0; clear hr0 hc0; have HR1 := Aside0.mk hr1; have HC1 := Aside0.mk hc1; clear hr1 hc1; have HB := Aside0.mk (Below.refl w.heap.size w); have H : ((impl_IsSignMatrix.f k l0).bind fun t714 => (if t714 = true then ((impl_areCells.f (l0.length : Int) l1).bind fun t715 => (impl_FollowFlips.j0 k l0 l1 (!t715))) else (impl_FollowFlips.j0 k l0 l1 true))) = some (r1, r2) := h; clear h; have HC3 := Aside0.mk H; clear H; go_enter Try.func145, Try.ntmps145
 go_upto_region 1 with (fail)
 go_cut [19] (fun v19 wc => ∃ (kq : Nat) (x19_2 : Bool), v19 = .bool x19_2 ∧ Aside0 (impl_FollowFlips.j0 kq l0 l1 x19_2 = some (r1, r2)) ∧ Aside0 (kq ≤ k) ∧ Aside0 (Below w.heap.size w wc))
 case first =>
  have H := HC3.out; clear HC3; replace H := Option.bind_eq_some_iff.mp H; obtain ⟨t714, A40, H⟩ := H; replace H : (if t714 = true then ((impl_areCells.f (l0.length : Int) l1).bind fun t715 => (impl_FollowFlips.j0 k l0 l1 (!t715))) else (impl_FollowFlips.j0 k l0 l1 true)) = some (r1, r2) := H; have A4 := Aside0.mk A40; clear A40
  by_cases c5 : t714 = true
  ·subst c5
   have H1 : ((impl_areCells.f (l0.length : Int) l1).bind fun t715 => (impl_FollowFlips.j0 k l0 l1 (!t715))) = some (r1, r2) := by rw [if_pos rfl] at H; exact H
   clear H; have H := H1; clear H1; replace H := Option.bind_eq_some_iff.mp H; obtain ⟨t715, A60, H⟩ := H; replace H : (impl_FollowFlips.j0 k l0 l1 (!t715)) = some (r1, r2) := H; have A6 := Aside0.mk A60; clear A60; have H' := Aside0.mk H; clear H
   go_wp2_with (first | ((with_reducible refine gate_callee (f := 73) rfl ?_); refine goesL_ (some 11) rfl rfl Try.func73 (by kernel_rfl) rfl #[.slice A0 l0.length c0] rfl (by (try simp only [List.map_toArray, List.map_cons, List.map_nil]); first | done | rfl | (simp only [List.length_drop, List.length_take]; rfl)) ?_; (with_reducible refine (impl_IsSignMatrix.calls k _ _ l0 true _ ?side1 ?side2 A4.out).mono ?_); (case side1 => repeat (first | exact (Kd.C_below HR0.out HB.out) | (with_reducible refine Kd.C_alloc ?_ _) | (with_reducible refine Kd.C_drewN ?_ _) | (with_reducible refine Kd.C_drew ?_))); (case side2 => exact HC0.out); rintro e w7 ⟨rfl, hb⟩; refine ⟨_, rfl, ?_⟩; have n0_ := Aside0.mk (below_step (by repeat (first | (with_reducible first | exact HB.out | apply below_alloc | apply pw_below_drewN | apply below_drew1) | exact HB.out)) hb); clear HB; have HB := n0_; clear n0_; (try clear hb); (try clear hb2); (try clear hk); (try clear hi)) | (go_at_call 165; (with_reducible refine (impl_areCells.calls (l0.length : Int) _ _ l1 t715 _ ?side1 ?side2 A6.out).mono ?_); (case side1 => repeat (first | exact (Kd.C_below HR1.out HB.out) | (with_reducible refine Kd.C_alloc ?_ _) | (with_reducible refine Kd.C_drewN ?_ _) | (with_reducible refine Kd.C_drew ?_))); (case side2 => exact HC1.out); rintro e w8 ⟨rfl, hb⟩; have n0_ := Aside0.mk (below_step (by repeat (first | (with_reducible first | exact HB.out | apply below_alloc | apply pw_below_drewN | apply below_drew1) | exact HB.out)) hb); clear HB; have HB := n0_; clear n0_; (try clear hb); (try clear hb2); (try clear hk); (try clear hi)))
   go_meet
   case rel => exact ⟨_, (!t715), (by first | rfl | (simp; done) | (simp [*]; done)), H', ⟨by first | omega | exact Nat.le_refl _⟩, ⟨by repeat (first | (with_reducible first | exact HB.out | apply below_alloc | apply pw_below_drewN | apply below_drew1) | exact HB.out)⟩⟩
  ·replace c5 := Bool.eq_false_iff.mpr c5
   subst c5
   have H1 : (impl_FollowFlips.j0 k l0 l1 true) = some (r1, r2) := by rw [if_neg (show ¬ (false = true) by decide)] at H; exact H
   clear H; have H := H1; clear H1; have H' := Aside0.mk H; clear H
   go_wp2_with (first | ((with_reducible refine gate_callee (f := 73) rfl ?_); refine goesL_ (some 11) rfl rfl Try.func73 (by kernel_rfl) rfl #[.slice A0 l0.length c0] rfl (by (try simp only [List.map_toArray, List.map_cons, List.map_nil]); first | done | rfl | (simp only [List.length_drop, List.length_take]; rfl)) ?_; (with_reducible refine (impl_IsSignMatrix.calls k _ _ l0 false _ ?side1 ?side2 A4.out).mono ?_); (case side1 => repeat (first | exact (Kd.C_below HR0.out HB.out) | (with_reducible refine Kd.C_alloc ?_ _) | (with_reducible refine Kd.C_drewN ?_ _) | (with_reducible refine Kd.C_drew ?_))); (case side2 => exact HC0.out); rintro e w9 ⟨rfl, hb⟩; refine ⟨_, rfl, ?_⟩; have n0_ := Aside0.mk (below_step (by repeat (first | (with_reducible first | exact HB.out | apply below_alloc | apply pw_below_drewN | apply below_drew1) | exact HB.out)) hb); clear HB; have HB := n0_; clear n0_; (try clear hb); (try clear hb2); (try clear hk); (try clear hi)))
   go_meet
   case rel => exact ⟨_, (true), (by first | rfl | (simp; done) | (simp [*]; done)), H', ⟨by first | omega | exact Nat.le_refl _⟩, ⟨by repeat (first | (with_reducible first | exact HB.out | apply below_alloc | apply pw_below_drewN | apply below_drew1) | exact HB.out)⟩⟩
 case rest =>
  clear HC3
  try clear c1
  try clear p2
  try clear c5
  try clear c7
  obtain ⟨kq, x19_2, rfl, HA, HJ2, HB⟩ := hcut
  cases kq with
  | zero => exact absurd HA.out (by simp [impl_FollowFlips.j0])
  | succ kj2 =>
   have H := HA.out; clear HA; simp only [impl_FollowFlips.j0] at H
   by_cases c10 : x19_2 = true
   ·subst c10
    have H1 : (some (([] : List (List Int)), false)) = some (r1, r2) := by rw [if_pos rfl] at H; exact H
    clear H; have H := H1; clear H1; simp only [Option.some.injEq, Prod.mk.injEq] at H; obtain ⟨rfl, rfl⟩ := H; go_wp2; go_ret2; exact ⟨_, by first | rfl | (simp [errW_none, errW_some] <;> rfl) | (simp [*, errW_none, errW_some] <;> rfl), by first | exact Kd.S_nil _ _ _ _ _ | exact Kd.N_nil _ _ _ _ _ | exact Kd.V_nil _ _ _ _ _ | exact Kd.Q_nil _ _ _ _ _ | exact Kd.R_nil _ _ _ _ _, by repeat (first | (with_reducible first | exact HB.out | apply below_alloc | apply pw_below_drewN | apply below_drew1) | exact HB.out)⟩
   ·replace c10 := Bool.eq_false_iff.mpr c10
    subst c10
    have H1 : ((impl_heights.f kj2 l0).bind fun t716 => (impl_FollowFlips.l0 kj2 t716 l1 (l1.length : Int) 0)) = some (r1, r2) := by rw [if_neg (show ¬ (false = true) by decide)] at H; exact H
    clear H; have H := H1; clear H1; replace H := Option.bind_eq_some_iff.mp H; obtain ⟨t716, A110, H⟩ := H; replace H : (impl_FollowFlips.l0 kj2 t716 l1 (l1.length : Int) 0) = some (r1, r2) := H; have A11 := Aside0.mk A110; clear A110; have H' := Aside0.mk H; clear H
    go_wp2_with (first | ((with_reducible refine gate_callee (f := 135) rfl ?_); refine goesL_ (some 21) rfl rfl Try.func135 (by kernel_rfl) rfl #[.slice A0 l0.length c0] rfl (by (try simp only [List.map_toArray, List.map_cons, List.map_nil]); first | done | rfl | (simp only [List.length_drop, List.length_take]; rfl)) ?_; (with_reducible refine (impl_heights.calls kj2 _ _ l0 t716 _ ?side1 ?side2 A11.out).mono ?_); (case side1 => repeat (first | exact (Kd.C_below HR0.out HB.out) | (with_reducible refine Kd.C_alloc ?_ _) | (with_reducible refine Kd.C_drewN ?_ _) | (with_reducible refine Kd.C_drew ?_))); (case side2 => exact HC0.out); rintro e w12 ⟨v717, rfl, ho0, hb⟩; refine ⟨_, rfl, ?_⟩; have n0_ := Aside0.mk (Kd.S_lower ho0 (below_size (by repeat (first | (with_reducible first | exact HB.out | apply below_alloc | apply pw_below_drewN | apply below_drew1) | exact HB.out)))); have n1_ := Aside0.mk (below_step (by repeat (first | (with_reducible first | exact HB.out | apply below_alloc | apply pw_below_drewN | apply below_drew1) | exact HB.out)) hb); clear HB; have HO718 := n0_; have HB := n1_; clear n0_ n1_; (try clear hb); (try clear hb2); (try clear hk); (try clear hi); (try clear ho0)))
    go_loopg [24] kj2 (fun kq v24 w' => ∃ (x6_2 : List (List Int)) (x24_2 : Int), v24 = .int .i64 x24_2 ∧ Aside0 (impl_FollowFlips.l0 kq x6_2 l1 (l1.length : Int) x24_2 = some (r1, r2)) ∧ Aside0 (kq ≤ kj2) ∧ Aside0 (Kd.S (Kd.slice 3 (Kd.int .i64)) 39 w' w.heap.size (fun _ => True) v717 x6_2) ∧ Aside0 (Below w.heap.size w w'))
    case atStart => exact ⟨(t716), (0), (by first | rfl | (simp; done) | (simp [*]; done)), H', ⟨Nat.le_refl _⟩, ⟨by (with_reducible repeat (first | apply Kd.S_alloc | apply Kd.S_drewN | apply Kd.S_drew)); exact HO718.out⟩, ⟨by repeat (first | (with_reducible first | exact HB.out | apply below_alloc | apply pw_below_drewN | apply below_drew1) | exact HB.out)⟩⟩
    case round =>
     clear H'
     try clear c1
     try clear p2
     try clear c5
     try clear c7
     try clear c10
     try clear p2
     obtain ⟨x6_2, x24_2, rfl, HA, HK2, HO_6, HB⟩ := hrel
     cases gk with
     | zero => exact absurd HA.out (by simp [impl_FollowFlips.l0])
     | succ k2 =>
      have H := HA.out; clear HA; simp only [impl_FollowFlips.l0] at H
      by_cases c13 : x24_2 < (l1.length : Int)
      ·rw [if_pos c13] at H
       have c13b0 : decide (x24_2 < (l1.length : Int)) = true := decide_eq_true c13; clear c13
       by_cases c14 : 0 ≤ x24_2
       ·rw [if_pos c14] at H
        have c14b0 : decide (0 ≤ x24_2) = true := decide_eq_true c14; clear c14
        by_cases c15 : x24_2 < (l1.length : Int)
        ·rw [if_pos c15] at H
         have c15b0 : decide (x24_2 < (l1.length : Int)) = true := decide_eq_true c15; clear c15
         by_cases c16 : 0 < ((rd_L1 l1 x24_2).length : Int)
         ·rw [if_pos c16] at H
          have c16b0 : decide (0 < ((rd_L1 l1 x24_2).length : Int)) = true := decide_eq_true c16; have c16b1 : decide (0 < (rd_L1 l1 x24_2).length) = true := decide_eq_true (by omega); clear c16
          by_cases c17 : 1 < ((rd_L1 l1 x24_2).length : Int)
          ·rw [if_pos c17] at H
           have c17b0 : decide (1 < ((rd_L1 l1 x24_2).length : Int)) = true := decide_eq_true c17; have c17b1 : decide (1 < (rd_L1 l1 x24_2).length) = true := decide_eq_true (by omega); clear c17; replace H := Option.bind_eq_some_iff.mp H; obtain ⟨t722, A180, H⟩ := H; replace H : (if t722 = 0 then (some (([] : List (List Int)), false)) else (if 0 ≤ (rd (rd_L1 l1 x24_2) 0) then (if (rd (rd_L1 l1 x24_2) 0) < (x6_2.length : Int) then (if 0 ≤ (rd (rd_L1 l1 x24_2) 1) then (if (rd (rd_L1 l1 x24_2) 1) < ((rd_L1 x6_2 (rd (rd_L1 l1 x24_2) 0)).length : Int) then (impl_FollowFlips.l0 k2 (x6_2.set ((rd (rd_L1 l1 x24_2) 0) : Int).toNat ((rd_L1 x6_2 (rd (rd_L1 l1 x24_2) 0)).set ((rd (rd_L1 l1 x24_2) 1) : Int).toNat (wrap64 ((rd (rd_L1 x6_2 (rd (rd_L1 l1 x24_2) 0)) (rd (rd_L1 l1 x24_2) 1)) + t722)))) l1 (l1.length : Int) (wrap64 (x24_2 + 1))) else (none)) else (none)) else (none)) else (none))) = some (r1, r2) := H; have A18 := Aside0.mk A180; clear A180
           by_cases c19 : t722 = 0
           ·rw [if_pos c19] at H
            have c19b0 : (t722 == 0) = true := beq_iff_eq.mpr c19; have c19b1 : (t722 != 0) = false := bne_eq_false_iff_eq.mpr c19; clear c19; simp only [Option.some.injEq, Prod.mk.injEq] at H; obtain ⟨rfl, rfl⟩ := H; have p719 : 0 ≤ (x24_2 : Int) := of_decide_eq_true (by first | (with_reducible assumption) | assumption); have q719 : x24_2 < (l1.length : Int) := of_decide_eq_true (by first | (with_reducible assumption) | assumption); obtain ⟨ad719, A719_0, c719_0, e719, hx719_0, hl719_0, hi719_0⟩ := at_L1 HR1.out x24_2 p719 q719
            cases e719
            (try replace hx719_0 := (HB.out.cell (World.block_lt_of_cell? w _ hx719_0)).trans hx719_0)
            have HR719_0 := Aside0.mk hi719_0; have HC719_0 := Aside0.mk hl719_0; clear hi719_0 hl719_0; replace p719 := eq_true p719; replace q719 := eq_true q719
            try go_wp2
            have n0_ := Aside0.mk (Kd.S_drew HO_6.out); have n1_ := Aside0.mk (below_drew1 HB.out); clear HO_6; clear HB; have HO_6 := n0_; have HB := n1_; clear n0_ n1_
            have p720 : 0 ≤ (0 : Int) := (by omega)
            have q720 : 0 < ((rd_L1 l1 x24_2).length : Int) := of_decide_eq_true (by first | (with_reducible assumption) | assumption); obtain ⟨ad720, e720, hx720_0⟩ := Kd.at_int HR719_0.out 0 p720 q720; have hw720_0 := hx720_0
            (try rw [show ((0 : Int)).toNat = 0 from rfl] at hw720_0)
            (try rw [show 0 * 1 = 0 from rfl] at hw720_0)
            (try rw [Addr.add_zero'] at hw720_0)
            cases e720
            have qi720 : (0 < (rd_L1 l1 x24_2).length) = True := eq_true (by omega)
            (try rw [show ((0 : Int)).toNat = 0 from rfl] at hx720_0)
            (try rw [Addr.add_zero'] at hx720_0)
            (try replace hx720_0 := (HB.out.cell (World.block_lt_of_cell? w _ hx720_0)).trans hx720_0)
            replace p720 := eq_true p720; replace q720 := eq_true q720
            have p721 : 0 ≤ (1 : Int) := (by omega)
            have q721 : 1 < ((rd_L1 l1 x24_2).length : Int) := of_decide_eq_true (by first | (with_reducible assumption) | assumption); obtain ⟨ad721, e721, hx721_0⟩ := Kd.at_int HR719_0.out 1 p721 q721; have hw721_0 := hx721_0
            (try rw [show ((1 : Int)).toNat = 1 from rfl] at hw721_0)
            (try rw [show 1 * 1 = 1 from rfl] at hw721_0)
            (try simp only [Nat.reduceMul, Nat.reduceEqDiff, Go.Addr.add, ↓reduceIte] at hw721_0)
            obtain rfl : ad720 = ad721 := (by injection e721)
            (try simp only [show (1 : Int).toNat = 1 from rfl, Nat.reduceMul, Nat.reduceEqDiff, Go.Addr.add, ↓reduceIte] at hx721_0)
            have qi721 : (1 < (rd_L1 l1 x24_2).length) = True := eq_true (by omega)
            (try rw [show ((1 : Int)).toNat = 1 from rfl] at hx721_0)
            (try replace hx721_0 := (HB.out.cell (World.block_lt_of_cell? w _ hx721_0)).trans hx721_0)
            replace p721 := eq_true p721; replace q721 := eq_true q721; obtain ⟨Ao21, co21, eo21⟩ := Kd.S_slice HO_6.out
            (first | subst eo21 | (injection eo21 with f1_ f2_ f3_; have f4_ := f1_.symm; have f5_ := f3_.symm; clear f1_ f2_ f3_; subst f4_; subst f5_))
            refine start_ (n := 9) (S := fun w' => w'.cell? ad720 = some (.int .i64 (rd (rd_L1 l1 x24_2) 0)) ∧ w'.cell? ⟨ad720.block, ad720.off + 1, none⟩ = some (.int .i64 (rd (rd_L1 l1 x24_2) 1))) (ds := []) #[false, false, false, false, false, false, false, false, false] (by kernel_rfl) rfl rfl ⟨((HB.out.cell (World.block_lt_of_cell? w _ hw720_0)).trans hw720_0), ((HB.out.cell (World.block_lt_of_cell? w _ hw721_0)).trans hw721_0)⟩ (fun hHeld => ?_); refine with_tabW impl_FollowFlips.tab7 impl_FollowFlips.bits7 (fun HT_ HW_ => ?_)
            generalize wr.drew = w20 at HO_6 HB hx720_0 hx721_0 hHeld ⊢; refine pure_ (i := 0) (N := some 28) (v := ?_) (a' := ?_) #[true, false, false, false, false, false, false, false, false] rfl rfl (any_of HT_.out (by kernel_rfl)) (fun _ _ _ h => h) (Or.inl ⟨by rfl, ?_⟩) ?_ ?_; rotate_left
            ·intro w'; go_simp; with_reducible rfl
            rotate_left
            ·simp only [Act.put, List.setIfInBounds_toArray, List.set_cons_zero, List.set_cons_succ, i64_w, i32_w]; rfl
            refine pure_ (i := 1) (N := some 29) (v := ?_) (a' := ?_) #[true, true, false, false, false, false, false, false, false] rfl rfl (any_of HT_.out (by kernel_rfl)) (fun _ _ _ h => h) (Or.inl ⟨by rfl, ?_⟩) ?_ ?_; rotate_left
            ·intro w'; go_simp; with_reducible rfl
            rotate_left
            ·simp only [Act.put, List.setIfInBounds_toArray, List.set_cons_zero, List.set_cons_succ, i64_w, i32_w]; rfl
            refine pure_ (i := 2) (N := some 30) (v := ?_) (a' := ?_) #[true, true, true, false, false, false, false, false, false] rfl rfl (any_of HT_.out (by kernel_rfl)) (fun _ _ _ h => h) (Or.inl ⟨by rfl, ?_⟩) ?_ ?_; rotate_left
            ·intro w'; go_simp; with_reducible rfl
            rotate_left
            ·simp only [Act.put, List.setIfInBounds_toArray, List.set_cons_zero, List.set_cons_succ, i64_w, i32_w]; rfl
            refine pure_ (i := 4) (N := some 32) (v := ?_) (a' := ?_) #[true, true, true, false, true, false, false, false, false] rfl rfl (any_of HT_.out (by kernel_rfl)) (fun _ _ _ h => h) (Or.inl ⟨by rfl, ?_⟩) ?_ ?_; rotate_left
            ·intro w'; go_simp; with_reducible rfl
            rotate_left
            ·simp only [Act.put, List.setIfInBounds_toArray, List.set_cons_zero, List.set_cons_succ, i64_w, i32_w]; rfl
            refine pure_ (i := 5) (N := some 33) (v := ?_) (a' := ?_) #[true, true, true, false, true, true, false, false, false] rfl rfl (any_of HT_.out (by kernel_rfl)) (fun _ _ _ h => h) (Or.inl ⟨by rfl, ?_⟩) ?_ ?_; rotate_left
            ·intro w'; go_simp; with_reducible rfl
            rotate_left
            ·simp only [Act.put, List.setIfInBounds_toArray, List.set_cons_zero, List.set_cons_succ, i64_w, i32_w]; rfl
            refine take_ (i := 3) (N := some 31) (v := ?_) (a' := ?_) #[true, true, true, true, true, true, false, false, false] rfl rfl (take_ofW HT_.out HW_.out (by kernel_rfl)) (fun _ _ _ h => h) (Or.inl ⟨by rfl, ?_⟩) hHeld ?_ ?_; rotate_left
            ·rintro w' ⟨s0, s1⟩; go_simp; with_reducible rfl
            rotate_left
            ·simp only [Act.put, List.setIfInBounds_toArray, List.set_cons_zero, List.set_cons_succ, i64_w, i32_w]; rfl
            refine take_ (i := 6) (N := some 34) (v := ?_) (a' := ?_) #[true, true, true, true, true, true, true, false, false] rfl rfl (take_ofW HT_.out HW_.out (by kernel_rfl)) (fun _ _ _ h => h) (Or.inl ⟨by rfl, ?_⟩) hHeld ?_ ?_; rotate_left
            ·rintro w' ⟨s0, s1⟩; go_simp; with_reducible rfl
            rotate_left
            ·simp only [Act.put, List.setIfInBounds_toArray, List.set_cons_zero, List.set_cons_succ, i64_w, i32_w]; rfl
            refine one_ (i := 7) (N := some 35) #[true, true, true, true, true, true, true, true, false] rfl rfl (one_of HT_.out (by kernel_rfl)) (by decide) (fun K hK => ?_); refine goes_ Try.func143 (by kernel_rfl) rfl #[.slice Ao21 x6_2.length co21, .int .i64 (rd (rd_L1 l1 x24_2) 0), .int .i64 (rd (rd_L1 l1 x24_2) 1)] (by rfl) rfl rfl (by (try simp only [List.map_toArray, List.map_cons, List.map_nil]); first | done | rfl | (simp only [List.length_drop, List.length_take]; rfl)) ?_
            with_reducible refine (impl_way.calls _ _ x6_2 (rd (rd_L1 l1 x24_2) 0) (rd (rd_L1 l1 x24_2) 1) t722 _ ?side1 ?side2 A18.out).mono ?_
            (case side1 => repeat (first | exact (Kd.S_reads' HO_6.out).2.2 | (with_reducible refine Kd.C_alloc ?_ _) | (with_reducible refine Kd.C_drewN ?_ _) | (with_reducible refine Kd.C_drew ?_)))
            (case side2 => exact (Kd.S_reads' HO_6.out).2.1)
            rintro e w22 ⟨rfl, hb⟩; refine ⟨_, rfl, ?_⟩; have n0_ := Aside0.mk (Kd.S_below (by (with_reducible repeat (first | apply Kd.S_alloc | apply Kd.S_drewN | apply Kd.S_drew)); exact HO_6.out) hb); have n1_ := Aside0.mk (below_step (by repeat (first | (with_reducible first | exact HB.out | apply below_alloc | apply pw_below_drewN | apply below_drew1) | exact HB.out)) hb); clear HO_6; clear HB; have HO_6 := n0_; have HB := n1_; clear n0_ n1_
            (try clear hb)
            (try clear hb2)
            (try clear hk)
            (try clear hi)
            refine hK.out _ _ ⟨((HB.out.cell (World.block_lt_of_cell? w _ hw720_0)).trans hw720_0), ((HB.out.cell (World.block_lt_of_cell? w _ hw721_0)).trans hw721_0)⟩ (fun hHeld => ?_); clear hK K; refine norm_ (a' := ?_) ?_ ?_; rotate_left
            ·show Act.put _ (some 35) _ = _; simp only [Act.put, List.setIfInBounds_toArray, List.set_cons_zero, List.set_cons_succ, i64_w, i32_w]; rfl
            refine pure_ (i := 8) (N := some 9) (v := ?_) (a' := ?_) #[true, true, true, true, true, true, true, true, true] rfl rfl (any_of HT_.out (by kernel_rfl)) (fun _ _ _ h => h) (Or.inl ⟨by rfl, ?_⟩) ?_ ?_; rotate_left
            ·intro w'; go_simp; with_reducible rfl
            rotate_left
            ·simp only [Act.put, List.setIfInBounds_toArray, List.set_cons_zero, List.set_cons_succ, i64_w, i32_w]; rfl
            refine done_ (done_of HT_.out (by kernel_rfl)) ?_
            try go_wp2
            go_ret2; exact ⟨_, by first | rfl | (simp [errW_none, errW_some] <;> rfl) | (simp [*, errW_none, errW_some] <;> rfl), by first | exact Kd.S_nil _ _ _ _ _ | exact Kd.N_nil _ _ _ _ _ | exact Kd.V_nil _ _ _ _ _ | exact Kd.Q_nil _ _ _ _ _ | exact Kd.R_nil _ _ _ _ _, by repeat (first | (with_reducible first | exact HB.out | apply below_alloc | apply pw_below_drewN | apply below_drew1) | exact HB.out)⟩
           ·rw [if_neg c19] at H
            have c19b0 : (t722 == 0) = false := beq_eq_false_iff_ne.mpr c19; have c19b1 : (t722 != 0) = true := bne_iff_ne.mpr c19
            by_cases c23 : 0 ≤ (rd (rd_L1 l1 x24_2) 0)
            ·rw [if_pos c23] at H
             have c23b0 : decide (0 ≤ (rd (rd_L1 l1 x24_2) 0)) = true := decide_eq_true c23; clear c23
             by_cases c24 : (rd (rd_L1 l1 x24_2) 0) < (x6_2.length : Int)
             ·rw [if_pos c24] at H
              have c24b0 : decide ((rd (rd_L1 l1 x24_2) 0) < (x6_2.length : Int)) = true := decide_eq_true c24; clear c24
              by_cases c25 : 0 ≤ (rd (rd_L1 l1 x24_2) 1)
              ·rw [if_pos c25] at H
               have c25b0 : decide (0 ≤ (rd (rd_L1 l1 x24_2) 1)) = true := decide_eq_true c25; clear c25
               by_cases c26 : (rd (rd_L1 l1 x24_2) 1) < ((rd_L1 x6_2 (rd (rd_L1 l1 x24_2) 0)).length : Int)
               ·rw [if_pos c26] at H
                have c26b0 : decide ((rd (rd_L1 l1 x24_2) 1) < ((rd_L1 x6_2 (rd (rd_L1 l1 x24_2) 0)).length : Int)) = true := decide_eq_true c26; clear c26
                obtain ⟨y727, hy727⟩ : ∃ y_ : List Int, y_ = ((rd_L1 x6_2 (rd (rd_L1 l1 x24_2) 0)).set ((rd (rd_L1 l1 x24_2) 1) : Int).toNat (wrap64 ((rd (rd_L1 x6_2 (rd (rd_L1 l1 x24_2) 0)) (rd (rd_L1 l1 x24_2) 1)) + t722))) := ⟨_, rfl⟩
                replace H : (impl_FollowFlips.l0 k2 (x6_2.set ((rd (rd_L1 l1 x24_2) 0) : Int).toNat y727) l1 (l1.length : Int) (wrap64 (x24_2 + 1))) = some (r1, r2) := by first | (rw [hy727]; with_reducible exact H) | (have H2_ := (Option.bind_some _ _).symm.trans H; rw [hy727]; with_reducible exact H2_) | (have H2_ := (Option.bind_some _ _).symm.trans H; with_reducible exact H2_) | with_reducible exact H | (rw [hy727]; exact H) | exact H
                have Ny727 := Aside0.mk hy727; clear hy727
                obtain ⟨y729, hy729⟩ : ∃ y_ : List (List Int), y_ = (x6_2.set ((rd (rd_L1 l1 x24_2) 0) : Int).toNat y727) := ⟨_, rfl⟩
                replace H : (impl_FollowFlips.l0 k2 y729 l1 (l1.length : Int) (wrap64 (x24_2 + 1))) = some (r1, r2) := by first | (rw [hy729]; with_reducible exact H) | (have H2_ := (Option.bind_some _ _).symm.trans H; rw [hy729]; with_reducible exact H2_) | (have H2_ := (Option.bind_some _ _).symm.trans H; with_reducible exact H2_) | with_reducible exact H | (rw [hy729]; exact H) | exact H
                have Ny729 := Aside0.mk hy729; clear hy729; have H' := Aside0.mk H; clear H; have p719 : 0 ≤ (x24_2 : Int) := of_decide_eq_true (by first | (with_reducible assumption) | assumption); have q719 : x24_2 < (l1.length : Int) := of_decide_eq_true (by first | (with_reducible assumption) | assumption); obtain ⟨ad719, A719_0, c719_0, e719, hx719_0, hl719_0, hi719_0⟩ := at_L1 HR1.out x24_2 p719 q719
                cases e719
                (try replace hx719_0 := (HB.out.cell (World.block_lt_of_cell? w _ hx719_0)).trans hx719_0)
                have HR719_0 := Aside0.mk hi719_0; have HC719_0 := Aside0.mk hl719_0; clear hi719_0 hl719_0; replace p719 := eq_true p719; replace q719 := eq_true q719
                try go_wp2
                have n0_ := Aside0.mk (Kd.S_drew HO_6.out); have n1_ := Aside0.mk (below_drew1 HB.out); clear HO_6; clear HB; have HO_6 := n0_; have HB := n1_; clear n0_ n1_
                have p720 : 0 ≤ (0 : Int) := (by omega)
                have q720 : 0 < ((rd_L1 l1 x24_2).length : Int) := of_decide_eq_true (by first | (with_reducible assumption) | assumption); obtain ⟨ad720, e720, hx720_0⟩ := Kd.at_int HR719_0.out 0 p720 q720; have hw720_0 := hx720_0
                (try rw [show ((0 : Int)).toNat = 0 from rfl] at hw720_0)
                (try rw [show 0 * 1 = 0 from rfl] at hw720_0)
                (try rw [Addr.add_zero'] at hw720_0)
                cases e720
                have qi720 : (0 < (rd_L1 l1 x24_2).length) = True := eq_true (by omega)
                (try rw [show ((0 : Int)).toNat = 0 from rfl] at hx720_0)
                (try rw [Addr.add_zero'] at hx720_0)
                (try replace hx720_0 := (HB.out.cell (World.block_lt_of_cell? w _ hx720_0)).trans hx720_0)
                replace p720 := eq_true p720; replace q720 := eq_true q720
                have p721 : 0 ≤ (1 : Int) := (by omega)
                have q721 : 1 < ((rd_L1 l1 x24_2).length : Int) := of_decide_eq_true (by first | (with_reducible assumption) | assumption); obtain ⟨ad721, e721, hx721_0⟩ := Kd.at_int HR719_0.out 1 p721 q721; have hw721_0 := hx721_0
                (try rw [show ((1 : Int)).toNat = 1 from rfl] at hw721_0)
                (try rw [show 1 * 1 = 1 from rfl] at hw721_0)
                (try simp only [Nat.reduceMul, Nat.reduceEqDiff, Go.Addr.add, ↓reduceIte] at hw721_0)
                obtain rfl : ad720 = ad721 := (by injection e721)
                (try simp only [show (1 : Int).toNat = 1 from rfl, Nat.reduceMul, Nat.reduceEqDiff, Go.Addr.add, ↓reduceIte] at hx721_0)
                have qi721 : (1 < (rd_L1 l1 x24_2).length) = True := eq_true (by omega)
                (try rw [show ((1 : Int)).toNat = 1 from rfl] at hx721_0)
                (try replace hx721_0 := (HB.out.cell (World.block_lt_of_cell? w _ hx721_0)).trans hx721_0)
                replace p721 := eq_true p721; replace q721 := eq_true q721; obtain ⟨Ao29, co29, eo29⟩ := Kd.S_slice HO_6.out
                (first | subst eo29 | (injection eo29 with f1_ f2_ f3_; have f4_ := f1_.symm; have f5_ := f3_.symm; clear f1_ f2_ f3_; subst f4_; subst f5_))
                refine start_ (n := 9) (S := fun w' => w'.cell? ad720 = some (.int .i64 (rd (rd_L1 l1 x24_2) 0)) ∧ w'.cell? ⟨ad720.block, ad720.off + 1, none⟩ = some (.int .i64 (rd (rd_L1 l1 x24_2) 1))) (ds := []) #[false, false, false, false, false, false, false, false, false] (by kernel_rfl) rfl rfl ⟨((HB.out.cell (World.block_lt_of_cell? w _ hw720_0)).trans hw720_0), ((HB.out.cell (World.block_lt_of_cell? w _ hw721_0)).trans hw721_0)⟩ (fun hHeld => ?_); refine with_tabW impl_FollowFlips.tab7 impl_FollowFlips.bits7 (fun HT_ HW_ => ?_)
                generalize wr.drew = w28 at HO_6 HB hx720_0 hx721_0 hHeld ⊢; refine pure_ (i := 0) (N := some 28) (v := ?_) (a' := ?_) #[true, false, false, false, false, false, false, false, false] rfl rfl (any_of HT_.out (by kernel_rfl)) (fun _ _ _ h => h) (Or.inl ⟨by rfl, ?_⟩) ?_ ?_; rotate_left
                ·intro w'; go_simp; with_reducible rfl
                rotate_left
                ·simp only [Act.put, List.setIfInBounds_toArray, List.set_cons_zero, List.set_cons_succ, i64_w, i32_w]; rfl
                refine pure_ (i := 1) (N := some 29) (v := ?_) (a' := ?_) #[true, true, false, false, false, false, false, false, false] rfl rfl (any_of HT_.out (by kernel_rfl)) (fun _ _ _ h => h) (Or.inl ⟨by rfl, ?_⟩) ?_ ?_; rotate_left
                ·intro w'; go_simp; with_reducible rfl
                rotate_left
                ·simp only [Act.put, List.setIfInBounds_toArray, List.set_cons_zero, List.set_cons_succ, i64_w, i32_w]; rfl
                refine pure_ (i := 2) (N := some 30) (v := ?_) (a' := ?_) #[true, true, true, false, false, false, false, false, false] rfl rfl (any_of HT_.out (by kernel_rfl)) (fun _ _ _ h => h) (Or.inl ⟨by rfl, ?_⟩) ?_ ?_; rotate_left
                ·intro w'; go_simp; with_reducible rfl
                rotate_left
                ·simp only [Act.put, List.setIfInBounds_toArray, List.set_cons_zero, List.set_cons_succ, i64_w, i32_w]; rfl
                refine pure_ (i := 4) (N := some 32) (v := ?_) (a' := ?_) #[true, true, true, false, true, false, false, false, false] rfl rfl (any_of HT_.out (by kernel_rfl)) (fun _ _ _ h => h) (Or.inl ⟨by rfl, ?_⟩) ?_ ?_; rotate_left
                ·intro w'; go_simp; with_reducible rfl
                rotate_left
                ·simp only [Act.put, List.setIfInBounds_toArray, List.set_cons_zero, List.set_cons_succ, i64_w, i32_w]; rfl
                refine pure_ (i := 5) (N := some 33) (v := ?_) (a' := ?_) #[true, true, true, false, true, true, false, false, false] rfl rfl (any_of HT_.out (by kernel_rfl)) (fun _ _ _ h => h) (Or.inl ⟨by rfl, ?_⟩) ?_ ?_; rotate_left
                ·intro w'; go_simp; with_reducible rfl
                rotate_left
                ·simp only [Act.put, List.setIfInBounds_toArray, List.set_cons_zero, List.set_cons_succ, i64_w, i32_w]; rfl
                refine take_ (i := 3) (N := some 31) (v := ?_) (a' := ?_) #[true, true, true, true, true, true, false, false, false] rfl rfl (take_ofW HT_.out HW_.out (by kernel_rfl)) (fun _ _ _ h => h) (Or.inl ⟨by rfl, ?_⟩) hHeld ?_ ?_; rotate_left
                ·rintro w' ⟨s0, s1⟩; go_simp; with_reducible rfl
                rotate_left
                ·simp only [Act.put, List.setIfInBounds_toArray, List.set_cons_zero, List.set_cons_succ, i64_w, i32_w]; rfl
                refine take_ (i := 6) (N := some 34) (v := ?_) (a' := ?_) #[true, true, true, true, true, true, true, false, false] rfl rfl (take_ofW HT_.out HW_.out (by kernel_rfl)) (fun _ _ _ h => h) (Or.inl ⟨by rfl, ?_⟩) hHeld ?_ ?_; rotate_left
                ·rintro w' ⟨s0, s1⟩; go_simp; with_reducible rfl
                rotate_left
                ·simp only [Act.put, List.setIfInBounds_toArray, List.set_cons_zero, List.set_cons_succ, i64_w, i32_w]; rfl
                refine one_ (i := 7) (N := some 35) #[true, true, true, true, true, true, true, true, false] rfl rfl (one_of HT_.out (by kernel_rfl)) (by decide) (fun K hK => ?_); refine goes_ Try.func143 (by kernel_rfl) rfl #[.slice Ao29 x6_2.length co29, .int .i64 (rd (rd_L1 l1 x24_2) 0), .int .i64 (rd (rd_L1 l1 x24_2) 1)] (by rfl) rfl rfl (by (try simp only [List.map_toArray, List.map_cons, List.map_nil]); first | done | rfl | (simp only [List.length_drop, List.length_take]; rfl)) ?_
                with_reducible refine (impl_way.calls _ _ x6_2 (rd (rd_L1 l1 x24_2) 0) (rd (rd_L1 l1 x24_2) 1) t722 _ ?side1 ?side2 A18.out).mono ?_
                (case side1 => repeat (first | exact (Kd.S_reads' HO_6.out).2.2 | (with_reducible refine Kd.C_alloc ?_ _) | (with_reducible refine Kd.C_drewN ?_ _) | (with_reducible refine Kd.C_drew ?_)))
                (case side2 => exact (Kd.S_reads' HO_6.out).2.1)
                rintro e w30 ⟨rfl, hb⟩; refine ⟨_, rfl, ?_⟩; have n0_ := Aside0.mk (Kd.S_below (by (with_reducible repeat (first | apply Kd.S_alloc | apply Kd.S_drewN | apply Kd.S_drew)); exact HO_6.out) hb); have n1_ := Aside0.mk (below_step (by repeat (first | (with_reducible first | exact HB.out | apply below_alloc | apply pw_below_drewN | apply below_drew1) | exact HB.out)) hb); clear HO_6; clear HB; have HO_6 := n0_; have HB := n1_; clear n0_ n1_
                (try clear hb)
                (try clear hb2)
                (try clear hk)
                (try clear hi)
                refine hK.out _ _ ⟨((HB.out.cell (World.block_lt_of_cell? w _ hw720_0)).trans hw720_0), ((HB.out.cell (World.block_lt_of_cell? w _ hw721_0)).trans hw721_0)⟩ (fun hHeld => ?_); clear hK K; refine norm_ (a' := ?_) ?_ ?_; rotate_left
                ·show Act.put _ (some 35) _ = _; simp only [Act.put, List.setIfInBounds_toArray, List.set_cons_zero, List.set_cons_succ, i64_w, i32_w]; rfl
                refine pure_ (i := 8) (N := some 9) (v := ?_) (a' := ?_) #[true, true, true, true, true, true, true, true, true] rfl rfl (any_of HT_.out (by kernel_rfl)) (fun _ _ _ h => h) (Or.inl ⟨by rfl, ?_⟩) ?_ ?_; rotate_left
                ·intro w'; go_simp; with_reducible rfl
                rotate_left
                ·simp only [Act.put, List.setIfInBounds_toArray, List.set_cons_zero, List.set_cons_succ, i64_w, i32_w]; rfl
                refine done_ (done_of HT_.out (by kernel_rfl)) ?_
                try go_wp2
                have n0_ := Aside0.mk (Kd.S_drew HO_6.out); have n1_ := Aside0.mk (below_drew1 HB.out); clear HO_6; clear HB; have HO_6 := n0_; have HB := n1_; clear n0_ n1_
                have p723 : 0 ≤ (0 : Int) := (by omega)
                have q723 : 0 < ((rd_L1 l1 x24_2).length : Int) := of_decide_eq_true (by first | (with_reducible assumption) | assumption); obtain ⟨ad723, e723, hx723_0⟩ := Kd.at_int HR719_0.out 0 p723 q723; have hw723_0 := hx723_0
                (try rw [show ((0 : Int)).toNat = 0 from rfl] at hw723_0)
                (try rw [show 0 * 1 = 0 from rfl] at hw723_0)
                (try rw [Addr.add_zero'] at hw723_0)
                obtain rfl : ad720 = ad723 := (by injection e723)
                have qi723 : (0 < (rd_L1 l1 x24_2).length) = True := eq_true (by omega)
                (try rw [show ((0 : Int)).toNat = 0 from rfl] at hx723_0)
                (try rw [Addr.add_zero'] at hx723_0)
                (try replace hx723_0 := (HB.out.cell (World.block_lt_of_cell? w _ hx723_0)).trans hx723_0)
                replace p723 := eq_true p723; replace q723 := eq_true q723; have p724 : 0 ≤ ((rd (rd_L1 l1 x24_2) 0) : Int) := of_decide_eq_true (by first | (with_reducible assumption) | assumption); have q724 : (rd (rd_L1 l1 x24_2) 0) < (x6_2.length : Int) := of_decide_eq_true (by first | (with_reducible assumption) | assumption); obtain ⟨ad724, A724_0, c724_0, e724, hx724_0, hl724_0, hi724_0⟩ := at_L1 (Kd.S_reads' HO_6.out).2.2 (rd (rd_L1 l1 x24_2) 0) p724 q724
                cases e724
                obtain ⟨ce724, hce724, hMe724, hcc724⟩ := Kd.S_get HO_6.out [] (rd (rd_L1 l1 x24_2) 0) p724 (by first | exact q724 | exact of_decide_eq_true (by first | (with_reducible assumption) | assumption) | (have e_ := (Kd.S_reads' HO_6.out).1; omega)); obtain ⟨ve724_0, rfl, ge724_0⟩ := hMe724; have hv724_0 := hcc724 0 _ rfl; rw [Nat.add_zero, show ((Kd.slice 3 (Kd.int .i64))).sz = 1 from rfl, Nat.mul_one] at hv724_0; replace hv724_0 := Option.some.inj (hv724_0.symm.trans hx724_0); rw [hv724_0] at ge724_0; have HL724_0 := Aside0.mk (show Kd.R (Kd.int .i64) 3 _ _ _ _ (rd_L1 x6_2 (rd (rd_L1 l1 x24_2) 0)) from ge724_0); clear hv724_0 ge724_0; have HX724_0 := Aside0.mk hx724_0; clear hcc724 hce724; have HR724_0 := Aside0.mk hi724_0; have HC724_0 := Aside0.mk hl724_0; clear hi724_0 hl724_0; replace p724 := eq_true p724; replace q724 := eq_true q724
                have p725 : 0 ≤ (1 : Int) := (by omega)
                have q725 : 1 < ((rd_L1 l1 x24_2).length : Int) := of_decide_eq_true (by first | (with_reducible assumption) | assumption); obtain ⟨ad725, e725, hx725_0⟩ := Kd.at_int HR719_0.out 1 p725 q725; have hw725_0 := hx725_0
                (try rw [show ((1 : Int)).toNat = 1 from rfl] at hw725_0)
                (try rw [show 1 * 1 = 1 from rfl] at hw725_0)
                (try simp only [Nat.reduceMul, Nat.reduceEqDiff, Go.Addr.add, ↓reduceIte] at hw725_0)
                obtain rfl : ad720 = ad725 := (by injection e725)
                (try simp only [show (1 : Int).toNat = 1 from rfl, Nat.reduceMul, Nat.reduceEqDiff, Go.Addr.add, ↓reduceIte] at hx725_0)
                have qi725 : (1 < (rd_L1 l1 x24_2).length) = True := eq_true (by omega)
                (try rw [show ((1 : Int)).toNat = 1 from rfl] at hx725_0)
                (try replace hx725_0 := (HB.out.cell (World.block_lt_of_cell? w _ hx725_0)).trans hx725_0)
                replace p725 := eq_true p725; replace q725 := eq_true q725; have p726 : 0 ≤ ((rd (rd_L1 l1 x24_2) 1) : Int) := of_decide_eq_true (by first | (with_reducible assumption) | assumption); have q726 : (rd (rd_L1 l1 x24_2) 1) < ((rd_L1 x6_2 (rd (rd_L1 l1 x24_2) 0)).length : Int) := of_decide_eq_true (by first | (with_reducible assumption) | assumption); obtain ⟨ad726, e726, hx726_0⟩ := Kd.at_int (by repeat (first | (with_reducible exact HR724_0.out) | (with_reducible refine Kd.C_alloc ?_ _) | (with_reducible refine Kd.C_drewN ?_ _) | (with_reducible refine Kd.C_drew ?_) | exact HR724_0.out)) (rd (rd_L1 l1 x24_2) 1) p726 q726
                cases e726
                replace p726 := eq_true p726; replace q726 := eq_true q726; have p27 : 0 ≤ ((rd (rd_L1 l1 x24_2) 1) : Int) := of_decide_eq_true (by first | (with_reducible assumption) | assumption); have q27 : ((rd (rd_L1 l1 x24_2) 1) : Int) < (((rd_L1 x6_2 (rd (rd_L1 l1 x24_2) 0)).length : Int) : Int) := of_decide_eq_true (by first | (with_reducible assumption) | assumption); obtain ⟨go27, co27, eo27, gb27, gl27, cl27, HG27⟩ := Kd.R_form HL724_0.out (by omega)
                (first | cases eo27 | (injection eo27 with ea_ en_ ec_; (first | subst ea_ | (injection ea_ with ea_; subst ea_)); subst ec_; clear en_))
                have GB27 := Aside0.mk gb27; have GG27 := Aside0.mk HG27; clear gb27 gl27 HG27
                (first | simp only [add_plain] at hx726_0 | skip)
                obtain ⟨hx27_0, hf27_0⟩ := Kd.R_celln 0 HL724_0.out ((rd (rd_L1 l1 x24_2) 1) : Int) p27 q27; replace p27 := eq_true p27; replace q27 := eq_true q27
                have hq32 : ((rd (rd_L1 l1 x24_2) 0) : Int) < (x6_2.length : Int) := (by have h_ : ((rd (rd_L1 l1 x24_2) 0) : Int) < ((x6_2.length : Int) : Int) := of_decide_eq_true (by first | (with_reducible assumption) | assumption); first | exact h_ | (have e_ := (Kd.S_reads' HO_6.out).1; omega) | simpa only [List.length_set, List.length_set] using h_)
                obtain ⟨oki32, ce32, hcl32, hM32, hcc32, hok32, hbk32⟩ := Kd.S_borrow HO_6.out [] ((rd (rd_L1 l1 x24_2) 0) : Int) (of_decide_eq_true (by first | (with_reducible assumption) | assumption)) (by first | exact hq32 | (have e_ := (Kd.S_reads' HO_6.out).1; have h_ := hq32; omega)); obtain ⟨ve32_0, rfl, ge32_0⟩ := hM32; have hv32 := hcc32 0 _ rfl; rw [Nat.add_zero, show ((Kd.slice 3 (Kd.int .i64))).sz = 1 from rfl, Nat.mul_one] at hv32; replace hv32 := Option.some.inj (hv32.symm.trans HX724_0.out); subst hv32; clear hcc32 hcl32
                replace ge32_0 := (show Kd.R (Kd.int .i64) 3 _ _ _ _ (rd_L1 x6_2 (rd (rd_L1 l1 x24_2) 0)) from ge32_0)
                have HP32 := Kd.R_putg ge32_0 ((rd (rd_L1 l1 x24_2) 1) : Int) (wrap64 ((rd (rd_L1 x6_2 (rd (rd_L1 l1 x24_2) 0)) (rd (rd_L1 l1 x24_2) 1)) + t722)); rw [← Ny727.out] at HP32; have HS32 := hbk32 HP32.2 (fun k_ e_ => by injection e_ with e_; subst e_; exact ge32_0.1 _ rfl) (x' := y727) (Kd.M_row HP32.1); rw [← Ny729.out] at HS32; have HQ32 := Aside0.mk HS32; clear HP32 HS32 hbk32 hok32
                refine start_ (n := 15) (S := fun w' => w'.cell? ad720 = some (.int .i64 (rd (rd_L1 l1 x24_2) 0)) ∧ w'.cell? (ad724.add ((rd (rd_L1 l1 x24_2) 0)).toNat) = some (.slice (some (⟨go27, 0, none⟩ : Addr)) (rd_L1 x6_2 (rd (rd_L1 l1 x24_2) 0)).length c724_0) ∧ w'.cell? ⟨ad720.block, ad720.off + 1, none⟩ = some (.int .i64 (rd (rd_L1 l1 x24_2) 1)) ∧ w'.cell? ⟨go27, ((rd (rd_L1 l1 x24_2) 1)).toNat, none⟩ = some (.int .i64 (rd (rd_L1 x6_2 (rd (rd_L1 l1 x24_2) 0)) (rd (rd_L1 l1 x24_2) 1)))) (ds := [14]) #[fF, fF, fF, fF, fF, fF, fF, fF, fF, fF, fF, fF, fF, fF, fF] (by kernel_rfl) rfl rfl ⟨((HB.out.cell (World.block_lt_of_cell? w _ hw723_0)).trans hw723_0), hx724_0, ((HB.out.cell (World.block_lt_of_cell? w _ hw725_0)).trans hw725_0), hx726_0⟩ (fun hHeld => ?_); refine with_tabW impl_FollowFlips.tab10 impl_FollowFlips.bits10 (fun HT_ HW_ => ?_)
                generalize w30.drew = w31 at HO_6 HB GG27 HL724_0 HQ32 HR724_0 HX724_0 hf27_0 hx27_0 hx723_0 hx724_0 hx725_0 hx726_0 hHeld ⊢; refine pure_ (i := 0) (N := some 38) (v := ?_) (a' := ?_) #[tT, fF, fF, fF, fF, fF, fF, fF, fF, fF, fF, fF, fF, fF, fF] rfl rfl (any_of HT_.out (by kernel_rfl)) (fun _ _ _ h => h) (Or.inl ⟨by rfl, ?_⟩) ?_ ?_; rotate_left
                ·intro w'; go_simp; with_reducible rfl
                rotate_left
                ·simp only [Act.put, List.setIfInBounds_toArray, List.set_cons_zero, List.set_cons_succ, i64_w, i32_w]; rfl
                refine pure_ (i := 1) (N := some 39) (v := ?_) (a' := ?_) #[tT, tT, fF, fF, fF, fF, fF, fF, fF, fF, fF, fF, fF, fF, fF] rfl rfl (any_of HT_.out (by kernel_rfl)) (fun _ _ _ h => h) (Or.inl ⟨by rfl, ?_⟩) ?_ ?_; rotate_left
                ·intro w'; go_simp; with_reducible rfl
                rotate_left
                ·simp only [Act.put, List.setIfInBounds_toArray, List.set_cons_zero, List.set_cons_succ, i64_w, i32_w]; rfl
                refine pure_ (i := 2) (N := some 40) (v := ?_) (a' := ?_) #[tT, tT, tT, fF, fF, fF, fF, fF, fF, fF, fF, fF, fF, fF, fF] rfl rfl (any_of HT_.out (by kernel_rfl)) (fun _ _ _ h => h) (Or.inl ⟨by rfl, ?_⟩) ?_ ?_; rotate_left
                ·intro w'; go_simp; with_reducible rfl
                rotate_left
                ·simp only [Act.put, List.setIfInBounds_toArray, List.set_cons_zero, List.set_cons_succ, i64_w, i32_w]; rfl
                refine pure_ (i := 6) (N := some 44) (v := ?_) (a' := ?_) #[tT, tT, tT, fF, fF, fF, tT, fF, fF, fF, fF, fF, fF, fF, fF] rfl rfl (any_of HT_.out (by kernel_rfl)) (fun _ _ _ h => h) (Or.inl ⟨by rfl, ?_⟩) ?_ ?_; rotate_left
                ·intro w'; go_simp; with_reducible rfl
                rotate_left
                ·simp only [Act.put, List.setIfInBounds_toArray, List.set_cons_zero, List.set_cons_succ, i64_w, i32_w]; rfl
                refine pure_ (i := 7) (N := some 45) (v := ?_) (a' := ?_) #[tT, tT, tT, fF, fF, fF, tT, tT, fF, fF, fF, fF, fF, fF, fF] rfl rfl (any_of HT_.out (by kernel_rfl)) (fun _ _ _ h => h) (Or.inl ⟨by rfl, ?_⟩) ?_ ?_; rotate_left
                ·intro w'; go_simp; with_reducible rfl
                rotate_left
                ·simp only [Act.put, List.setIfInBounds_toArray, List.set_cons_zero, List.set_cons_succ, i64_w, i32_w]; rfl
                refine pure_ (i := 11) (N := some 49) (v := ?_) (a' := ?_) #[tT, tT, tT, fF, fF, fF, tT, tT, fF, fF, fF, tT, fF, fF, fF] rfl rfl (any_of HT_.out (by kernel_rfl)) (fun _ _ _ h => h) (Or.inl ⟨by rfl, ?_⟩) ?_ ?_; rotate_left
                ·intro w'; go_simp; with_reducible rfl
                rotate_left
                ·simp only [Act.put, List.setIfInBounds_toArray, List.set_cons_zero, List.set_cons_succ, i64_w, i32_w]; rfl
                refine take_ (i := 3) (N := some 41) (v := ?_) (a' := ?_) #[tT, tT, tT, tT, fF, fF, tT, tT, fF, fF, fF, tT, fF, fF, fF] rfl rfl (take_ofW HT_.out HW_.out (by kernel_rfl)) (fun _ _ _ h => h) (Or.inl ⟨by rfl, ?_⟩) hHeld ?_ ?_; rotate_left
                ·rintro w' ⟨s0, s1, s2, s3⟩; go_simp; with_reducible rfl
                rotate_left
                ·simp only [Act.put, List.setIfInBounds_toArray, List.set_cons_zero, List.set_cons_succ, i64_w, i32_w]; rfl
                refine pure_ (i := 4) (N := some 42) (v := ?_) (a' := ?_) #[tT, tT, tT, tT, tT, fF, tT, tT, fF, fF, fF, tT, fF, fF, fF] rfl rfl (any_of HT_.out (by kernel_rfl)) (fun _ _ _ h => h) (Or.inl ⟨by rfl, ?_⟩) ?_ ?_; rotate_left
                ·intro w'; go_simp; with_reducible rfl
                rotate_left
                ·simp only [Act.put, List.setIfInBounds_toArray, List.set_cons_zero, List.set_cons_succ, i64_w, i32_w]; rfl
                refine take_ (i := 5) (N := some 43) (v := ?_) (a' := ?_) #[tT, tT, tT, tT, tT, tT, tT, tT, fF, fF, fF, tT, fF, fF, fF] rfl rfl (take_ofW HT_.out HW_.out (by kernel_rfl)) (fun _ _ _ h => h) (Or.inl ⟨by rfl, ?_⟩) hHeld ?_ ?_; rotate_left
                ·rintro w' ⟨s0, s1, s2, s3⟩; go_simp; with_reducible rfl
                rotate_left
                ·simp only [Act.put, List.setIfInBounds_toArray, List.set_cons_zero, List.set_cons_succ, i64_w, i32_w]; rfl
                refine take_ (i := 8) (N := some 46) (v := ?_) (a' := ?_) #[tT, tT, tT, tT, tT, tT, tT, tT, tT, fF, fF, tT, fF, fF, fF] rfl rfl (take_ofW HT_.out HW_.out (by kernel_rfl)) (fun _ _ _ h => h) (Or.inl ⟨by rfl, ?_⟩) hHeld ?_ ?_; rotate_left
                ·rintro w' ⟨s0, s1, s2, s3⟩; go_simp; with_reducible rfl
                rotate_left
                ·simp only [Act.put, List.setIfInBounds_toArray, List.set_cons_zero, List.set_cons_succ, i64_w, i32_w]; rfl
                refine pure_ (i := 9) (N := some 47) (v := ?_) (a' := ?_) #[tT, tT, tT, tT, tT, tT, tT, tT, tT, tT, fF, tT, fF, fF, fF] rfl rfl (any_of HT_.out (by kernel_rfl)) (fun _ _ _ h => h) (Or.inl ⟨by rfl, ?_⟩) ?_ ?_; rotate_left
                ·intro w'; go_simp; with_reducible rfl
                rotate_left
                ·simp only [Act.put, List.setIfInBounds_toArray, List.set_cons_zero, List.set_cons_succ, i64_w, i32_w]; rfl
                refine take_ (i := 10) (N := some 48) (v := ?_) (a' := ?_) #[tT, tT, tT, tT, tT, tT, tT, tT, tT, tT, tT, tT, fF, fF, fF] rfl rfl (take_ofW HT_.out HW_.out (by kernel_rfl)) (fun _ _ _ h => h) (Or.inl ⟨by rfl, ?_⟩) hHeld ?_ ?_; rotate_left
                ·rintro w' ⟨s0, s1, s2, s3⟩; go_simp; with_reducible rfl
                rotate_left
                ·simp only [Act.put, List.setIfInBounds_toArray, List.set_cons_zero, List.set_cons_succ, i64_w, i32_w]; rfl
                refine pure_ (i := 12) (N := some 50) (v := ?_) (a' := ?_) #[tT, tT, tT, tT, tT, tT, tT, tT, tT, tT, tT, tT, tT, fF, fF] rfl rfl (any_of HT_.out (by kernel_rfl)) (fun _ _ _ h => h) (Or.inl ⟨by rfl, ?_⟩) ?_ ?_; rotate_left
                ·intro w'; go_simp; with_reducible rfl
                rotate_left
                ·simp only [Act.put, List.setIfInBounds_toArray, List.set_cons_zero, List.set_cons_succ, i64_w, i32_w]; rfl
                refine pure_ (i := 13) (N := some 51) (v := ?_) (a' := ?_) #[tT, tT, tT, tT, tT, tT, tT, tT, tT, tT, tT, tT, tT, tT, fF] rfl rfl (any_of HT_.out (by kernel_rfl)) (fun _ _ _ h => h) (Or.inl ⟨by rfl, ?_⟩) ?_ ?_; rotate_left
                ·intro w'; go_simp; with_reducible rfl
                rotate_left
                ·simp only [Act.put, List.setIfInBounds_toArray, List.set_cons_zero, List.set_cons_succ, i64_w, i32_w]; rfl
                refine last_ (i := 14) (N := none) #[tT, tT, tT, tT, tT, tT, tT, tT, tT, tT, tT, tT, tT, tT, tT] rfl rfl (one_of HT_.out (by kernel_rfl)) (by decide) (fun K hK => ?_); refine skip_ (w1 := ?_) (by rfl) rfl ?_ ?_; rotate_left
                ·go_simp; rfl
                refine hK.out _ _ ?_; clear hK K; refine done_ (done_of HT_.out (by kernel_rfl)) ?_
                try go_wp2
                go_roundg k2
                case measure => have := HJ2.out; have := HK2.out; omega
                case rel => exact ⟨(y729), (wrap64 (x24_2 + 1)), (by first | rfl | (simp; done) | (simp [*]; done)), H', ⟨by have := HJ2.out; have := HK2.out; omega⟩, ⟨by (with_reducible repeat (first | apply Kd.S_alloc | apply Kd.S_drewN | apply Kd.S_drew)); exact HQ32.out⟩, ⟨by repeat (first | (with_reducible first | exact HB.out | apply below_alloc | apply pw_below_drewN | apply below_drew1 | refine below_set ?_ GB27.out) | exact HB.out)⟩⟩
               ·rw [if_neg c26] at H; exact absurd H (by simp)
              ·rw [if_neg c25] at H; exact absurd H (by simp)
             ·rw [if_neg c24] at H; exact absurd H (by simp)
            ·rw [if_neg c23] at H; exact absurd H (by simp)
          ·rw [if_neg c17] at H; exact absurd H (by simp)
         ·rw [if_neg c16] at H; exact absurd H (by simp)
        ·rw [if_neg c15] at H; exact absurd H (by simp)
       ·rw [if_neg c14] at H; exact absurd H (by simp)
      ·rw [if_neg c13] at H
       have c13b0 : decide (x24_2 < (l1.length : Int)) = false := decide_eq_false c13; clear c13; replace H := Option.bind_eq_some_iff.mp H; obtain ⟨t730, A340, H⟩ := H; replace H : (some (t730, true)) = some (r1, r2) := H; have A34 := Aside0.mk A340; clear A340; simp only [Option.some.injEq, Prod.mk.injEq] at H; obtain ⟨rfl, rfl⟩ := H; obtain ⟨Ao35, co35, eo35⟩ := Kd.S_slice HO_6.out; subst eo35
       go_wp2_with (first | ((with_reducible refine gate_callee (f := 166) rfl ?_); refine goesL_ (some 54) rfl rfl Try.func166 (by kernel_rfl) rfl #[.slice Ao35 x6_2.length co35] rfl (by (try simp only [List.map_toArray, List.map_cons, List.map_nil]); first | done | rfl | (simp only [List.length_drop, List.length_take]; rfl)) ?_; (with_reducible refine (impl_fromHeights.calls _ _ x6_2 t730 _ ?side1 ?side2 A34.out).mono ?_); (case side1 => repeat (first | exact (Kd.S_reads' HO_6.out).2.2 | (with_reducible refine Kd.C_alloc ?_ _) | (with_reducible refine Kd.C_drewN ?_ _) | (with_reducible refine Kd.C_drew ?_))); (case side2 => exact (Kd.S_reads' HO_6.out).2.1); rintro e w36 ⟨v731, rfl, ho0, hb⟩; refine ⟨_, rfl, ?_⟩; have n0_ := Aside0.mk (Kd.S_elder' (by (with_reducible repeat (first | apply Kd.S_alloc | apply Kd.S_drewN | apply Kd.S_drew)); exact HO_6.out) (Kd.S_base ho0) hb); have n1_ := Aside0.mk (Kd.S_lower (Kd.S_new' ho0 (Kd.S_lt (by (with_reducible repeat (first | apply Kd.S_alloc | apply Kd.S_drewN | apply Kd.S_drew)); exact HO_6.out))) (below_size (by repeat (first | (with_reducible first | exact HB.out | apply below_alloc | apply pw_below_drewN | apply below_drew1) | exact HB.out)))); have n2_ := Aside0.mk (below_step (by repeat (first | (with_reducible first | exact HB.out | apply below_alloc | apply pw_below_drewN | apply below_drew1) | exact HB.out)) hb); clear HO_6; clear HB; have HO_6 := n0_; have HO732 := n1_; have HB := n2_; clear n0_ n1_ n2_; (try clear hb); (try clear hb2); (try clear hk); (try clear hi); (try clear ho0)))
       go_ret2; exact ⟨_, by first | rfl | (simp [errW_none, errW_some] <;> rfl) | (simp [*, errW_none, errW_some] <;> rfl), by (with_reducible repeat (first | apply Kd.S_alloc | apply Kd.S_drewN | apply Kd.S_drew)); exact Kd.S_mono HO732.out (fun _ hk => trivial), by repeat (first | (with_reducible first | exact HB.out | apply below_alloc | apply pw_below_drewN | apply below_drew1) | exact HB.out)⟩
/-! ### impl_FlipAt: function 103 (given) -/
def impl_FlipAt.f (k : Nat) (l0 : List (List Int)) (a1 : Int) (a2 : Int) : Option ((List (List Int)) × Bool) := impl_FollowFlips.f k l0 [[a1, a2]]
set_option maxHeartbeats 8000000 in
set_option maxRecDepth 100000 in
theorem impl_FlipAt.calls (k : Nat) (A0 : Option Addr) (c0 : Nat) (l0 : List (List Int)) (a1 : Int) (a2 : Int) (r1 : List (List Int)) (r2 : Bool) (w : World) (hr0 : Kd.C (Kd.slice 3 (Kd.int .i64)) w A0 l0.length l0) (hc0 : l0.length ≤ c0) (h : impl_FlipAt.f k l0 a1 a2 = some (r1, r2)) :
  Calls Try.prog 103 #[.slice A0 l0.length c0, .int .i64 a1, .int .i64 a2] w fun e w' => ∃ v0_ : Value, e = .returned (.tuple #[v0_, .bool r2]) ∧ Kd.S (Kd.slice 3 (Kd.int .i64)) 39 w' w.heap.size (fun _ => True) v0_ r1 ∧ Below w.heap.size w w' := by
 have HR0 := Aside0.mk hr0; have HC0 := Aside0.mk hc0; clear hr0 hc0; have HB := Aside0.mk (Below.refl w.heap.size w)
 obtain ⟨y1, hy1⟩ : ∃ y_ : List Int, y_ = (([a1, a2] : List Int)) := ⟨_, rfl⟩
 obtain ⟨y2, hy2⟩ : ∃ y_ : List (List Int), y_ = (([y1] : List (List Int))) := ⟨_, rfl⟩
 have H := Aside0.mk (show impl_FollowFlips.f k l0 y2 = some (r1, r2) by rw [hy2, hy1]; exact h); have NY1 := Aside0.mk hy1; have NY2 := Aside0.mk hy2; clear hy1 hy2 h; go_enter Try.func103, Try.ntmps103
 go_wp2_with (first | ((with_reducible refine gate_dst (N := 11) rfl ?_); refine Kd.R_lit (Kd.int .i64) _ 3 ?hg (N := 11) ?hd (xs := ([a1, a2] : List Int)) (inner := [.int .i64 a1, .int .i64 a2]) (ok := fun _ => True) (okp := fun _ => True) ?hr ?hp (fun _ hk => hk) trivial (Below.refl _ _) (Nat.le_refl _) (by simp) ?_; (case hd => rfl); (case hg => rfl); (case hr => first | (go_simp; done) | (go_simp; rfl)); (case hp => exact (Reps.one (show Kd.M (Kd.int .i64) _ _ _ a1 [.int .i64 a1] from rfl) (Reps.one (show Kd.M (Kd.int .i64) _ _ _ a2 [.int .i64 a2] from rfl) (Reps.none _ _)))); intro v765 w5 ho6 hb hg_ hnew_; clear hg_ hnew_; (first | rw [← NY1.out] at ho6 | (simp only [Int.reduceToNat] at ho6; rw [← NY1.out] at ho6)); have n0_ := Aside0.mk (Kd.R_lower (Kd.R_newM (M := fun k_ => (w.heap.size ≤ k_)) ho6 (below_size (by repeat (first | (with_reducible first | exact HB.out | apply below_alloc | apply pw_below_drewN | apply below_drew1) | exact HB.out))) (fun k_ h_ => h_)) (below_size (by repeat (first | (with_reducible first | exact HB.out | apply below_alloc | apply pw_below_drewN | apply below_drew1) | exact HB.out)))); have n1_ := Aside0.mk (below_step (by repeat (first | (with_reducible first | exact HB.out | apply below_alloc | apply pw_below_drewN | apply below_drew1) | exact HB.out)) hb); clear HB; have HO766 := n0_; have HB := n1_; clear n0_ n1_; clear hb ho6; obtain ⟨Ao7, co7, eo7⟩ := Kd.R_slice HO766.out; subst eo7) | ((with_reducible refine gate_dst (N := 12) rfl ?_); refine Kd.N_lit (Kd.slice 3 (Kd.int .i64)) _ 39 ?hg (N' := 12) ?hd (xs := ([y1] : List (List Int))) (inner := [.slice Ao7 y1.length co7]) (ok := (fun k_ => (w.heap.size ≤ k_))) (okp := (fun k_ => (w.heap.size ≤ k_))) ?hr ?hp (fun _ hk => hk) ((show ∀ k_, w5.heap.size ≤ k_ → (fun k_ => (w.heap.size ≤ k_)) k_ from fun k_ hk => (Nat.le_trans (below_size (by repeat (first | (with_reducible first | exact HB.out | apply below_alloc | apply pw_below_drewN | apply below_drew1) | exact HB.out))) hk)) _ (Nat.le_refl _)) (Below.refl _ _) (Nat.le_refl _) (by simp) ?_; (case hd => rfl); (case hg => rfl); (case hr => first | (go_simp; done) | (go_simp; rfl)); (case hp => exact (Reps.one (show Kd.FK (Kd.slice 3 (Kd.int .i64)) _ _ y1 [.slice Ao7 y1.length co7] from (Kd.FK_slice_mk (Kd.R_reads' (Kd.R_mono (ok' := (fun k_ => (w.heap.size ≤ k_))) (HO766.out) (fun k_ hk => hk.1))).2.1 (Kd.R_F (Kd.R_mono (ok' := (fun k_ => (w.heap.size ≤ k_))) (HO766.out) (fun k_ hk => hk.1))))) (Reps.none _ _))); intro v768 w8 ho9 hb hg_ hnew_; clear hg_ hnew_; (first | rw [← NY2.out] at ho9 | (simp only [Int.reduceToNat] at ho9; rw [← NY2.out] at ho9)); have n0_ := Aside0.mk (Kd.N_lower ho9 (below_size (by repeat (first | (with_reducible first | exact HB.out | apply below_alloc | apply pw_below_drewN | apply below_drew1) | exact HB.out)))); have n1_ := Aside0.mk (below_step (by repeat (first | (with_reducible first | exact HB.out | apply below_alloc | apply pw_below_drewN | apply below_drew1) | exact HB.out)) hb); clear HB; clear HO766; have HO769 := n0_; have HB := n1_; clear n0_ n1_; clear hb ho9; obtain ⟨Ao10, co10, eo10⟩ := Kd.N_slice HO769.out; subst eo10) | (go_at_call 145; (with_reducible refine (impl_FollowFlips.calls k _ _ l0 _ _ y2 r1 r2 _ (Kd.C_below HR0.out HB.out) HC0.out (Kd.N_reads' HO769.out).2.2 (Kd.N_reads' HO769.out).2.1 H.out).mono ?_); rintro e w11 ⟨v772, rfl, ho0, hb⟩; have HS := Aside0.mk (Kd.S_lower ho0 (below_size HB.out)); have HB2 := Aside0.mk (below_step HB.out hb); clear ho0 hb))
 go_ret2; exact ⟨_, rfl, HS.out, HB2.out⟩
end Go.Proofs.Ytadepmjfhcmkoaa.P
