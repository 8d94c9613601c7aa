-- By gp.py (this session's own driver over the kit's print). Not trusted: Lean checks it.
import Derived.Test.YtadepmjfhcmkoaaF0
import Derived.Test.YtadepmjfhcmkoaaB
import Derived.Laws.EntriesVeiled
import Derived.Test.YtadepmjfhcmkoaaTab
namespace Go.Proofs.Ytadepmjfhcmkoaa.P
open Go.Proofs.Ytadepmjfhcmkoaa.B
open Go.RowKit Go.Proofs.YtadepmjfhcmkoaaW.PrintWords Go.Proofs.YtadepmjfhcmkoaaW.PrintLast Go.Proofs.YtadepmjfhcmkoaaW.PrintMore
attribute [local go_sem] max2_int min2_int max_two min_two max_three min_three max_four min_four   -- for this text's walks alone
set_option linter.unusedVariables false
set_option linter.unusedSimpArgs false
/-! ### impl_fromHeights: function 166 (given) -/
def cnV (l : List (List Int)) (i j : Nat) : Int := wrap64 ((wrap64 ((i : Int) + (j : Int) - gd l i j)).tdiv 2)
def fhV (l : List (List Int)) (i j : Nat) : Int := wrap64 (wrap64 (wrap64 (cnV l (i + 1) (j + 1) - cnV l i (j + 1)) - cnV l (i + 1) j) + cnV l i j)
def impl_fromHeights.f (l0 : List (List Int)) : Option (List (List Int)) := if 1 ≤ l0.length ∧ l0.length ≤ 1048576 ∧ ∀ x ∈ l0, x.length = l0.length then some (tabOf (l0.length - 1) (l0.length - 1) (fhV l0)) else none
set_option maxHeartbeats 8000000 in
set_option maxRecDepth 100000 in
theorem impl_fromHeights.clo1 (l : List (List Int)) (A : Option Addr) (c : Nat) (g1 : Addr) (w : World) (hr : Kd.C (Kd.slice 3 (Kd.int .i64)) w A l.length l) (hl : l.length ≤ 1048576) (hsq : ∀ x ∈ l, x.length = l.length) (h1 : w.cell? g1 = some (.slice A l.length c)) (i j : Nat) (hi : i < l.length) (hj : j < l.length) :
  Calls Try.prog 174 #[.int .i64 (i : Int), .int .i64 (j : Int), .pointer (some g1)] w fun e w' => e = .returned (.int .i64 (cnV l i j)) ∧ Drawn0 w w' := by
 obtain ⟨ad, A0, c0, rfl, hx0, hc0, hr0⟩ := at_row hr i hi; have hlen : (l.getD i []).length = l.length := getD_row hsq hi; obtain ⟨ad2, rfl, hx1⟩ := at_num hr0 j (by omega); rw [hlen] at hx0; unfold cnV
 obtain ⟨v, hv⟩ : ∃ v, v = gd l i j := ⟨_, rfl⟩
 change w.cell? _ = some (.int .i64 (gd l i j)) at hx1
 rw [← hv] at hx1 ⊢; clear hv; have b3 : decide (i < l.length) = true := decide_eq_true hi; have b4 : decide (j < l.length) = true := decide_eq_true hj
 have b5 : (0 : Int) ≤ (i : Int) := by omega
 have b6 : (0 : Int) ≤ (j : Int) := by omega
 clear hr hr0 hc0 hlen hsq; go_enter Try.func174, Try.ntmps174; go_wp2; go_ret; exact ⟨by first | rfl | (simp only [i64_w]; rfl), (by repeat (first | exact Drawn0.refl _ | apply Drawn0.step))⟩
set_option maxHeartbeats 8000000 in
set_option maxRecDepth 100000 in
theorem impl_fromHeights.clo2 (l : List (List Int)) (A : Option Addr) (c : Nat) (g1 g2 : Addr) (w : World) (hr : Kd.C (Kd.slice 3 (Kd.int .i64)) w A l.length l) (hl : l.length ≤ 1048576) (hsq : ∀ x ∈ l, x.length = l.length) (h1 : w.cell? g1 = some (.slice A l.length c)) (h2 : w.cell? g2 = some (.func (.func 174) #[] #[.pointer (some g1)])) (i j : Nat) (hi : i + 1 < l.length) (hj : j + 1 < l.length) :
  Calls Try.prog 175 (#[.int .i64 (i : Int), .int .i64 (j : Int)] ++ #[.pointer (some g2)]) w fun e w' => e = .returned (.int .i64 (fhV l i j)) ∧ Drawn0 w w' := by
 have HC : ∀ (n : Nat) (i j : Nat), i < l.length → j < l.length → Calls Try.prog 174 #[.int .i64 (i : Int), .int .i64 (j : Int), .pointer (some g1)] (w.drewN n) fun e w' => e = .returned (.int .i64 (cnV l i j)) ∧ Drawn0 (w.drewN n) w' :=
  fun n i j a1 a2 => impl_fromHeights.clo1 l A c g1 (w.drewN n) (Kd.C_drewN hr n) hl hsq h1 i j a1 a2
 obtain ⟨v0, hv0⟩ : ∃ v, v = cnV l (i + 1) (j + 1) := ⟨_, rfl⟩
 obtain ⟨v1, hv1⟩ : ∃ v, v = cnV l i (j + 1) := ⟨_, rfl⟩
 obtain ⟨v2, hv2⟩ : ∃ v, v = cnV l (i + 1) j := ⟨_, rfl⟩
 obtain ⟨v3, hv3⟩ : ∃ v, v = cnV l i j := ⟨_, rfl⟩
 have K0 := fun n => HC n (i + 1) (j + 1) (by omega) (by omega)
 have K1 := fun n => HC n i (j + 1) (by omega) (by omega)
 have K2 := fun n => HC n (i + 1) j (by omega) (by omega)
 have K3 := fun n => HC n i j (by omega) (by omega)
 have c1 : ((i + 1 : Nat) : Int) = (i : Int) + 1 := by omega
 have c2 : ((j + 1 : Nat) : Int) = (j : Int) + 1 := by omega
 rw [← hv0, c1, c2] at K0; rw [← hv1, c2] at K1; rw [← hv2, c1] at K2; rw [← hv3] at K3
 have hv : fhV l i j = wrap64 (wrap64 (wrap64 (v0 - v1) - v2) + v3) := by unfold fhV; rw [hv0, hv1, hv2, hv3]
 rw [hv]; have k0 := Aside0.mk K0; have k1 := Aside0.mk K1; have k2 := Aside0.mk K2; have k3 := Aside0.mk K3
 have e1 : IntKind.i64.wrap ((i : Int) + 1) = (i : Int) + 1 := by rw [i64_w]; exact wrapE _ (by omega) (by omega)
 have e2 : IntKind.i64.wrap ((j : Int) + 1) = (j : Int) + 1 := by rw [i64_w]; exact wrapE _ (by omega) (by omega)
 have hE1 := enters_of Try.func174 (by kernel_rfl) rfl; clear hr hsq h1 HC hv hv0 hv1 hv2 hv3 K0 K1 K2 K3 c1 c2 hi hj hl; go_enter Try.func175, Try.ntmps175; go_wp2; refine wp_region_quiet_lit (by kernel_rfl) (by kernel_rfl) ?_
 repeat (first | (refine wpQuiet_step (fun K hK => ?_); refine quietF_ (v := .int .i64 v0) 174 #[.pointer (some g1)] #[.int .i64 ((i : Int) + 1), .int .i64 ((j : Int) + 1), .pointer (some g1)] hE1 (by rfl) rfl (by rfl) (by simp only [List.map_toArray, List.map_cons, List.map_nil]; rfl) ?_ (hK _ ?_); (focus (rintro W ⟨n, rfl⟩; refine (k0.out n).mono ?_; rintro e w' ⟨rfl, ⟨nd, rfl⟩⟩; exact ⟨rfl, _, World.drewN_drewN _ _ _⟩)); clear hK K) | (refine wpQuiet_step (fun K hK => ?_); refine quietF_ (v := .int .i64 v1) 174 #[.pointer (some g1)] #[.int .i64 ((i : Int)), .int .i64 ((j : Int) + 1), .pointer (some g1)] hE1 (by rfl) rfl (by rfl) (by simp only [List.map_toArray, List.map_cons, List.map_nil]; rfl) ?_ (hK _ ?_); (focus (rintro W ⟨n, rfl⟩; refine (k1.out n).mono ?_; rintro e w' ⟨rfl, ⟨nd, rfl⟩⟩; exact ⟨rfl, _, World.drewN_drewN _ _ _⟩)); clear hK K) | (refine wpQuiet_step (fun K hK => ?_); refine quietF_ (v := .int .i64 v2) 174 #[.pointer (some g1)] #[.int .i64 ((i : Int) + 1), .int .i64 ((j : Int)), .pointer (some g1)] hE1 (by rfl) rfl (by rfl) (by simp only [List.map_toArray, List.map_cons, List.map_nil]; rfl) ?_ (hK _ ?_); (focus (rintro W ⟨n, rfl⟩; refine (k2.out n).mono ?_; rintro e w' ⟨rfl, ⟨nd, rfl⟩⟩; exact ⟨rfl, _, World.drewN_drewN _ _ _⟩)); clear hK K) | (refine wpQuiet_step (fun K hK => ?_); refine quietF_ (v := .int .i64 v3) 174 #[.pointer (some g1)] #[.int .i64 ((i : Int)), .int .i64 ((j : Int)), .pointer (some g1)] hE1 (by rfl) rfl (by rfl) (by simp only [List.map_toArray, List.map_cons, List.map_nil]; rfl) ?_ (hK _ ?_); (focus (rintro W ⟨n, rfl⟩; refine (k3.out n).mono ?_; rintro e w' ⟨rfl, ⟨nd, rfl⟩⟩; exact ⟨rfl, _, World.drewN_drewN _ _ _⟩)); clear hK K) | quiet_step (fail))
 refine wpQuiet_nil ?_; intro _ hw'; obtain ⟨nq, hw''⟩ := hw'; subst hw''; go_wp2; go_ret; exact ⟨by simp only [i64_w]; rfl, (by repeat (first | exact Drawn0.refl _ | apply Drawn0.step))⟩
set_option maxHeartbeats 8000000 in
set_option maxRecDepth 100000 in
theorem impl_fromHeights.calls (A0 : Option Addr) (c0 : Nat) (l0 : List (List Int)) (r : List (List Int)) (w : World) (hr0 : Kd.C (Kd.slice 3 (Kd.int .i64)) w A0 l0.length l0) (hc0 : l0.length ≤ c0) (h : impl_fromHeights.f l0 = some r) :
  Calls Try.prog 166 #[.slice A0 l0.length c0] w fun e w' => ∃ v0_ : Value, e = .returned (v0_) ∧ Kd.S (Kd.slice 3 (Kd.int .i64)) 39 w' w.heap.size (fun _ => True) v0_ r ∧ Below w.heap.size w w' := by
 unfold impl_fromHeights.f at h
 by_cases hc : 1 ≤ l0.length ∧ l0.length ≤ 1048576 ∧ ∀ x ∈ l0, x.length = l0.length
 ·rw [if_pos hc] at h
  obtain rfl := Option.some.inj h; clear h; obtain ⟨h1', hl, hsq⟩ := hc; have HB0 := Aside0.mk (Below.refl w.heap.size w)
  have HT := Aside0.mk (fun (W : World) (hb : Below w.heap.size w W) (g1 g2 : Addr) (h1 : W.cell? g1 = some (.slice A0 l0.length c0)) (h2 : W.cell? g2 = some (.func (.func 174) #[] #[.pointer (some g1)])) =>
   table_any 175 #[.pointer (some g2)] (fhV l0) (l0.length - 1) (l0.length - 1) (by omega) (by omega) W (enters_of Try.func175 (by kernel_rfl) rfl)
    (fun W' hb' i j hi hj => impl_fromHeights.clo2 l0 A0 c0 g1 g2 W' (Kd.C_below (Kd.C_below hr0 hb) hb') hl hsq (pw_cell_below hb' h1) (pw_cell_below hb' h2) i j (by omega) (by omega)))
  have hn : ((l0.length - 1 : Nat) : Int) = wrap64 ((l0.length : Int) - 1) := by rw [wrapE _ (by omega) (by omega)]; omega
  rw [hn] at HT; clear hl hsq hn h1'
  have hmf : ∀ (fn : Fn) (first cap : Array Value) (w : World), (Instr.makeFunc fn first cap).run Try.prog w = .ok (.func fn first cap) w := fun _ _ _ _ => rfl
  go_enter Try.func166, Try.ntmps166
  go_wp2_with (go_at_call 146; (with_reducible refine (HT.out _ ?hb ⟨w.heap.size, 0, none⟩ _ ?h1 ?h2).mono ?_); (case hb => exact (by repeat (first | exact HB0.out | apply below_alloc | apply pw_below_drewN | apply below_drew1))); (case h1 => go_simp); (case h2 => go_simp); rintro e w' ⟨v, rfl, hS, hb⟩; have HS := Aside0.mk (Kd.S_lower hS (below_size (by repeat (first | exact HB0.out | apply below_alloc | apply pw_below_drewN | apply below_drew1)))); have HB := Aside0.mk (below_step (by repeat (first | exact HB0.out | apply below_alloc | apply pw_below_drewN | apply below_drew1)) hb); clear hS hb)
  go_ret; exact ⟨_, rfl, HS.out, HB.out⟩
 ·rw [if_neg hc] at h
  cases h
end Go.Proofs.Ytadepmjfhcmkoaa.P
