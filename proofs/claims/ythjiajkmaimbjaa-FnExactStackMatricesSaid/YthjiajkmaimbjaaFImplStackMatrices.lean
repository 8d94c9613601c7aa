-- By gp.py (this session's own driver over the kit's print). Not trusted: Lean checks it.
import Derived.Test.YthjiajkmaimbjaaF0
import Derived.Test.YthjiajkmaimbjaaB
import Derived.BigQuiet
import Derived.Deep.QuietTactic
import Derived.Test.YthjiajkmaimbjaaTab
import Derived.Test.YthjiajkmaimbjaaFImplGood
import Derived.Test.YthjiajkmaimbjaaFImplIn
namespace Go.Proofs.Ythjiajkmaimbjaa.P
open Go.Proofs.Ythjiajkmaimbjaa.B
open Go.RowKit Go.Proofs.YthjiajkmaimbjaaW.PrintWords Go.Proofs.YthjiajkmaimbjaaW.PrintLast Go.Proofs.YthjiajkmaimbjaaW.PrintMore
attribute [local go_sem] max2_int min2_int max_two min_two max_three min_three max_four min_four   -- for this text's walks alone
set_option linter.unusedVariables false
set_option linter.unusedSimpArgs false

/-! ### impl_StackMatrices: function 35 (given) -/
/-- The number at a place of the stacked table. -/
def stackV (m k : List (List Int)) (i j : Nat) : Int := if i < m.length ∧ j < m.length then gd m i j else if m.length ≤ i ∧ m.length ≤ j then gd k (i - m.length) (j - m.length) else 0
def impl_StackMatrices.f (k : Nat) (l0 l1 : List (List Int)) : Option (List (List Int) × Bool) := (impl_IsSignMatrix.f k l0).bind fun a => if a = true then (impl_IsSignMatrix.f k l1).bind fun b => if b = true then (if l0.length ≤ 1000 ∧ l1.length ≤ 1000 ∧ (∀ x ∈ l0, x.length = l0.length) ∧ (∀ x ∈ l1, x.length = l1.length) then (impl_isSide.f ((l0.length : Int) + (l1.length : Int))).bind fun s => if s = true then some (tabOf (l0.length + l1.length) (l0.length + l1.length) (stackV l0 l1), true) else some (([] : List (List Int)), false) else none) else some (([] : List (List Int)), false) else some (([] : List (List Int)), false)
theorem impl_StackMatrices.mono : ∀ a0 a1 k, LeO (impl_StackMatrices.f k a0 a1) (impl_StackMatrices.f (k + 1) a0 a1) := by
  intro a0 a1 k
  unfold impl_StackMatrices.f
  exact LeO.bind (impl_IsSignMatrix.mono _ _) (fun _ => LeO.ite (LeO.bind (impl_IsSignMatrix.mono _ _) (fun _ => LeO.refl _)) (LeO.refl _))
set_option maxHeartbeats 8000000 in
set_option maxRecDepth 100000 in
theorem impl_StackMatrices.clo (a b : List (List Int)) (A B : Option Addr) (c d : Nat) (g1 g2 g3 : Addr) (w : World) (hra : Kd.C (Kd.slice 3 (Kd.int .i64)) w A a.length a) (hrb : Kd.C (Kd.slice 3 (Kd.int .i64)) w B b.length b) (n m : Nat) (hla : a.length = n) (hlb : b.length = m) (hn : n ≤ 1000) (hm : m ≤ 1000) (hsa : ∀ x ∈ a, x.length = n) (hsb : ∀ x ∈ b, x.length = m)
    (h1 : w.cell? g1 = some (.int .i64 n)) (h2 : w.cell? g2 = some (.slice A n c)) (h3 : w.cell? g3 = some (.slice B m d)) (i j : Nat) (hi : i < n + m) (hj : j < n + m) :
    Calls Try.prog 70 (#[.int .i64 (i : Int), .int .i64 (j : Int)] ++ #[.pointer (some g1), .pointer (some g2), .pointer (some g3)]) w fun e w' => e = .returned (.int .i64 (stackV a b i j)) ∧ Drawn0 w w' := by
  rw [hla] at hra
  rw [hlb] at hrb
  by_cases ci : i < n
  · by_cases cj : j < n
    · obtain ⟨ad, A0, c0, rfl, hx0, hc0, hr0⟩ := at_row hra i ci
      have hlen : (a.getD i []).length = n := getD_row hsa (by omega)
      obtain ⟨ad2, rfl, hx1⟩ := at_num hr0 j (by omega)
      rw [hlen] at hx0
      have hv : stackV a b i j = gd a i j := by unfold stackV; rw [hla, if_pos ⟨ci, cj⟩]
      rw [hv]
      change w.cell? _ = some (.int .i64 (gd a i j)) at hx1
      obtain ⟨v, hv⟩ : ∃ v, v = gd a i j := ⟨_, rfl⟩
      rw [← hv] at hx1 ⊢
      have b3 : decide (i < n) = true := decide_eq_true ci
      have b4 : decide (j < n) = true := decide_eq_true cj
      have b5 : (0 : Int) ≤ (i : Int) := by omega
      have b6 : (0 : Int) ≤ (j : Int) := by omega
      clear hv hra hrb hr0 hc0 hlen hsa hsb hla hlb h3
      go_enter Try.func70, Try.ntmps70
      go_wp2
      go_ret
      exact ⟨rfl, (by repeat (first | exact Drawn0.refl _ | apply Drawn0.step))⟩
    · have hv : stackV a b i j = 0 := by unfold stackV; rw [hla, if_neg (fun x => cj x.2), if_neg (fun x => absurd x.1 (by omega))]
      rw [hv]
      have b3 : decide (i < n) = true := decide_eq_true ci
      have b4 : decide (j < n) = false := decide_eq_false cj
      have b5 : decide (n ≤ i) = false := decide_eq_false (by omega)
      have b6 : decide (n ≤ j) = true := decide_eq_true (by omega)
      clear hv hra hrb hsa hsb hla hlb h2 h3
      go_enter Try.func70, Try.ntmps70
      go_wp2
      go_ret
      exact ⟨rfl, (by repeat (first | exact Drawn0.refl _ | apply Drawn0.step))⟩
  · by_cases cj : j < n
    · have hv : stackV a b i j = 0 := by unfold stackV; rw [hla, if_neg (fun x => ci x.1), if_neg (fun x => absurd x.2 (by omega))]
      rw [hv]
      have b3 : decide (i < n) = false := decide_eq_false ci
      have b4 : decide (j < n) = true := decide_eq_true cj
      have b5 : decide (n ≤ i) = true := decide_eq_true (by omega)
      have b6 : decide (n ≤ j) = false := decide_eq_false (by omega)
      clear hv hra hrb hsa hsb hla hlb h2 h3
      go_enter Try.func70, Try.ntmps70
      go_wp2
      go_ret
      exact ⟨rfl, (by repeat (first | exact Drawn0.refl _ | apply Drawn0.step))⟩
    · obtain ⟨p, rfl⟩ : ∃ p, i = n + p := ⟨i - n, by omega⟩
      obtain ⟨q, rfl⟩ : ∃ q, j = n + q := ⟨j - n, by omega⟩
      obtain ⟨bd, B0, d0, rfl, hx0, hc0, hr0⟩ := at_row hrb p (by omega)
      have hlen : (b.getD p []).length = m := getD_row hsb (by omega)
      obtain ⟨bd2, rfl, hx1⟩ := at_num hr0 q (by omega)
      rw [hlen] at hx0
      have hv : stackV a b (n + p) (n + q) = gd b p q := by
        unfold stackV
        rw [hla, if_neg (by omega), if_pos (by omega), Nat.add_sub_cancel_left, Nat.add_sub_cancel_left]
      rw [hv]
      change w.cell? _ = some (.int .i64 (gd b p q)) at hx1
      obtain ⟨v, hv⟩ : ∃ v, v = gd b p q := ⟨_, rfl⟩
      rw [← hv] at hx1 ⊢
      obtain ⟨x, hx⟩ : ∃ x : Int, x = ((n + p : Nat) : Int) := ⟨_, rfl⟩
      obtain ⟨y, hy⟩ : ∃ y : Int, y = ((n + q : Nat) : Int) := ⟨_, rfl⟩
      rw [← hx, ← hy]
      have b3 : decide (x < (n : Int)) = false := decide_eq_false (by omega)
      have b4 : decide (y < (n : Int)) = false := decide_eq_false (by omega)
      have b5 : decide ((n : Int) ≤ x) = true := decide_eq_true (by omega)
      have b6 : decide ((n : Int) ≤ y) = true := decide_eq_true (by omega)
      have e1 : IntKind.i64.wrap (x - (n : Int)) = (p : Int) := by rw [i64_w, wrapE _ (by omega) (by omega)]; omega
      have e2 : IntKind.i64.wrap (y - (n : Int)) = (q : Int) := by rw [i64_w, wrapE _ (by omega) (by omega)]; omega
      have b7 : decide (p < m) = true := decide_eq_true (by omega)
      have b8 : decide (q < m) = true := decide_eq_true (by omega)
      have b9 : (0 : Int) ≤ (p : Int) := by omega
      have b10 : (0 : Int) ≤ (q : Int) := by omega
      have b11 : p < m := by omega
      have b12 : q < m := by omega
      clear hv hra hrb hr0 hc0 hlen hsa hsb hla hlb h2 hx hy hi hj ci cj
      go_enter Try.func70, Try.ntmps70
      go_wp2
      go_quiet (fail)
      go_wp2
      go_ret
      exact ⟨rfl, (by repeat (first | exact Drawn0.refl _ | apply Drawn0.step))⟩
set_option maxHeartbeats 8000000 in
set_option maxRecDepth 100000 in
theorem impl_StackMatrices.calls (k : Nat) (A0 : Option Addr) (c0 : Nat) (l0 : List (List Int)) (A1 : Option Addr) (c1 : Nat) (l1 : List (List Int)) (r1 : List (List Int)) (r2 : Bool) (w : World) (hr0 : Kd.C (Kd.slice 3 (Kd.int .i64)) w A0 l0.length l0) (hc0 : l0.length ≤ c0) (hr1 : Kd.C (Kd.slice 3 (Kd.int .i64)) w A1 l1.length l1) (hc1 : l1.length ≤ c1) (h : impl_StackMatrices.f k l0 l1 = some (r1, r2)) :
    Calls Try.prog 35 #[.slice A0 l0.length c0, .slice A1 l1.length c1] w fun e w' => ∃ v0_ : Value, e = .returned (.tuple #[v0_, .bool r2]) ∧ Kd.S (Kd.slice 3 (Kd.int .i64)) 22 w' w.heap.size (fun _ => True) v0_ r1 ∧ Below w.heap.size w w' := by
  have HR0 := Aside0.mk hr0
  have HC0 := Aside0.mk hc0
  have HR1 := Aside0.mk hr1
  have HC1 := Aside0.mk hc1
  have HB0 := Aside0.mk (Below.refl w.heap.size w)
  obtain ⟨s, hs, h⟩ := Option.bind_eq_some_iff.mp h
  have S1 := Aside0.mk hs
  have hmf : ∀ (fn : Fn) (first cap : Array Value) (w : World), (Instr.makeFunc fn first cap).run Try.prog w = .ok (.func fn first cap) w := fun _ _ _ _ => rfl
  cases s with
  | false =>
    rw [if_neg (by decide)] at h
    simp only [Option.some.injEq, Prod.mk.injEq] at h
    obtain ⟨rfl, rfl⟩ := h
    clear hr0 hc0 hr1 hc1 hs
    go_enter Try.func35, Try.ntmps35
    go_wp2_with (go_at_call 68; (with_reducible refine (impl_IsSignMatrix.calls k _ _ l0 false _ (Kd.C_below HR0.out (by repeat (first | exact HB0.out | apply below_alloc | apply pw_below_drewN | apply below_drew1))) HC0.out S1.out).mono ?_); rintro e w5 ⟨rfl, hb⟩; have HB := Aside0.mk (below_step (by repeat (first | exact HB0.out | apply below_alloc | apply pw_below_drewN | apply below_drew1)) hb); clear hb)
    go_ret2
    exact ⟨_, rfl, Kd.S_nil _ _ _ _ _, HB.out⟩
  | true =>
    rw [if_pos rfl] at h
    obtain ⟨t, ht, h⟩ := Option.bind_eq_some_iff.mp h
    have S2 := Aside0.mk ht
    cases t with
    | false =>
      rw [if_neg (by decide)] at h
      simp only [Option.some.injEq, Prod.mk.injEq] at h
      obtain ⟨rfl, rfl⟩ := h
      clear hr0 hc0 hr1 hc1 hs ht
      go_enter Try.func35, Try.ntmps35
      go_wp2_with (first | (go_at_call 68; (with_reducible refine (impl_IsSignMatrix.calls k _ _ l0 true _ (Kd.C_below HR0.out (by repeat (first | exact HB0.out | apply below_alloc | apply pw_below_drewN | apply below_drew1))) HC0.out S1.out).mono ?_); rintro e w5 ⟨rfl, hb⟩; have hx1 := pw_cell_below hb (show World.cell? _ ⟨w.heap.size + 1, 0, none⟩ = some (.slice A1 l1.length c1) by go_simp); have HB1 := Aside0.mk (below_step (by repeat (first | exact HB0.out | apply below_alloc | apply pw_below_drewN | apply below_drew1)) hb); clear hb) | (go_at_call 68; (with_reducible refine (impl_IsSignMatrix.calls k _ _ l1 false _ (Kd.C_below HR1.out HB1.out) HC1.out S2.out).mono ?_); rintro e w6 ⟨rfl, hb⟩; have HB2 := Aside0.mk (below_step HB1.out hb); clear hb))
      go_ret2
      exact ⟨_, rfl, Kd.S_nil _ _ _ _ _, HB2.out⟩
    | true =>
      rw [if_pos rfl] at h
      by_cases hl : l0.length ≤ 1000 ∧ l1.length ≤ 1000 ∧ (∀ x ∈ l0, x.length = l0.length) ∧ (∀ x ∈ l1, x.length = l1.length)
      · rw [if_pos hl] at h
        obtain ⟨u, hu, h⟩ := Option.bind_eq_some_iff.mp h
        have S3 := Aside0.mk hu
        have hadd : (l0.length : Int) + (l1.length : Int) ≤ 2000 := by omega
        cases u with
        | false =>
          rw [if_neg (by decide)] at h
          simp only [Option.some.injEq, Prod.mk.injEq] at h
          obtain ⟨rfl, rfl⟩ := h
          clear hr0 hc0 hr1 hc1 hs ht hl hu
          go_enter Try.func35, Try.ntmps35
          go_wp2_with (first | (go_at_call 68; (with_reducible refine (impl_IsSignMatrix.calls k _ _ l0 true _ (Kd.C_below HR0.out (by repeat (first | exact HB0.out | apply below_alloc | apply pw_below_drewN | apply below_drew1))) HC0.out S1.out).mono ?_); rintro e w5 ⟨rfl, hb⟩; have hx1 := pw_cell_below hb (show World.cell? _ ⟨w.heap.size + 1, 0, none⟩ = some (.slice A1 l1.length c1) by go_simp); have hx2 := pw_cell_below hb (show World.cell? _ ⟨w.heap.size + 1 + 1, 0, none⟩ = some (.int .i64 l0.length) by go_simp); have HB1 := Aside0.mk (below_step (by repeat (first | exact HB0.out | apply below_alloc | apply pw_below_drewN | apply below_drew1)) hb); clear hb) | (go_at_call 68; (with_reducible refine (impl_IsSignMatrix.calls k _ _ l1 true _ (Kd.C_below HR1.out HB1.out) HC1.out S2.out).mono ?_); rintro e w6 ⟨rfl, hb⟩; have hy1 := pw_cell_below hb hx1; have hy2 := pw_cell_below hb hx2; have HB2 := Aside0.mk (below_step HB1.out hb); clear hb) | (go_at_call 69; (with_reducible refine (impl_isSide.calls _ false _ S3.out).mono ?_); rintro e w7 ⟨rfl, ⟨n1, rfl⟩⟩))
          go_ret2
          exact ⟨_, rfl, Kd.S_nil _ _ _ _ _, by repeat (first | exact HB2.out | apply below_alloc | apply pw_below_drewN | apply below_drew1)⟩
        | true =>
          rw [if_pos rfl] at h
          simp only [Option.some.injEq, Prod.mk.injEq] at h
          obtain ⟨rfl, rfl⟩ := h
          have HT := Aside0.mk (fun (W : World) (hb : Below w.heap.size w W) (g1 g2 g3 : Addr) (h1 : W.cell? g1 = some (.int .i64 l0.length)) (h2 : W.cell? g2 = some (.slice A0 l0.length c0)) (h3 : W.cell? g3 = some (.slice A1 l1.length c1)) =>
            table_any 70 #[.pointer (some g1), .pointer (some g2), .pointer (some g3)] (stackV l0 l1) (l0.length + l1.length) (l0.length + l1.length) (by omega) (by omega) W (enters_of Try.func70 (by kernel_rfl) rfl)
              (fun W' hb' i j hi hj => impl_StackMatrices.clo l0 l1 A0 A1 c0 c1 g1 g2 g3 W' (Kd.C_below (Kd.C_below hr0 hb) hb') (Kd.C_below (Kd.C_below hr1 hb) hb') _ _ rfl rfl hl.1 hl.2.1 hl.2.2.1 hl.2.2.2 (pw_cell_below hb' h1) (pw_cell_below hb' h2) (pw_cell_below hb' h3) i j hi hj))
          obtain ⟨T, hTT⟩ : ∃ T, T = tabOf (l0.length + l1.length) (l0.length + l1.length) (stackV l0 l1) := ⟨_, rfl⟩
          rw [← hTT] at HT ⊢
          clear hr0 hc0 hr1 hc1 hs ht hl hu hTT
          go_enter Try.func35, Try.ntmps35
          go_wp2_with (first | (go_at_call 68; (with_reducible refine (impl_IsSignMatrix.calls k _ _ l0 true _ (Kd.C_below HR0.out (by repeat (first | exact HB0.out | apply below_alloc | apply pw_below_drewN | apply below_drew1))) HC0.out S1.out).mono ?_); rintro e w5 ⟨rfl, hb⟩; have hx0 := pw_cell_below hb (show World.cell? _ ⟨w.heap.size, 0, none⟩ = some (.slice A0 l0.length c0) by go_simp); have hx1 := pw_cell_below hb (show World.cell? _ ⟨w.heap.size + 1, 0, none⟩ = some (.slice A1 l1.length c1) by go_simp); have hx2 := pw_cell_below hb (show World.cell? _ ⟨w.heap.size + 1 + 1, 0, none⟩ = some (.int .i64 l0.length) by go_simp); have HB1 := Aside0.mk (below_step (by repeat (first | exact HB0.out | apply below_alloc | apply pw_below_drewN | apply below_drew1)) hb); clear hb) | (go_at_call 68; (with_reducible refine (impl_IsSignMatrix.calls k _ _ l1 true _ (Kd.C_below HR1.out HB1.out) HC1.out S2.out).mono ?_); rintro e w6 ⟨rfl, hb⟩; have hy0 := pw_cell_below hb hx0; have hy1 := pw_cell_below hb hx1; have hy2 := pw_cell_below hb hx2; have HB2 := Aside0.mk (below_step HB1.out hb); clear hb) | (go_at_call 69; (with_reducible refine (impl_isSide.calls _ true _ S3.out).mono ?_); rintro e w7 ⟨rfl, ⟨n1, rfl⟩⟩) | (go_at_call 60; (refine (HT.out _ ?hb ⟨w.heap.size + 1 + 1, 0, none⟩ ⟨w.heap.size, 0, none⟩ ⟨w.heap.size + 1, 0, none⟩ ?h1 ?h2 ?h3).mono ?_); (case hb => (repeat (first | exact HB2.out | apply below_alloc | apply pw_below_drewN | apply below_drew1))); (case h1 => first | exact hy2 | go_simp); (case h2 => first | exact hy0 | go_simp); (case h3 => first | exact hy1 | go_simp); rintro e w' ⟨v, rfl, hS, hb⟩; have HS := Aside0.mk (Kd.S_lower hS (below_size (by repeat (first | exact HB2.out | apply below_alloc | apply pw_below_drewN | apply below_drew1)))); have HB := Aside0.mk (below_step (by repeat (first | exact HB2.out | apply below_alloc | apply pw_below_drewN | apply below_drew1)) hb); clear hS hb))
          go_ret2
          exact ⟨_, rfl, HS.out, HB.out⟩
      · rw [if_neg hl] at h
        cases h

end Go.Proofs.Ythjiajkmaimbjaa.P
