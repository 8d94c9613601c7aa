-- By gp.py (this session's own driver over the kit's print). Not trusted: Lean checks it.
import Derived.Test.YtanikglfkhheaaaF0
import Derived.Test.YtanikglfkhheaaaB
import Derived.Test.YtanikglfkhheaaaTab
import Derived.Test.YtanikglfkhheaaaFImplCorn
import Derived.Test.YtanikglfkhheaaaFImplGood
namespace Go.Proofs.Ytanikglfkhheaaa.P
open Go.Proofs.Ytanikglfkhheaaa.B
open Go.RowKit Go.Proofs.YtanikglfkhheaaaW.PrintWords Go.Proofs.YtanikglfkhheaaaW.PrintLast Go.Proofs.YtanikglfkhheaaaW.PrintMore
attribute [local go_sem] max2_int min2_int max_two min_two max_three min_three max_four min_four   -- for this text's walks alone
set_option linter.unusedVariables false
set_option linter.unusedSimpArgs false

/-! ### impl_CornerSums: function 39 (given) -/
def impl_CornerSums.f (k : Nat) (l0 : List (List Int)) : Option (List (List Int) × Bool) := (impl_IsSignMatrix.f k l0).bind fun t => if t = true then (if l0.length ≤ 1048576 then (tabR l0.length l0.length fun i j => impl_cornerSum.f k l0 ((i : Int) + 1) ((j : Int) + 1)).bind fun r => some (r, true) else none) else some (([] : List (List Int)), false)
theorem impl_CornerSums.mono : ∀ a0 k, LeO (impl_CornerSums.f k a0) (impl_CornerSums.f (k + 1) a0) := by
  intro a0 k
  unfold impl_CornerSums.f
  exact LeO.bind (impl_IsSignMatrix.mono _ _) (fun _ => LeO.ite (LeO.ite (LeO.bind (tabR_mono (fun i j => impl_cornerSum.mono _ _ _ _)) (fun _ => LeO.refl _)) (LeO.refl _)) (LeO.refl _))
set_option maxHeartbeats 8000000 in
set_option maxRecDepth 100000 in
theorem impl_CornerSums.clo (k : Nat) (l : List (List Int)) (A : Option Addr) (c : Nat) (g1 : Addr) (w : World) (hr : Kd.C (Kd.slice 3 (Kd.int .i64)) w A l.length l) (hc : l.length ≤ c) (h1 : w.cell? g1 = some (.slice A l.length c)) (i j : Nat) (hi : i < 1048576) (hj : j < 1048576) (v : Int) (hv : impl_cornerSum.f k l ((i : Int) + 1) ((j : Int) + 1) = some v) :
    Calls Try.prog 67 (#[.int .i64 (i : Int), .int .i64 (j : Int)] ++ #[.pointer (some g1)]) w fun e w' => e = .returned (.int .i64 v) ∧ Drawn0 w w' := by
  have HR0 := Aside0.mk hr
  have HC0 := Aside0.mk hc
  have HV := Aside0.mk hv
  clear hr hc hv
  go_enter Try.func67, Try.ntmps67
  go_wp2_with (go_at_call 68; (with_reducible refine (impl_cornerSum.calls k _ _ l _ _ v _ HR0.out HC0.out HV.out).mono ?_); rintro e w5 ⟨rfl, ⟨n1, rfl⟩⟩)
  go_ret
  exact ⟨rfl, (by repeat (first | exact Drawn0.refl _ | apply Drawn0.step))⟩
set_option maxHeartbeats 8000000 in
set_option maxRecDepth 100000 in
theorem impl_CornerSums.calls (k : Nat) (A0 : Option Addr) (c0 : Nat) (l0 : List (List Int)) (r1 : List (List Int)) (r2 : Bool) (w : World) (hr0 : Kd.C (Kd.slice 3 (Kd.int .i64)) w A0 l0.length l0) (hc0 : l0.length ≤ c0) (h : impl_CornerSums.f k l0 = some (r1, r2)) :
    Calls Try.prog 39 #[.slice A0 l0.length c0] w fun e w' => ∃ v0_ : Value, e = .returned (.tuple #[v0_, .bool r2]) ∧ Kd.S (Kd.slice 3 (Kd.int .i64)) 34 w' w.heap.size (fun _ => True) v0_ r1 ∧ Below w.heap.size w w' := by
  have HR0 := Aside0.mk hr0
  have HC0 := Aside0.mk hc0
  have HB0 := Aside0.mk (Below.refl w.heap.size w)
  obtain ⟨b, hb, h⟩ := Option.bind_eq_some_iff.mp h
  have HH := Aside0.mk hb
  cases b with
  | false =>
    rw [if_neg (by decide)] at h
    simp only [Option.some.injEq, Prod.mk.injEq] at h
    obtain ⟨rfl, rfl⟩ := h
    clear hr0 hc0 hb
    go_enter Try.func39, Try.ntmps39
    go_wp2_with (go_at_call 18; (with_reducible refine (impl_IsSignMatrix.calls k _ _ l0 false _ (Kd.C_alloc HR0.out _) HC0.out HH.out).mono ?_); rintro e w5 ⟨rfl, hb⟩; have HB := Aside0.mk (below_step (by repeat (first | exact HB0.out | apply below_alloc | apply pw_below_drewN | apply below_drew1)) hb); clear hb)
    go_ret2
    exact ⟨_, rfl, Kd.S_nil _ _ _ _ _, HB.out⟩
  | true =>
    rw [if_pos rfl] at h
    by_cases hl : l0.length ≤ 1048576
    · rw [if_pos hl] at h
      obtain ⟨r, hr, h⟩ := Option.bind_eq_some_iff.mp h
      simp only [Option.some.injEq, Prod.mk.injEq] at h
      obtain ⟨rfl, rfl⟩ := h
      obtain ⟨f, hf, rfl⟩ := tabR_some hr
      have HT := Aside0.mk (fun (W : World) (hb : Below w.heap.size w W) (g1 : Addr) (h1 : W.cell? g1 = some (.slice A0 l0.length c0)) =>
        table_any 67 #[.pointer (some g1)] f l0.length l0.length hl hl W (enters_of Try.func67 (by kernel_rfl) rfl)
          (fun W' hb' i j hi hj => impl_CornerSums.clo k l0 A0 c0 g1 W' (Kd.C_below (Kd.C_below hr0 hb) hb') hc0 (pw_cell_below hb' h1) i j (by omega) (by omega) (f i j) (hf i hi j hj)))
      clear hl hr hf hr0 hc0 hb
      have hmf : ∀ (fn : Fn) (first cap : Array Value) (w : World), (Instr.makeFunc fn first cap).run Try.prog w = .ok (.func fn first cap) w := fun _ _ _ _ => rfl
      go_enter Try.func39, Try.ntmps39
      go_wp2_with (first | (go_at_call 18; (with_reducible refine (impl_IsSignMatrix.calls k _ _ l0 true _ (Kd.C_alloc HR0.out _) HC0.out HH.out).mono ?_); rintro e w5 ⟨rfl, hb⟩; have HX := Aside0.mk (fun {g : Addr} {v : Value} => pw_cell_below (a := g) (v := v) hb); have hx5 := pw_cell_below hb (show World.cell? _ ⟨w.heap.size, 0, none⟩ = some (.slice A0 l0.length c0) by go_simp); have HB1 := Aside0.mk (below_step (by repeat (first | exact HB0.out | apply below_alloc | apply pw_below_drewN | apply below_drew1)) hb); clear hb) | (go_at_call 66; (with_reducible refine (HT.out _ ?hb _ ?h1).mono ?_); (case hb => exact HB1.out); (case h1 => exact hx5); rintro e w' ⟨v, rfl, hS, hb⟩; have HS := Aside0.mk (Kd.S_lower hS (below_size HB1.out)); have HB := Aside0.mk (below_step HB1.out hb); clear hS hb))
      go_ret2
      exact ⟨_, rfl, HS.out, HB.out⟩
    · rw [if_neg hl] at h
      cases h

end Go.Proofs.Ytanikglfkhheaaa.P
