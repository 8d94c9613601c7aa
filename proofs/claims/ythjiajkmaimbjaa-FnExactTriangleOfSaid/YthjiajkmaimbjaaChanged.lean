/- impl.changed for any function that makes a table of a sign matrix. -/
import Derived.Test.YthjiajkmaimbjaaFImplGood
import Derived.Test.YthjiajkmaimbjaaTab
namespace Go.Proofs.Ythjiajkmaimbjaa.P
open Go.Proofs.Ythjiajkmaimbjaa.B
open Go.RowKit Go.Proofs.YthjiajkmaimbjaaW.PrintWords Go.Proofs.YthjiajkmaimbjaaW.PrintLast Go.Proofs.YthjiajkmaimbjaaW.PrintMore
set_option linter.unusedVariables false
set_option linter.unusedSimpArgs false
set_option maxHeartbeats 8000000 in
set_option maxRecDepth 100000 in
theorem changed_any (F : Nat) (hE : Enters Try.prog F) (k : Nat) (A0 : Option Addr) (c0 : Nat) (l0 : List (List Int)) (b : Bool) (r : List (List Int)) (w : World) (hr0 : Kd.C (Kd.slice 3 (Kd.int .i64)) w A0 l0.length l0) (hc0 : l0.length ≤ c0) (h : impl_IsSignMatrix.f k l0 = some b)
    (hF : b = true → ∀ W, Below w.heap.size w W → Calls Try.prog F #[.slice A0 l0.length c0] W fun e w' => ∃ v0_ : Value, e = .returned (v0_) ∧ Kd.S (Kd.slice 3 (Kd.int .i64)) 22 w' W.heap.size (fun _ => True) v0_ r ∧ Below W.heap.size W w') :
    Calls Try.prog 66 #[.slice A0 l0.length c0, .func (.func F) #[] #[]] w fun e w' => ∃ v0_ : Value, e = .returned (.tuple #[v0_, .bool b]) ∧ Kd.S (Kd.slice 3 (Kd.int .i64)) 22 w' w.heap.size (fun _ => True) v0_ (if b = true then r else []) ∧ Below w.heap.size w w' := by
  have HR0 := Aside0.mk hr0
  have HC0 := Aside0.mk hc0
  have HH := Aside0.mk h
  have HB0 := Aside0.mk (Below.refl w.heap.size w)
  clear hr0 hc0 h
  have hE1 := hE
  unfold Enters at hE1
  cases b with
  | false =>
    clear hF
    go_enter Try.func66, Try.ntmps66
    go_wp2_with (go_at_call 68; (with_reducible refine (impl_IsSignMatrix.calls k _ _ l0 false _ HR0.out HC0.out HH.out).mono ?_); rintro e w5 ⟨rfl, hb⟩; have HB := Aside0.mk (below_step (by repeat (first | exact HB0.out | apply below_alloc | apply pw_below_drewN | apply below_drew1)) hb); clear hb)
    go_ret2
    exact ⟨_, rfl, Kd.S_nil _ _ _ _ _, HB.out⟩
  | true =>
    have HF := Aside0.mk (hF rfl)
    clear hF
    go_enter Try.func66, Try.ntmps66
    go_wp2_with (first | (go_at_call 68; (with_reducible refine (impl_IsSignMatrix.calls k _ _ l0 true _ HR0.out HC0.out HH.out).mono ?_); rintro e w5 ⟨rfl, hb⟩; have HB1 := Aside0.mk (below_step (by repeat (first | exact HB0.out | apply below_alloc | apply pw_below_drewN | apply below_drew1)) hb); clear hb) | (go_at_fn F; (with_reducible refine (HF.out _ HB1.out).mono ?_); rintro e w' ⟨v, rfl, hS, hb⟩; have HS := Aside0.mk (Kd.S_lower hS (below_size HB1.out)); have HB := Aside0.mk (below_step HB1.out hb); clear hS hb))
    go_ret2
    exact ⟨_, rfl, HS.out, HB.out⟩
end Go.Proofs.Ythjiajkmaimbjaa.P
