-- By gp.py (this session's own driver over the kit's print). Not trusted: Lean checks it.
import Derived.Test.YthjiajkmaimbjaaF0
import Derived.Test.YthjiajkmaimbjaaB
import Derived.Test.YthjiajkmaimbjaaPL
import Derived.Test.YthjiajkmaimbjaaFImplCountUnder
import Derived.Test.YthjiajkmaimbjaaFLaws
import Derived.Test.YthjiajkmaimbjaaFSpecCountUnder
namespace Go.Proofs.Ythjiajkmaimbjaa.P
open Go.Proofs.Ythjiajkmaimbjaa.B
open Go.RowKit Go.Proofs.YthjiajkmaimbjaaW.PrintWords Go.Proofs.YthjiajkmaimbjaaW.PrintLast Go.Proofs.YthjiajkmaimbjaaW.PrintMore
attribute [local go_sem] max2_int min2_int max_two min_two max_three min_three max_four min_four   -- for this text's walks alone
set_option linter.unusedVariables false
set_option linter.unusedSimpArgs false

/-- The law over lists alone: program and reference answer the same. -/
def laws_FnExactCountUnder.Pure : Prop := ∀ (l0 : List Int), l0.length ≤ 1048576 → (∀ x ∈ l0, (Lit.int .i64 x).wf = true) → ∃ (r1 : Int) (r2 : Bool), (∃ k, spec_CountUnder.f k l0 = some (r1, r2)) ∧ (∃ k, impl_CountUnder.f k l0 = some (r1, r2))
set_option maxHeartbeats 16000000 in
set_option maxRecDepth 100000 in
theorem laws_FnExactCountUnder.walk (P : laws_FnExactCountUnder.Pure) (A0 : Option Addr) (c0 : Nat) (l0 : List Int) (w : World) (hr0 : Kd.C (Kd.int .i64) w A0 l0.length l0) (hc0 : l0.length ≤ c0) (hn0 : l0.length ≤ 9223372036854775807) (hw0 : ∀ x ∈ l0, (Lit.int .i64 x).wf = true) :
    Calls Try.prog 5 #[.slice A0 l0.length c0] w fun e w' => e = .returned (.bool true) ∧ Below w.heap.size w w' := by
  have HB0 := Aside0.mk (Below.refl w.heap.size w)
  have HR0 := Aside0.mk hr0
  clear hr0
  by_cases hz0 : (1048576 : Int) < (l0.length : Int)
  · have hzb : decide ((1048576 : Int) < (l0.length : Int)) = true := decide_eq_true hz0
    have hzc : decide (1048576 < l0.length) = true := decide_eq_true (by omega)
    go_enter Try.func5, Try.ntmps5
    go_wp2
    go_ret
    exact ⟨rfl, HB0.out⟩
  have hzb : decide ((1048576 : Int) < (l0.length : Int)) = false := decide_eq_false hz0
  have hzc : decide (1048576 < l0.length) = false := decide_eq_false (by omega)
  have HZ0 := Aside0.mk (And.intro (show l0.length ≤ 1048576 by omega) trivial)
  clear hz0
  obtain ⟨r1, r2, ⟨ks, hs⟩, ⟨ki, hi⟩⟩ := P l0 HZ0.out.1 hw0
  have HS := Aside0.mk hs
  have HI := Aside0.mk hi
  clear hs hi
  obtain ⟨ke0, he0⟩ := (ev_eqIntS l0 l0 (by have := HZ0.out.1; omega)).rounds
  rw [decide_eq_true rfl] at he0
  have HE0 := Aside0.mk he0
  clear he0
  obtain ⟨kt0, ht0⟩ := laws_toIntS.ev l0 HZ0.out.1
  have HTO0 := Aside0.mk ht0
  clear ht0
  clear hw0
  go_enter Try.func5, Try.ntmps5
  go_wp2_with fail
  (with_reducible refine (laws_toIntS.calls kt0 _ _ l0 l0 _ (Kd.C_below HR0.out HB0.out) hc0 HTO0.out).mono ?_)
  rintro e W1 ⟨v_, rfl, hS_, hb_⟩
  have SG1 := Aside0.mk (Seg1.of_own (own_of_R hS_))
  obtain ⟨lo_o1, hlo_o1⟩ : ∃ x, x = w.heap.size := ⟨_, rfl⟩
  obtain ⟨hi_o1, hhi_o1⟩ : ∃ x, x = W1.heap.size := ⟨_, rfl⟩
  have OR1 : Aside0 (w.heap.size ≤ lo_o1) := ⟨by have h1 := HB0.out.size; omega⟩
  have OS1 : Aside0 (hi_o1 ≤ W1.heap.size) := ⟨by omega⟩
  rw [← hlo_o1, ← hhi_o1] at SG1
  clear hlo_o1 hhi_o1
  obtain ⟨A_o1, c_o1, hv_⟩ := SG1.out.slice
  subst hv_
  clear hS_
  have HB_W1 := Aside0.mk (below_then HB0.out HB0.out.size hb_)
  clear hb_
  go_wp2_with fail
  (with_reducible refine (spec_CountUnder.calls ks _ _ l0 r1 r2 _ (SG1.out.reads.2.2) (SG1.out.reads.2.1) HS.out).mono ?_)
  rintro e W2 ⟨rfl, hb_⟩
  have HB_W2 := Aside0.mk (below_then HB_W1.out HB_W1.out.size hb_)
  have t_ := Aside0.mk (SG1.out.below hb_)
  clear SG1
  have SG1 := t_
  clear t_
  have t_ := Aside0.mk (Nat.le_trans OS1.out (hb_).size)
  clear OS1
  have OS1 := t_
  clear t_
  clear HB_W1
  clear hb_
  go_wp2_with fail
  (with_reducible refine (laws_toIntS.calls kt0 _ _ l0 l0 _ (Kd.C_below HR0.out HB_W2.out) hc0 HTO0.out).mono ?_)
  rintro e W3 ⟨v_, rfl, hS_, hb_⟩
  have SG2 := Aside0.mk (Seg1.of_own (own_of_R hS_))
  obtain ⟨lo_o2, hlo_o2⟩ : ∃ x, x = W2.heap.size := ⟨_, rfl⟩
  obtain ⟨hi_o2, hhi_o2⟩ : ∃ x, x = W3.heap.size := ⟨_, rfl⟩
  have OR2 : Aside0 (w.heap.size ≤ lo_o2 ∧ hi_o1 ≤ lo_o2) := ⟨by have h1 := HB_W2.out.size; have g0 := OS1.out; omega⟩
  have OS2 : Aside0 (hi_o2 ≤ W3.heap.size) := ⟨by omega⟩
  rw [← hlo_o2, ← hhi_o2] at SG2
  clear hlo_o2 hhi_o2
  obtain ⟨A_o2, c_o2, hv_⟩ := SG2.out.slice
  subst hv_
  clear hS_
  have HB_W3 := Aside0.mk (below_then HB_W2.out HB_W2.out.size hb_)
  have t_ := Aside0.mk (SG1.out.below hb_)
  clear SG1
  have SG1 := t_
  clear t_
  have t_ := Aside0.mk (Nat.le_trans OS1.out (hb_).size)
  clear OS1
  have OS1 := t_
  clear t_
  clear HB_W2
  clear hb_
  go_wp2_with fail
  (with_reducible refine (impl_CountUnder.calls ki _ _ l0 r1 r2 _ (SG2.out.reads.2.2) (SG2.out.reads.2.1) HI.out).mono ?_)
  rintro e W4 ⟨rfl, hb_⟩
  have HB_W4 := Aside0.mk (below_then HB_W3.out HB_W3.out.size hb_)
  have t_ := Aside0.mk (SG1.out.below hb_)
  clear SG1
  have SG1 := t_
  clear t_
  have t_ := Aside0.mk (SG2.out.below hb_)
  clear SG2
  have SG2 := t_
  clear t_
  have t_ := Aside0.mk (Nat.le_trans OS1.out (hb_).size)
  clear OS1
  have OS1 := t_
  clear t_
  have t_ := Aside0.mk (Nat.le_trans OS2.out (hb_).size)
  clear OS2
  have OS2 := t_
  clear t_
  clear HB_W3
  clear hb_
  go_wp2_with fail
  (with_reducible refine (laws_toIntS.calls kt0 _ _ l0 l0 _ (Kd.C_below HR0.out HB_W4.out) hc0 HTO0.out).mono ?_)
  rintro e W5 ⟨v_, rfl, hS_, hb_⟩
  have SG3 := Aside0.mk (Seg1.of_own (own_of_R hS_))
  obtain ⟨lo_o3, hlo_o3⟩ : ∃ x, x = W4.heap.size := ⟨_, rfl⟩
  obtain ⟨hi_o3, hhi_o3⟩ : ∃ x, x = W5.heap.size := ⟨_, rfl⟩
  have OR3 : Aside0 (w.heap.size ≤ lo_o3 ∧ hi_o1 ≤ lo_o3 ∧ hi_o2 ≤ lo_o3) := ⟨by have h1 := HB_W4.out.size; have g0 := OS1.out; have g1 := OS2.out; omega⟩
  have OS3 : Aside0 (hi_o3 ≤ W5.heap.size) := ⟨by omega⟩
  rw [← hlo_o3, ← hhi_o3] at SG3
  clear hlo_o3 hhi_o3
  obtain ⟨A_o3, c_o3, hv_⟩ := SG3.out.slice
  subst hv_
  clear hS_
  have HB_W5 := Aside0.mk (below_then HB_W4.out HB_W4.out.size hb_)
  have t_ := Aside0.mk (SG1.out.below hb_)
  clear SG1
  have SG1 := t_
  clear t_
  have t_ := Aside0.mk (SG2.out.below hb_)
  clear SG2
  have SG2 := t_
  clear t_
  have t_ := Aside0.mk (Nat.le_trans OS1.out (hb_).size)
  clear OS1
  have OS1 := t_
  clear t_
  have t_ := Aside0.mk (Nat.le_trans OS2.out (hb_).size)
  clear OS2
  have OS2 := t_
  clear t_
  clear HB_W4
  clear hb_
  go_wp2_with fail
  (with_reducible refine (laws_eqIntS.calls ke0 _ _ l0 _ _ l0 true _ (SG2.out.reads.2.2) (SG2.out.reads.2.1) (SG3.out.reads.2.2) (SG3.out.reads.2.1) HE0.out).mono ?_)
  rintro e W6 ⟨rfl, hd_⟩
  have hb_ := hd_.below
  clear hd_
  have HB_W6 := Aside0.mk (below_then HB_W5.out HB_W5.out.size hb_)
  have t_ := Aside0.mk (SG1.out.below hb_)
  clear SG1
  have SG1 := t_
  clear t_
  have t_ := Aside0.mk (SG2.out.below hb_)
  clear SG2
  have SG2 := t_
  clear t_
  have t_ := Aside0.mk (SG3.out.below hb_)
  clear SG3
  have SG3 := t_
  clear t_
  have t_ := Aside0.mk (Nat.le_trans OS1.out (hb_).size)
  clear OS1
  have OS1 := t_
  clear t_
  have t_ := Aside0.mk (Nat.le_trans OS2.out (hb_).size)
  clear OS2
  have OS2 := t_
  clear t_
  have t_ := Aside0.mk (Nat.le_trans OS3.out (hb_).size)
  clear OS3
  have OS3 := t_
  clear t_
  clear HB_W5
  clear hb_
  go_wp2
  go_ret
  exact ⟨rfl, HB_W6.out⟩
end Go.Proofs.Ythjiajkmaimbjaa.P
