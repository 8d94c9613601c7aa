-- By gp.py (this session's own driver over the kit's print). Not trusted: Lean checks it.
import Derived.Test.YthjiajkmaimbjaaF0
import Derived.Test.YthjiajkmaimbjaaB
import Derived.Test.YthjiajkmaimbjaaPL
import Derived.Test.YthjiajkmaimbjaaFImplFromPlacing
import Derived.Test.YthjiajkmaimbjaaFLaws
import Derived.Test.YthjiajkmaimbjaaFSpecFromPlacing
namespace Go.Proofs.Ythjiajkmaimbjaa.P
open Go.Proofs.Ythjiajkmaimbjaa.B
open Go.RowKit Go.Proofs.YthjiajkmaimbjaaW.PrintWords Go.Proofs.YthjiajkmaimbjaaW.PrintLast Go.Proofs.YthjiajkmaimbjaaW.PrintMore
attribute [local go_sem] max2_int min2_int max_two min_two max_three min_three max_four min_four   -- for this text's walks alone
set_option linter.unusedVariables false
set_option linter.unusedSimpArgs false

/-- The law over lists alone: program and reference answer the same. -/
def laws_FnExactFromPlacing.Pure : Prop := ∀ (l0 : List Int), l0.length ≤ 1048576 → (∀ x ∈ l0, (Lit.int .i64 x).wf = true) → ∃ (r1 : List (List Int)) (r2 : Bool), (∃ k, spec_FromPlacing.f k l0 = some (r1, r2)) ∧ (∃ k, impl_FromPlacing.f k l0 = some (r1, r2)) ∧ total r1 ≤ 1048576 ∧ r1.length ≤ 1048576
set_option maxHeartbeats 16000000 in
set_option maxRecDepth 100000 in
theorem laws_FnExactFromPlacing.walk (P : laws_FnExactFromPlacing.Pure) (A0 : Option Addr) (c0 : Nat) (l0 : List Int) (w : World) (hr0 : Kd.C (Kd.int .i64) w A0 l0.length l0) (hc0 : l0.length ≤ c0) (hn0 : l0.length ≤ 9223372036854775807) (hw0 : ∀ x ∈ l0, (Lit.int .i64 x).wf = true) :
    Calls Try.prog 12 #[.slice A0 l0.length c0] w fun e w' => e = .returned (.bool true) ∧ Below w.heap.size w w' := by
  have HB0 := Aside0.mk (Below.refl w.heap.size w)
  have HR0 := Aside0.mk hr0
  clear hr0
  by_cases hz0 : (1048576 : Int) < (l0.length : Int)
  · have hzb : decide ((1048576 : Int) < (l0.length : Int)) = true := decide_eq_true hz0
    have hzc : decide (1048576 < l0.length) = true := decide_eq_true (by omega)
    go_enter Try.func12, Try.ntmps12
    go_wp2
    go_ret
    exact ⟨rfl, HB0.out⟩
  have hzb : decide ((1048576 : Int) < (l0.length : Int)) = false := decide_eq_false hz0
  have hzc : decide (1048576 < l0.length) = false := decide_eq_false (by omega)
  have HZ0 := Aside0.mk (And.intro (show l0.length ≤ 1048576 by omega) trivial)
  clear hz0
  obtain ⟨r1, r2, ⟨ks, hs⟩, ⟨ki, hi⟩, ⟨hbt0, hbl0⟩⟩ := P l0 HZ0.out.1 hw0
  have HS := Aside0.mk hs
  have HI := Aside0.mk hi
  clear hs hi
  obtain ⟨kq0, hq0⟩ := (ev_eqIntSS r1 r1 (by omega) (fun x hx => by have := row_le_total r1 x hx; omega)).rounds
  rw [decide_eq_true rfl] at hq0
  obtain ⟨kh0, hh0⟩ := (ev_heldIntSS r1 1 (by omega) (by omega) hbt0 (by omega)).rounds
  have HQ0 := Aside0.mk hq0
  have HH0 := Aside0.mk hh0
  clear hq0 hh0
  obtain ⟨ke0, he0⟩ := (ev_eqIntS l0 l0 (by have := HZ0.out.1; omega)).rounds
  rw [decide_eq_true rfl] at he0
  have HE0 := Aside0.mk he0
  clear he0
  obtain ⟨kt0, ht0⟩ := laws_toIntS.ev l0 HZ0.out.1
  have HTO0 := Aside0.mk ht0
  clear ht0
  clear hw0
  go_enter Try.func12, Try.ntmps12
  go_wp2_with fail
  (with_reducible refine (laws_toIntS.calls kt0 _ _ l0 l0 _ (Kd.C_below HR0.out HB0.out) hc0 HTO0.out).mono ?_)
  rintro e W1 ⟨v_, rfl, hS_, hb_⟩
  have SG1 := Aside0.mk (Seg1.of_own (own_of_R hS_))
  obtain ⟨lo_o1, hlo_o1⟩ : ∃ x, x = w.heap.size := ⟨_, rfl⟩
  obtain ⟨hi_o1, hhi_o1⟩ : ∃ x, x = W1.heap.size := ⟨_, rfl⟩
  have OR1 : Aside0 (w.heap.size ≤ lo_o1) := ⟨by have h1 := HB0.out.size; omega⟩
  have OS1 : Aside0 (hi_o1 ≤ W1.heap.size) := ⟨by omega⟩
  rw [← hlo_o1, ← hhi_o1] at SG1
  clear hlo_o1 hhi_o1
  obtain ⟨A_o1, c_o1, hv_⟩ := SG1.out.slice
  subst hv_
  clear hS_
  have HB_W1 := Aside0.mk (below_then HB0.out HB0.out.size hb_)
  clear hb_
  go_wp2_with fail
  (with_reducible refine (spec_FromPlacing.calls ks _ _ l0 r1 r2 _ (SG1.out.reads.2.2) (SG1.out.reads.2.1) HS.out).mono ?_)
  rintro e W2 ⟨v0_, rfl, hS0_, hb_⟩
  have SG2 := Aside0.mk (Seg.of_S hS0_)
  obtain ⟨lo_o2, hlo_o2⟩ : ∃ x, x = W1.heap.size := ⟨_, rfl⟩
  obtain ⟨hi_o2, hhi_o2⟩ : ∃ x, x = W2.heap.size := ⟨_, rfl⟩
  have OR2 : Aside0 (w.heap.size ≤ lo_o2 ∧ hi_o1 ≤ lo_o2) := ⟨by have h1 := HB_W1.out.size; have g0 := OS1.out; omega⟩
  have OS2 : Aside0 (hi_o2 ≤ W2.heap.size) := ⟨by omega⟩
  rw [← hlo_o2, ← hhi_o2] at SG2
  clear hlo_o2 hhi_o2
  obtain ⟨A_o2, c_o2, hv_⟩ := SG2.out.slice
  subst hv_
  clear hS0_
  have HB_W2 := Aside0.mk (below_then HB_W1.out HB_W1.out.size hb_)
  have t_ := Aside0.mk (SG1.out.below hb_)
  clear SG1
  have SG1 := t_
  clear t_
  have t_ := Aside0.mk (Nat.le_trans OS1.out (hb_).size)
  clear OS1
  have OS1 := t_
  clear t_
  clear HB_W1
  clear hb_
  go_wp2_with fail
  (with_reducible refine (laws_toIntS.calls kt0 _ _ l0 l0 _ (Kd.C_below HR0.out HB_W2.out) hc0 HTO0.out).mono ?_)
  rintro e W3 ⟨v_, rfl, hS_, hb_⟩
  have SG3 := Aside0.mk (Seg1.of_own (own_of_R hS_))
  obtain ⟨lo_o3, hlo_o3⟩ : ∃ x, x = W2.heap.size := ⟨_, rfl⟩
  obtain ⟨hi_o3, hhi_o3⟩ : ∃ x, x = W3.heap.size := ⟨_, rfl⟩
  have OR3 : Aside0 (w.heap.size ≤ lo_o3 ∧ hi_o1 ≤ lo_o3 ∧ hi_o2 ≤ lo_o3) := ⟨by have h1 := HB_W2.out.size; have g0 := OS1.out; have g1 := OS2.out; omega⟩
  have OS3 : Aside0 (hi_o3 ≤ W3.heap.size) := ⟨by omega⟩
  rw [← hlo_o3, ← hhi_o3] at SG3
  clear hlo_o3 hhi_o3
  obtain ⟨A_o3, c_o3, hv_⟩ := SG3.out.slice
  subst hv_
  clear hS_
  have HB_W3 := Aside0.mk (below_then HB_W2.out HB_W2.out.size hb_)
  have t_ := Aside0.mk (SG1.out.below hb_)
  clear SG1
  have SG1 := t_
  clear t_
  have t_ := Aside0.mk (SG2.out.below hb_)
  clear SG2
  have SG2 := t_
  clear t_
  have t_ := Aside0.mk (Nat.le_trans OS1.out (hb_).size)
  clear OS1
  have OS1 := t_
  clear t_
  have t_ := Aside0.mk (Nat.le_trans OS2.out (hb_).size)
  clear OS2
  have OS2 := t_
  clear t_
  clear HB_W2
  clear hb_
  go_wp2_with fail
  (with_reducible refine (impl_FromPlacing.calls ki _ _ l0 r1 r2 _ (SG3.out.reads.2.2) (SG3.out.reads.2.1) HI.out).mono ?_)
  rintro e W4 ⟨v0_, rfl, hS0_, hb_⟩
  have SG4 := Aside0.mk (Seg.of_S hS0_)
  obtain ⟨lo_o4, hlo_o4⟩ : ∃ x, x = W3.heap.size := ⟨_, rfl⟩
  obtain ⟨hi_o4, hhi_o4⟩ : ∃ x, x = W4.heap.size := ⟨_, rfl⟩
  have OR4 : Aside0 (w.heap.size ≤ lo_o4 ∧ hi_o1 ≤ lo_o4 ∧ hi_o2 ≤ lo_o4 ∧ hi_o3 ≤ lo_o4) := ⟨by have h1 := HB_W3.out.size; have g0 := OS1.out; have g1 := OS2.out; have g2 := OS3.out; omega⟩
  have OS4 : Aside0 (hi_o4 ≤ W4.heap.size) := ⟨by omega⟩
  rw [← hlo_o4, ← hhi_o4] at SG4
  clear hlo_o4 hhi_o4
  obtain ⟨A_o4, c_o4, hv_⟩ := SG4.out.slice
  subst hv_
  clear hS0_
  have HB_W4 := Aside0.mk (below_then HB_W3.out HB_W3.out.size hb_)
  have t_ := Aside0.mk (SG1.out.below hb_)
  clear SG1
  have SG1 := t_
  clear t_
  have t_ := Aside0.mk (SG2.out.below hb_)
  clear SG2
  have SG2 := t_
  clear t_
  have t_ := Aside0.mk (SG3.out.below hb_)
  clear SG3
  have SG3 := t_
  clear t_
  have t_ := Aside0.mk (Nat.le_trans OS1.out (hb_).size)
  clear OS1
  have OS1 := t_
  clear t_
  have t_ := Aside0.mk (Nat.le_trans OS2.out (hb_).size)
  clear OS2
  have OS2 := t_
  clear t_
  have t_ := Aside0.mk (Nat.le_trans OS3.out (hb_).size)
  clear OS3
  have OS3 := t_
  clear t_
  clear HB_W3
  clear hb_
  go_wp2_with fail
  (with_reducible refine (laws_eqIntSS.calls kq0 _ _ r1 _ _ r1 true _ (SG4.out.reads.2.2) (SG4.out.reads.2.1) (SG2.out.reads.2.2) (SG2.out.reads.2.1) HQ0.out).mono ?_)
  rintro e W5 ⟨rfl, hd_⟩
  have hb_ := hd_.below
  clear hd_
  have HB_W5 := Aside0.mk (below_then HB_W4.out HB_W4.out.size hb_)
  have t_ := Aside0.mk (SG1.out.below hb_)
  clear SG1
  have SG1 := t_
  clear t_
  have t_ := Aside0.mk (SG2.out.below hb_)
  clear SG2
  have SG2 := t_
  clear t_
  have t_ := Aside0.mk (SG3.out.below hb_)
  clear SG3
  have SG3 := t_
  clear t_
  have t_ := Aside0.mk (SG4.out.below hb_)
  clear SG4
  have SG4 := t_
  clear t_
  have t_ := Aside0.mk (Nat.le_trans OS1.out (hb_).size)
  clear OS1
  have OS1 := t_
  clear t_
  have t_ := Aside0.mk (Nat.le_trans OS2.out (hb_).size)
  clear OS2
  have OS2 := t_
  clear t_
  have t_ := Aside0.mk (Nat.le_trans OS3.out (hb_).size)
  clear OS3
  have OS3 := t_
  clear t_
  have t_ := Aside0.mk (Nat.le_trans OS4.out (hb_).size)
  clear OS4
  have OS4 := t_
  clear t_
  clear HB_W4
  clear hb_
  go_wp2_with fail
  (with_reducible refine (laws_toIntS.calls kt0 _ _ l0 l0 _ (Kd.C_below HR0.out HB_W5.out) hc0 HTO0.out).mono ?_)
  rintro e W6 ⟨v_, rfl, hS_, hb_⟩
  have SG5 := Aside0.mk (Seg1.of_own (own_of_R hS_))
  obtain ⟨lo_o5, hlo_o5⟩ : ∃ x, x = W5.heap.size := ⟨_, rfl⟩
  obtain ⟨hi_o5, hhi_o5⟩ : ∃ x, x = W6.heap.size := ⟨_, rfl⟩
  have OR5 : Aside0 (w.heap.size ≤ lo_o5 ∧ hi_o1 ≤ lo_o5 ∧ hi_o2 ≤ lo_o5 ∧ hi_o3 ≤ lo_o5 ∧ hi_o4 ≤ lo_o5) := ⟨by have h1 := HB_W5.out.size; have g0 := OS1.out; have g1 := OS2.out; have g2 := OS3.out; have g3 := OS4.out; omega⟩
  have OS5 : Aside0 (hi_o5 ≤ W6.heap.size) := ⟨by omega⟩
  rw [← hlo_o5, ← hhi_o5] at SG5
  clear hlo_o5 hhi_o5
  obtain ⟨A_o5, c_o5, hv_⟩ := SG5.out.slice
  subst hv_
  clear hS_
  have HB_W6 := Aside0.mk (below_then HB_W5.out HB_W5.out.size hb_)
  have t_ := Aside0.mk (SG1.out.below hb_)
  clear SG1
  have SG1 := t_
  clear t_
  have t_ := Aside0.mk (SG2.out.below hb_)
  clear SG2
  have SG2 := t_
  clear t_
  have t_ := Aside0.mk (SG3.out.below hb_)
  clear SG3
  have SG3 := t_
  clear t_
  have t_ := Aside0.mk (SG4.out.below hb_)
  clear SG4
  have SG4 := t_
  clear t_
  have t_ := Aside0.mk (Nat.le_trans OS1.out (hb_).size)
  clear OS1
  have OS1 := t_
  clear t_
  have t_ := Aside0.mk (Nat.le_trans OS2.out (hb_).size)
  clear OS2
  have OS2 := t_
  clear t_
  have t_ := Aside0.mk (Nat.le_trans OS3.out (hb_).size)
  clear OS3
  have OS3 := t_
  clear t_
  have t_ := Aside0.mk (Nat.le_trans OS4.out (hb_).size)
  clear OS4
  have OS4 := t_
  clear t_
  clear HB_W5
  clear hb_
  go_wp2_with fail
  (with_reducible refine (laws_eqIntS.calls ke0 _ _ l0 _ _ l0 true _ (SG3.out.reads.2.2) (SG3.out.reads.2.1) (SG5.out.reads.2.2) (SG5.out.reads.2.1) HE0.out).mono ?_)
  rintro e W7 ⟨rfl, hd_⟩
  have hb_ := hd_.below
  clear hd_
  have HB_W7 := Aside0.mk (below_then HB_W6.out HB_W6.out.size hb_)
  have t_ := Aside0.mk (SG1.out.below hb_)
  clear SG1
  have SG1 := t_
  clear t_
  have t_ := Aside0.mk (SG2.out.below hb_)
  clear SG2
  have SG2 := t_
  clear t_
  have t_ := Aside0.mk (SG3.out.below hb_)
  clear SG3
  have SG3 := t_
  clear t_
  have t_ := Aside0.mk (SG4.out.below hb_)
  clear SG4
  have SG4 := t_
  clear t_
  have t_ := Aside0.mk (SG5.out.below hb_)
  clear SG5
  have SG5 := t_
  clear t_
  have t_ := Aside0.mk (Nat.le_trans OS1.out (hb_).size)
  clear OS1
  have OS1 := t_
  clear t_
  have t_ := Aside0.mk (Nat.le_trans OS2.out (hb_).size)
  clear OS2
  have OS2 := t_
  clear t_
  have t_ := Aside0.mk (Nat.le_trans OS3.out (hb_).size)
  clear OS3
  have OS3 := t_
  clear t_
  have t_ := Aside0.mk (Nat.le_trans OS4.out (hb_).size)
  clear OS4
  have OS4 := t_
  clear t_
  have t_ := Aside0.mk (Nat.le_trans OS5.out (hb_).size)
  clear OS5
  have OS5 := t_
  clear t_
  clear HB_W6
  clear hb_
  go_wp2_with fail
  (with_reducible refine (markS_any lo_o3 _ l0 (1) _ SG3.out.own (by omega) (by have := HZ0.out; omega) HZ0.out.1).mono ?_)
  rintro e W8 ⟨rfl, hO_, hG_⟩
  have hSM_ := SG3.out.mark (upFrom_length _ _) hO_ hG_
  obtain ⟨hS_, hb_⟩ := hSM_
  clear hO_ hG_
  have HB_W8 := Aside0.mk (Moved.below hb_ HB_W7.out HB_W7.out.size (by have h1 := OR3.out; omega))
  have t_ := Aside0.mk (SG1.out.move hb_ (by have h1 := OR1.out; have h2 := OR3.out; omega))
  clear SG1
  have SG1 := t_
  clear t_
  have t_ := Aside0.mk (SG2.out.move hb_ (by have h1 := OR2.out; have h2 := OR3.out; omega))
  clear SG2
  have SG2 := t_
  clear t_
  have t_ := Aside0.mk (SG4.out.move hb_ (by have h1 := OR4.out; have h2 := OR3.out; omega))
  clear SG4
  have SG4 := t_
  clear t_
  have t_ := Aside0.mk (SG5.out.move hb_ (by have h1 := OR5.out; have h2 := OR3.out; omega))
  clear SG5
  have SG5 := t_
  clear t_
  have t_ := Aside0.mk (Nat.le_trans OS1.out (hb_).size)
  clear OS1
  have OS1 := t_
  clear t_
  have t_ := Aside0.mk (Nat.le_trans OS2.out (hb_).size)
  clear OS2
  have OS2 := t_
  clear t_
  have t_ := Aside0.mk (Nat.le_trans OS3.out (hb_).size)
  clear OS3
  have OS3 := t_
  clear t_
  have t_ := Aside0.mk (Nat.le_trans OS4.out (hb_).size)
  clear OS4
  have OS4 := t_
  clear t_
  have t_ := Aside0.mk (Nat.le_trans OS5.out (hb_).size)
  clear OS5
  have OS5 := t_
  clear t_
  clear HB_W7
  clear SG3
  have SG3 := Aside0.mk hS_
  clear hS_ hb_
  go_wp2_with fail
  (with_reducible refine (laws_eqIntSS.calls kq0 _ _ r1 _ _ r1 true _ (SG4.out.reads.2.2) (SG4.out.reads.2.1) (SG2.out.reads.2.2) (SG2.out.reads.2.1) HQ0.out).mono ?_)
  rintro e W9 ⟨rfl, hd_⟩
  have hb_ := hd_.below
  clear hd_
  have HB_W9 := Aside0.mk (below_then HB_W8.out HB_W8.out.size hb_)
  have t_ := Aside0.mk (SG1.out.below hb_)
  clear SG1
  have SG1 := t_
  clear t_
  have t_ := Aside0.mk (SG2.out.below hb_)
  clear SG2
  have SG2 := t_
  clear t_
  have t_ := Aside0.mk (SG3.out.below hb_)
  clear SG3
  have SG3 := t_
  clear t_
  have t_ := Aside0.mk (SG4.out.below hb_)
  clear SG4
  have SG4 := t_
  clear t_
  have t_ := Aside0.mk (SG5.out.below hb_)
  clear SG5
  have SG5 := t_
  clear t_
  have t_ := Aside0.mk (Nat.le_trans OS1.out (hb_).size)
  clear OS1
  have OS1 := t_
  clear t_
  have t_ := Aside0.mk (Nat.le_trans OS2.out (hb_).size)
  clear OS2
  have OS2 := t_
  clear t_
  have t_ := Aside0.mk (Nat.le_trans OS3.out (hb_).size)
  clear OS3
  have OS3 := t_
  clear t_
  have t_ := Aside0.mk (Nat.le_trans OS4.out (hb_).size)
  clear OS4
  have OS4 := t_
  clear t_
  have t_ := Aside0.mk (Nat.le_trans OS5.out (hb_).size)
  clear OS5
  have OS5 := t_
  clear t_
  clear HB_W8
  clear hb_
  go_wp2_with fail
  (with_reducible refine (markSS_any lo_o4 hi_o4 _ r1 (1) _ SG4.out (by omega) (by have := HZ0.out; have := hbt0; omega) hbt0).mono ?_)
  rintro e W10 ⟨rfl, hS_, hb_⟩
  have HB_W10 := Aside0.mk (Moved.below hb_ HB_W9.out HB_W9.out.size (by have h1 := OR4.out; omega))
  have t_ := Aside0.mk (SG1.out.move hb_ (by have h1 := OR1.out; have h2 := OR4.out; omega))
  clear SG1
  have SG1 := t_
  clear t_
  have t_ := Aside0.mk (SG2.out.move hb_ (by have h1 := OR2.out; have h2 := OR4.out; omega))
  clear SG2
  have SG2 := t_
  clear t_
  have t_ := Aside0.mk (SG3.out.move hb_ (by have h1 := OR3.out; have h2 := OR4.out; omega))
  clear SG3
  have SG3 := t_
  clear t_
  have t_ := Aside0.mk (SG5.out.move hb_ (by have h1 := OR5.out; have h2 := OR4.out; omega))
  clear SG5
  have SG5 := t_
  clear t_
  have t_ := Aside0.mk (Nat.le_trans OS1.out (hb_).size)
  clear OS1
  have OS1 := t_
  clear t_
  have t_ := Aside0.mk (Nat.le_trans OS2.out (hb_).size)
  clear OS2
  have OS2 := t_
  clear t_
  have t_ := Aside0.mk (Nat.le_trans OS3.out (hb_).size)
  clear OS3
  have OS3 := t_
  clear t_
  have t_ := Aside0.mk (Nat.le_trans OS4.out (hb_).size)
  clear OS4
  have OS4 := t_
  clear t_
  have t_ := Aside0.mk (Nat.le_trans OS5.out (hb_).size)
  clear OS5
  have OS5 := t_
  clear t_
  clear HB_W9
  clear SG4
  have SG4 := Aside0.mk hS_
  clear hS_ hb_
  go_wp2_with fail
  have hc_ := laws_heldIntSS.calls kh0 A_o4 c_o4 (marked r1 (1)) 1 (1 + (total r1 : Int)) W10 (SG4.out.reads.2.2) (by rw [marked_length]; exact (SG4.out.reads.2.1)) HH0.out
  rw [marked_length] at hc_
  (with_reducible refine hc_.mono ?_)
  clear hc_
  rintro e W11 ⟨rfl, hd_⟩
  have hb_ := hd_.below
  clear hd_
  have HB_W11 := Aside0.mk (below_then HB_W10.out HB_W10.out.size hb_)
  have t_ := Aside0.mk (SG1.out.below hb_)
  clear SG1
  have SG1 := t_
  clear t_
  have t_ := Aside0.mk (SG2.out.below hb_)
  clear SG2
  have SG2 := t_
  clear t_
  have t_ := Aside0.mk (SG3.out.below hb_)
  clear SG3
  have SG3 := t_
  clear t_
  have t_ := Aside0.mk (SG4.out.below hb_)
  clear SG4
  have SG4 := t_
  clear t_
  have t_ := Aside0.mk (SG5.out.below hb_)
  clear SG5
  have SG5 := t_
  clear t_
  have t_ := Aside0.mk (Nat.le_trans OS1.out (hb_).size)
  clear OS1
  have OS1 := t_
  clear t_
  have t_ := Aside0.mk (Nat.le_trans OS2.out (hb_).size)
  clear OS2
  have OS2 := t_
  clear t_
  have t_ := Aside0.mk (Nat.le_trans OS3.out (hb_).size)
  clear OS3
  have OS3 := t_
  clear t_
  have t_ := Aside0.mk (Nat.le_trans OS4.out (hb_).size)
  clear OS4
  have OS4 := t_
  clear t_
  have t_ := Aside0.mk (Nat.le_trans OS5.out (hb_).size)
  clear OS5
  have OS5 := t_
  clear t_
  clear HB_W10
  clear hb_
  go_wp2_with fail
  (with_reducible refine (laws_toIntS.calls kt0 _ _ l0 l0 _ (Kd.C_below HR0.out HB_W11.out) hc0 HTO0.out).mono ?_)
  rintro e W12 ⟨v_, rfl, hS_, hb_⟩
  have SG6 := Aside0.mk (Seg1.of_own (own_of_R hS_))
  obtain ⟨lo_o6, hlo_o6⟩ : ∃ x, x = W11.heap.size := ⟨_, rfl⟩
  obtain ⟨hi_o6, hhi_o6⟩ : ∃ x, x = W12.heap.size := ⟨_, rfl⟩
  have OR6 : Aside0 (w.heap.size ≤ lo_o6 ∧ hi_o1 ≤ lo_o6 ∧ hi_o2 ≤ lo_o6 ∧ hi_o3 ≤ lo_o6 ∧ hi_o4 ≤ lo_o6 ∧ hi_o5 ≤ lo_o6) := ⟨by have h1 := HB_W11.out.size; have g0 := OS1.out; have g1 := OS2.out; have g2 := OS3.out; have g3 := OS4.out; have g4 := OS5.out; omega⟩
  have OS6 : Aside0 (hi_o6 ≤ W12.heap.size) := ⟨by omega⟩
  rw [← hlo_o6, ← hhi_o6] at SG6
  clear hlo_o6 hhi_o6
  obtain ⟨A_o6, c_o6, hv_⟩ := SG6.out.slice
  subst hv_
  clear hS_
  have HB_W12 := Aside0.mk (below_then HB_W11.out HB_W11.out.size hb_)
  have t_ := Aside0.mk (SG1.out.below hb_)
  clear SG1
  have SG1 := t_
  clear t_
  have t_ := Aside0.mk (SG2.out.below hb_)
  clear SG2
  have SG2 := t_
  clear t_
  have t_ := Aside0.mk (SG3.out.below hb_)
  clear SG3
  have SG3 := t_
  clear t_
  have t_ := Aside0.mk (SG4.out.below hb_)
  clear SG4
  have SG4 := t_
  clear t_
  have t_ := Aside0.mk (SG5.out.below hb_)
  clear SG5
  have SG5 := t_
  clear t_
  have t_ := Aside0.mk (Nat.le_trans OS1.out (hb_).size)
  clear OS1
  have OS1 := t_
  clear t_
  have t_ := Aside0.mk (Nat.le_trans OS2.out (hb_).size)
  clear OS2
  have OS2 := t_
  clear t_
  have t_ := Aside0.mk (Nat.le_trans OS3.out (hb_).size)
  clear OS3
  have OS3 := t_
  clear t_
  have t_ := Aside0.mk (Nat.le_trans OS4.out (hb_).size)
  clear OS4
  have OS4 := t_
  clear t_
  have t_ := Aside0.mk (Nat.le_trans OS5.out (hb_).size)
  clear OS5
  have OS5 := t_
  clear t_
  clear HB_W11
  clear hb_
  go_wp2_with fail
  (with_reducible refine (impl_FromPlacing.calls ki _ _ l0 r1 r2 _ (SG6.out.reads.2.2) (SG6.out.reads.2.1) HI.out).mono ?_)
  rintro e W13 ⟨v0_, rfl, hS0_, hb_⟩
  have SG7 := Aside0.mk (Seg.of_S hS0_)
  obtain ⟨lo_o7, hlo_o7⟩ : ∃ x, x = W12.heap.size := ⟨_, rfl⟩
  obtain ⟨hi_o7, hhi_o7⟩ : ∃ x, x = W13.heap.size := ⟨_, rfl⟩
  have OR7 : Aside0 (w.heap.size ≤ lo_o7 ∧ hi_o1 ≤ lo_o7 ∧ hi_o2 ≤ lo_o7 ∧ hi_o3 ≤ lo_o7 ∧ hi_o4 ≤ lo_o7 ∧ hi_o5 ≤ lo_o7 ∧ hi_o6 ≤ lo_o7) := ⟨by have h1 := HB_W12.out.size; have g0 := OS1.out; have g1 := OS2.out; have g2 := OS3.out; have g3 := OS4.out; have g4 := OS5.out; have g5 := OS6.out; omega⟩
  have OS7 : Aside0 (hi_o7 ≤ W13.heap.size) := ⟨by omega⟩
  rw [← hlo_o7, ← hhi_o7] at SG7
  clear hlo_o7 hhi_o7
  obtain ⟨A_o7, c_o7, hv_⟩ := SG7.out.slice
  subst hv_
  clear hS0_
  have HB_W13 := Aside0.mk (below_then HB_W12.out HB_W12.out.size hb_)
  have t_ := Aside0.mk (SG1.out.below hb_)
  clear SG1
  have SG1 := t_
  clear t_
  have t_ := Aside0.mk (SG2.out.below hb_)
  clear SG2
  have SG2 := t_
  clear t_
  have t_ := Aside0.mk (SG3.out.below hb_)
  clear SG3
  have SG3 := t_
  clear t_
  have t_ := Aside0.mk (SG4.out.below hb_)
  clear SG4
  have SG4 := t_
  clear t_
  have t_ := Aside0.mk (SG5.out.below hb_)
  clear SG5
  have SG5 := t_
  clear t_
  have t_ := Aside0.mk (SG6.out.below hb_)
  clear SG6
  have SG6 := t_
  clear t_
  have t_ := Aside0.mk (Nat.le_trans OS1.out (hb_).size)
  clear OS1
  have OS1 := t_
  clear t_
  have t_ := Aside0.mk (Nat.le_trans OS2.out (hb_).size)
  clear OS2
  have OS2 := t_
  clear t_
  have t_ := Aside0.mk (Nat.le_trans OS3.out (hb_).size)
  clear OS3
  have OS3 := t_
  clear t_
  have t_ := Aside0.mk (Nat.le_trans OS4.out (hb_).size)
  clear OS4
  have OS4 := t_
  clear t_
  have t_ := Aside0.mk (Nat.le_trans OS5.out (hb_).size)
  clear OS5
  have OS5 := t_
  clear t_
  have t_ := Aside0.mk (Nat.le_trans OS6.out (hb_).size)
  clear OS6
  have OS6 := t_
  clear t_
  clear HB_W12
  clear hb_
  go_wp2_with fail
  (with_reducible refine (laws_eqIntSS.calls kq0 _ _ r1 _ _ r1 true _ (SG7.out.reads.2.2) (SG7.out.reads.2.1) (SG2.out.reads.2.2) (SG2.out.reads.2.1) HQ0.out).mono ?_)
  rintro e W14 ⟨rfl, hd_⟩
  have hb_ := hd_.below
  clear hd_
  have HB_W14 := Aside0.mk (below_then HB_W13.out HB_W13.out.size hb_)
  have t_ := Aside0.mk (SG1.out.below hb_)
  clear SG1
  have SG1 := t_
  clear t_
  have t_ := Aside0.mk (SG2.out.below hb_)
  clear SG2
  have SG2 := t_
  clear t_
  have t_ := Aside0.mk (SG3.out.below hb_)
  clear SG3
  have SG3 := t_
  clear t_
  have t_ := Aside0.mk (SG4.out.below hb_)
  clear SG4
  have SG4 := t_
  clear t_
  have t_ := Aside0.mk (SG5.out.below hb_)
  clear SG5
  have SG5 := t_
  clear t_
  have t_ := Aside0.mk (SG6.out.below hb_)
  clear SG6
  have SG6 := t_
  clear t_
  have t_ := Aside0.mk (SG7.out.below hb_)
  clear SG7
  have SG7 := t_
  clear t_
  have t_ := Aside0.mk (Nat.le_trans OS1.out (hb_).size)
  clear OS1
  have OS1 := t_
  clear t_
  have t_ := Aside0.mk (Nat.le_trans OS2.out (hb_).size)
  clear OS2
  have OS2 := t_
  clear t_
  have t_ := Aside0.mk (Nat.le_trans OS3.out (hb_).size)
  clear OS3
  have OS3 := t_
  clear t_
  have t_ := Aside0.mk (Nat.le_trans OS4.out (hb_).size)
  clear OS4
  have OS4 := t_
  clear t_
  have t_ := Aside0.mk (Nat.le_trans OS5.out (hb_).size)
  clear OS5
  have OS5 := t_
  clear t_
  have t_ := Aside0.mk (Nat.le_trans OS6.out (hb_).size)
  clear OS6
  have OS6 := t_
  clear t_
  have t_ := Aside0.mk (Nat.le_trans OS7.out (hb_).size)
  clear OS7
  have OS7 := t_
  clear t_
  clear HB_W13
  clear hb_
  go_wp2_with fail
  have hc_ := laws_heldIntSS.calls kh0 A_o4 c_o4 (marked r1 (1)) 1 (1 + (total r1 : Int)) W14 (SG4.out.reads.2.2) (by rw [marked_length]; exact (SG4.out.reads.2.1)) HH0.out
  rw [marked_length] at hc_
  (with_reducible refine hc_.mono ?_)
  clear hc_
  rintro e W15 ⟨rfl, hd_⟩
  have hb_ := hd_.below
  clear hd_
  have HB_W15 := Aside0.mk (below_then HB_W14.out HB_W14.out.size hb_)
  have t_ := Aside0.mk (SG1.out.below hb_)
  clear SG1
  have SG1 := t_
  clear t_
  have t_ := Aside0.mk (SG2.out.below hb_)
  clear SG2
  have SG2 := t_
  clear t_
  have t_ := Aside0.mk (SG3.out.below hb_)
  clear SG3
  have SG3 := t_
  clear t_
  have t_ := Aside0.mk (SG4.out.below hb_)
  clear SG4
  have SG4 := t_
  clear t_
  have t_ := Aside0.mk (SG5.out.below hb_)
  clear SG5
  have SG5 := t_
  clear t_
  have t_ := Aside0.mk (SG6.out.below hb_)
  clear SG6
  have SG6 := t_
  clear t_
  have t_ := Aside0.mk (SG7.out.below hb_)
  clear SG7
  have SG7 := t_
  clear t_
  have t_ := Aside0.mk (Nat.le_trans OS1.out (hb_).size)
  clear OS1
  have OS1 := t_
  clear t_
  have t_ := Aside0.mk (Nat.le_trans OS2.out (hb_).size)
  clear OS2
  have OS2 := t_
  clear t_
  have t_ := Aside0.mk (Nat.le_trans OS3.out (hb_).size)
  clear OS3
  have OS3 := t_
  clear t_
  have t_ := Aside0.mk (Nat.le_trans OS4.out (hb_).size)
  clear OS4
  have OS4 := t_
  clear t_
  have t_ := Aside0.mk (Nat.le_trans OS5.out (hb_).size)
  clear OS5
  have OS5 := t_
  clear t_
  have t_ := Aside0.mk (Nat.le_trans OS6.out (hb_).size)
  clear OS6
  have OS6 := t_
  clear t_
  have t_ := Aside0.mk (Nat.le_trans OS7.out (hb_).size)
  clear OS7
  have OS7 := t_
  clear t_
  clear HB_W14
  clear hb_
  go_wp2
  go_ret
  exact ⟨rfl, HB_W15.out⟩
end Go.Proofs.Ythjiajkmaimbjaa.P
