-- By gp.py (this session's own driver over the kit's print). Not trusted: Lean checks it.
import Derived.Test.YtadepmjfhcmkoaaF0
import Derived.Test.YtadepmjfhcmkoaaB
import Derived.Test.YtadepmjfhcmkoaaPL
import Derived.Test.YtadepmjfhcmkoaaFImplTally
import Derived.Test.YtadepmjfhcmkoaaFLaws
import Derived.Test.YtadepmjfhcmkoaaFSpecCountBy
namespace Go.Proofs.Ytadepmjfhcmkoaa.P
open Go.Proofs.Ytadepmjfhcmkoaa.B
open Go.RowKit Go.Proofs.YtadepmjfhcmkoaaW.PrintWords Go.Proofs.YtadepmjfhcmkoaaW.PrintLast Go.Proofs.YtadepmjfhcmkoaaW.PrintMore
attribute [local go_sem] max2_int min2_int max_two min_two max_three min_three max_four min_four   -- for this text's walks alone
set_option linter.unusedVariables false
set_option linter.unusedSimpArgs false

/-- The law over lists alone: program and reference answer the same. -/
def laws_FnExactCountByFirst.Pure : Prop := ∀ (a0 : Int), (Lit.int .i64 a0).wf = true → ∃ (r1 : List Int) (r2 : Bool), (∃ k, spec_CountByFirst.f k a0 = some (r1, r2)) ∧ (impl_CountByFirst.f a0 = some (r1, r2)) ∧ r1.length ≤ 1048576
set_option maxHeartbeats 16000000 in
set_option maxRecDepth 100000 in
theorem laws_FnExactCountByFirst.walk (P : laws_FnExactCountByFirst.Pure) (a0 : Int) (w : World) (hw0 : (Lit.int .i64 a0).wf = true) :
    Calls Try.prog 7 #[.int .i64 a0] w fun e w' => e = .returned (.bool true) ∧ Below w.heap.size w w' := by
  have HB0 := Aside0.mk (Below.refl w.heap.size w)
  obtain ⟨r1, r2, ⟨ks, hs⟩, hi, hbl0⟩ := P a0 hw0
  have HS := Aside0.mk hs
  have HI := Aside0.mk hi
  clear hs hi
  obtain ⟨kq0, hq0⟩ := (ev_eqIntS r1 r1 (by omega)).rounds
  rw [decide_eq_true rfl] at hq0
  obtain ⟨kh0, hh0⟩ := (ev_heldIntS 1 r1.length (by omega) (by omega) (by omega)).rounds
  have HQ0 := Aside0.mk hq0
  have HH0 := Aside0.mk hh0
  clear hq0 hh0
  go_enter Try.func7, Try.ntmps7
  go_wp2_with fail
  (with_reducible refine (spec_CountByFirst.calls ks a0 r1 r2 _  HS.out).mono ?_)
  rintro e W1 ⟨v0_, rfl, hS0_, hb_⟩
  have SG1 := Aside0.mk (Seg1.of_own (own_of_R hS0_))
  obtain ⟨lo_o1, hlo_o1⟩ : ∃ x, x = w.heap.size := ⟨_, rfl⟩
  obtain ⟨hi_o1, hhi_o1⟩ : ∃ x, x = W1.heap.size := ⟨_, rfl⟩
  have OR1 : Aside0 (w.heap.size ≤ lo_o1) := ⟨by have h1 := HB0.out.size; omega⟩
  have OS1 : Aside0 (hi_o1 ≤ W1.heap.size) := ⟨by omega⟩
  rw [← hlo_o1, ← hhi_o1] at SG1
  clear hlo_o1 hhi_o1
  obtain ⟨A_o1, c_o1, hv_⟩ := SG1.out.slice
  subst hv_
  clear hS0_
  have HB_W1 := Aside0.mk (below_then HB0.out HB0.out.size hb_)
  clear hb_
  go_wp2_with fail
  (with_reducible refine (impl_CountByFirst.calls  a0 r1 r2 _  HI.out).mono ?_)
  rintro e W2 ⟨v0_, rfl, hS0_, hb_⟩
  have SG2 := Aside0.mk (Seg1.of_own (own_of_R hS0_))
  obtain ⟨lo_o2, hlo_o2⟩ : ∃ x, x = W1.heap.size := ⟨_, rfl⟩
  obtain ⟨hi_o2, hhi_o2⟩ : ∃ x, x = W2.heap.size := ⟨_, rfl⟩
  have OR2 : Aside0 (w.heap.size ≤ lo_o2 ∧ hi_o1 ≤ lo_o2) := ⟨by have h1 := HB_W1.out.size; have g0 := OS1.out; omega⟩
  have OS2 : Aside0 (hi_o2 ≤ W2.heap.size) := ⟨by omega⟩
  rw [← hlo_o2, ← hhi_o2] at SG2
  clear hlo_o2 hhi_o2
  obtain ⟨A_o2, c_o2, hv_⟩ := SG2.out.slice
  subst hv_
  clear hS0_
  have HB_W2 := Aside0.mk (below_then HB_W1.out HB_W1.out.size hb_)
  have t_ := Aside0.mk (SG1.out.below hb_)
  clear SG1
  have SG1 := t_
  clear t_
  have t_ := Aside0.mk (Nat.le_trans OS1.out (hb_).size)
  clear OS1
  have OS1 := t_
  clear t_
  clear HB_W1
  clear hb_
  go_wp2_with fail
  (with_reducible refine (laws_eqIntS.calls kq0 _ _ r1 _ _ r1 true _ (SG2.out.reads.2.2) (SG2.out.reads.2.1) (SG1.out.reads.2.2) (SG1.out.reads.2.1) HQ0.out).mono ?_)
  rintro e W3 ⟨rfl, hd_⟩
  have hb_ := hd_.below
  clear hd_
  have HB_W3 := Aside0.mk (below_then HB_W2.out HB_W2.out.size hb_)
  have t_ := Aside0.mk (SG1.out.below hb_)
  clear SG1
  have SG1 := t_
  clear t_
  have t_ := Aside0.mk (SG2.out.below hb_)
  clear SG2
  have SG2 := t_
  clear t_
  have t_ := Aside0.mk (Nat.le_trans OS1.out (hb_).size)
  clear OS1
  have OS1 := t_
  clear t_
  have t_ := Aside0.mk (Nat.le_trans OS2.out (hb_).size)
  clear OS2
  have OS2 := t_
  clear t_
  clear HB_W2
  clear hb_
  go_wp2_with fail
  (with_reducible refine (markS_any lo_o2 _ r1 (1) _ SG2.out.own (by omega) (by omega) hbl0).mono ?_)
  rintro e W4 ⟨rfl, hO_, hG_⟩
  have hSM_ := SG2.out.mark (upFrom_length _ _) hO_ hG_
  obtain ⟨hS_, hb_⟩ := hSM_
  clear hO_ hG_
  have HB_W4 := Aside0.mk (Moved.below hb_ HB_W3.out HB_W3.out.size (by have h1 := OR2.out; omega))
  have t_ := Aside0.mk (SG1.out.move hb_ (by have h1 := OR1.out; have h2 := OR2.out; omega))
  clear SG1
  have SG1 := t_
  clear t_
  have t_ := Aside0.mk (Nat.le_trans OS1.out (hb_).size)
  clear OS1
  have OS1 := t_
  clear t_
  have t_ := Aside0.mk (Nat.le_trans OS2.out (hb_).size)
  clear OS2
  have OS2 := t_
  clear t_
  clear HB_W3
  clear SG2
  have SG2 := Aside0.mk hS_
  clear hS_ hb_
  go_wp2_with fail
  have hc_ := laws_heldIntS.calls kh0 A_o2 c_o2 (upFrom (1) r1.length) 1 (1 + (r1.length : Int)) W4 (SG2.out.reads.2.2) (by rw [upFrom_length]; exact (SG2.out.reads.2.1)) HH0.out
  rw [upFrom_length] at hc_
  (with_reducible refine hc_.mono ?_)
  clear hc_
  rintro e W5 ⟨rfl, hd_⟩
  have hb_ := hd_.below
  clear hd_
  have HB_W5 := Aside0.mk (below_then HB_W4.out HB_W4.out.size hb_)
  have t_ := Aside0.mk (SG1.out.below hb_)
  clear SG1
  have SG1 := t_
  clear t_
  have t_ := Aside0.mk (SG2.out.below hb_)
  clear SG2
  have SG2 := t_
  clear t_
  have t_ := Aside0.mk (Nat.le_trans OS1.out (hb_).size)
  clear OS1
  have OS1 := t_
  clear t_
  have t_ := Aside0.mk (Nat.le_trans OS2.out (hb_).size)
  clear OS2
  have OS2 := t_
  clear t_
  clear HB_W4
  clear hb_
  go_wp2_with fail
  (with_reducible refine (impl_CountByFirst.calls  a0 r1 r2 _  HI.out).mono ?_)
  rintro e W6 ⟨v0_, rfl, hS0_, hb_⟩
  have SG3 := Aside0.mk (Seg1.of_own (own_of_R hS0_))
  obtain ⟨lo_o3, hlo_o3⟩ : ∃ x, x = W5.heap.size := ⟨_, rfl⟩
  obtain ⟨hi_o3, hhi_o3⟩ : ∃ x, x = W6.heap.size := ⟨_, rfl⟩
  have OR3 : Aside0 (w.heap.size ≤ lo_o3 ∧ hi_o1 ≤ lo_o3 ∧ hi_o2 ≤ lo_o3) := ⟨by have h1 := HB_W5.out.size; have g0 := OS1.out; have g1 := OS2.out; omega⟩
  have OS3 : Aside0 (hi_o3 ≤ W6.heap.size) := ⟨by omega⟩
  rw [← hlo_o3, ← hhi_o3] at SG3
  clear hlo_o3 hhi_o3
  obtain ⟨A_o3, c_o3, hv_⟩ := SG3.out.slice
  subst hv_
  clear hS0_
  have HB_W6 := Aside0.mk (below_then HB_W5.out HB_W5.out.size hb_)
  have t_ := Aside0.mk (SG1.out.below hb_)
  clear SG1
  have SG1 := t_
  clear t_
  have t_ := Aside0.mk (SG2.out.below hb_)
  clear SG2
  have SG2 := t_
  clear t_
  have t_ := Aside0.mk (Nat.le_trans OS1.out (hb_).size)
  clear OS1
  have OS1 := t_
  clear t_
  have t_ := Aside0.mk (Nat.le_trans OS2.out (hb_).size)
  clear OS2
  have OS2 := t_
  clear t_
  clear HB_W5
  clear hb_
  go_wp2_with fail
  (with_reducible refine (laws_eqIntS.calls kq0 _ _ r1 _ _ r1 true _ (SG3.out.reads.2.2) (SG3.out.reads.2.1) (SG1.out.reads.2.2) (SG1.out.reads.2.1) HQ0.out).mono ?_)
  rintro e W7 ⟨rfl, hd_⟩
  have hb_ := hd_.below
  clear hd_
  have HB_W7 := Aside0.mk (below_then HB_W6.out HB_W6.out.size hb_)
  have t_ := Aside0.mk (SG1.out.below hb_)
  clear SG1
  have SG1 := t_
  clear t_
  have t_ := Aside0.mk (SG2.out.below hb_)
  clear SG2
  have SG2 := t_
  clear t_
  have t_ := Aside0.mk (SG3.out.below hb_)
  clear SG3
  have SG3 := t_
  clear t_
  have t_ := Aside0.mk (Nat.le_trans OS1.out (hb_).size)
  clear OS1
  have OS1 := t_
  clear t_
  have t_ := Aside0.mk (Nat.le_trans OS2.out (hb_).size)
  clear OS2
  have OS2 := t_
  clear t_
  have t_ := Aside0.mk (Nat.le_trans OS3.out (hb_).size)
  clear OS3
  have OS3 := t_
  clear t_
  clear HB_W6
  clear hb_
  go_wp2_with fail
  have hc_ := laws_heldIntS.calls kh0 A_o2 c_o2 (upFrom (1) r1.length) 1 (1 + (r1.length : Int)) W7 (SG2.out.reads.2.2) (by rw [upFrom_length]; exact (SG2.out.reads.2.1)) HH0.out
  rw [upFrom_length] at hc_
  (with_reducible refine hc_.mono ?_)
  clear hc_
  rintro e W8 ⟨rfl, hd_⟩
  have hb_ := hd_.below
  clear hd_
  have HB_W8 := Aside0.mk (below_then HB_W7.out HB_W7.out.size hb_)
  have t_ := Aside0.mk (SG1.out.below hb_)
  clear SG1
  have SG1 := t_
  clear t_
  have t_ := Aside0.mk (SG2.out.below hb_)
  clear SG2
  have SG2 := t_
  clear t_
  have t_ := Aside0.mk (SG3.out.below hb_)
  clear SG3
  have SG3 := t_
  clear t_
  have t_ := Aside0.mk (Nat.le_trans OS1.out (hb_).size)
  clear OS1
  have OS1 := t_
  clear t_
  have t_ := Aside0.mk (Nat.le_trans OS2.out (hb_).size)
  clear OS2
  have OS2 := t_
  clear t_
  have t_ := Aside0.mk (Nat.le_trans OS3.out (hb_).size)
  clear OS3
  have OS3 := t_
  clear t_
  clear HB_W7
  clear hb_
  go_wp2
  go_ret
  exact ⟨rfl, HB_W8.out⟩
/-- The law over lists alone: program and reference answer the same. -/
def laws_FnExactCountByMinus.Pure : Prop := ∀ (a0 : Int), (Lit.int .i64 a0).wf = true → ∃ (r1 : List Int) (r2 : Bool), (∃ k, spec_CountByMinus.f k a0 = some (r1, r2)) ∧ (impl_CountByMinus.f a0 = some (r1, r2)) ∧ r1.length ≤ 1048576
set_option maxHeartbeats 16000000 in
set_option maxRecDepth 100000 in
theorem laws_FnExactCountByMinus.walk (P : laws_FnExactCountByMinus.Pure) (a0 : Int) (w : World) (hw0 : (Lit.int .i64 a0).wf = true) :
    Calls Try.prog 8 #[.int .i64 a0] w fun e w' => e = .returned (.bool true) ∧ Below w.heap.size w w' := by
  have HB0 := Aside0.mk (Below.refl w.heap.size w)
  obtain ⟨r1, r2, ⟨ks, hs⟩, hi, hbl0⟩ := P a0 hw0
  have HS := Aside0.mk hs
  have HI := Aside0.mk hi
  clear hs hi
  obtain ⟨kq0, hq0⟩ := (ev_eqIntS r1 r1 (by omega)).rounds
  rw [decide_eq_true rfl] at hq0
  obtain ⟨kh0, hh0⟩ := (ev_heldIntS 1 r1.length (by omega) (by omega) (by omega)).rounds
  have HQ0 := Aside0.mk hq0
  have HH0 := Aside0.mk hh0
  clear hq0 hh0
  go_enter Try.func8, Try.ntmps8
  go_wp2_with fail
  (with_reducible refine (spec_CountByMinus.calls ks a0 r1 r2 _  HS.out).mono ?_)
  rintro e W1 ⟨v0_, rfl, hS0_, hb_⟩
  have SG1 := Aside0.mk (Seg1.of_own (own_of_R hS0_))
  obtain ⟨lo_o1, hlo_o1⟩ : ∃ x, x = w.heap.size := ⟨_, rfl⟩
  obtain ⟨hi_o1, hhi_o1⟩ : ∃ x, x = W1.heap.size := ⟨_, rfl⟩
  have OR1 : Aside0 (w.heap.size ≤ lo_o1) := ⟨by have h1 := HB0.out.size; omega⟩
  have OS1 : Aside0 (hi_o1 ≤ W1.heap.size) := ⟨by omega⟩
  rw [← hlo_o1, ← hhi_o1] at SG1
  clear hlo_o1 hhi_o1
  obtain ⟨A_o1, c_o1, hv_⟩ := SG1.out.slice
  subst hv_
  clear hS0_
  have HB_W1 := Aside0.mk (below_then HB0.out HB0.out.size hb_)
  clear hb_
  go_wp2_with fail
  (with_reducible refine (impl_CountByMinus.calls  a0 r1 r2 _  HI.out).mono ?_)
  rintro e W2 ⟨v0_, rfl, hS0_, hb_⟩
  have SG2 := Aside0.mk (Seg1.of_own (own_of_R hS0_))
  obtain ⟨lo_o2, hlo_o2⟩ : ∃ x, x = W1.heap.size := ⟨_, rfl⟩
  obtain ⟨hi_o2, hhi_o2⟩ : ∃ x, x = W2.heap.size := ⟨_, rfl⟩
  have OR2 : Aside0 (w.heap.size ≤ lo_o2 ∧ hi_o1 ≤ lo_o2) := ⟨by have h1 := HB_W1.out.size; have g0 := OS1.out; omega⟩
  have OS2 : Aside0 (hi_o2 ≤ W2.heap.size) := ⟨by omega⟩
  rw [← hlo_o2, ← hhi_o2] at SG2
  clear hlo_o2 hhi_o2
  obtain ⟨A_o2, c_o2, hv_⟩ := SG2.out.slice
  subst hv_
  clear hS0_
  have HB_W2 := Aside0.mk (below_then HB_W1.out HB_W1.out.size hb_)
  have t_ := Aside0.mk (SG1.out.below hb_)
  clear SG1
  have SG1 := t_
  clear t_
  have t_ := Aside0.mk (Nat.le_trans OS1.out (hb_).size)
  clear OS1
  have OS1 := t_
  clear t_
  clear HB_W1
  clear hb_
  go_wp2_with fail
  (with_reducible refine (laws_eqIntS.calls kq0 _ _ r1 _ _ r1 true _ (SG2.out.reads.2.2) (SG2.out.reads.2.1) (SG1.out.reads.2.2) (SG1.out.reads.2.1) HQ0.out).mono ?_)
  rintro e W3 ⟨rfl, hd_⟩
  have hb_ := hd_.below
  clear hd_
  have HB_W3 := Aside0.mk (below_then HB_W2.out HB_W2.out.size hb_)
  have t_ := Aside0.mk (SG1.out.below hb_)
  clear SG1
  have SG1 := t_
  clear t_
  have t_ := Aside0.mk (SG2.out.below hb_)
  clear SG2
  have SG2 := t_
  clear t_
  have t_ := Aside0.mk (Nat.le_trans OS1.out (hb_).size)
  clear OS1
  have OS1 := t_
  clear t_
  have t_ := Aside0.mk (Nat.le_trans OS2.out (hb_).size)
  clear OS2
  have OS2 := t_
  clear t_
  clear HB_W2
  clear hb_
  go_wp2_with fail
  (with_reducible refine (markS_any lo_o2 _ r1 (1) _ SG2.out.own (by omega) (by omega) hbl0).mono ?_)
  rintro e W4 ⟨rfl, hO_, hG_⟩
  have hSM_ := SG2.out.mark (upFrom_length _ _) hO_ hG_
  obtain ⟨hS_, hb_⟩ := hSM_
  clear hO_ hG_
  have HB_W4 := Aside0.mk (Moved.below hb_ HB_W3.out HB_W3.out.size (by have h1 := OR2.out; omega))
  have t_ := Aside0.mk (SG1.out.move hb_ (by have h1 := OR1.out; have h2 := OR2.out; omega))
  clear SG1
  have SG1 := t_
  clear t_
  have t_ := Aside0.mk (Nat.le_trans OS1.out (hb_).size)
  clear OS1
  have OS1 := t_
  clear t_
  have t_ := Aside0.mk (Nat.le_trans OS2.out (hb_).size)
  clear OS2
  have OS2 := t_
  clear t_
  clear HB_W3
  clear SG2
  have SG2 := Aside0.mk hS_
  clear hS_ hb_
  go_wp2_with fail
  have hc_ := laws_heldIntS.calls kh0 A_o2 c_o2 (upFrom (1) r1.length) 1 (1 + (r1.length : Int)) W4 (SG2.out.reads.2.2) (by rw [upFrom_length]; exact (SG2.out.reads.2.1)) HH0.out
  rw [upFrom_length] at hc_
  (with_reducible refine hc_.mono ?_)
  clear hc_
  rintro e W5 ⟨rfl, hd_⟩
  have hb_ := hd_.below
  clear hd_
  have HB_W5 := Aside0.mk (below_then HB_W4.out HB_W4.out.size hb_)
  have t_ := Aside0.mk (SG1.out.below hb_)
  clear SG1
  have SG1 := t_
  clear t_
  have t_ := Aside0.mk (SG2.out.below hb_)
  clear SG2
  have SG2 := t_
  clear t_
  have t_ := Aside0.mk (Nat.le_trans OS1.out (hb_).size)
  clear OS1
  have OS1 := t_
  clear t_
  have t_ := Aside0.mk (Nat.le_trans OS2.out (hb_).size)
  clear OS2
  have OS2 := t_
  clear t_
  clear HB_W4
  clear hb_
  go_wp2_with fail
  (with_reducible refine (impl_CountByMinus.calls  a0 r1 r2 _  HI.out).mono ?_)
  rintro e W6 ⟨v0_, rfl, hS0_, hb_⟩
  have SG3 := Aside0.mk (Seg1.of_own (own_of_R hS0_))
  obtain ⟨lo_o3, hlo_o3⟩ : ∃ x, x = W5.heap.size := ⟨_, rfl⟩
  obtain ⟨hi_o3, hhi_o3⟩ : ∃ x, x = W6.heap.size := ⟨_, rfl⟩
  have OR3 : Aside0 (w.heap.size ≤ lo_o3 ∧ hi_o1 ≤ lo_o3 ∧ hi_o2 ≤ lo_o3) := ⟨by have h1 := HB_W5.out.size; have g0 := OS1.out; have g1 := OS2.out; omega⟩
  have OS3 : Aside0 (hi_o3 ≤ W6.heap.size) := ⟨by omega⟩
  rw [← hlo_o3, ← hhi_o3] at SG3
  clear hlo_o3 hhi_o3
  obtain ⟨A_o3, c_o3, hv_⟩ := SG3.out.slice
  subst hv_
  clear hS0_
  have HB_W6 := Aside0.mk (below_then HB_W5.out HB_W5.out.size hb_)
  have t_ := Aside0.mk (SG1.out.below hb_)
  clear SG1
  have SG1 := t_
  clear t_
  have t_ := Aside0.mk (SG2.out.below hb_)
  clear SG2
  have SG2 := t_
  clear t_
  have t_ := Aside0.mk (Nat.le_trans OS1.out (hb_).size)
  clear OS1
  have OS1 := t_
  clear t_
  have t_ := Aside0.mk (Nat.le_trans OS2.out (hb_).size)
  clear OS2
  have OS2 := t_
  clear t_
  clear HB_W5
  clear hb_
  go_wp2_with fail
  (with_reducible refine (laws_eqIntS.calls kq0 _ _ r1 _ _ r1 true _ (SG3.out.reads.2.2) (SG3.out.reads.2.1) (SG1.out.reads.2.2) (SG1.out.reads.2.1) HQ0.out).mono ?_)
  rintro e W7 ⟨rfl, hd_⟩
  have hb_ := hd_.below
  clear hd_
  have HB_W7 := Aside0.mk (below_then HB_W6.out HB_W6.out.size hb_)
  have t_ := Aside0.mk (SG1.out.below hb_)
  clear SG1
  have SG1 := t_
  clear t_
  have t_ := Aside0.mk (SG2.out.below hb_)
  clear SG2
  have SG2 := t_
  clear t_
  have t_ := Aside0.mk (SG3.out.below hb_)
  clear SG3
  have SG3 := t_
  clear t_
  have t_ := Aside0.mk (Nat.le_trans OS1.out (hb_).size)
  clear OS1
  have OS1 := t_
  clear t_
  have t_ := Aside0.mk (Nat.le_trans OS2.out (hb_).size)
  clear OS2
  have OS2 := t_
  clear t_
  have t_ := Aside0.mk (Nat.le_trans OS3.out (hb_).size)
  clear OS3
  have OS3 := t_
  clear t_
  clear HB_W6
  clear hb_
  go_wp2_with fail
  have hc_ := laws_heldIntS.calls kh0 A_o2 c_o2 (upFrom (1) r1.length) 1 (1 + (r1.length : Int)) W7 (SG2.out.reads.2.2) (by rw [upFrom_length]; exact (SG2.out.reads.2.1)) HH0.out
  rw [upFrom_length] at hc_
  (with_reducible refine hc_.mono ?_)
  clear hc_
  rintro e W8 ⟨rfl, hd_⟩
  have hb_ := hd_.below
  clear hd_
  have HB_W8 := Aside0.mk (below_then HB_W7.out HB_W7.out.size hb_)
  have t_ := Aside0.mk (SG1.out.below hb_)
  clear SG1
  have SG1 := t_
  clear t_
  have t_ := Aside0.mk (SG2.out.below hb_)
  clear SG2
  have SG2 := t_
  clear t_
  have t_ := Aside0.mk (SG3.out.below hb_)
  clear SG3
  have SG3 := t_
  clear t_
  have t_ := Aside0.mk (Nat.le_trans OS1.out (hb_).size)
  clear OS1
  have OS1 := t_
  clear t_
  have t_ := Aside0.mk (Nat.le_trans OS2.out (hb_).size)
  clear OS2
  have OS2 := t_
  clear t_
  have t_ := Aside0.mk (Nat.le_trans OS3.out (hb_).size)
  clear OS3
  have OS3 := t_
  clear t_
  clear HB_W7
  clear hb_
  go_wp2
  go_ret
  exact ⟨rfl, HB_W8.out⟩
/-- The law over lists alone: program and reference answer the same. -/
def laws_FnExactCountByInversions.Pure : Prop := ∀ (a0 : Int), (Lit.int .i64 a0).wf = true → ∃ (r1 : List Int) (r2 : Bool), (∃ k, spec_CountByInversions.f k a0 = some (r1, r2)) ∧ (impl_CountByInversions.f a0 = some (r1, r2)) ∧ r1.length ≤ 1048576
set_option maxHeartbeats 16000000 in
set_option maxRecDepth 100000 in
theorem laws_FnExactCountByInversions.walk (P : laws_FnExactCountByInversions.Pure) (a0 : Int) (w : World) (hw0 : (Lit.int .i64 a0).wf = true) :
    Calls Try.prog 9 #[.int .i64 a0] w fun e w' => e = .returned (.bool true) ∧ Below w.heap.size w w' := by
  have HB0 := Aside0.mk (Below.refl w.heap.size w)
  obtain ⟨r1, r2, ⟨ks, hs⟩, hi, hbl0⟩ := P a0 hw0
  have HS := Aside0.mk hs
  have HI := Aside0.mk hi
  clear hs hi
  obtain ⟨kq0, hq0⟩ := (ev_eqIntS r1 r1 (by omega)).rounds
  rw [decide_eq_true rfl] at hq0
  obtain ⟨kh0, hh0⟩ := (ev_heldIntS 1 r1.length (by omega) (by omega) (by omega)).rounds
  have HQ0 := Aside0.mk hq0
  have HH0 := Aside0.mk hh0
  clear hq0 hh0
  go_enter Try.func9, Try.ntmps9
  go_wp2_with fail
  (with_reducible refine (spec_CountByInversions.calls ks a0 r1 r2 _  HS.out).mono ?_)
  rintro e W1 ⟨v0_, rfl, hS0_, hb_⟩
  have SG1 := Aside0.mk (Seg1.of_own (own_of_R hS0_))
  obtain ⟨lo_o1, hlo_o1⟩ : ∃ x, x = w.heap.size := ⟨_, rfl⟩
  obtain ⟨hi_o1, hhi_o1⟩ : ∃ x, x = W1.heap.size := ⟨_, rfl⟩
  have OR1 : Aside0 (w.heap.size ≤ lo_o1) := ⟨by have h1 := HB0.out.size; omega⟩
  have OS1 : Aside0 (hi_o1 ≤ W1.heap.size) := ⟨by omega⟩
  rw [← hlo_o1, ← hhi_o1] at SG1
  clear hlo_o1 hhi_o1
  obtain ⟨A_o1, c_o1, hv_⟩ := SG1.out.slice
  subst hv_
  clear hS0_
  have HB_W1 := Aside0.mk (below_then HB0.out HB0.out.size hb_)
  clear hb_
  go_wp2_with fail
  (with_reducible refine (impl_CountByInversions.calls  a0 r1 r2 _  HI.out).mono ?_)
  rintro e W2 ⟨v0_, rfl, hS0_, hb_⟩
  have SG2 := Aside0.mk (Seg1.of_own (own_of_R hS0_))
  obtain ⟨lo_o2, hlo_o2⟩ : ∃ x, x = W1.heap.size := ⟨_, rfl⟩
  obtain ⟨hi_o2, hhi_o2⟩ : ∃ x, x = W2.heap.size := ⟨_, rfl⟩
  have OR2 : Aside0 (w.heap.size ≤ lo_o2 ∧ hi_o1 ≤ lo_o2) := ⟨by have h1 := HB_W1.out.size; have g0 := OS1.out; omega⟩
  have OS2 : Aside0 (hi_o2 ≤ W2.heap.size) := ⟨by omega⟩
  rw [← hlo_o2, ← hhi_o2] at SG2
  clear hlo_o2 hhi_o2
  obtain ⟨A_o2, c_o2, hv_⟩ := SG2.out.slice
  subst hv_
  clear hS0_
  have HB_W2 := Aside0.mk (below_then HB_W1.out HB_W1.out.size hb_)
  have t_ := Aside0.mk (SG1.out.below hb_)
  clear SG1
  have SG1 := t_
  clear t_
  have t_ := Aside0.mk (Nat.le_trans OS1.out (hb_).size)
  clear OS1
  have OS1 := t_
  clear t_
  clear HB_W1
  clear hb_
  go_wp2_with fail
  (with_reducible refine (laws_eqIntS.calls kq0 _ _ r1 _ _ r1 true _ (SG2.out.reads.2.2) (SG2.out.reads.2.1) (SG1.out.reads.2.2) (SG1.out.reads.2.1) HQ0.out).mono ?_)
  rintro e W3 ⟨rfl, hd_⟩
  have hb_ := hd_.below
  clear hd_
  have HB_W3 := Aside0.mk (below_then HB_W2.out HB_W2.out.size hb_)
  have t_ := Aside0.mk (SG1.out.below hb_)
  clear SG1
  have SG1 := t_
  clear t_
  have t_ := Aside0.mk (SG2.out.below hb_)
  clear SG2
  have SG2 := t_
  clear t_
  have t_ := Aside0.mk (Nat.le_trans OS1.out (hb_).size)
  clear OS1
  have OS1 := t_
  clear t_
  have t_ := Aside0.mk (Nat.le_trans OS2.out (hb_).size)
  clear OS2
  have OS2 := t_
  clear t_
  clear HB_W2
  clear hb_
  go_wp2_with fail
  (with_reducible refine (markS_any lo_o2 _ r1 (1) _ SG2.out.own (by omega) (by omega) hbl0).mono ?_)
  rintro e W4 ⟨rfl, hO_, hG_⟩
  have hSM_ := SG2.out.mark (upFrom_length _ _) hO_ hG_
  obtain ⟨hS_, hb_⟩ := hSM_
  clear hO_ hG_
  have HB_W4 := Aside0.mk (Moved.below hb_ HB_W3.out HB_W3.out.size (by have h1 := OR2.out; omega))
  have t_ := Aside0.mk (SG1.out.move hb_ (by have h1 := OR1.out; have h2 := OR2.out; omega))
  clear SG1
  have SG1 := t_
  clear t_
  have t_ := Aside0.mk (Nat.le_trans OS1.out (hb_).size)
  clear OS1
  have OS1 := t_
  clear t_
  have t_ := Aside0.mk (Nat.le_trans OS2.out (hb_).size)
  clear OS2
  have OS2 := t_
  clear t_
  clear HB_W3
  clear SG2
  have SG2 := Aside0.mk hS_
  clear hS_ hb_
  go_wp2_with fail
  have hc_ := laws_heldIntS.calls kh0 A_o2 c_o2 (upFrom (1) r1.length) 1 (1 + (r1.length : Int)) W4 (SG2.out.reads.2.2) (by rw [upFrom_length]; exact (SG2.out.reads.2.1)) HH0.out
  rw [upFrom_length] at hc_
  (with_reducible refine hc_.mono ?_)
  clear hc_
  rintro e W5 ⟨rfl, hd_⟩
  have hb_ := hd_.below
  clear hd_
  have HB_W5 := Aside0.mk (below_then HB_W4.out HB_W4.out.size hb_)
  have t_ := Aside0.mk (SG1.out.below hb_)
  clear SG1
  have SG1 := t_
  clear t_
  have t_ := Aside0.mk (SG2.out.below hb_)
  clear SG2
  have SG2 := t_
  clear t_
  have t_ := Aside0.mk (Nat.le_trans OS1.out (hb_).size)
  clear OS1
  have OS1 := t_
  clear t_
  have t_ := Aside0.mk (Nat.le_trans OS2.out (hb_).size)
  clear OS2
  have OS2 := t_
  clear t_
  clear HB_W4
  clear hb_
  go_wp2_with fail
  (with_reducible refine (impl_CountByInversions.calls  a0 r1 r2 _  HI.out).mono ?_)
  rintro e W6 ⟨v0_, rfl, hS0_, hb_⟩
  have SG3 := Aside0.mk (Seg1.of_own (own_of_R hS0_))
  obtain ⟨lo_o3, hlo_o3⟩ : ∃ x, x = W5.heap.size := ⟨_, rfl⟩
  obtain ⟨hi_o3, hhi_o3⟩ : ∃ x, x = W6.heap.size := ⟨_, rfl⟩
  have OR3 : Aside0 (w.heap.size ≤ lo_o3 ∧ hi_o1 ≤ lo_o3 ∧ hi_o2 ≤ lo_o3) := ⟨by have h1 := HB_W5.out.size; have g0 := OS1.out; have g1 := OS2.out; omega⟩
  have OS3 : Aside0 (hi_o3 ≤ W6.heap.size) := ⟨by omega⟩
  rw [← hlo_o3, ← hhi_o3] at SG3
  clear hlo_o3 hhi_o3
  obtain ⟨A_o3, c_o3, hv_⟩ := SG3.out.slice
  subst hv_
  clear hS0_
  have HB_W6 := Aside0.mk (below_then HB_W5.out HB_W5.out.size hb_)
  have t_ := Aside0.mk (SG1.out.below hb_)
  clear SG1
  have SG1 := t_
  clear t_
  have t_ := Aside0.mk (SG2.out.below hb_)
  clear SG2
  have SG2 := t_
  clear t_
  have t_ := Aside0.mk (Nat.le_trans OS1.out (hb_).size)
  clear OS1
  have OS1 := t_
  clear t_
  have t_ := Aside0.mk (Nat.le_trans OS2.out (hb_).size)
  clear OS2
  have OS2 := t_
  clear t_
  clear HB_W5
  clear hb_
  go_wp2_with fail
  (with_reducible refine (laws_eqIntS.calls kq0 _ _ r1 _ _ r1 true _ (SG3.out.reads.2.2) (SG3.out.reads.2.1) (SG1.out.reads.2.2) (SG1.out.reads.2.1) HQ0.out).mono ?_)
  rintro e W7 ⟨rfl, hd_⟩
  have hb_ := hd_.below
  clear hd_
  have HB_W7 := Aside0.mk (below_then HB_W6.out HB_W6.out.size hb_)
  have t_ := Aside0.mk (SG1.out.below hb_)
  clear SG1
  have SG1 := t_
  clear t_
  have t_ := Aside0.mk (SG2.out.below hb_)
  clear SG2
  have SG2 := t_
  clear t_
  have t_ := Aside0.mk (SG3.out.below hb_)
  clear SG3
  have SG3 := t_
  clear t_
  have t_ := Aside0.mk (Nat.le_trans OS1.out (hb_).size)
  clear OS1
  have OS1 := t_
  clear t_
  have t_ := Aside0.mk (Nat.le_trans OS2.out (hb_).size)
  clear OS2
  have OS2 := t_
  clear t_
  have t_ := Aside0.mk (Nat.le_trans OS3.out (hb_).size)
  clear OS3
  have OS3 := t_
  clear t_
  clear HB_W6
  clear hb_
  go_wp2_with fail
  have hc_ := laws_heldIntS.calls kh0 A_o2 c_o2 (upFrom (1) r1.length) 1 (1 + (r1.length : Int)) W7 (SG2.out.reads.2.2) (by rw [upFrom_length]; exact (SG2.out.reads.2.1)) HH0.out
  rw [upFrom_length] at hc_
  (with_reducible refine hc_.mono ?_)
  clear hc_
  rintro e W8 ⟨rfl, hd_⟩
  have hb_ := hd_.below
  clear hd_
  have HB_W8 := Aside0.mk (below_then HB_W7.out HB_W7.out.size hb_)
  have t_ := Aside0.mk (SG1.out.below hb_)
  clear SG1
  have SG1 := t_
  clear t_
  have t_ := Aside0.mk (SG2.out.below hb_)
  clear SG2
  have SG2 := t_
  clear t_
  have t_ := Aside0.mk (SG3.out.below hb_)
  clear SG3
  have SG3 := t_
  clear t_
  have t_ := Aside0.mk (Nat.le_trans OS1.out (hb_).size)
  clear OS1
  have OS1 := t_
  clear t_
  have t_ := Aside0.mk (Nat.le_trans OS2.out (hb_).size)
  clear OS2
  have OS2 := t_
  clear t_
  have t_ := Aside0.mk (Nat.le_trans OS3.out (hb_).size)
  clear OS3
  have OS3 := t_
  clear t_
  clear HB_W7
  clear hb_
  go_wp2
  go_ret
  exact ⟨rfl, HB_W8.out⟩
end Go.Proofs.Ytadepmjfhcmkoaa.P
