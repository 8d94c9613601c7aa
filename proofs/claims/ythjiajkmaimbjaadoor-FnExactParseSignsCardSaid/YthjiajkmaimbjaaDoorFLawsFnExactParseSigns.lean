-- By gp.py (this session's own driver over the kit's print). Not trusted: Lean checks it.
import Derived.Test.YthjiajkmaimbjaaDoorF0
import Derived.Test.YthjiajkmaimbjaaDoorB
import Derived.Test.YthjiajkmaimbjaaDoorPL
import Derived.Test.YthjiajkmaimbjaaDoorFImplParseSigns
import Derived.Test.YthjiajkmaimbjaaDoorFLaws
import Derived.Test.YthjiajkmaimbjaaDoorFSpecParseSigns
import Derived.Test.YthjiajkmaimbjaaDoorFStringsSplit
namespace Go.Proofs.YthjiajkmaimbjaaDoor.P
open Go.Proofs.YthjiajkmaimbjaaDoor.B
open Go.RowKit Go.Proofs.YthjiajkmaimbjaaDoorW.PrintWords Go.Proofs.YthjiajkmaimbjaaDoorW.PrintLast Go.Proofs.YthjiajkmaimbjaaDoorW.PrintMore
attribute [local go_sem] max2_int min2_int max_two min_two max_three min_three max_four min_four   -- for this text's walks alone
set_option linter.unusedVariables false
set_option linter.unusedSimpArgs false

/-- The law over lists alone: program and reference answer the same. -/
def laws_FnExactParseSigns.Pure : Prop := ∀ (a0 : ByteArray), a0.size ≤ 1048576 → ∃ (r1 : List (List Int)) (r2 : Bool), (∃ k, spec_ParseSigns.f k a0 = some (r1, r2)) ∧ (∃ k, impl_ParseSigns.f k a0 = some (r1, r2)) ∧ total r1 ≤ 1048576 ∧ r1.length ≤ 1048576
set_option maxHeartbeats 16000000 in
set_option maxRecDepth 100000 in
theorem laws_FnExactParseSigns.walk (P : laws_FnExactParseSigns.Pure) (a0 : ByteArray) (w : World) (hm0 : ML w) (hn0 : a0.size ≤ 140737488351232) :
    Calls Tryd.prog 3 #[.string a0] w fun e w' => e = .returned (.bool true) ∧ Below w.heap.size w w' := by
  have HB0 := Aside0.mk (Below.refl w.heap.size w)
  by_cases hz0 : (1048576 : Int) < (a0.size : Int)
  · have hzb : decide ((1048576 : Int) < (a0.size : Int)) = true := decide_eq_true hz0
    have hzc : decide (1048576 < a0.size) = true := decide_eq_true (by omega)
    go_enter Tryd.func3, Tryd.ntmps3
    go_wp2
    go_ret
    exact ⟨rfl, HB0.out⟩
  have hzb : decide ((1048576 : Int) < (a0.size : Int)) = false := decide_eq_false hz0
  have hzc : decide (1048576 < a0.size) = false := decide_eq_false (by omega)
  have HZ0 := Aside0.mk (show a0.size ≤ 1048576 by omega)
  clear hz0
  obtain ⟨r1, r2, ⟨ks, hs⟩, ⟨ki, hi⟩, ⟨hbt0, hbl0⟩⟩ := P a0 HZ0.out
  have HS := Aside0.mk hs
  have HI := Aside0.mk hi
  clear hs hi
  obtain ⟨kq0, hq0⟩ := (ev_eqIntSS r1 r1 (by omega) (fun x hx => by have := row_le_total r1 x hx; omega)).rounds
  rw [decide_eq_true rfl] at hq0
  obtain ⟨kh0, hh0⟩ := (ev_heldIntSS r1 1 (by omega) (by omega) hbt0 (by omega)).rounds
  have HQ0 := Aside0.mk hq0
  have HH0 := Aside0.mk hh0
  clear hq0 hh0
  go_enter Tryd.func3, Tryd.ntmps3
  go_wp2_with fail
  (with_reducible refine (spec_ParseSigns.calls ks a0 r1 r2 _  HS.out).mono ?_)
  rintro e W1 ⟨v0_, rfl, hS0_, hb_⟩
  have SG1 := Aside0.mk (Seg.of_S hS0_)
  obtain ⟨lo_o1, hlo_o1⟩ : ∃ x, x = w.heap.size := ⟨_, rfl⟩
  obtain ⟨hi_o1, hhi_o1⟩ : ∃ x, x = W1.heap.size := ⟨_, rfl⟩
  have OR1 : Aside0 (w.heap.size ≤ lo_o1) := ⟨by have h1 := HB0.out.size; omega⟩
  have OS1 : Aside0 (hi_o1 ≤ W1.heap.size) := ⟨by omega⟩
  rw [← hlo_o1, ← hhi_o1] at SG1
  clear hlo_o1 hhi_o1
  obtain ⟨A_o1, c_o1, hv_⟩ := SG1.out.slice
  subst hv_
  clear hS0_
  have HB_W1 := Aside0.mk (below_then HB0.out HB0.out.size hb_)
  clear hb_
  go_wp2_with fail
  (with_reducible refine (impl_ParseSigns.calls ki a0 r1 r2 _  HI.out).mono ?_)
  rintro e W2 ⟨v0_, rfl, hS0_, hb_⟩
  have SG2 := Aside0.mk (Seg.of_S hS0_)
  obtain ⟨lo_o2, hlo_o2⟩ : ∃ x, x = W1.heap.size := ⟨_, rfl⟩
  obtain ⟨hi_o2, hhi_o2⟩ : ∃ x, x = W2.heap.size := ⟨_, rfl⟩
  have OR2 : Aside0 (w.heap.size ≤ lo_o2 ∧ hi_o1 ≤ lo_o2) := ⟨by have h1 := HB_W1.out.size; have g0 := OS1.out; omega⟩
  have OS2 : Aside0 (hi_o2 ≤ W2.heap.size) := ⟨by omega⟩
  rw [← hlo_o2, ← hhi_o2] at SG2
  clear hlo_o2 hhi_o2
  obtain ⟨A_o2, c_o2, hv_⟩ := SG2.out.slice
  subst hv_
  clear hS0_
  have HB_W2 := Aside0.mk (below_then HB_W1.out HB_W1.out.size hb_)
  have t_ := Aside0.mk (SG1.out.below hb_)
  clear SG1
  have SG1 := t_
  clear t_
  have t_ := Aside0.mk (Nat.le_trans OS1.out (hb_).size)
  clear OS1
  have OS1 := t_
  clear t_
  clear HB_W1
  clear hb_
  go_wp2_with fail
  (with_reducible refine (laws_eqIntSS.calls kq0 _ _ r1 _ _ r1 true _ (SG2.out.reads.2.2) (SG2.out.reads.2.1) (SG1.out.reads.2.2) (SG1.out.reads.2.1) HQ0.out).mono ?_)
  rintro e W3 ⟨rfl, hd_⟩
  have hb_ := hd_.below
  clear hd_
  have HB_W3 := Aside0.mk (below_then HB_W2.out HB_W2.out.size hb_)
  have t_ := Aside0.mk (SG1.out.below hb_)
  clear SG1
  have SG1 := t_
  clear t_
  have t_ := Aside0.mk (SG2.out.below hb_)
  clear SG2
  have SG2 := t_
  clear t_
  have t_ := Aside0.mk (Nat.le_trans OS1.out (hb_).size)
  clear OS1
  have OS1 := t_
  clear t_
  have t_ := Aside0.mk (Nat.le_trans OS2.out (hb_).size)
  clear OS2
  have OS2 := t_
  clear t_
  clear HB_W2
  clear hb_
  go_wp2_with fail
  (with_reducible refine (markSS_any lo_o2 hi_o2 _ r1 (1) _ SG2.out (by omega) (by have := hbt0; omega) hbt0).mono ?_)
  rintro e W4 ⟨rfl, hS_, hb_⟩
  have HB_W4 := Aside0.mk (Moved.below hb_ HB_W3.out HB_W3.out.size (by have h1 := OR2.out; omega))
  have t_ := Aside0.mk (SG1.out.move hb_ (by have h1 := OR1.out; have h2 := OR2.out; omega))
  clear SG1
  have SG1 := t_
  clear t_
  have t_ := Aside0.mk (Nat.le_trans OS1.out (hb_).size)
  clear OS1
  have OS1 := t_
  clear t_
  have t_ := Aside0.mk (Nat.le_trans OS2.out (hb_).size)
  clear OS2
  have OS2 := t_
  clear t_
  clear HB_W3
  clear SG2
  have SG2 := Aside0.mk hS_
  clear hS_ hb_
  go_wp2_with fail
  have hc_ := laws_heldIntSS.calls kh0 A_o2 c_o2 (marked r1 (1)) 1 (1 + (total r1 : Int)) W4 (SG2.out.reads.2.2) (by rw [marked_length]; exact (SG2.out.reads.2.1)) HH0.out
  rw [marked_length] at hc_
  (with_reducible refine hc_.mono ?_)
  clear hc_
  rintro e W5 ⟨rfl, hd_⟩
  have hb_ := hd_.below
  clear hd_
  have HB_W5 := Aside0.mk (below_then HB_W4.out HB_W4.out.size hb_)
  have t_ := Aside0.mk (SG1.out.below hb_)
  clear SG1
  have SG1 := t_
  clear t_
  have t_ := Aside0.mk (SG2.out.below hb_)
  clear SG2
  have SG2 := t_
  clear t_
  have t_ := Aside0.mk (Nat.le_trans OS1.out (hb_).size)
  clear OS1
  have OS1 := t_
  clear t_
  have t_ := Aside0.mk (Nat.le_trans OS2.out (hb_).size)
  clear OS2
  have OS2 := t_
  clear t_
  clear HB_W4
  clear hb_
  go_wp2_with fail
  (with_reducible refine (impl_ParseSigns.calls ki a0 r1 r2 _  HI.out).mono ?_)
  rintro e W6 ⟨v0_, rfl, hS0_, hb_⟩
  have SG3 := Aside0.mk (Seg.of_S hS0_)
  obtain ⟨lo_o3, hlo_o3⟩ : ∃ x, x = W5.heap.size := ⟨_, rfl⟩
  obtain ⟨hi_o3, hhi_o3⟩ : ∃ x, x = W6.heap.size := ⟨_, rfl⟩
  have OR3 : Aside0 (w.heap.size ≤ lo_o3 ∧ hi_o1 ≤ lo_o3 ∧ hi_o2 ≤ lo_o3) := ⟨by have h1 := HB_W5.out.size; have g0 := OS1.out; have g1 := OS2.out; omega⟩
  have OS3 : Aside0 (hi_o3 ≤ W6.heap.size) := ⟨by omega⟩
  rw [← hlo_o3, ← hhi_o3] at SG3
  clear hlo_o3 hhi_o3
  obtain ⟨A_o3, c_o3, hv_⟩ := SG3.out.slice
  subst hv_
  clear hS0_
  have HB_W6 := Aside0.mk (below_then HB_W5.out HB_W5.out.size hb_)
  have t_ := Aside0.mk (SG1.out.below hb_)
  clear SG1
  have SG1 := t_
  clear t_
  have t_ := Aside0.mk (SG2.out.below hb_)
  clear SG2
  have SG2 := t_
  clear t_
  have t_ := Aside0.mk (Nat.le_trans OS1.out (hb_).size)
  clear OS1
  have OS1 := t_
  clear t_
  have t_ := Aside0.mk (Nat.le_trans OS2.out (hb_).size)
  clear OS2
  have OS2 := t_
  clear t_
  clear HB_W5
  clear hb_
  go_wp2_with fail
  (with_reducible refine (laws_eqIntSS.calls kq0 _ _ r1 _ _ r1 true _ (SG3.out.reads.2.2) (SG3.out.reads.2.1) (SG1.out.reads.2.2) (SG1.out.reads.2.1) HQ0.out).mono ?_)
  rintro e W7 ⟨rfl, hd_⟩
  have hb_ := hd_.below
  clear hd_
  have HB_W7 := Aside0.mk (below_then HB_W6.out HB_W6.out.size hb_)
  have t_ := Aside0.mk (SG1.out.below hb_)
  clear SG1
  have SG1 := t_
  clear t_
  have t_ := Aside0.mk (SG2.out.below hb_)
  clear SG2
  have SG2 := t_
  clear t_
  have t_ := Aside0.mk (SG3.out.below hb_)
  clear SG3
  have SG3 := t_
  clear t_
  have t_ := Aside0.mk (Nat.le_trans OS1.out (hb_).size)
  clear OS1
  have OS1 := t_
  clear t_
  have t_ := Aside0.mk (Nat.le_trans OS2.out (hb_).size)
  clear OS2
  have OS2 := t_
  clear t_
  have t_ := Aside0.mk (Nat.le_trans OS3.out (hb_).size)
  clear OS3
  have OS3 := t_
  clear t_
  clear HB_W6
  clear hb_
  go_wp2_with fail
  have hc_ := laws_heldIntSS.calls kh0 A_o2 c_o2 (marked r1 (1)) 1 (1 + (total r1 : Int)) W7 (SG2.out.reads.2.2) (by rw [marked_length]; exact (SG2.out.reads.2.1)) HH0.out
  rw [marked_length] at hc_
  (with_reducible refine hc_.mono ?_)
  clear hc_
  rintro e W8 ⟨rfl, hd_⟩
  have hb_ := hd_.below
  clear hd_
  have HB_W8 := Aside0.mk (below_then HB_W7.out HB_W7.out.size hb_)
  have t_ := Aside0.mk (SG1.out.below hb_)
  clear SG1
  have SG1 := t_
  clear t_
  have t_ := Aside0.mk (SG2.out.below hb_)
  clear SG2
  have SG2 := t_
  clear t_
  have t_ := Aside0.mk (SG3.out.below hb_)
  clear SG3
  have SG3 := t_
  clear t_
  have t_ := Aside0.mk (Nat.le_trans OS1.out (hb_).size)
  clear OS1
  have OS1 := t_
  clear t_
  have t_ := Aside0.mk (Nat.le_trans OS2.out (hb_).size)
  clear OS2
  have OS2 := t_
  clear t_
  have t_ := Aside0.mk (Nat.le_trans OS3.out (hb_).size)
  clear OS3
  have OS3 := t_
  clear t_
  clear HB_W7
  clear hb_
  go_wp2
  go_ret
  exact ⟨rfl, HB_W8.out⟩
end Go.Proofs.YthjiajkmaimbjaaDoor.P
