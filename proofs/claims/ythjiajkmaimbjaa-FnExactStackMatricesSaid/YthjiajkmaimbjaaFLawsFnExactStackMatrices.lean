-- By gp.py (this session's own driver over the kit's print). Not trusted: Lean checks it.
import Derived.Test.YthjiajkmaimbjaaF0
import Derived.Test.YthjiajkmaimbjaaB
import Derived.Test.YthjiajkmaimbjaaPL
import Derived.Test.YthjiajkmaimbjaaFImplStackMatrices
import Derived.Test.YthjiajkmaimbjaaFLaws
import Derived.Test.YthjiajkmaimbjaaFSpecStackMatrices
namespace Go.Proofs.Ythjiajkmaimbjaa.P
open Go.Proofs.Ythjiajkmaimbjaa.B
open Go.RowKit Go.Proofs.YthjiajkmaimbjaaW.PrintWords Go.Proofs.YthjiajkmaimbjaaW.PrintLast Go.Proofs.YthjiajkmaimbjaaW.PrintMore
attribute [local go_sem] max2_int min2_int max_two min_two max_three min_three max_four min_four   -- for this text's walks alone
set_option linter.unusedVariables false
set_option linter.unusedSimpArgs false

/-- The law over lists alone: program and reference answer the same. -/
def laws_FnExactStackMatrices.Pure : Prop := ∀ (l0 : List (List Int)) (l1 : List (List Int)), l0.length ≤ 1048576 → total l0 ≤ 1048576 → (∀ x ∈ l0, ∀ y ∈ x, (Lit.int .i64 y).wf = true) → l1.length ≤ 1048576 → total l1 ≤ 1048576 → (∀ x ∈ l1, ∀ y ∈ x, (Lit.int .i64 y).wf = true) → ∃ (r1 : List (List Int)) (r2 : Bool), (∃ k, spec_StackMatrices.f k l0 l1 = some (r1, r2)) ∧ (∃ k, impl_StackMatrices.f k l0 l1 = some (r1, r2)) ∧ total r1 ≤ 1048576 ∧ r1.length ≤ 1048576
set_option maxHeartbeats 16000000 in
set_option maxRecDepth 100000 in
theorem laws_FnExactStackMatrices.walk (P : laws_FnExactStackMatrices.Pure) (A0 : Option Addr) (c0 : Nat) (l0 : List (List Int)) (A1 : Option Addr) (c1 : Nat) (l1 : List (List Int)) (w : World) (hr0 : Kd.C (Kd.slice 3 (Kd.int .i64)) w A0 l0.length l0) (hc0 : l0.length ≤ c0) (hn0 : l0.length ≤ 9223372036854775807) (hm0 : ∀ x ∈ l0, x.length ≤ 9223372036854775807) (hw0 : ∀ x ∈ l0, ∀ y ∈ x, (Lit.int .i64 y).wf = true) (hr1 : Kd.C (Kd.slice 3 (Kd.int .i64)) w A1 l1.length l1) (hc1 : l1.length ≤ c1) (hn1 : l1.length ≤ 9223372036854775807) (hm1 : ∀ x ∈ l1, x.length ≤ 9223372036854775807) (hw1 : ∀ x ∈ l1, ∀ y ∈ x, (Lit.int .i64 y).wf = true) :
    Calls Try.prog 9 #[.slice A0 l0.length c0, .slice A1 l1.length c1] w fun e w' => e = .returned (.bool true) ∧ Below w.heap.size w w' := by
  have HB0 := Aside0.mk (Below.refl w.heap.size w)
  have HR0 := Aside0.mk hr0
  clear hr0
  have HR1 := Aside0.mk hr1
  clear hr1
  obtain ⟨kz0, hz0⟩ := (ev_szIntSS l0 (1048576) (by omega) (by omega) hn0 hm0).rounds
  have HZE0 := Aside0.mk hz0
  clear hz0
  have hzo0 := szT_ok l0 (1048576)
  have hzl0 := szT_le l0 (1048576) (by omega)
  obtain ⟨sz0, hesz0⟩ : ∃ x, x = szT l0 (1048576) := ⟨_, rfl⟩
  rw [← hesz0] at HZE0 hzo0 hzl0
  clear hesz0
  have HZO0 := Aside0.mk hzo0
  clear hzo0
  by_cases hneg0 : sz0 < 0
  · have hnb : decide (sz0 < 0) = true := decide_eq_true hneg0
    go_enter Try.func9, Try.ntmps9
    go_wp2_with fail
    (with_reducible refine (laws_szIntSS.calls kz0 A0 c0 l0 (1048576) sz0 _ (Kd.C_below HR0.out HB0.out) hc0 HZE0.out).mono ?_)
    rintro e W1 ⟨rfl, hd_⟩
    have hb_ := hd_.below
    clear hd_
    have HB_W1 := Aside0.mk (below_then HB0.out HB0.out.size hb_)
    clear hb_
    go_wp2
    go_ret
    exact ⟨rfl, HB_W1.out⟩
  have hnb0 : decide (sz0 < 0) = false := decide_eq_false hneg0
  have hz_ := HZO0.out hneg0
  have hpos0 : 0 ≤ sz0 := by omega
  have HZ0 := Aside0.mk (show l0.length ≤ 1048576 ∧ total l0 ≤ 1048576 by omega)
  clear hneg0 hz_
  go_enter Try.func9, Try.ntmps9
  go_wp2_with fail
  (with_reducible refine (laws_szIntSS.calls kz0 A0 c0 l0 (1048576) sz0 _ (Kd.C_below HR0.out HB0.out) hc0 HZE0.out).mono ?_)
  rintro e W2 ⟨rfl, hd_⟩
  have hb_ := hd_.below
  clear hd_
  have HB_W2 := Aside0.mk (below_then HB0.out HB0.out.size hb_)
  clear hb_
  obtain ⟨kz1, hz1⟩ := (ev_szIntSS l1 (sz0) (by omega) (by omega) hn1 hm1).rounds
  have HZE1 := Aside0.mk hz1
  clear hz1
  have hzo1 := szT_ok l1 (sz0)
  have hzl1 := szT_le l1 (sz0) (by omega)
  obtain ⟨sz1, hesz1⟩ : ∃ x, x = szT l1 (sz0) := ⟨_, rfl⟩
  rw [← hesz1] at HZE1 hzo1 hzl1
  clear hesz1
  have HZO1 := Aside0.mk hzo1
  clear hzo1
  by_cases hneg1 : sz1 < 0
  · have hnb : decide (sz1 < 0) = true := decide_eq_true hneg1
    go_wp2_with fail
    (with_reducible refine (laws_szIntSS.calls kz1 A1 c1 l1 (sz0) sz1 _ (Kd.C_below HR1.out HB_W2.out) hc1 HZE1.out).mono ?_)
    rintro e W3 ⟨rfl, hd_⟩
    have hb_ := hd_.below
    clear hd_
    have HB_W3 := Aside0.mk (below_then HB_W2.out HB_W2.out.size hb_)
    clear HB_W2
    clear hb_
    go_wp2
    go_ret
    exact ⟨rfl, HB_W3.out⟩
  have hnb1 : decide (sz1 < 0) = false := decide_eq_false hneg1
  have hz_ := HZO1.out hneg1
  have hpos1 : 0 ≤ sz1 := by omega
  have HZ1 := Aside0.mk (show l1.length ≤ 1048576 ∧ total l1 ≤ 1048576 by omega)
  clear hneg1 hz_
  go_wp2_with fail
  (with_reducible refine (laws_szIntSS.calls kz1 A1 c1 l1 (sz0) sz1 _ (Kd.C_below HR1.out HB_W2.out) hc1 HZE1.out).mono ?_)
  rintro e W4 ⟨rfl, hd_⟩
  have hb_ := hd_.below
  clear hd_
  have HB_W4 := Aside0.mk (below_then HB_W2.out HB_W2.out.size hb_)
  clear HB_W2
  clear hb_
  obtain ⟨r1, r2, ⟨ks, hs⟩, ⟨ki, hi⟩, ⟨hbt0, hbl0⟩⟩ := P l0 l1 HZ0.out.1 HZ0.out.2 hw0 HZ1.out.1 HZ1.out.2 hw1
  have HS := Aside0.mk hs
  have HI := Aside0.mk hi
  clear hs hi
  obtain ⟨kq0, hq0⟩ := (ev_eqIntSS r1 r1 (by omega) (fun x hx => by have := row_le_total r1 x hx; omega)).rounds
  rw [decide_eq_true rfl] at hq0
  obtain ⟨kh0, hh0⟩ := (ev_heldIntSS r1 1 (by omega) (by omega) hbt0 (by omega)).rounds
  have HQ0 := Aside0.mk hq0
  have HH0 := Aside0.mk hh0
  clear hq0 hh0
  obtain ⟨ke0, he0⟩ := (ev_eqIntSS l0 l0 (by have := HZ0.out.1; omega) (fun x hx => by have := row_le_total l0 x hx; have := HZ0.out.2; omega)).rounds
  rw [decide_eq_true rfl] at he0
  have HE0 := Aside0.mk he0
  clear he0
  obtain ⟨ke1, he1⟩ := (ev_eqIntSS l1 l1 (by have := HZ1.out.1; omega) (fun x hx => by have := row_le_total l1 x hx; have := HZ1.out.2; omega)).rounds
  rw [decide_eq_true rfl] at he1
  have HE1 := Aside0.mk he1
  clear he1
  clear hw0
  clear hw1
  go_wp2_with fail
  (with_reducible refine (laws_toIntSS.calls _ _ l0 l0 _ (Kd.C_below HR0.out HB_W4.out) hc0 (by unfold laws_toIntSS.f; rw [if_pos ⟨HZ0.out.1, fun x hx => Nat.le_trans (row_le_total l0 x hx) HZ0.out.2⟩])).mono ?_)
  rintro e W5 ⟨v_, rfl, hS_, hb_⟩
  have SG1 := Aside0.mk (Seg.of_S hS_)
  obtain ⟨lo_o1, hlo_o1⟩ : ∃ x, x = W4.heap.size := ⟨_, rfl⟩
  obtain ⟨hi_o1, hhi_o1⟩ : ∃ x, x = W5.heap.size := ⟨_, rfl⟩
  have OR1 : Aside0 (w.heap.size ≤ lo_o1) := ⟨by have h1 := HB_W4.out.size; omega⟩
  have OS1 : Aside0 (hi_o1 ≤ W5.heap.size) := ⟨by omega⟩
  rw [← hlo_o1, ← hhi_o1] at SG1
  clear hlo_o1 hhi_o1
  obtain ⟨A_o1, c_o1, hv_⟩ := SG1.out.slice
  subst hv_
  clear hS_
  have HB_W5 := Aside0.mk (below_then HB_W4.out HB_W4.out.size hb_)
  clear HB_W4
  clear hb_
  go_wp2_with fail
  (with_reducible refine (laws_toIntSS.calls _ _ l1 l1 _ (Kd.C_below HR1.out HB_W5.out) hc1 (by unfold laws_toIntSS.f; rw [if_pos ⟨HZ1.out.1, fun x hx => Nat.le_trans (row_le_total l1 x hx) HZ1.out.2⟩])).mono ?_)
  rintro e W6 ⟨v_, rfl, hS_, hb_⟩
  have SG2 := Aside0.mk (Seg.of_S hS_)
  obtain ⟨lo_o2, hlo_o2⟩ : ∃ x, x = W5.heap.size := ⟨_, rfl⟩
  obtain ⟨hi_o2, hhi_o2⟩ : ∃ x, x = W6.heap.size := ⟨_, rfl⟩
  have OR2 : Aside0 (w.heap.size ≤ lo_o2 ∧ hi_o1 ≤ lo_o2) := ⟨by have h1 := HB_W5.out.size; have g0 := OS1.out; omega⟩
  have OS2 : Aside0 (hi_o2 ≤ W6.heap.size) := ⟨by omega⟩
  rw [← hlo_o2, ← hhi_o2] at SG2
  clear hlo_o2 hhi_o2
  obtain ⟨A_o2, c_o2, hv_⟩ := SG2.out.slice
  subst hv_
  clear hS_
  have HB_W6 := Aside0.mk (below_then HB_W5.out HB_W5.out.size hb_)
  have t_ := Aside0.mk (SG1.out.below hb_)
  clear SG1
  have SG1 := t_
  clear t_
  have t_ := Aside0.mk (Nat.le_trans OS1.out (hb_).size)
  clear OS1
  have OS1 := t_
  clear t_
  clear HB_W5
  clear hb_
  go_wp2_with fail
  (with_reducible refine (spec_StackMatrices.calls ks _ _ l0 _ _ l1 r1 r2 _ (SG1.out.reads.2.2) (SG1.out.reads.2.1) (SG2.out.reads.2.2) (SG2.out.reads.2.1) HS.out).mono ?_)
  rintro e W7 ⟨v0_, rfl, hS0_, hb_⟩
  have SG3 := Aside0.mk (Seg.of_S hS0_)
  obtain ⟨lo_o3, hlo_o3⟩ : ∃ x, x = W6.heap.size := ⟨_, rfl⟩
  obtain ⟨hi_o3, hhi_o3⟩ : ∃ x, x = W7.heap.size := ⟨_, rfl⟩
  have OR3 : Aside0 (w.heap.size ≤ lo_o3 ∧ hi_o1 ≤ lo_o3 ∧ hi_o2 ≤ lo_o3) := ⟨by have h1 := HB_W6.out.size; have g0 := OS1.out; have g1 := OS2.out; omega⟩
  have OS3 : Aside0 (hi_o3 ≤ W7.heap.size) := ⟨by omega⟩
  rw [← hlo_o3, ← hhi_o3] at SG3
  clear hlo_o3 hhi_o3
  obtain ⟨A_o3, c_o3, hv_⟩ := SG3.out.slice
  subst hv_
  clear hS0_
  have HB_W7 := Aside0.mk (below_then HB_W6.out HB_W6.out.size hb_)
  have t_ := Aside0.mk (SG1.out.below hb_)
  clear SG1
  have SG1 := t_
  clear t_
  have t_ := Aside0.mk (SG2.out.below hb_)
  clear SG2
  have SG2 := t_
  clear t_
  have t_ := Aside0.mk (Nat.le_trans OS1.out (hb_).size)
  clear OS1
  have OS1 := t_
  clear t_
  have t_ := Aside0.mk (Nat.le_trans OS2.out (hb_).size)
  clear OS2
  have OS2 := t_
  clear t_
  clear HB_W6
  clear hb_
  go_wp2_with fail
  (with_reducible refine (laws_toIntSS.calls _ _ l0 l0 _ (Kd.C_below HR0.out HB_W7.out) hc0 (by unfold laws_toIntSS.f; rw [if_pos ⟨HZ0.out.1, fun x hx => Nat.le_trans (row_le_total l0 x hx) HZ0.out.2⟩])).mono ?_)
  rintro e W8 ⟨v_, rfl, hS_, hb_⟩
  have SG4 := Aside0.mk (Seg.of_S hS_)
  obtain ⟨lo_o4, hlo_o4⟩ : ∃ x, x = W7.heap.size := ⟨_, rfl⟩
  obtain ⟨hi_o4, hhi_o4⟩ : ∃ x, x = W8.heap.size := ⟨_, rfl⟩
  have OR4 : Aside0 (w.heap.size ≤ lo_o4 ∧ hi_o1 ≤ lo_o4 ∧ hi_o2 ≤ lo_o4 ∧ hi_o3 ≤ lo_o4) := ⟨by have h1 := HB_W7.out.size; have g0 := OS1.out; have g1 := OS2.out; have g2 := OS3.out; omega⟩
  have OS4 : Aside0 (hi_o4 ≤ W8.heap.size) := ⟨by omega⟩
  rw [← hlo_o4, ← hhi_o4] at SG4
  clear hlo_o4 hhi_o4
  obtain ⟨A_o4, c_o4, hv_⟩ := SG4.out.slice
  subst hv_
  clear hS_
  have HB_W8 := Aside0.mk (below_then HB_W7.out HB_W7.out.size hb_)
  have t_ := Aside0.mk (SG1.out.below hb_)
  clear SG1
  have SG1 := t_
  clear t_
  have t_ := Aside0.mk (SG2.out.below hb_)
  clear SG2
  have SG2 := t_
  clear t_
  have t_ := Aside0.mk (SG3.out.below hb_)
  clear SG3
  have SG3 := t_
  clear t_
  have t_ := Aside0.mk (Nat.le_trans OS1.out (hb_).size)
  clear OS1
  have OS1 := t_
  clear t_
  have t_ := Aside0.mk (Nat.le_trans OS2.out (hb_).size)
  clear OS2
  have OS2 := t_
  clear t_
  have t_ := Aside0.mk (Nat.le_trans OS3.out (hb_).size)
  clear OS3
  have OS3 := t_
  clear t_
  clear HB_W7
  clear hb_
  go_wp2_with fail
  (with_reducible refine (laws_toIntSS.calls _ _ l1 l1 _ (Kd.C_below HR1.out HB_W8.out) hc1 (by unfold laws_toIntSS.f; rw [if_pos ⟨HZ1.out.1, fun x hx => Nat.le_trans (row_le_total l1 x hx) HZ1.out.2⟩])).mono ?_)
  rintro e W9 ⟨v_, rfl, hS_, hb_⟩
  have SG5 := Aside0.mk (Seg.of_S hS_)
  obtain ⟨lo_o5, hlo_o5⟩ : ∃ x, x = W8.heap.size := ⟨_, rfl⟩
  obtain ⟨hi_o5, hhi_o5⟩ : ∃ x, x = W9.heap.size := ⟨_, rfl⟩
  have OR5 : Aside0 (w.heap.size ≤ lo_o5 ∧ hi_o1 ≤ lo_o5 ∧ hi_o2 ≤ lo_o5 ∧ hi_o3 ≤ lo_o5 ∧ hi_o4 ≤ lo_o5) := ⟨by have h1 := HB_W8.out.size; have g0 := OS1.out; have g1 := OS2.out; have g2 := OS3.out; have g3 := OS4.out; omega⟩
  have OS5 : Aside0 (hi_o5 ≤ W9.heap.size) := ⟨by omega⟩
  rw [← hlo_o5, ← hhi_o5] at SG5
  clear hlo_o5 hhi_o5
  obtain ⟨A_o5, c_o5, hv_⟩ := SG5.out.slice
  subst hv_
  clear hS_
  have HB_W9 := Aside0.mk (below_then HB_W8.out HB_W8.out.size hb_)
  have t_ := Aside0.mk (SG1.out.below hb_)
  clear SG1
  have SG1 := t_
  clear t_
  have t_ := Aside0.mk (SG2.out.below hb_)
  clear SG2
  have SG2 := t_
  clear t_
  have t_ := Aside0.mk (SG3.out.below hb_)
  clear SG3
  have SG3 := t_
  clear t_
  have t_ := Aside0.mk (SG4.out.below hb_)
  clear SG4
  have SG4 := t_
  clear t_
  have t_ := Aside0.mk (Nat.le_trans OS1.out (hb_).size)
  clear OS1
  have OS1 := t_
  clear t_
  have t_ := Aside0.mk (Nat.le_trans OS2.out (hb_).size)
  clear OS2
  have OS2 := t_
  clear t_
  have t_ := Aside0.mk (Nat.le_trans OS3.out (hb_).size)
  clear OS3
  have OS3 := t_
  clear t_
  have t_ := Aside0.mk (Nat.le_trans OS4.out (hb_).size)
  clear OS4
  have OS4 := t_
  clear t_
  clear HB_W8
  clear hb_
  go_wp2_with fail
  (with_reducible refine (impl_StackMatrices.calls ki _ _ l0 _ _ l1 r1 r2 _ (SG4.out.reads.2.2) (SG4.out.reads.2.1) (SG5.out.reads.2.2) (SG5.out.reads.2.1) HI.out).mono ?_)
  rintro e W10 ⟨v0_, rfl, hS0_, hb_⟩
  have SG6 := Aside0.mk (Seg.of_S hS0_)
  obtain ⟨lo_o6, hlo_o6⟩ : ∃ x, x = W9.heap.size := ⟨_, rfl⟩
  obtain ⟨hi_o6, hhi_o6⟩ : ∃ x, x = W10.heap.size := ⟨_, rfl⟩
  have OR6 : Aside0 (w.heap.size ≤ lo_o6 ∧ hi_o1 ≤ lo_o6 ∧ hi_o2 ≤ lo_o6 ∧ hi_o3 ≤ lo_o6 ∧ hi_o4 ≤ lo_o6 ∧ hi_o5 ≤ lo_o6) := ⟨by have h1 := HB_W9.out.size; have g0 := OS1.out; have g1 := OS2.out; have g2 := OS3.out; have g3 := OS4.out; have g4 := OS5.out; omega⟩
  have OS6 : Aside0 (hi_o6 ≤ W10.heap.size) := ⟨by omega⟩
  rw [← hlo_o6, ← hhi_o6] at SG6
  clear hlo_o6 hhi_o6
  obtain ⟨A_o6, c_o6, hv_⟩ := SG6.out.slice
  subst hv_
  clear hS0_
  have HB_W10 := Aside0.mk (below_then HB_W9.out HB_W9.out.size hb_)
  have t_ := Aside0.mk (SG1.out.below hb_)
  clear SG1
  have SG1 := t_
  clear t_
  have t_ := Aside0.mk (SG2.out.below hb_)
  clear SG2
  have SG2 := t_
  clear t_
  have t_ := Aside0.mk (SG3.out.below hb_)
  clear SG3
  have SG3 := t_
  clear t_
  have t_ := Aside0.mk (SG4.out.below hb_)
  clear SG4
  have SG4 := t_
  clear t_
  have t_ := Aside0.mk (SG5.out.below hb_)
  clear SG5
  have SG5 := t_
  clear t_
  have t_ := Aside0.mk (Nat.le_trans OS1.out (hb_).size)
  clear OS1
  have OS1 := t_
  clear t_
  have t_ := Aside0.mk (Nat.le_trans OS2.out (hb_).size)
  clear OS2
  have OS2 := t_
  clear t_
  have t_ := Aside0.mk (Nat.le_trans OS3.out (hb_).size)
  clear OS3
  have OS3 := t_
  clear t_
  have t_ := Aside0.mk (Nat.le_trans OS4.out (hb_).size)
  clear OS4
  have OS4 := t_
  clear t_
  have t_ := Aside0.mk (Nat.le_trans OS5.out (hb_).size)
  clear OS5
  have OS5 := t_
  clear t_
  clear HB_W9
  clear hb_
  go_wp2_with fail
  (with_reducible refine (laws_eqIntSS.calls kq0 _ _ r1 _ _ r1 true _ (SG6.out.reads.2.2) (SG6.out.reads.2.1) (SG3.out.reads.2.2) (SG3.out.reads.2.1) HQ0.out).mono ?_)
  rintro e W11 ⟨rfl, hd_⟩
  have hb_ := hd_.below
  clear hd_
  have HB_W11 := Aside0.mk (below_then HB_W10.out HB_W10.out.size hb_)
  have t_ := Aside0.mk (SG1.out.below hb_)
  clear SG1
  have SG1 := t_
  clear t_
  have t_ := Aside0.mk (SG2.out.below hb_)
  clear SG2
  have SG2 := t_
  clear t_
  have t_ := Aside0.mk (SG3.out.below hb_)
  clear SG3
  have SG3 := t_
  clear t_
  have t_ := Aside0.mk (SG4.out.below hb_)
  clear SG4
  have SG4 := t_
  clear t_
  have t_ := Aside0.mk (SG5.out.below hb_)
  clear SG5
  have SG5 := t_
  clear t_
  have t_ := Aside0.mk (SG6.out.below hb_)
  clear SG6
  have SG6 := t_
  clear t_
  have t_ := Aside0.mk (Nat.le_trans OS1.out (hb_).size)
  clear OS1
  have OS1 := t_
  clear t_
  have t_ := Aside0.mk (Nat.le_trans OS2.out (hb_).size)
  clear OS2
  have OS2 := t_
  clear t_
  have t_ := Aside0.mk (Nat.le_trans OS3.out (hb_).size)
  clear OS3
  have OS3 := t_
  clear t_
  have t_ := Aside0.mk (Nat.le_trans OS4.out (hb_).size)
  clear OS4
  have OS4 := t_
  clear t_
  have t_ := Aside0.mk (Nat.le_trans OS5.out (hb_).size)
  clear OS5
  have OS5 := t_
  clear t_
  have t_ := Aside0.mk (Nat.le_trans OS6.out (hb_).size)
  clear OS6
  have OS6 := t_
  clear t_
  clear HB_W10
  clear hb_
  go_wp2_with fail
  (with_reducible refine (laws_toIntSS.calls _ _ l0 l0 _ (Kd.C_below HR0.out HB_W11.out) hc0 (by unfold laws_toIntSS.f; rw [if_pos ⟨HZ0.out.1, fun x hx => Nat.le_trans (row_le_total l0 x hx) HZ0.out.2⟩])).mono ?_)
  rintro e W12 ⟨v_, rfl, hS_, hb_⟩
  have SG7 := Aside0.mk (Seg.of_S hS_)
  obtain ⟨lo_o7, hlo_o7⟩ : ∃ x, x = W11.heap.size := ⟨_, rfl⟩
  obtain ⟨hi_o7, hhi_o7⟩ : ∃ x, x = W12.heap.size := ⟨_, rfl⟩
  have OR7 : Aside0 (w.heap.size ≤ lo_o7 ∧ hi_o1 ≤ lo_o7 ∧ hi_o2 ≤ lo_o7 ∧ hi_o3 ≤ lo_o7 ∧ hi_o4 ≤ lo_o7 ∧ hi_o5 ≤ lo_o7 ∧ hi_o6 ≤ lo_o7) := ⟨by have h1 := HB_W11.out.size; have g0 := OS1.out; have g1 := OS2.out; have g2 := OS3.out; have g3 := OS4.out; have g4 := OS5.out; have g5 := OS6.out; omega⟩
  have OS7 : Aside0 (hi_o7 ≤ W12.heap.size) := ⟨by omega⟩
  rw [← hlo_o7, ← hhi_o7] at SG7
  clear hlo_o7 hhi_o7
  obtain ⟨A_o7, c_o7, hv_⟩ := SG7.out.slice
  subst hv_
  clear hS_
  have HB_W12 := Aside0.mk (below_then HB_W11.out HB_W11.out.size hb_)
  have t_ := Aside0.mk (SG1.out.below hb_)
  clear SG1
  have SG1 := t_
  clear t_
  have t_ := Aside0.mk (SG2.out.below hb_)
  clear SG2
  have SG2 := t_
  clear t_
  have t_ := Aside0.mk (SG3.out.below hb_)
  clear SG3
  have SG3 := t_
  clear t_
  have t_ := Aside0.mk (SG4.out.below hb_)
  clear SG4
  have SG4 := t_
  clear t_
  have t_ := Aside0.mk (SG5.out.below hb_)
  clear SG5
  have SG5 := t_
  clear t_
  have t_ := Aside0.mk (SG6.out.below hb_)
  clear SG6
  have SG6 := t_
  clear t_
  have t_ := Aside0.mk (Nat.le_trans OS1.out (hb_).size)
  clear OS1
  have OS1 := t_
  clear t_
  have t_ := Aside0.mk (Nat.le_trans OS2.out (hb_).size)
  clear OS2
  have OS2 := t_
  clear t_
  have t_ := Aside0.mk (Nat.le_trans OS3.out (hb_).size)
  clear OS3
  have OS3 := t_
  clear t_
  have t_ := Aside0.mk (Nat.le_trans OS4.out (hb_).size)
  clear OS4
  have OS4 := t_
  clear t_
  have t_ := Aside0.mk (Nat.le_trans OS5.out (hb_).size)
  clear OS5
  have OS5 := t_
  clear t_
  have t_ := Aside0.mk (Nat.le_trans OS6.out (hb_).size)
  clear OS6
  have OS6 := t_
  clear t_
  clear HB_W11
  clear hb_
  go_wp2_with fail
  (with_reducible refine (laws_eqIntSS.calls ke0 _ _ l0 _ _ l0 true _ (SG4.out.reads.2.2) (SG4.out.reads.2.1) (SG7.out.reads.2.2) (SG7.out.reads.2.1) HE0.out).mono ?_)
  rintro e W13 ⟨rfl, hd_⟩
  have hb_ := hd_.below
  clear hd_
  have HB_W13 := Aside0.mk (below_then HB_W12.out HB_W12.out.size hb_)
  have t_ := Aside0.mk (SG1.out.below hb_)
  clear SG1
  have SG1 := t_
  clear t_
  have t_ := Aside0.mk (SG2.out.below hb_)
  clear SG2
  have SG2 := t_
  clear t_
  have t_ := Aside0.mk (SG3.out.below hb_)
  clear SG3
  have SG3 := t_
  clear t_
  have t_ := Aside0.mk (SG4.out.below hb_)
  clear SG4
  have SG4 := t_
  clear t_
  have t_ := Aside0.mk (SG5.out.below hb_)
  clear SG5
  have SG5 := t_
  clear t_
  have t_ := Aside0.mk (SG6.out.below hb_)
  clear SG6
  have SG6 := t_
  clear t_
  have t_ := Aside0.mk (SG7.out.below hb_)
  clear SG7
  have SG7 := t_
  clear t_
  have t_ := Aside0.mk (Nat.le_trans OS1.out (hb_).size)
  clear OS1
  have OS1 := t_
  clear t_
  have t_ := Aside0.mk (Nat.le_trans OS2.out (hb_).size)
  clear OS2
  have OS2 := t_
  clear t_
  have t_ := Aside0.mk (Nat.le_trans OS3.out (hb_).size)
  clear OS3
  have OS3 := t_
  clear t_
  have t_ := Aside0.mk (Nat.le_trans OS4.out (hb_).size)
  clear OS4
  have OS4 := t_
  clear t_
  have t_ := Aside0.mk (Nat.le_trans OS5.out (hb_).size)
  clear OS5
  have OS5 := t_
  clear t_
  have t_ := Aside0.mk (Nat.le_trans OS6.out (hb_).size)
  clear OS6
  have OS6 := t_
  clear t_
  have t_ := Aside0.mk (Nat.le_trans OS7.out (hb_).size)
  clear OS7
  have OS7 := t_
  clear t_
  clear HB_W12
  clear hb_
  go_wp2_with fail
  (with_reducible refine (laws_toIntSS.calls _ _ l1 l1 _ (Kd.C_below HR1.out HB_W13.out) hc1 (by unfold laws_toIntSS.f; rw [if_pos ⟨HZ1.out.1, fun x hx => Nat.le_trans (row_le_total l1 x hx) HZ1.out.2⟩])).mono ?_)
  rintro e W14 ⟨v_, rfl, hS_, hb_⟩
  have SG8 := Aside0.mk (Seg.of_S hS_)
  obtain ⟨lo_o8, hlo_o8⟩ : ∃ x, x = W13.heap.size := ⟨_, rfl⟩
  obtain ⟨hi_o8, hhi_o8⟩ : ∃ x, x = W14.heap.size := ⟨_, rfl⟩
  have OR8 : Aside0 (w.heap.size ≤ lo_o8 ∧ hi_o1 ≤ lo_o8 ∧ hi_o2 ≤ lo_o8 ∧ hi_o3 ≤ lo_o8 ∧ hi_o4 ≤ lo_o8 ∧ hi_o5 ≤ lo_o8 ∧ hi_o6 ≤ lo_o8 ∧ hi_o7 ≤ lo_o8) := ⟨by have h1 := HB_W13.out.size; have g0 := OS1.out; have g1 := OS2.out; have g2 := OS3.out; have g3 := OS4.out; have g4 := OS5.out; have g5 := OS6.out; have g6 := OS7.out; omega⟩
  have OS8 : Aside0 (hi_o8 ≤ W14.heap.size) := ⟨by omega⟩
  rw [← hlo_o8, ← hhi_o8] at SG8
  clear hlo_o8 hhi_o8
  obtain ⟨A_o8, c_o8, hv_⟩ := SG8.out.slice
  subst hv_
  clear hS_
  have HB_W14 := Aside0.mk (below_then HB_W13.out HB_W13.out.size hb_)
  have t_ := Aside0.mk (SG1.out.below hb_)
  clear SG1
  have SG1 := t_
  clear t_
  have t_ := Aside0.mk (SG2.out.below hb_)
  clear SG2
  have SG2 := t_
  clear t_
  have t_ := Aside0.mk (SG3.out.below hb_)
  clear SG3
  have SG3 := t_
  clear t_
  have t_ := Aside0.mk (SG4.out.below hb_)
  clear SG4
  have SG4 := t_
  clear t_
  have t_ := Aside0.mk (SG5.out.below hb_)
  clear SG5
  have SG5 := t_
  clear t_
  have t_ := Aside0.mk (SG6.out.below hb_)
  clear SG6
  have SG6 := t_
  clear t_
  have t_ := Aside0.mk (SG7.out.below hb_)
  clear SG7
  have SG7 := t_
  clear t_
  have t_ := Aside0.mk (Nat.le_trans OS1.out (hb_).size)
  clear OS1
  have OS1 := t_
  clear t_
  have t_ := Aside0.mk (Nat.le_trans OS2.out (hb_).size)
  clear OS2
  have OS2 := t_
  clear t_
  have t_ := Aside0.mk (Nat.le_trans OS3.out (hb_).size)
  clear OS3
  have OS3 := t_
  clear t_
  have t_ := Aside0.mk (Nat.le_trans OS4.out (hb_).size)
  clear OS4
  have OS4 := t_
  clear t_
  have t_ := Aside0.mk (Nat.le_trans OS5.out (hb_).size)
  clear OS5
  have OS5 := t_
  clear t_
  have t_ := Aside0.mk (Nat.le_trans OS6.out (hb_).size)
  clear OS6
  have OS6 := t_
  clear t_
  have t_ := Aside0.mk (Nat.le_trans OS7.out (hb_).size)
  clear OS7
  have OS7 := t_
  clear t_
  clear HB_W13
  clear hb_
  go_wp2_with fail
  (with_reducible refine (laws_eqIntSS.calls ke1 _ _ l1 _ _ l1 true _ (SG5.out.reads.2.2) (SG5.out.reads.2.1) (SG8.out.reads.2.2) (SG8.out.reads.2.1) HE1.out).mono ?_)
  rintro e W15 ⟨rfl, hd_⟩
  have hb_ := hd_.below
  clear hd_
  have HB_W15 := Aside0.mk (below_then HB_W14.out HB_W14.out.size hb_)
  have t_ := Aside0.mk (SG1.out.below hb_)
  clear SG1
  have SG1 := t_
  clear t_
  have t_ := Aside0.mk (SG2.out.below hb_)
  clear SG2
  have SG2 := t_
  clear t_
  have t_ := Aside0.mk (SG3.out.below hb_)
  clear SG3
  have SG3 := t_
  clear t_
  have t_ := Aside0.mk (SG4.out.below hb_)
  clear SG4
  have SG4 := t_
  clear t_
  have t_ := Aside0.mk (SG5.out.below hb_)
  clear SG5
  have SG5 := t_
  clear t_
  have t_ := Aside0.mk (SG6.out.below hb_)
  clear SG6
  have SG6 := t_
  clear t_
  have t_ := Aside0.mk (SG7.out.below hb_)
  clear SG7
  have SG7 := t_
  clear t_
  have t_ := Aside0.mk (SG8.out.below hb_)
  clear SG8
  have SG8 := t_
  clear t_
  have t_ := Aside0.mk (Nat.le_trans OS1.out (hb_).size)
  clear OS1
  have OS1 := t_
  clear t_
  have t_ := Aside0.mk (Nat.le_trans OS2.out (hb_).size)
  clear OS2
  have OS2 := t_
  clear t_
  have t_ := Aside0.mk (Nat.le_trans OS3.out (hb_).size)
  clear OS3
  have OS3 := t_
  clear t_
  have t_ := Aside0.mk (Nat.le_trans OS4.out (hb_).size)
  clear OS4
  have OS4 := t_
  clear t_
  have t_ := Aside0.mk (Nat.le_trans OS5.out (hb_).size)
  clear OS5
  have OS5 := t_
  clear t_
  have t_ := Aside0.mk (Nat.le_trans OS6.out (hb_).size)
  clear OS6
  have OS6 := t_
  clear t_
  have t_ := Aside0.mk (Nat.le_trans OS7.out (hb_).size)
  clear OS7
  have OS7 := t_
  clear t_
  have t_ := Aside0.mk (Nat.le_trans OS8.out (hb_).size)
  clear OS8
  have OS8 := t_
  clear t_
  clear HB_W14
  clear hb_
  go_wp2_with fail
  (with_reducible refine (markSS_any lo_o4 hi_o4 _ l0 (1) _ SG4.out (by omega) (by have := HZ0.out; have := HZ1.out; have := HZ0.out.2; omega) HZ0.out.2).mono ?_)
  rintro e W16 ⟨rfl, hS_, hb_⟩
  have HB_W16 := Aside0.mk (Moved.below hb_ HB_W15.out HB_W15.out.size (by have h1 := OR4.out; omega))
  have t_ := Aside0.mk (SG1.out.move hb_ (by have h1 := OR1.out; have h2 := OR4.out; omega))
  clear SG1
  have SG1 := t_
  clear t_
  have t_ := Aside0.mk (SG2.out.move hb_ (by have h1 := OR2.out; have h2 := OR4.out; omega))
  clear SG2
  have SG2 := t_
  clear t_
  have t_ := Aside0.mk (SG3.out.move hb_ (by have h1 := OR3.out; have h2 := OR4.out; omega))
  clear SG3
  have SG3 := t_
  clear t_
  have t_ := Aside0.mk (SG5.out.move hb_ (by have h1 := OR5.out; have h2 := OR4.out; omega))
  clear SG5
  have SG5 := t_
  clear t_
  have t_ := Aside0.mk (SG6.out.move hb_ (by have h1 := OR6.out; have h2 := OR4.out; omega))
  clear SG6
  have SG6 := t_
  clear t_
  have t_ := Aside0.mk (SG7.out.move hb_ (by have h1 := OR7.out; have h2 := OR4.out; omega))
  clear SG7
  have SG7 := t_
  clear t_
  have t_ := Aside0.mk (SG8.out.move hb_ (by have h1 := OR8.out; have h2 := OR4.out; omega))
  clear SG8
  have SG8 := t_
  clear t_
  have t_ := Aside0.mk (Nat.le_trans OS1.out (hb_).size)
  clear OS1
  have OS1 := t_
  clear t_
  have t_ := Aside0.mk (Nat.le_trans OS2.out (hb_).size)
  clear OS2
  have OS2 := t_
  clear t_
  have t_ := Aside0.mk (Nat.le_trans OS3.out (hb_).size)
  clear OS3
  have OS3 := t_
  clear t_
  have t_ := Aside0.mk (Nat.le_trans OS4.out (hb_).size)
  clear OS4
  have OS4 := t_
  clear t_
  have t_ := Aside0.mk (Nat.le_trans OS5.out (hb_).size)
  clear OS5
  have OS5 := t_
  clear t_
  have t_ := Aside0.mk (Nat.le_trans OS6.out (hb_).size)
  clear OS6
  have OS6 := t_
  clear t_
  have t_ := Aside0.mk (Nat.le_trans OS7.out (hb_).size)
  clear OS7
  have OS7 := t_
  clear t_
  have t_ := Aside0.mk (Nat.le_trans OS8.out (hb_).size)
  clear OS8
  have OS8 := t_
  clear t_
  clear HB_W15
  clear SG4
  have SG4 := Aside0.mk hS_
  clear hS_ hb_
  go_wp2_with fail
  (with_reducible refine (markSS_any lo_o5 hi_o5 _ l1 (1 + (total l0 : Int)) _ SG5.out (by omega) (by have := HZ0.out; have := HZ1.out; have := HZ1.out.2; omega) HZ1.out.2).mono ?_)
  rintro e W17 ⟨rfl, hS_, hb_⟩
  have HB_W17 := Aside0.mk (Moved.below hb_ HB_W16.out HB_W16.out.size (by have h1 := OR5.out; omega))
  have t_ := Aside0.mk (SG1.out.move hb_ (by have h1 := OR1.out; have h2 := OR5.out; omega))
  clear SG1
  have SG1 := t_
  clear t_
  have t_ := Aside0.mk (SG2.out.move hb_ (by have h1 := OR2.out; have h2 := OR5.out; omega))
  clear SG2
  have SG2 := t_
  clear t_
  have t_ := Aside0.mk (SG3.out.move hb_ (by have h1 := OR3.out; have h2 := OR5.out; omega))
  clear SG3
  have SG3 := t_
  clear t_
  have t_ := Aside0.mk (SG4.out.move hb_ (by have h1 := OR4.out; have h2 := OR5.out; omega))
  clear SG4
  have SG4 := t_
  clear t_
  have t_ := Aside0.mk (SG6.out.move hb_ (by have h1 := OR6.out; have h2 := OR5.out; omega))
  clear SG6
  have SG6 := t_
  clear t_
  have t_ := Aside0.mk (SG7.out.move hb_ (by have h1 := OR7.out; have h2 := OR5.out; omega))
  clear SG7
  have SG7 := t_
  clear t_
  have t_ := Aside0.mk (SG8.out.move hb_ (by have h1 := OR8.out; have h2 := OR5.out; omega))
  clear SG8
  have SG8 := t_
  clear t_
  have t_ := Aside0.mk (Nat.le_trans OS1.out (hb_).size)
  clear OS1
  have OS1 := t_
  clear t_
  have t_ := Aside0.mk (Nat.le_trans OS2.out (hb_).size)
  clear OS2
  have OS2 := t_
  clear t_
  have t_ := Aside0.mk (Nat.le_trans OS3.out (hb_).size)
  clear OS3
  have OS3 := t_
  clear t_
  have t_ := Aside0.mk (Nat.le_trans OS4.out (hb_).size)
  clear OS4
  have OS4 := t_
  clear t_
  have t_ := Aside0.mk (Nat.le_trans OS5.out (hb_).size)
  clear OS5
  have OS5 := t_
  clear t_
  have t_ := Aside0.mk (Nat.le_trans OS6.out (hb_).size)
  clear OS6
  have OS6 := t_
  clear t_
  have t_ := Aside0.mk (Nat.le_trans OS7.out (hb_).size)
  clear OS7
  have OS7 := t_
  clear t_
  have t_ := Aside0.mk (Nat.le_trans OS8.out (hb_).size)
  clear OS8
  have OS8 := t_
  clear t_
  clear HB_W16
  clear SG5
  have SG5 := Aside0.mk hS_
  clear hS_ hb_
  go_wp2_with fail
  (with_reducible refine (laws_eqIntSS.calls kq0 _ _ r1 _ _ r1 true _ (SG6.out.reads.2.2) (SG6.out.reads.2.1) (SG3.out.reads.2.2) (SG3.out.reads.2.1) HQ0.out).mono ?_)
  rintro e W18 ⟨rfl, hd_⟩
  have hb_ := hd_.below
  clear hd_
  have HB_W18 := Aside0.mk (below_then HB_W17.out HB_W17.out.size hb_)
  have t_ := Aside0.mk (SG1.out.below hb_)
  clear SG1
  have SG1 := t_
  clear t_
  have t_ := Aside0.mk (SG2.out.below hb_)
  clear SG2
  have SG2 := t_
  clear t_
  have t_ := Aside0.mk (SG3.out.below hb_)
  clear SG3
  have SG3 := t_
  clear t_
  have t_ := Aside0.mk (SG4.out.below hb_)
  clear SG4
  have SG4 := t_
  clear t_
  have t_ := Aside0.mk (SG5.out.below hb_)
  clear SG5
  have SG5 := t_
  clear t_
  have t_ := Aside0.mk (SG6.out.below hb_)
  clear SG6
  have SG6 := t_
  clear t_
  have t_ := Aside0.mk (SG7.out.below hb_)
  clear SG7
  have SG7 := t_
  clear t_
  have t_ := Aside0.mk (SG8.out.below hb_)
  clear SG8
  have SG8 := t_
  clear t_
  have t_ := Aside0.mk (Nat.le_trans OS1.out (hb_).size)
  clear OS1
  have OS1 := t_
  clear t_
  have t_ := Aside0.mk (Nat.le_trans OS2.out (hb_).size)
  clear OS2
  have OS2 := t_
  clear t_
  have t_ := Aside0.mk (Nat.le_trans OS3.out (hb_).size)
  clear OS3
  have OS3 := t_
  clear t_
  have t_ := Aside0.mk (Nat.le_trans OS4.out (hb_).size)
  clear OS4
  have OS4 := t_
  clear t_
  have t_ := Aside0.mk (Nat.le_trans OS5.out (hb_).size)
  clear OS5
  have OS5 := t_
  clear t_
  have t_ := Aside0.mk (Nat.le_trans OS6.out (hb_).size)
  clear OS6
  have OS6 := t_
  clear t_
  have t_ := Aside0.mk (Nat.le_trans OS7.out (hb_).size)
  clear OS7
  have OS7 := t_
  clear t_
  have t_ := Aside0.mk (Nat.le_trans OS8.out (hb_).size)
  clear OS8
  have OS8 := t_
  clear t_
  clear HB_W17
  clear hb_
  go_wp2_with fail
  (with_reducible refine (markSS_any lo_o6 hi_o6 _ r1 (1) _ SG6.out (by omega) (by have := HZ0.out; have := HZ1.out; have := hbt0; omega) hbt0).mono ?_)
  rintro e W19 ⟨rfl, hS_, hb_⟩
  have HB_W19 := Aside0.mk (Moved.below hb_ HB_W18.out HB_W18.out.size (by have h1 := OR6.out; omega))
  have t_ := Aside0.mk (SG1.out.move hb_ (by have h1 := OR1.out; have h2 := OR6.out; omega))
  clear SG1
  have SG1 := t_
  clear t_
  have t_ := Aside0.mk (SG2.out.move hb_ (by have h1 := OR2.out; have h2 := OR6.out; omega))
  clear SG2
  have SG2 := t_
  clear t_
  have t_ := Aside0.mk (SG3.out.move hb_ (by have h1 := OR3.out; have h2 := OR6.out; omega))
  clear SG3
  have SG3 := t_
  clear t_
  have t_ := Aside0.mk (SG4.out.move hb_ (by have h1 := OR4.out; have h2 := OR6.out; omega))
  clear SG4
  have SG4 := t_
  clear t_
  have t_ := Aside0.mk (SG5.out.move hb_ (by have h1 := OR5.out; have h2 := OR6.out; omega))
  clear SG5
  have SG5 := t_
  clear t_
  have t_ := Aside0.mk (SG7.out.move hb_ (by have h1 := OR7.out; have h2 := OR6.out; omega))
  clear SG7
  have SG7 := t_
  clear t_
  have t_ := Aside0.mk (SG8.out.move hb_ (by have h1 := OR8.out; have h2 := OR6.out; omega))
  clear SG8
  have SG8 := t_
  clear t_
  have t_ := Aside0.mk (Nat.le_trans OS1.out (hb_).size)
  clear OS1
  have OS1 := t_
  clear t_
  have t_ := Aside0.mk (Nat.le_trans OS2.out (hb_).size)
  clear OS2
  have OS2 := t_
  clear t_
  have t_ := Aside0.mk (Nat.le_trans OS3.out (hb_).size)
  clear OS3
  have OS3 := t_
  clear t_
  have t_ := Aside0.mk (Nat.le_trans OS4.out (hb_).size)
  clear OS4
  have OS4 := t_
  clear t_
  have t_ := Aside0.mk (Nat.le_trans OS5.out (hb_).size)
  clear OS5
  have OS5 := t_
  clear t_
  have t_ := Aside0.mk (Nat.le_trans OS6.out (hb_).size)
  clear OS6
  have OS6 := t_
  clear t_
  have t_ := Aside0.mk (Nat.le_trans OS7.out (hb_).size)
  clear OS7
  have OS7 := t_
  clear t_
  have t_ := Aside0.mk (Nat.le_trans OS8.out (hb_).size)
  clear OS8
  have OS8 := t_
  clear t_
  clear HB_W18
  clear SG6
  have SG6 := Aside0.mk hS_
  clear hS_ hb_
  go_wp2_with fail
  have hc_ := laws_heldIntSS.calls kh0 A_o6 c_o6 (marked r1 (1)) 1 (1 + (total r1 : Int)) W19 (SG6.out.reads.2.2) (by rw [marked_length]; exact (SG6.out.reads.2.1)) HH0.out
  rw [marked_length] at hc_
  (with_reducible refine hc_.mono ?_)
  clear hc_
  rintro e W20 ⟨rfl, hd_⟩
  have hb_ := hd_.below
  clear hd_
  have HB_W20 := Aside0.mk (below_then HB_W19.out HB_W19.out.size hb_)
  have t_ := Aside0.mk (SG1.out.below hb_)
  clear SG1
  have SG1 := t_
  clear t_
  have t_ := Aside0.mk (SG2.out.below hb_)
  clear SG2
  have SG2 := t_
  clear t_
  have t_ := Aside0.mk (SG3.out.below hb_)
  clear SG3
  have SG3 := t_
  clear t_
  have t_ := Aside0.mk (SG4.out.below hb_)
  clear SG4
  have SG4 := t_
  clear t_
  have t_ := Aside0.mk (SG5.out.below hb_)
  clear SG5
  have SG5 := t_
  clear t_
  have t_ := Aside0.mk (SG6.out.below hb_)
  clear SG6
  have SG6 := t_
  clear t_
  have t_ := Aside0.mk (SG7.out.below hb_)
  clear SG7
  have SG7 := t_
  clear t_
  have t_ := Aside0.mk (SG8.out.below hb_)
  clear SG8
  have SG8 := t_
  clear t_
  have t_ := Aside0.mk (Nat.le_trans OS1.out (hb_).size)
  clear OS1
  have OS1 := t_
  clear t_
  have t_ := Aside0.mk (Nat.le_trans OS2.out (hb_).size)
  clear OS2
  have OS2 := t_
  clear t_
  have t_ := Aside0.mk (Nat.le_trans OS3.out (hb_).size)
  clear OS3
  have OS3 := t_
  clear t_
  have t_ := Aside0.mk (Nat.le_trans OS4.out (hb_).size)
  clear OS4
  have OS4 := t_
  clear t_
  have t_ := Aside0.mk (Nat.le_trans OS5.out (hb_).size)
  clear OS5
  have OS5 := t_
  clear t_
  have t_ := Aside0.mk (Nat.le_trans OS6.out (hb_).size)
  clear OS6
  have OS6 := t_
  clear t_
  have t_ := Aside0.mk (Nat.le_trans OS7.out (hb_).size)
  clear OS7
  have OS7 := t_
  clear t_
  have t_ := Aside0.mk (Nat.le_trans OS8.out (hb_).size)
  clear OS8
  have OS8 := t_
  clear t_
  clear HB_W19
  clear hb_
  go_wp2_with fail
  (with_reducible refine (laws_toIntSS.calls _ _ l0 l0 _ (Kd.C_below HR0.out HB_W20.out) hc0 (by unfold laws_toIntSS.f; rw [if_pos ⟨HZ0.out.1, fun x hx => Nat.le_trans (row_le_total l0 x hx) HZ0.out.2⟩])).mono ?_)
  rintro e W21 ⟨v_, rfl, hS_, hb_⟩
  have SG9 := Aside0.mk (Seg.of_S hS_)
  obtain ⟨lo_o9, hlo_o9⟩ : ∃ x, x = W20.heap.size := ⟨_, rfl⟩
  obtain ⟨hi_o9, hhi_o9⟩ : ∃ x, x = W21.heap.size := ⟨_, rfl⟩
  have OR9 : Aside0 (w.heap.size ≤ lo_o9 ∧ hi_o1 ≤ lo_o9 ∧ hi_o2 ≤ lo_o9 ∧ hi_o3 ≤ lo_o9 ∧ hi_o4 ≤ lo_o9 ∧ hi_o5 ≤ lo_o9 ∧ hi_o6 ≤ lo_o9 ∧ hi_o7 ≤ lo_o9 ∧ hi_o8 ≤ lo_o9) := ⟨by have h1 := HB_W20.out.size; have g0 := OS1.out; have g1 := OS2.out; have g2 := OS3.out; have g3 := OS4.out; have g4 := OS5.out; have g5 := OS6.out; have g6 := OS7.out; have g7 := OS8.out; omega⟩
  have OS9 : Aside0 (hi_o9 ≤ W21.heap.size) := ⟨by omega⟩
  rw [← hlo_o9, ← hhi_o9] at SG9
  clear hlo_o9 hhi_o9
  obtain ⟨A_o9, c_o9, hv_⟩ := SG9.out.slice
  subst hv_
  clear hS_
  have HB_W21 := Aside0.mk (below_then HB_W20.out HB_W20.out.size hb_)
  have t_ := Aside0.mk (SG1.out.below hb_)
  clear SG1
  have SG1 := t_
  clear t_
  have t_ := Aside0.mk (SG2.out.below hb_)
  clear SG2
  have SG2 := t_
  clear t_
  have t_ := Aside0.mk (SG3.out.below hb_)
  clear SG3
  have SG3 := t_
  clear t_
  have t_ := Aside0.mk (SG4.out.below hb_)
  clear SG4
  have SG4 := t_
  clear t_
  have t_ := Aside0.mk (SG5.out.below hb_)
  clear SG5
  have SG5 := t_
  clear t_
  have t_ := Aside0.mk (SG6.out.below hb_)
  clear SG6
  have SG6 := t_
  clear t_
  have t_ := Aside0.mk (SG7.out.below hb_)
  clear SG7
  have SG7 := t_
  clear t_
  have t_ := Aside0.mk (SG8.out.below hb_)
  clear SG8
  have SG8 := t_
  clear t_
  have t_ := Aside0.mk (Nat.le_trans OS1.out (hb_).size)
  clear OS1
  have OS1 := t_
  clear t_
  have t_ := Aside0.mk (Nat.le_trans OS2.out (hb_).size)
  clear OS2
  have OS2 := t_
  clear t_
  have t_ := Aside0.mk (Nat.le_trans OS3.out (hb_).size)
  clear OS3
  have OS3 := t_
  clear t_
  have t_ := Aside0.mk (Nat.le_trans OS4.out (hb_).size)
  clear OS4
  have OS4 := t_
  clear t_
  have t_ := Aside0.mk (Nat.le_trans OS5.out (hb_).size)
  clear OS5
  have OS5 := t_
  clear t_
  have t_ := Aside0.mk (Nat.le_trans OS6.out (hb_).size)
  clear OS6
  have OS6 := t_
  clear t_
  have t_ := Aside0.mk (Nat.le_trans OS7.out (hb_).size)
  clear OS7
  have OS7 := t_
  clear t_
  have t_ := Aside0.mk (Nat.le_trans OS8.out (hb_).size)
  clear OS8
  have OS8 := t_
  clear t_
  clear HB_W20
  clear hb_
  go_wp2_with fail
  (with_reducible refine (laws_toIntSS.calls _ _ l1 l1 _ (Kd.C_below HR1.out HB_W21.out) hc1 (by unfold laws_toIntSS.f; rw [if_pos ⟨HZ1.out.1, fun x hx => Nat.le_trans (row_le_total l1 x hx) HZ1.out.2⟩])).mono ?_)
  rintro e W22 ⟨v_, rfl, hS_, hb_⟩
  have SG10 := Aside0.mk (Seg.of_S hS_)
  obtain ⟨lo_o10, hlo_o10⟩ : ∃ x, x = W21.heap.size := ⟨_, rfl⟩
  obtain ⟨hi_o10, hhi_o10⟩ : ∃ x, x = W22.heap.size := ⟨_, rfl⟩
  have OR10 : Aside0 (w.heap.size ≤ lo_o10 ∧ hi_o1 ≤ lo_o10 ∧ hi_o2 ≤ lo_o10 ∧ hi_o3 ≤ lo_o10 ∧ hi_o4 ≤ lo_o10 ∧ hi_o5 ≤ lo_o10 ∧ hi_o6 ≤ lo_o10 ∧ hi_o7 ≤ lo_o10 ∧ hi_o8 ≤ lo_o10 ∧ hi_o9 ≤ lo_o10) := ⟨by have h1 := HB_W21.out.size; have g0 := OS1.out; have g1 := OS2.out; have g2 := OS3.out; have g3 := OS4.out; have g4 := OS5.out; have g5 := OS6.out; have g6 := OS7.out; have g7 := OS8.out; have g8 := OS9.out; omega⟩
  have OS10 : Aside0 (hi_o10 ≤ W22.heap.size) := ⟨by omega⟩
  rw [← hlo_o10, ← hhi_o10] at SG10
  clear hlo_o10 hhi_o10
  obtain ⟨A_o10, c_o10, hv_⟩ := SG10.out.slice
  subst hv_
  clear hS_
  have HB_W22 := Aside0.mk (below_then HB_W21.out HB_W21.out.size hb_)
  have t_ := Aside0.mk (SG1.out.below hb_)
  clear SG1
  have SG1 := t_
  clear t_
  have t_ := Aside0.mk (SG2.out.below hb_)
  clear SG2
  have SG2 := t_
  clear t_
  have t_ := Aside0.mk (SG3.out.below hb_)
  clear SG3
  have SG3 := t_
  clear t_
  have t_ := Aside0.mk (SG4.out.below hb_)
  clear SG4
  have SG4 := t_
  clear t_
  have t_ := Aside0.mk (SG5.out.below hb_)
  clear SG5
  have SG5 := t_
  clear t_
  have t_ := Aside0.mk (SG6.out.below hb_)
  clear SG6
  have SG6 := t_
  clear t_
  have t_ := Aside0.mk (SG7.out.below hb_)
  clear SG7
  have SG7 := t_
  clear t_
  have t_ := Aside0.mk (SG8.out.below hb_)
  clear SG8
  have SG8 := t_
  clear t_
  have t_ := Aside0.mk (SG9.out.below hb_)
  clear SG9
  have SG9 := t_
  clear t_
  have t_ := Aside0.mk (Nat.le_trans OS1.out (hb_).size)
  clear OS1
  have OS1 := t_
  clear t_
  have t_ := Aside0.mk (Nat.le_trans OS2.out (hb_).size)
  clear OS2
  have OS2 := t_
  clear t_
  have t_ := Aside0.mk (Nat.le_trans OS3.out (hb_).size)
  clear OS3
  have OS3 := t_
  clear t_
  have t_ := Aside0.mk (Nat.le_trans OS4.out (hb_).size)
  clear OS4
  have OS4 := t_
  clear t_
  have t_ := Aside0.mk (Nat.le_trans OS5.out (hb_).size)
  clear OS5
  have OS5 := t_
  clear t_
  have t_ := Aside0.mk (Nat.le_trans OS6.out (hb_).size)
  clear OS6
  have OS6 := t_
  clear t_
  have t_ := Aside0.mk (Nat.le_trans OS7.out (hb_).size)
  clear OS7
  have OS7 := t_
  clear t_
  have t_ := Aside0.mk (Nat.le_trans OS8.out (hb_).size)
  clear OS8
  have OS8 := t_
  clear t_
  have t_ := Aside0.mk (Nat.le_trans OS9.out (hb_).size)
  clear OS9
  have OS9 := t_
  clear t_
  clear HB_W21
  clear hb_
  go_wp2_with fail
  (with_reducible refine (impl_StackMatrices.calls ki _ _ l0 _ _ l1 r1 r2 _ (SG9.out.reads.2.2) (SG9.out.reads.2.1) (SG10.out.reads.2.2) (SG10.out.reads.2.1) HI.out).mono ?_)
  rintro e W23 ⟨v0_, rfl, hS0_, hb_⟩
  have SG11 := Aside0.mk (Seg.of_S hS0_)
  obtain ⟨lo_o11, hlo_o11⟩ : ∃ x, x = W22.heap.size := ⟨_, rfl⟩
  obtain ⟨hi_o11, hhi_o11⟩ : ∃ x, x = W23.heap.size := ⟨_, rfl⟩
  have OR11 : Aside0 (w.heap.size ≤ lo_o11 ∧ hi_o1 ≤ lo_o11 ∧ hi_o2 ≤ lo_o11 ∧ hi_o3 ≤ lo_o11 ∧ hi_o4 ≤ lo_o11 ∧ hi_o5 ≤ lo_o11 ∧ hi_o6 ≤ lo_o11 ∧ hi_o7 ≤ lo_o11 ∧ hi_o8 ≤ lo_o11 ∧ hi_o9 ≤ lo_o11 ∧ hi_o10 ≤ lo_o11) := ⟨by have h1 := HB_W22.out.size; have g0 := OS1.out; have g1 := OS2.out; have g2 := OS3.out; have g3 := OS4.out; have g4 := OS5.out; have g5 := OS6.out; have g6 := OS7.out; have g7 := OS8.out; have g8 := OS9.out; have g9 := OS10.out; omega⟩
  have OS11 : Aside0 (hi_o11 ≤ W23.heap.size) := ⟨by omega⟩
  rw [← hlo_o11, ← hhi_o11] at SG11
  clear hlo_o11 hhi_o11
  obtain ⟨A_o11, c_o11, hv_⟩ := SG11.out.slice
  subst hv_
  clear hS0_
  have HB_W23 := Aside0.mk (below_then HB_W22.out HB_W22.out.size hb_)
  have t_ := Aside0.mk (SG1.out.below hb_)
  clear SG1
  have SG1 := t_
  clear t_
  have t_ := Aside0.mk (SG2.out.below hb_)
  clear SG2
  have SG2 := t_
  clear t_
  have t_ := Aside0.mk (SG3.out.below hb_)
  clear SG3
  have SG3 := t_
  clear t_
  have t_ := Aside0.mk (SG4.out.below hb_)
  clear SG4
  have SG4 := t_
  clear t_
  have t_ := Aside0.mk (SG5.out.below hb_)
  clear SG5
  have SG5 := t_
  clear t_
  have t_ := Aside0.mk (SG6.out.below hb_)
  clear SG6
  have SG6 := t_
  clear t_
  have t_ := Aside0.mk (SG7.out.below hb_)
  clear SG7
  have SG7 := t_
  clear t_
  have t_ := Aside0.mk (SG8.out.below hb_)
  clear SG8
  have SG8 := t_
  clear t_
  have t_ := Aside0.mk (SG9.out.below hb_)
  clear SG9
  have SG9 := t_
  clear t_
  have t_ := Aside0.mk (SG10.out.below hb_)
  clear SG10
  have SG10 := t_
  clear t_
  have t_ := Aside0.mk (Nat.le_trans OS1.out (hb_).size)
  clear OS1
  have OS1 := t_
  clear t_
  have t_ := Aside0.mk (Nat.le_trans OS2.out (hb_).size)
  clear OS2
  have OS2 := t_
  clear t_
  have t_ := Aside0.mk (Nat.le_trans OS3.out (hb_).size)
  clear OS3
  have OS3 := t_
  clear t_
  have t_ := Aside0.mk (Nat.le_trans OS4.out (hb_).size)
  clear OS4
  have OS4 := t_
  clear t_
  have t_ := Aside0.mk (Nat.le_trans OS5.out (hb_).size)
  clear OS5
  have OS5 := t_
  clear t_
  have t_ := Aside0.mk (Nat.le_trans OS6.out (hb_).size)
  clear OS6
  have OS6 := t_
  clear t_
  have t_ := Aside0.mk (Nat.le_trans OS7.out (hb_).size)
  clear OS7
  have OS7 := t_
  clear t_
  have t_ := Aside0.mk (Nat.le_trans OS8.out (hb_).size)
  clear OS8
  have OS8 := t_
  clear t_
  have t_ := Aside0.mk (Nat.le_trans OS9.out (hb_).size)
  clear OS9
  have OS9 := t_
  clear t_
  have t_ := Aside0.mk (Nat.le_trans OS10.out (hb_).size)
  clear OS10
  have OS10 := t_
  clear t_
  clear HB_W22
  clear hb_
  go_wp2_with fail
  (with_reducible refine (laws_eqIntSS.calls kq0 _ _ r1 _ _ r1 true _ (SG11.out.reads.2.2) (SG11.out.reads.2.1) (SG3.out.reads.2.2) (SG3.out.reads.2.1) HQ0.out).mono ?_)
  rintro e W24 ⟨rfl, hd_⟩
  have hb_ := hd_.below
  clear hd_
  have HB_W24 := Aside0.mk (below_then HB_W23.out HB_W23.out.size hb_)
  have t_ := Aside0.mk (SG1.out.below hb_)
  clear SG1
  have SG1 := t_
  clear t_
  have t_ := Aside0.mk (SG2.out.below hb_)
  clear SG2
  have SG2 := t_
  clear t_
  have t_ := Aside0.mk (SG3.out.below hb_)
  clear SG3
  have SG3 := t_
  clear t_
  have t_ := Aside0.mk (SG4.out.below hb_)
  clear SG4
  have SG4 := t_
  clear t_
  have t_ := Aside0.mk (SG5.out.below hb_)
  clear SG5
  have SG5 := t_
  clear t_
  have t_ := Aside0.mk (SG6.out.below hb_)
  clear SG6
  have SG6 := t_
  clear t_
  have t_ := Aside0.mk (SG7.out.below hb_)
  clear SG7
  have SG7 := t_
  clear t_
  have t_ := Aside0.mk (SG8.out.below hb_)
  clear SG8
  have SG8 := t_
  clear t_
  have t_ := Aside0.mk (SG9.out.below hb_)
  clear SG9
  have SG9 := t_
  clear t_
  have t_ := Aside0.mk (SG10.out.below hb_)
  clear SG10
  have SG10 := t_
  clear t_
  have t_ := Aside0.mk (SG11.out.below hb_)
  clear SG11
  have SG11 := t_
  clear t_
  have t_ := Aside0.mk (Nat.le_trans OS1.out (hb_).size)
  clear OS1
  have OS1 := t_
  clear t_
  have t_ := Aside0.mk (Nat.le_trans OS2.out (hb_).size)
  clear OS2
  have OS2 := t_
  clear t_
  have t_ := Aside0.mk (Nat.le_trans OS3.out (hb_).size)
  clear OS3
  have OS3 := t_
  clear t_
  have t_ := Aside0.mk (Nat.le_trans OS4.out (hb_).size)
  clear OS4
  have OS4 := t_
  clear t_
  have t_ := Aside0.mk (Nat.le_trans OS5.out (hb_).size)
  clear OS5
  have OS5 := t_
  clear t_
  have t_ := Aside0.mk (Nat.le_trans OS6.out (hb_).size)
  clear OS6
  have OS6 := t_
  clear t_
  have t_ := Aside0.mk (Nat.le_trans OS7.out (hb_).size)
  clear OS7
  have OS7 := t_
  clear t_
  have t_ := Aside0.mk (Nat.le_trans OS8.out (hb_).size)
  clear OS8
  have OS8 := t_
  clear t_
  have t_ := Aside0.mk (Nat.le_trans OS9.out (hb_).size)
  clear OS9
  have OS9 := t_
  clear t_
  have t_ := Aside0.mk (Nat.le_trans OS10.out (hb_).size)
  clear OS10
  have OS10 := t_
  clear t_
  have t_ := Aside0.mk (Nat.le_trans OS11.out (hb_).size)
  clear OS11
  have OS11 := t_
  clear t_
  clear HB_W23
  clear hb_
  go_wp2_with fail
  have hc_ := laws_heldIntSS.calls kh0 A_o6 c_o6 (marked r1 (1)) 1 (1 + (total r1 : Int)) W24 (SG6.out.reads.2.2) (by rw [marked_length]; exact (SG6.out.reads.2.1)) HH0.out
  rw [marked_length] at hc_
  (with_reducible refine hc_.mono ?_)
  clear hc_
  rintro e W25 ⟨rfl, hd_⟩
  have hb_ := hd_.below
  clear hd_
  have HB_W25 := Aside0.mk (below_then HB_W24.out HB_W24.out.size hb_)
  have t_ := Aside0.mk (SG1.out.below hb_)
  clear SG1
  have SG1 := t_
  clear t_
  have t_ := Aside0.mk (SG2.out.below hb_)
  clear SG2
  have SG2 := t_
  clear t_
  have t_ := Aside0.mk (SG3.out.below hb_)
  clear SG3
  have SG3 := t_
  clear t_
  have t_ := Aside0.mk (SG4.out.below hb_)
  clear SG4
  have SG4 := t_
  clear t_
  have t_ := Aside0.mk (SG5.out.below hb_)
  clear SG5
  have SG5 := t_
  clear t_
  have t_ := Aside0.mk (SG6.out.below hb_)
  clear SG6
  have SG6 := t_
  clear t_
  have t_ := Aside0.mk (SG7.out.below hb_)
  clear SG7
  have SG7 := t_
  clear t_
  have t_ := Aside0.mk (SG8.out.below hb_)
  clear SG8
  have SG8 := t_
  clear t_
  have t_ := Aside0.mk (SG9.out.below hb_)
  clear SG9
  have SG9 := t_
  clear t_
  have t_ := Aside0.mk (SG10.out.below hb_)
  clear SG10
  have SG10 := t_
  clear t_
  have t_ := Aside0.mk (SG11.out.below hb_)
  clear SG11
  have SG11 := t_
  clear t_
  have t_ := Aside0.mk (Nat.le_trans OS1.out (hb_).size)
  clear OS1
  have OS1 := t_
  clear t_
  have t_ := Aside0.mk (Nat.le_trans OS2.out (hb_).size)
  clear OS2
  have OS2 := t_
  clear t_
  have t_ := Aside0.mk (Nat.le_trans OS3.out (hb_).size)
  clear OS3
  have OS3 := t_
  clear t_
  have t_ := Aside0.mk (Nat.le_trans OS4.out (hb_).size)
  clear OS4
  have OS4 := t_
  clear t_
  have t_ := Aside0.mk (Nat.le_trans OS5.out (hb_).size)
  clear OS5
  have OS5 := t_
  clear t_
  have t_ := Aside0.mk (Nat.le_trans OS6.out (hb_).size)
  clear OS6
  have OS6 := t_
  clear t_
  have t_ := Aside0.mk (Nat.le_trans OS7.out (hb_).size)
  clear OS7
  have OS7 := t_
  clear t_
  have t_ := Aside0.mk (Nat.le_trans OS8.out (hb_).size)
  clear OS8
  have OS8 := t_
  clear t_
  have t_ := Aside0.mk (Nat.le_trans OS9.out (hb_).size)
  clear OS9
  have OS9 := t_
  clear t_
  have t_ := Aside0.mk (Nat.le_trans OS10.out (hb_).size)
  clear OS10
  have OS10 := t_
  clear t_
  have t_ := Aside0.mk (Nat.le_trans OS11.out (hb_).size)
  clear OS11
  have OS11 := t_
  clear t_
  clear HB_W24
  clear hb_
  go_wp2
  go_ret
  exact ⟨rfl, HB_W25.out⟩
end Go.Proofs.Ythjiajkmaimbjaa.P
