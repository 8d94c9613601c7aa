-- By gp.py (this session's own driver over the kit's print). Not trusted: Lean checks it.
import Derived.Test.YtadepmjfhcmkoaaF0
import Derived.Test.YtadepmjfhcmkoaaB
import Derived.Test.YtadepmjfhcmkoaaPL
import Derived.Test.YtadepmjfhcmkoaaFImplCountBetween
import Derived.Test.YtadepmjfhcmkoaaFLaws
import Derived.Test.YtadepmjfhcmkoaaFSpecCountBetween
namespace Go.Proofs.Ytadepmjfhcmkoaa.P
open Go.Proofs.Ytadepmjfhcmkoaa.B
open Go.RowKit Go.Proofs.YtadepmjfhcmkoaaW.PrintWords Go.Proofs.YtadepmjfhcmkoaaW.PrintLast Go.Proofs.YtadepmjfhcmkoaaW.PrintMore
attribute [local go_sem] max2_int min2_int max_two min_two max_three min_three max_four min_four   -- for this text's walks alone
set_option linter.unusedVariables false
set_option linter.unusedSimpArgs false

/-- The law over lists alone: program and reference answer the same. -/
def laws_FnExactCountBetween.Pure : Prop := ∀ (l0 : List (List Int)) (l1 : List (List Int)), l0.length ≤ 1048576 → total l0 ≤ 1048576 → (∀ x ∈ l0, ∀ y ∈ x, (Lit.int .i64 y).wf = true) → l1.length ≤ 1048576 → total l1 ≤ 1048576 → (∀ x ∈ l1, ∀ y ∈ x, (Lit.int .i64 y).wf = true) → ∃ (r1 : Int) (r2 : Bool), (∃ k, spec_CountBetween.f k l0 l1 = some (r1, r2)) ∧ (∃ k, impl_CountBetween.f k l0 l1 = some (r1, r2))
set_option maxHeartbeats 16000000 in
set_option maxRecDepth 100000 in
theorem laws_FnExactCountBetween.walk (P : laws_FnExactCountBetween.Pure) (A0 : Option Addr) (c0 : Nat) (l0 : List (List Int)) (A1 : Option Addr) (c1 : Nat) (l1 : List (List Int)) (w : World) (hr0 : Kd.C (Kd.slice 3 (Kd.int .i64)) w A0 l0.length l0) (hc0 : l0.length ≤ c0) (hn0 : l0.length ≤ 9223372036854775807) (hm0 : ∀ x ∈ l0, x.length ≤ 9223372036854775807) (hw0 : ∀ x ∈ l0, ∀ y ∈ x, (Lit.int .i64 y).wf = true) (hr1 : Kd.C (Kd.slice 3 (Kd.int .i64)) w A1 l1.length l1) (hc1 : l1.length ≤ c1) (hn1 : l1.length ≤ 9223372036854775807) (hm1 : ∀ x ∈ l1, x.length ≤ 9223372036854775807) (hw1 : ∀ x ∈ l1, ∀ y ∈ x, (Lit.int .i64 y).wf = true) :
    Calls Try.prog 10 #[.slice A0 l0.length c0, .slice A1 l1.length c1] w fun e w' => e = .returned (.bool true) ∧ Below w.heap.size w w' := by
  have HB0 := Aside0.mk (Below.refl w.heap.size w)
  have HR0 := Aside0.mk hr0
  clear hr0
  have HR1 := Aside0.mk hr1
  clear hr1
  obtain ⟨kz0, hz0⟩ := (ev_szIntSS l0 (1048576) (by omega) (by omega) hn0 hm0).rounds
  have HZE0 := Aside0.mk hz0
  clear hz0
  have hzo0 := szT_ok l0 (1048576)
  have hzl0 := szT_le l0 (1048576) (by omega)
  obtain ⟨sz0, hesz0⟩ : ∃ x, x = szT l0 (1048576) := ⟨_, rfl⟩
  rw [← hesz0] at HZE0 hzo0 hzl0
  clear hesz0
  have HZO0 := Aside0.mk hzo0
  clear hzo0
  by_cases hneg0 : sz0 < 0
  · have hnb : decide (sz0 < 0) = true := decide_eq_true hneg0
    go_enter Try.func10, Try.ntmps10
    go_wp2_with fail
    (with_reducible refine (laws_szIntSS.calls kz0 A0 c0 l0 (1048576) sz0 _ (Kd.C_below HR0.out HB0.out) hc0 HZE0.out).mono ?_)
    rintro e W1 ⟨rfl, hd_⟩
    have hb_ := hd_.below
    clear hd_
    have HB_W1 := Aside0.mk (below_then HB0.out HB0.out.size hb_)
    clear hb_
    go_wp2
    go_ret
    exact ⟨rfl, HB_W1.out⟩
  have hnb0 : decide (sz0 < 0) = false := decide_eq_false hneg0
  have hz_ := HZO0.out hneg0
  have hpos0 : 0 ≤ sz0 := by omega
  have HZ0 := Aside0.mk (show l0.length ≤ 1048576 ∧ total l0 ≤ 1048576 by omega)
  clear hneg0 hz_
  go_enter Try.func10, Try.ntmps10
  go_wp2_with fail
  (with_reducible refine (laws_szIntSS.calls kz0 A0 c0 l0 (1048576) sz0 _ (Kd.C_below HR0.out HB0.out) hc0 HZE0.out).mono ?_)
  rintro e W2 ⟨rfl, hd_⟩
  have hb_ := hd_.below
  clear hd_
  have HB_W2 := Aside0.mk (below_then HB0.out HB0.out.size hb_)
  clear hb_
  obtain ⟨kz1, hz1⟩ := (ev_szIntSS l1 (sz0) (by omega) (by omega) hn1 hm1).rounds
  have HZE1 := Aside0.mk hz1
  clear hz1
  have hzo1 := szT_ok l1 (sz0)
  have hzl1 := szT_le l1 (sz0) (by omega)
  obtain ⟨sz1, hesz1⟩ : ∃ x, x = szT l1 (sz0) := ⟨_, rfl⟩
  rw [← hesz1] at HZE1 hzo1 hzl1
  clear hesz1
  have HZO1 := Aside0.mk hzo1
  clear hzo1
  by_cases hneg1 : sz1 < 0
  · have hnb : decide (sz1 < 0) = true := decide_eq_true hneg1
    go_wp2_with fail
    (with_reducible refine (laws_szIntSS.calls kz1 A1 c1 l1 (sz0) sz1 _ (Kd.C_below HR1.out HB_W2.out) hc1 HZE1.out).mono ?_)
    rintro e W3 ⟨rfl, hd_⟩
    have hb_ := hd_.below
    clear hd_
    have HB_W3 := Aside0.mk (below_then HB_W2.out HB_W2.out.size hb_)
    clear HB_W2
    clear hb_
    go_wp2
    go_ret
    exact ⟨rfl, HB_W3.out⟩
  have hnb1 : decide (sz1 < 0) = false := decide_eq_false hneg1
  have hz_ := HZO1.out hneg1
  have hpos1 : 0 ≤ sz1 := by omega
  have HZ1 := Aside0.mk (show l1.length ≤ 1048576 ∧ total l1 ≤ 1048576 by omega)
  clear hneg1 hz_
  go_wp2_with fail
  (with_reducible refine (laws_szIntSS.calls kz1 A1 c1 l1 (sz0) sz1 _ (Kd.C_below HR1.out HB_W2.out) hc1 HZE1.out).mono ?_)
  rintro e W4 ⟨rfl, hd_⟩
  have hb_ := hd_.below
  clear hd_
  have HB_W4 := Aside0.mk (below_then HB_W2.out HB_W2.out.size hb_)
  clear HB_W2
  clear hb_
  obtain ⟨r1, r2, ⟨ks, hs⟩, ⟨ki, hi⟩⟩ := P l0 l1 HZ0.out.1 HZ0.out.2 hw0 HZ1.out.1 HZ1.out.2 hw1
  have HS := Aside0.mk hs
  have HI := Aside0.mk hi
  clear hs hi
  obtain ⟨ke0, he0⟩ := (ev_eqIntSS l0 l0 (by have := HZ0.out.1; omega) (fun x hx => by have := row_le_total l0 x hx; have := HZ0.out.2; omega)).rounds
  rw [decide_eq_true rfl] at he0
  have HE0 := Aside0.mk he0
  clear he0
  obtain ⟨ke1, he1⟩ := (ev_eqIntSS l1 l1 (by have := HZ1.out.1; omega) (fun x hx => by have := row_le_total l1 x hx; have := HZ1.out.2; omega)).rounds
  rw [decide_eq_true rfl] at he1
  have HE1 := Aside0.mk he1
  clear he1
  clear hw0
  clear hw1
  go_wp2_with fail
  (with_reducible refine (laws_toIntSS.calls _ _ l0 l0 _ (Kd.C_below HR0.out HB_W4.out) hc0 (by unfold laws_toIntSS.f; rw [if_pos ⟨HZ0.out.1, fun x hx => Nat.le_trans (row_le_total l0 x hx) HZ0.out.2⟩])).mono ?_)
  rintro e W5 ⟨v_, rfl, hS_, hb_⟩
  have SG1 := Aside0.mk (Seg.of_S hS_)
  obtain ⟨lo_o1, hlo_o1⟩ : ∃ x, x = W4.heap.size := ⟨_, rfl⟩
  obtain ⟨hi_o1, hhi_o1⟩ : ∃ x, x = W5.heap.size := ⟨_, rfl⟩
  have OR1 : Aside0 (w.heap.size ≤ lo_o1) := ⟨by have h1 := HB_W4.out.size; omega⟩
  have OS1 : Aside0 (hi_o1 ≤ W5.heap.size) := ⟨by omega⟩
  rw [← hlo_o1, ← hhi_o1] at SG1
  clear hlo_o1 hhi_o1
  obtain ⟨A_o1, c_o1, hv_⟩ := SG1.out.slice
  subst hv_
  clear hS_
  have HB_W5 := Aside0.mk (below_then HB_W4.out HB_W4.out.size hb_)
  clear HB_W4
  clear hb_
  go_wp2_with fail
  (with_reducible refine (laws_toIntSS.calls _ _ l1 l1 _ (Kd.C_below HR1.out HB_W5.out) hc1 (by unfold laws_toIntSS.f; rw [if_pos ⟨HZ1.out.1, fun x hx => Nat.le_trans (row_le_total l1 x hx) HZ1.out.2⟩])).mono ?_)
  rintro e W6 ⟨v_, rfl, hS_, hb_⟩
  have SG2 := Aside0.mk (Seg.of_S hS_)
  obtain ⟨lo_o2, hlo_o2⟩ : ∃ x, x = W5.heap.size := ⟨_, rfl⟩
  obtain ⟨hi_o2, hhi_o2⟩ : ∃ x, x = W6.heap.size := ⟨_, rfl⟩
  have OR2 : Aside0 (w.heap.size ≤ lo_o2 ∧ hi_o1 ≤ lo_o2) := ⟨by have h1 := HB_W5.out.size; have g0 := OS1.out; omega⟩
  have OS2 : Aside0 (hi_o2 ≤ W6.heap.size) := ⟨by omega⟩
  rw [← hlo_o2, ← hhi_o2] at SG2
  clear hlo_o2 hhi_o2
  obtain ⟨A_o2, c_o2, hv_⟩ := SG2.out.slice
  subst hv_
  clear hS_
  have HB_W6 := Aside0.mk (below_then HB_W5.out HB_W5.out.size hb_)
  have t_ := Aside0.mk (SG1.out.below hb_)
  clear SG1
  have SG1 := t_
  clear t_
  have t_ := Aside0.mk (Nat.le_trans OS1.out (hb_).size)
  clear OS1
  have OS1 := t_
  clear t_
  clear HB_W5
  clear hb_
  go_wp2_with fail
  (with_reducible refine (spec_CountBetween.calls ks _ _ l0 _ _ l1 r1 r2 _ (SG1.out.reads.2.2) (SG1.out.reads.2.1) (SG2.out.reads.2.2) (SG2.out.reads.2.1) HS.out).mono ?_)
  rintro e W7 ⟨rfl, hb_⟩
  have HB_W7 := Aside0.mk (below_then HB_W6.out HB_W6.out.size hb_)
  have t_ := Aside0.mk (SG1.out.below hb_)
  clear SG1
  have SG1 := t_
  clear t_
  have t_ := Aside0.mk (SG2.out.below hb_)
  clear SG2
  have SG2 := t_
  clear t_
  have t_ := Aside0.mk (Nat.le_trans OS1.out (hb_).size)
  clear OS1
  have OS1 := t_
  clear t_
  have t_ := Aside0.mk (Nat.le_trans OS2.out (hb_).size)
  clear OS2
  have OS2 := t_
  clear t_
  clear HB_W6
  clear hb_
  go_wp2_with fail
  (with_reducible refine (laws_toIntSS.calls _ _ l0 l0 _ (Kd.C_below HR0.out HB_W7.out) hc0 (by unfold laws_toIntSS.f; rw [if_pos ⟨HZ0.out.1, fun x hx => Nat.le_trans (row_le_total l0 x hx) HZ0.out.2⟩])).mono ?_)
  rintro e W8 ⟨v_, rfl, hS_, hb_⟩
  have SG3 := Aside0.mk (Seg.of_S hS_)
  obtain ⟨lo_o3, hlo_o3⟩ : ∃ x, x = W7.heap.size := ⟨_, rfl⟩
  obtain ⟨hi_o3, hhi_o3⟩ : ∃ x, x = W8.heap.size := ⟨_, rfl⟩
  have OR3 : Aside0 (w.heap.size ≤ lo_o3 ∧ hi_o1 ≤ lo_o3 ∧ hi_o2 ≤ lo_o3) := ⟨by have h1 := HB_W7.out.size; have g0 := OS1.out; have g1 := OS2.out; omega⟩
  have OS3 : Aside0 (hi_o3 ≤ W8.heap.size) := ⟨by omega⟩
  rw [← hlo_o3, ← hhi_o3] at SG3
  clear hlo_o3 hhi_o3
  obtain ⟨A_o3, c_o3, hv_⟩ := SG3.out.slice
  subst hv_
  clear hS_
  have HB_W8 := Aside0.mk (below_then HB_W7.out HB_W7.out.size hb_)
  have t_ := Aside0.mk (SG1.out.below hb_)
  clear SG1
  have SG1 := t_
  clear t_
  have t_ := Aside0.mk (SG2.out.below hb_)
  clear SG2
  have SG2 := t_
  clear t_
  have t_ := Aside0.mk (Nat.le_trans OS1.out (hb_).size)
  clear OS1
  have OS1 := t_
  clear t_
  have t_ := Aside0.mk (Nat.le_trans OS2.out (hb_).size)
  clear OS2
  have OS2 := t_
  clear t_
  clear HB_W7
  clear hb_
  go_wp2_with fail
  (with_reducible refine (laws_toIntSS.calls _ _ l1 l1 _ (Kd.C_below HR1.out HB_W8.out) hc1 (by unfold laws_toIntSS.f; rw [if_pos ⟨HZ1.out.1, fun x hx => Nat.le_trans (row_le_total l1 x hx) HZ1.out.2⟩])).mono ?_)
  rintro e W9 ⟨v_, rfl, hS_, hb_⟩
  have SG4 := Aside0.mk (Seg.of_S hS_)
  obtain ⟨lo_o4, hlo_o4⟩ : ∃ x, x = W8.heap.size := ⟨_, rfl⟩
  obtain ⟨hi_o4, hhi_o4⟩ : ∃ x, x = W9.heap.size := ⟨_, rfl⟩
  have OR4 : Aside0 (w.heap.size ≤ lo_o4 ∧ hi_o1 ≤ lo_o4 ∧ hi_o2 ≤ lo_o4 ∧ hi_o3 ≤ lo_o4) := ⟨by have h1 := HB_W8.out.size; have g0 := OS1.out; have g1 := OS2.out; have g2 := OS3.out; omega⟩
  have OS4 : Aside0 (hi_o4 ≤ W9.heap.size) := ⟨by omega⟩
  rw [← hlo_o4, ← hhi_o4] at SG4
  clear hlo_o4 hhi_o4
  obtain ⟨A_o4, c_o4, hv_⟩ := SG4.out.slice
  subst hv_
  clear hS_
  have HB_W9 := Aside0.mk (below_then HB_W8.out HB_W8.out.size hb_)
  have t_ := Aside0.mk (SG1.out.below hb_)
  clear SG1
  have SG1 := t_
  clear t_
  have t_ := Aside0.mk (SG2.out.below hb_)
  clear SG2
  have SG2 := t_
  clear t_
  have t_ := Aside0.mk (SG3.out.below hb_)
  clear SG3
  have SG3 := t_
  clear t_
  have t_ := Aside0.mk (Nat.le_trans OS1.out (hb_).size)
  clear OS1
  have OS1 := t_
  clear t_
  have t_ := Aside0.mk (Nat.le_trans OS2.out (hb_).size)
  clear OS2
  have OS2 := t_
  clear t_
  have t_ := Aside0.mk (Nat.le_trans OS3.out (hb_).size)
  clear OS3
  have OS3 := t_
  clear t_
  clear HB_W8
  clear hb_
  go_wp2_with fail
  (with_reducible refine (impl_CountBetween.calls ki _ _ l0 _ _ l1 r1 r2 _ (SG3.out.reads.2.2) (SG3.out.reads.2.1) (SG4.out.reads.2.2) (SG4.out.reads.2.1) HI.out).mono ?_)
  rintro e W10 ⟨rfl, hb_⟩
  have HB_W10 := Aside0.mk (below_then HB_W9.out HB_W9.out.size hb_)
  have t_ := Aside0.mk (SG1.out.below hb_)
  clear SG1
  have SG1 := t_
  clear t_
  have t_ := Aside0.mk (SG2.out.below hb_)
  clear SG2
  have SG2 := t_
  clear t_
  have t_ := Aside0.mk (SG3.out.below hb_)
  clear SG3
  have SG3 := t_
  clear t_
  have t_ := Aside0.mk (SG4.out.below hb_)
  clear SG4
  have SG4 := t_
  clear t_
  have t_ := Aside0.mk (Nat.le_trans OS1.out (hb_).size)
  clear OS1
  have OS1 := t_
  clear t_
  have t_ := Aside0.mk (Nat.le_trans OS2.out (hb_).size)
  clear OS2
  have OS2 := t_
  clear t_
  have t_ := Aside0.mk (Nat.le_trans OS3.out (hb_).size)
  clear OS3
  have OS3 := t_
  clear t_
  have t_ := Aside0.mk (Nat.le_trans OS4.out (hb_).size)
  clear OS4
  have OS4 := t_
  clear t_
  clear HB_W9
  clear hb_
  go_wp2_with fail
  (with_reducible refine (laws_toIntSS.calls _ _ l0 l0 _ (Kd.C_below HR0.out HB_W10.out) hc0 (by unfold laws_toIntSS.f; rw [if_pos ⟨HZ0.out.1, fun x hx => Nat.le_trans (row_le_total l0 x hx) HZ0.out.2⟩])).mono ?_)
  rintro e W11 ⟨v_, rfl, hS_, hb_⟩
  have SG5 := Aside0.mk (Seg.of_S hS_)
  obtain ⟨lo_o5, hlo_o5⟩ : ∃ x, x = W10.heap.size := ⟨_, rfl⟩
  obtain ⟨hi_o5, hhi_o5⟩ : ∃ x, x = W11.heap.size := ⟨_, rfl⟩
  have OR5 : Aside0 (w.heap.size ≤ lo_o5 ∧ hi_o1 ≤ lo_o5 ∧ hi_o2 ≤ lo_o5 ∧ hi_o3 ≤ lo_o5 ∧ hi_o4 ≤ lo_o5) := ⟨by have h1 := HB_W10.out.size; have g0 := OS1.out; have g1 := OS2.out; have g2 := OS3.out; have g3 := OS4.out; omega⟩
  have OS5 : Aside0 (hi_o5 ≤ W11.heap.size) := ⟨by omega⟩
  rw [← hlo_o5, ← hhi_o5] at SG5
  clear hlo_o5 hhi_o5
  obtain ⟨A_o5, c_o5, hv_⟩ := SG5.out.slice
  subst hv_
  clear hS_
  have HB_W11 := Aside0.mk (below_then HB_W10.out HB_W10.out.size hb_)
  have t_ := Aside0.mk (SG1.out.below hb_)
  clear SG1
  have SG1 := t_
  clear t_
  have t_ := Aside0.mk (SG2.out.below hb_)
  clear SG2
  have SG2 := t_
  clear t_
  have t_ := Aside0.mk (SG3.out.below hb_)
  clear SG3
  have SG3 := t_
  clear t_
  have t_ := Aside0.mk (SG4.out.below hb_)
  clear SG4
  have SG4 := t_
  clear t_
  have t_ := Aside0.mk (Nat.le_trans OS1.out (hb_).size)
  clear OS1
  have OS1 := t_
  clear t_
  have t_ := Aside0.mk (Nat.le_trans OS2.out (hb_).size)
  clear OS2
  have OS2 := t_
  clear t_
  have t_ := Aside0.mk (Nat.le_trans OS3.out (hb_).size)
  clear OS3
  have OS3 := t_
  clear t_
  have t_ := Aside0.mk (Nat.le_trans OS4.out (hb_).size)
  clear OS4
  have OS4 := t_
  clear t_
  clear HB_W10
  clear hb_
  go_wp2_with fail
  (with_reducible refine (laws_eqIntSS.calls ke0 _ _ l0 _ _ l0 true _ (SG3.out.reads.2.2) (SG3.out.reads.2.1) (SG5.out.reads.2.2) (SG5.out.reads.2.1) HE0.out).mono ?_)
  rintro e W12 ⟨rfl, hd_⟩
  have hb_ := hd_.below
  clear hd_
  have HB_W12 := Aside0.mk (below_then HB_W11.out HB_W11.out.size hb_)
  have t_ := Aside0.mk (SG1.out.below hb_)
  clear SG1
  have SG1 := t_
  clear t_
  have t_ := Aside0.mk (SG2.out.below hb_)
  clear SG2
  have SG2 := t_
  clear t_
  have t_ := Aside0.mk (SG3.out.below hb_)
  clear SG3
  have SG3 := t_
  clear t_
  have t_ := Aside0.mk (SG4.out.below hb_)
  clear SG4
  have SG4 := t_
  clear t_
  have t_ := Aside0.mk (SG5.out.below hb_)
  clear SG5
  have SG5 := t_
  clear t_
  have t_ := Aside0.mk (Nat.le_trans OS1.out (hb_).size)
  clear OS1
  have OS1 := t_
  clear t_
  have t_ := Aside0.mk (Nat.le_trans OS2.out (hb_).size)
  clear OS2
  have OS2 := t_
  clear t_
  have t_ := Aside0.mk (Nat.le_trans OS3.out (hb_).size)
  clear OS3
  have OS3 := t_
  clear t_
  have t_ := Aside0.mk (Nat.le_trans OS4.out (hb_).size)
  clear OS4
  have OS4 := t_
  clear t_
  have t_ := Aside0.mk (Nat.le_trans OS5.out (hb_).size)
  clear OS5
  have OS5 := t_
  clear t_
  clear HB_W11
  clear hb_
  go_wp2_with fail
  (with_reducible refine (laws_toIntSS.calls _ _ l1 l1 _ (Kd.C_below HR1.out HB_W12.out) hc1 (by unfold laws_toIntSS.f; rw [if_pos ⟨HZ1.out.1, fun x hx => Nat.le_trans (row_le_total l1 x hx) HZ1.out.2⟩])).mono ?_)
  rintro e W13 ⟨v_, rfl, hS_, hb_⟩
  have SG6 := Aside0.mk (Seg.of_S hS_)
  obtain ⟨lo_o6, hlo_o6⟩ : ∃ x, x = W12.heap.size := ⟨_, rfl⟩
  obtain ⟨hi_o6, hhi_o6⟩ : ∃ x, x = W13.heap.size := ⟨_, rfl⟩
  have OR6 : Aside0 (w.heap.size ≤ lo_o6 ∧ hi_o1 ≤ lo_o6 ∧ hi_o2 ≤ lo_o6 ∧ hi_o3 ≤ lo_o6 ∧ hi_o4 ≤ lo_o6 ∧ hi_o5 ≤ lo_o6) := ⟨by have h1 := HB_W12.out.size; have g0 := OS1.out; have g1 := OS2.out; have g2 := OS3.out; have g3 := OS4.out; have g4 := OS5.out; omega⟩
  have OS6 : Aside0 (hi_o6 ≤ W13.heap.size) := ⟨by omega⟩
  rw [← hlo_o6, ← hhi_o6] at SG6
  clear hlo_o6 hhi_o6
  obtain ⟨A_o6, c_o6, hv_⟩ := SG6.out.slice
  subst hv_
  clear hS_
  have HB_W13 := Aside0.mk (below_then HB_W12.out HB_W12.out.size hb_)
  have t_ := Aside0.mk (SG1.out.below hb_)
  clear SG1
  have SG1 := t_
  clear t_
  have t_ := Aside0.mk (SG2.out.below hb_)
  clear SG2
  have SG2 := t_
  clear t_
  have t_ := Aside0.mk (SG3.out.below hb_)
  clear SG3
  have SG3 := t_
  clear t_
  have t_ := Aside0.mk (SG4.out.below hb_)
  clear SG4
  have SG4 := t_
  clear t_
  have t_ := Aside0.mk (SG5.out.below hb_)
  clear SG5
  have SG5 := t_
  clear t_
  have t_ := Aside0.mk (Nat.le_trans OS1.out (hb_).size)
  clear OS1
  have OS1 := t_
  clear t_
  have t_ := Aside0.mk (Nat.le_trans OS2.out (hb_).size)
  clear OS2
  have OS2 := t_
  clear t_
  have t_ := Aside0.mk (Nat.le_trans OS3.out (hb_).size)
  clear OS3
  have OS3 := t_
  clear t_
  have t_ := Aside0.mk (Nat.le_trans OS4.out (hb_).size)
  clear OS4
  have OS4 := t_
  clear t_
  have t_ := Aside0.mk (Nat.le_trans OS5.out (hb_).size)
  clear OS5
  have OS5 := t_
  clear t_
  clear HB_W12
  clear hb_
  go_wp2_with fail
  (with_reducible refine (laws_eqIntSS.calls ke1 _ _ l1 _ _ l1 true _ (SG4.out.reads.2.2) (SG4.out.reads.2.1) (SG6.out.reads.2.2) (SG6.out.reads.2.1) HE1.out).mono ?_)
  rintro e W14 ⟨rfl, hd_⟩
  have hb_ := hd_.below
  clear hd_
  have HB_W14 := Aside0.mk (below_then HB_W13.out HB_W13.out.size hb_)
  have t_ := Aside0.mk (SG1.out.below hb_)
  clear SG1
  have SG1 := t_
  clear t_
  have t_ := Aside0.mk (SG2.out.below hb_)
  clear SG2
  have SG2 := t_
  clear t_
  have t_ := Aside0.mk (SG3.out.below hb_)
  clear SG3
  have SG3 := t_
  clear t_
  have t_ := Aside0.mk (SG4.out.below hb_)
  clear SG4
  have SG4 := t_
  clear t_
  have t_ := Aside0.mk (SG5.out.below hb_)
  clear SG5
  have SG5 := t_
  clear t_
  have t_ := Aside0.mk (SG6.out.below hb_)
  clear SG6
  have SG6 := t_
  clear t_
  have t_ := Aside0.mk (Nat.le_trans OS1.out (hb_).size)
  clear OS1
  have OS1 := t_
  clear t_
  have t_ := Aside0.mk (Nat.le_trans OS2.out (hb_).size)
  clear OS2
  have OS2 := t_
  clear t_
  have t_ := Aside0.mk (Nat.le_trans OS3.out (hb_).size)
  clear OS3
  have OS3 := t_
  clear t_
  have t_ := Aside0.mk (Nat.le_trans OS4.out (hb_).size)
  clear OS4
  have OS4 := t_
  clear t_
  have t_ := Aside0.mk (Nat.le_trans OS5.out (hb_).size)
  clear OS5
  have OS5 := t_
  clear t_
  have t_ := Aside0.mk (Nat.le_trans OS6.out (hb_).size)
  clear OS6
  have OS6 := t_
  clear t_
  clear HB_W13
  clear hb_
  go_wp2
  go_ret
  exact ⟨rfl, HB_W14.out⟩
end Go.Proofs.Ytadepmjfhcmkoaa.P
