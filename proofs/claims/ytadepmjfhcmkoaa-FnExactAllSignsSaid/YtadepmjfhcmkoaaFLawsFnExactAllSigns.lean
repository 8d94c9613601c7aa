-- By gp.py (this session's own driver over the kit's print). Not trusted: Lean checks it.
import Derived.Test.YtadepmjfhcmkoaaF0
import Derived.Test.YtadepmjfhcmkoaaB
import Derived.Test.YtadepmjfhcmkoaaPL
import Derived.Test.YtadepmjfhcmkoaaFImplAllSigns
import Derived.Test.YtadepmjfhcmkoaaFSpecAllSigns
import Derived.Test.YtadepmjfhcmkoaaTabThree
import Derived.Test.YtadepmjfhcmkoaaFImplAllSigns
import Derived.Test.YtadepmjfhcmkoaaFLawsEqIntSSS
import Derived.Test.YtadepmjfhcmkoaaFLawsHeldIntSSS
import Derived.Test.YtadepmjfhcmkoaaFSpecAllSigns
namespace Go.Proofs.Ytadepmjfhcmkoaa.P
open Go.Proofs.Ytadepmjfhcmkoaa.B
open Go.RowKit Go.Proofs.YtadepmjfhcmkoaaW.PrintWords Go.Proofs.YtadepmjfhcmkoaaW.PrintLast Go.Proofs.YtadepmjfhcmkoaaW.PrintMore
attribute [local go_sem] max2_int min2_int max_two min_two max_three min_three max_four min_four   -- for this text's walks alone
set_option linter.unusedVariables false
set_option linter.unusedSimpArgs false

/-- The law over lists alone: program and reference answer the same. -/
def laws_FnExactAllSigns.Pure : Prop := ∀ (a0 : Int), (Lit.int .i64 a0).wf = true → ∃ (r1 : List (List (List Int))) (r2 : Bool), (∃ k, spec_AllSigns.f k a0 = some (r1, r2)) ∧ impl_AllSigns.f a0 = some (r1, r2) ∧ total3 r1 ≤ 1048576 ∧ r1.length ≤ 1048576 ∧ ∀ x ∈ r1, x.length ≤ 1048576 ∧ ∀ y ∈ x, y.length ≤ 1048576
theorem MovedP.below {w0 w w' : World} {P : Nat → Prop} (h : MovedP w w' P) (hb : Below w0.heap.size w0 w) (hP : ∀ k, P k → w0.heap.size ≤ k) : Below w0.heap.size w0 w' :=
  hb.trans ⟨h.os, h.tape, h.output, h.size, fun k hk => h.block k (Nat.lt_of_lt_of_le hk hb.size) (fun e => by have := hP k e; omega)⟩
theorem MovedP.step {w w' : World} {P ok : Nat → Prop} {α : Type} {d : Kd α} {e base : Nat} {v : Value} {xs : List α} (h : MovedP w w' P) (hn : Kd.N d e w base ok v xs) (hP : ∀ k, ok k → ¬ P k) : Kd.N d e w' base ok v xs :=
  Kd.N_step hn (fun k hk hlt => h.block k hlt (hP k hk))
set_option maxHeartbeats 16000000 in
set_option maxRecDepth 100000 in
theorem laws_FnExactAllSigns.walk (P : laws_FnExactAllSigns.Pure) (a0 : Int) (w : World) (hw0 : (Lit.int .i64 a0).wf = true) :
    Calls Try.prog 6 #[.int .i64 a0] w fun e w' => e = .returned (.bool true) ∧ Below w.heap.size w w' := by
  obtain ⟨r1, r2, ⟨ks, hs⟩, hi, ht3, hl3, hr3⟩ := P a0 hw0
  have HS := Aside0.mk hs
  have HI := Aside0.mk hi
  obtain ⟨kq, hq⟩ := (ev_eqIntSSS r1 hl3 hr3).rounds
  obtain ⟨kh, hh⟩ := (ev_heldIntSSS r1 1 (by omega) (by omega) ht3 hl3 (fun x hx => (hr3 x hx).1)).rounds
  have HQ := Aside0.mk hq
  have HH := Aside0.mk hh
  have HT := Aside0.mk ht3
  have m0 : (0 : Int) ≤ (total3 r1 : Int) := Int.natCast_nonneg _
  clear hs hi hq hh hl3 hr3 ht3
  go_enter Try.func6, Try.ntmps6
  go_wp2_with fail
  (with_reducible refine (spec_AllSigns.calls ks a0 r1 r2 _ HS.out).mono ?_)
  rintro e W1 ⟨v1, rfl, hN, hb⟩
  have G1 := Aside0.mk (Kd.N_bound hN)
  have HB1 := Aside0.mk hb
  obtain ⟨A1, c1, rfl⟩ := Kd.N_slice hN
  clear hN hb
  go_wp2_with fail
  (with_reducible refine (impl_AllSigns.calls a0 r1 r2 _ HI.out).mono ?_)
  rintro e W2 ⟨v2, rfl, hS, hb⟩
  obtain ⟨n2, hn2⟩ : ∃ n2, n2 = W2.heap.size := ⟨_, rfl⟩
  have G2 := Aside0.mk (show Kd.S (Kd.sslice 39 (Kd.slice 3 (Kd.int .i64))) 22 W2 W1.heap.size (fun k => W1.heap.size ≤ k ∧ k < n2) v2 r1 from Kd.S_mono (Kd.S_bound hS) (fun k hk => ⟨hk.2.1, by rw [hn2]; exact hk.2.2.1⟩))
  have HB2 := Aside0.mk (below_step HB1.out hb)
  have G12 := Aside0.mk (Kd.N_below G1.out hb)
  obtain ⟨A2, c2, rfl⟩ := Kd.S_slice hS
  clear hS hb hn2
  go_wp2_with fail
  have hc := laws_eqIntSSS.calls kq A2 c2 r1 A1 c1 r1 true W2 (Kd.S_reads' G2.out).2.2 (Kd.S_reads' G2.out).2.1 (Kd.N_reads' G12.out).2.2 (Kd.N_reads' G12.out).2.1 HQ.out
  (with_reducible refine hc.mono ?_)
  clear hc
  rintro e W3 ⟨rfl, hd⟩
  have hb := hd.below
  have HB3 := Aside0.mk (below_step HB2.out hb)
  have G13 := Aside0.mk (Kd.N_below G12.out hb)
  have G23 := Aside0.mk (Kd.S_below G2.out hb)
  clear hd hb
  go_wp2_with fail
  (with_reducible refine (markSSS_ok W1.heap.size (fun k => W1.heap.size ≤ k ∧ k < n2) _ r1 1 _ G23.out (by omega) (by have := HT.out; omega) HT.out).mono ?_)
  rintro e W4 ⟨rfl, hS, hm⟩
  have HB4 := Aside0.mk (hm.below HB3.out (fun k hk => Nat.le_trans HB1.out.size hk.1))
  have G14 := Aside0.mk (hm.step G13.out (fun k hk h => by have := hk.2; have := h.1; omega))
  have G24 := Aside0.mk hS
  clear hS hm
  go_wp2_with fail
  have hc := laws_heldIntSSS.calls kh A2 c2 (marked3 r1 1) 1 (1 + (total3 r1 : Int)) W4 (Kd.S_reads' G24.out).2.2 (by rw [marked3_length]; exact (Kd.S_reads' G24.out).2.1) HH.out
  rw [marked3_length] at hc
  (with_reducible refine hc.mono ?_)
  clear hc
  rintro e W5 ⟨rfl, hd⟩
  have hb := hd.below
  have HB5 := Aside0.mk (below_step HB4.out hb)
  have G15 := Aside0.mk (Kd.N_below G14.out hb)
  have G25 := Aside0.mk (Kd.S_below G24.out hb)
  clear hd hb
  go_wp2_with fail
  (with_reducible refine (impl_AllSigns.calls a0 r1 r2 _ HI.out).mono ?_)
  rintro e W6 ⟨v6, rfl, hS, hb⟩
  have G36 := Aside0.mk hS
  have HB6 := Aside0.mk (below_step HB5.out hb)
  have G16 := Aside0.mk (Kd.N_below G15.out hb)
  have G26 := Aside0.mk (Kd.S_below G25.out hb)
  obtain ⟨A6, c6, rfl⟩ := Kd.S_slice hS
  clear hS hb
  go_wp2_with fail
  have hc := laws_eqIntSSS.calls kq A6 c6 r1 A1 c1 r1 true W6 (Kd.S_reads' G36.out).2.2 (Kd.S_reads' G36.out).2.1 (Kd.N_reads' G16.out).2.2 (Kd.N_reads' G16.out).2.1 HQ.out
  (with_reducible refine hc.mono ?_)
  clear hc
  rintro e W7 ⟨rfl, hd⟩
  have hb := hd.below
  have HB7 := Aside0.mk (below_step HB6.out hb)
  have G27 := Aside0.mk (Kd.S_below G26.out hb)
  clear hd hb
  go_wp2_with fail
  have hc := laws_heldIntSSS.calls kh A2 c2 (marked3 r1 1) 1 (1 + (total3 r1 : Int)) W7 (Kd.S_reads' G27.out).2.2 (by rw [marked3_length]; exact (Kd.S_reads' G27.out).2.1) HH.out
  rw [marked3_length] at hc
  (with_reducible refine hc.mono ?_)
  clear hc
  rintro e W8 ⟨rfl, hd⟩
  have HB8 := Aside0.mk (below_step HB7.out hd.below)
  clear hd
  go_wp2
  go_ret
  exact ⟨rfl, HB8.out⟩

end Go.Proofs.Ytadepmjfhcmkoaa.P
