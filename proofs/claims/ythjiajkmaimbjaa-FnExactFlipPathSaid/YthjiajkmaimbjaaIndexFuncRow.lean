/- slices.IndexFunc and slices.ContainsFunc on [][]int: what they answer for a predicate's closure that only reads. -/
import Derived.Test.YthjiajkmaimbjaaF0
import Derived.Test.YthjiajkmaimbjaaB
namespace Go.Proofs.Ythjiajkmaimbjaa.P
open Go.Proofs.Ythjiajkmaimbjaa.B
open Go.RowKit Go.Proofs.YthjiajkmaimbjaaW.PrintWords Go.Proofs.YthjiajkmaimbjaaW.PrintLast Go.Proofs.YthjiajkmaimbjaaW.PrintMore
set_option linter.unusedVariables false
set_option linter.unusedSimpArgs false
set_option maxHeartbeats 8000000 in
set_option maxRecDepth 100000 in
theorem indexFunc_rows (K : Nat) (caps : Array Value) (p : List Int → Bool) (A : Option Addr) (c : Nat) (l : List (List Int)) (w : World) (hr : Kd.C (Kd.slice 3 (Kd.int .i64)) w A l.length l) (hE : Enters Try.prog K)
  (hF : ∀ (x : List Int) (A0 : Option Addr) (c0 n : Nat), x ∈ l → x.length ≤ c0 → Kd.C (Kd.int .i64) w A0 x.length x → Calls Try.prog K (#[.slice A0 x.length c0] ++ caps) (w.drewN n) fun e w' => e = .returned (.bool (p x)) ∧ Drawn0 (w.drewN n) w') :
  Calls Try.prog 151 #[.slice A l.length c, .func (.func K) #[] caps] w fun e w' => e = .returned (.int .i64 (findF p l)) ∧ Drawn0 w w' := by
 have HR0 := Aside0.mk hr; have HF := Aside0.mk hF; have hm := hr.2.1; clear hr hF; go_enter Try.func151, Try.ntmps151
 go_wp2_with fail
 go_loopg [8] (l.length + 1) (fun kq v8 w' => ∃ j : Nat, v8 = .int .i64 j ∧ Aside0 (j ≤ l.length ∧ kq = l.length + 1 - j ∧ ∀ x ∈ l.take j, p x = false) ∧ Drawn0 w w')
 case atStart => exact ⟨0, rfl, ⟨⟨by omega, by omega, by simp⟩⟩, Drawn0.refl _⟩
 case round =>
  obtain ⟨j, rfl, HA, ⟨m1, rfl⟩⟩ := hrel
  by_cases c4 : j < l.length
  ·have c4b0 : decide (j < l.length) = true := decide_eq_true c4
   obtain ⟨ad, A0, c0, e1, hx1, hc0, hr0⟩ := at_row HR0.out j c4
   cases e1
   have hgd : l.getD j [] = l[j] := by rw [List.getD_eq_getElem?_getD, List.getElem?_eq_getElem c4]; rfl
   rw [hgd] at hx1 hc0 hr0; clear hgd
   obtain ⟨x, hxe⟩ : ∃ x, x = l[j] := ⟨_, rfl⟩
   have hxm : x ∈ l := by rw [hxe]; exact List.getElem_mem _
   rw [← hxe] at hx1 hc0 hr0; have HX := Aside0.mk hxe; have hcall := HF.out x A0 c0 m1 hxm hc0 hr0; clear hxe hxm hr0; have hE1 := hE; unfold Enters at hE1
   by_cases c5 : p x = true
   ·go_wp2_with (go_at_fn K; refine hcall.mono ?_; rintro e w' ⟨rfl, ⟨n2, rfl⟩⟩)
    go_ret; exact ⟨by rw [findF_some j c4 HA.out.2.2 (by rw [← HX.out]; exact c5)]; rfl, by repeat (first | exact Drawn0.refl _ | apply Drawn0.step)⟩
   ·have c5' := Bool.eq_false_iff.mpr c5
    clear c5
    go_wp2_with (go_at_fn K; refine hcall.mono ?_; rintro e w' ⟨rfl, ⟨n2, rfl⟩⟩)
    go_roundg (gk - 1)
    case measure => have := HA.out; omega
    case rel => exact ⟨j + 1, by go_num, ⟨⟨by omega, by have := HA.out; omega, take_all c4 HA.out.2.2 (by rw [← HX.out]; exact c5')⟩⟩, by repeat (first | exact Drawn0.refl _ | apply Drawn0.step)⟩
  ·have c4b0 : decide (j < l.length) = false := decide_eq_false c4; go_wp2; go_ret; exact ⟨by rw [findF_none (by have := HA.out.2.2; rwa [List.take_of_length_le (by omega)] at this)]; rfl, by repeat (first | exact Drawn0.refl _ | apply Drawn0.step)⟩
set_option maxHeartbeats 8000000 in
set_option maxRecDepth 100000 in
theorem containsFunc_rows (K : Nat) (caps : Array Value) (p : List Int → Bool) (A : Option Addr) (c : Nat) (l : List (List Int)) (w : World) (hr : Kd.C (Kd.slice 3 (Kd.int .i64)) w A l.length l) (hE : Enters Try.prog K)
  (hF : ∀ (x : List Int) (A0 : Option Addr) (c0 n : Nat), x ∈ l → x.length ≤ c0 → Kd.C (Kd.int .i64) w A0 x.length x → Calls Try.prog K (#[.slice A0 x.length c0] ++ caps) (w.drewN n) fun e w' => e = .returned (.bool (p x)) ∧ Drawn0 (w.drewN n) w') :
  Calls Try.prog 137 #[.slice A l.length c, .func (.func K) #[] caps] w fun e w' => e = .returned (.bool (l.any p)) ∧ Drawn0 w w' := by
 have HR0 := Aside0.mk hr; have HF := Aside0.mk hF; clear hr hF; go_enter Try.func137, Try.ntmps137
 go_wp2_with (go_at_call 151; refine (indexFunc_rows K caps p A c l w HR0.out hE HF.out).mono ?_; rintro e w' ⟨rfl, ⟨n2, rfl⟩⟩)
 go_ret; exact ⟨by rw [← findF_any]; rfl, by repeat (first | exact Drawn0.refl _ | apply Drawn0.step)⟩
end Go.Proofs.Ythjiajkmaimbjaa.P
