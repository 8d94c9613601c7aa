/- slices.CompareFunc on [][]int: what it answers for a comparison's closure that only reads. -/
import Derived.Test.YthjiajkmaimbjaaF0
import Derived.Test.YthjiajkmaimbjaaB
namespace Go.Proofs.Ythjiajkmaimbjaa.P
open Go.Proofs.Ythjiajkmaimbjaa.B
open Go.RowKit Go.Proofs.YthjiajkmaimbjaaW.PrintWords Go.Proofs.YthjiajkmaimbjaaW.PrintLast Go.Proofs.YthjiajkmaimbjaaW.PrintMore
set_option linter.unusedVariables false
set_option linter.unusedSimpArgs false
def cmpT {α : Type} (cmp : α → α → Int) : List α → List α → Int
 | [], [] => 0
 | [], _ :: _ => -1
 | _ :: _, [] => 1
 | x :: xs, y :: ys => if cmp x y = 0 then cmpT cmp xs ys else cmp x y
theorem cmpT_drop {α : Type} (cmp : α → α → Int) (l m : List α) (j : Nat) (hl : j < l.length) (hm : j < m.length) : cmpT cmp (l.drop j) (m.drop j) = if cmp l[j] m[j] = 0 then cmpT cmp (l.drop (j + 1)) (m.drop (j + 1)) else cmp l[j] m[j] := by
 rw [List.drop_eq_getElem_cons hl, List.drop_eq_getElem_cons hm]; rfl
theorem cmpT_long {α : Type} (cmp : α → α → Int) (l m : List α) (j : Nat) (hl : j < l.length) (hm : m.length ≤ j) : cmpT cmp (l.drop j) (m.drop j) = 1 := by
 rw [List.drop_eq_getElem_cons hl, List.drop_eq_nil_of_le hm]; rfl
theorem cmpT_end {α : Type} (cmp : α → α → Int) (l m : List α) (j : Nat) (hl : l.length ≤ j) : cmpT cmp (l.drop j) (m.drop j) = if j < m.length then -1 else 0 := by
 rw [List.drop_eq_nil_of_le hl]
 by_cases c : j < m.length
 ·rw [if_pos c, List.drop_eq_getElem_cons c]; rfl
 ·rw [if_neg c, List.drop_eq_nil_of_le (by omega)]; rfl
set_option maxHeartbeats 8000000 in
set_option maxRecDepth 100000 in
theorem compareFunc_rows (K : Nat) (caps : Array Value) (cmp : List Int → List Int → Int) (A B : Option Addr) (c d : Nat) (l m : List (List Int)) (w : World) (hr : Kd.C (Kd.slice 3 (Kd.int .i64)) w A l.length l) (hs : Kd.C (Kd.slice 3 (Kd.int .i64)) w B m.length m) (hE : Enters Try.prog K)
  (hF : ∀ (x y : List Int) (A0 B0 : Option Addr) (c0 d0 n : Nat), x ∈ l → y ∈ m → x.length ≤ c0 → y.length ≤ d0 → Kd.C (Kd.int .i64) w A0 x.length x → Kd.C (Kd.int .i64) w B0 y.length y → Calls Try.prog K (#[.slice A0 x.length c0, .slice B0 y.length d0] ++ caps) (w.drewN n) fun e w' => e = .returned (.int .i64 (cmp x y)) ∧ Drawn0 (w.drewN n) w') :
  Calls Try.prog 115 #[.slice A l.length c, .slice B m.length d, .func (.func K) #[] caps] w fun e w' => e = .returned (.int .i64 (cmpT cmp l m)) ∧ Drawn0 w w' := by
 have HR0 := Aside0.mk hr; have HS0 := Aside0.mk hs; have HF := Aside0.mk hF; have hm1 := hr.2.1; have hm2 := hs.2.1; clear hr hs hF; go_enter Try.func115, Try.ntmps115
 go_wp2_with fail
 go_loopg [13] (l.length + 1) (fun kq v13 w' => ∃ j : Nat, v13 = .int .i64 j ∧ Aside0 (j ≤ l.length ∧ kq = l.length + 1 - j ∧ cmpT cmp l m = cmpT cmp (l.drop j) (m.drop j)) ∧ Drawn0 w w')
 case atStart => exact ⟨0, rfl, ⟨⟨by omega, by omega, by simp⟩⟩, Drawn0.refl _⟩
 case round =>
  obtain ⟨j, rfl, HA, ⟨m1, rfl⟩⟩ := hrel
  by_cases c4 : j < l.length
  ·have c4b0 : decide (j < l.length) = true := decide_eq_true c4
   obtain ⟨ad, A0, c0, e1, hx1, hc0, hr0⟩ := at_row HR0.out j c4
   cases e1
   have hgd : l.getD j [] = l[j] := by rw [List.getD_eq_getElem?_getD, List.getElem?_eq_getElem c4]; rfl
   rw [hgd] at hx1 hc0 hr0; clear hgd
   by_cases c5 : j < m.length
   ·have c5b0 : decide (m.length ≤ j) = false := by simp; omega
    have c5b1 : decide (j < m.length) = true := decide_eq_true c5; obtain ⟨bd, B0, d0, e2, hy1, hd0, hs0⟩ := at_row HS0.out j c5
    cases e2
    have hgd : m.getD j [] = m[j] := by rw [List.getD_eq_getElem?_getD, List.getElem?_eq_getElem c5]; rfl
    rw [hgd] at hy1 hd0 hs0; clear hgd; have hstep := cmpT_drop cmp l m j c4 c5; have hcall := HF.out l[j] m[j] A0 B0 c0 d0 m1 (List.getElem_mem _) (List.getElem_mem _) hc0 hd0 hr0 hs0
    obtain ⟨x, hxe⟩ : ∃ x, x = l[j] := ⟨_, rfl⟩
    obtain ⟨y, hye⟩ : ∃ y, y = m[j] := ⟨_, rfl⟩
    rw [← hxe] at hx1 hstep hcall; rw [← hye] at hy1 hstep hcall; have HST := Aside0.mk hstep; clear hstep hc0 hd0 hr0 hs0 hxe hye
    obtain ⟨v, hv⟩ : ∃ v, v = cmp x y := ⟨_, rfl⟩
    rw [← hv] at HST hcall; clear hv; have hE1 := hE; unfold Enters at hE1
    by_cases c6 : v = 0
    ·subst c6
     go_wp2_with (go_at_fn K; refine hcall.mono ?_; rintro e w' ⟨rfl, ⟨n2, rfl⟩⟩)
     go_roundg (gk - 1)
     case measure => have := HA.out; omega
     case rel => exact ⟨j + 1, by go_num, ⟨⟨by omega, by have := HA.out; omega, by rw [HA.out.2.2, HST.out]; simp⟩⟩, (by repeat (first | exact Drawn0.refl _ | apply Drawn0.step))⟩
    ·have c6b0 : (v == 0) = false := by simpa using c6
     have c6b1 : (v != 0) = true := by simpa using c6
     have C6 := Aside0.mk c6; clear c6
     go_wp2_with (go_at_fn K; refine hcall.mono ?_; rintro e w' ⟨rfl, ⟨n2, rfl⟩⟩)
     go_ret; exact ⟨by rw [HA.out.2.2, HST.out, if_neg C6.out]; rfl, (by repeat (first | exact Drawn0.refl _ | apply Drawn0.step))⟩
   ·have c5b0 : decide (m.length ≤ j) = true := by simp; omega
    have hstep := cmpT_long cmp l m j c4 (by omega); have HST := Aside0.mk hstep; clear hstep hc0 hr0; go_wp2; go_ret; exact ⟨by rw [HA.out.2.2, HST.out]; rfl, (by repeat (first | exact Drawn0.refl _ | apply Drawn0.step))⟩
  ·have c4b0 : decide (j < l.length) = false := decide_eq_false c4
   have hstep := cmpT_end cmp l m j (by omega)
   have hj : j = l.length := by have := HA.out; omega
   by_cases c5 : l.length < m.length
   ·have c5b1 : decide (l.length < m.length) = true := decide_eq_true c5; rw [if_pos (by omega)] at hstep; have HST := Aside0.mk hstep; clear hstep; go_wp2; go_ret; exact ⟨by rw [HA.out.2.2, HST.out]; rfl, (by repeat (first | exact Drawn0.refl _ | apply Drawn0.step))⟩
   ·have c5b1 : decide (l.length < m.length) = false := decide_eq_false c5; rw [if_neg (by omega)] at hstep; have HST := Aside0.mk hstep; clear hstep; go_wp2; go_ret; exact ⟨by rw [HA.out.2.2, HST.out]; rfl, (by repeat (first | exact Drawn0.refl _ | apply Drawn0.step))⟩
end Go.Proofs.Ythjiajkmaimbjaa.P
