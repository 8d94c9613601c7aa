/- slices.MinFunc on [][][]int: the first least table, for a comparison that only reads. -/
import Derived.Test.YthjiajkmaimbjaaCompareFuncRow
import Derived.Test.YthjiajkmaimbjaaTab
namespace Go.Proofs.Ythjiajkmaimbjaa.P
open Go.Proofs.Ythjiajkmaimbjaa.B
open Go.RowKit Go.Proofs.YthjiajkmaimbjaaW.PrintWords Go.Proofs.YthjiajkmaimbjaaW.PrintLast Go.Proofs.YthjiajkmaimbjaaW.PrintMore
set_option linter.unusedVariables false
set_option linter.unusedSimpArgs false
def minT {α : Type} (cmp : α → α → Int) : α → List α → α
  | m, [] => m
  | m, x :: xs => minT cmp (if cmp x m < 0 then x else m) xs
theorem at_tab {w : World} {A : Option Addr} {n : Nat} {l : List (List (List Int))} (h : Kd.C (Kd.slice 22 (Kd.slice 3 (Kd.int .i64))) w A n l) (i : Int) (h0 : 0 ≤ i) (hi : i < (n : Int)) : ∃ ad A0 c0, A = some ad ∧ w.cell? (ad.add i.toNat) = some (.slice A0 (l.getD i.toNat []).length c0) ∧ (l.getD i.toNat []).length ≤ c0 ∧ Kd.C (Kd.slice 3 (Kd.int .i64)) w A0 (l.getD i.toNat []).length (l.getD i.toNat []) := by
  obtain ⟨ad, c, e1, _, hK, hc0⟩ := Kd.C_get h ([] : List (List Int)) i h0 hi
  have hc : ∀ j u, c[j]? = some u → w.cell? (ad.add (i.toNat * 1 + j)) = some u := hc0
  obtain ⟨A0, c0, rfl, l0, g0⟩ := hK
  exact ⟨ad, A0, c0, e1, by have hq := hc 0 _ rfl; rwa [Nat.mul_one, Nat.add_zero] at hq, l0, g0⟩
set_option maxHeartbeats 8000000 in
set_option maxRecDepth 100000 in
theorem minFunc_tabs (K : Nat) (caps : Array Value) (cmp : List (List Int) → List (List Int) → Int) (A : Option Addr) (c n : Nat) (x : List (List Int)) (xs : List (List (List Int))) (w : World) (hn : n = xs.length + 1) (hr : Kd.C (Kd.slice 22 (Kd.slice 3 (Kd.int .i64))) w A n (x :: xs)) (hE : Enters Try.prog K)
    (hF : ∀ (a b : List (List Int)) (A0 B0 : Option Addr) (c0 d0 q : Nat), a ∈ x :: xs → b ∈ x :: xs → a.length ≤ c0 → b.length ≤ d0 → Kd.C (Kd.slice 3 (Kd.int .i64)) w A0 a.length a → Kd.C (Kd.slice 3 (Kd.int .i64)) w B0 b.length b → Calls Try.prog K (#[.slice A0 a.length c0, .slice B0 b.length d0] ++ caps) (w.drewN q) fun e w' => e = .returned (.int .i64 (cmp a b)) ∧ Drawn0 (w.drewN q) w') :
    Calls Try.prog 78 #[.slice A n c, .func (.func K) #[] caps] w fun e w' => ∃ (B : Option Addr) (d : Nat), e = .returned (.slice B (minT cmp x xs).length d) ∧ (minT cmp x xs).length ≤ d ∧ Kd.C (Kd.slice 3 (Kd.int .i64)) w B (minT cmp x xs).length (minT cmp x xs) ∧ Drawn0 w w' := by
  have HR0 := Aside0.mk hr
  have HF := Aside0.mk hF
  have hm := hr.2.1
  have HN := Aside0.mk hn
  obtain ⟨ad, A0, c0, e1, hx1, hc0, hr0⟩ := at_tab hr 0 (by omega) (by omega)
  cases e1
  have hg : (x :: xs).getD (0 : Int).toNat [] = x := rfl
  rw [hg] at hx1 hc0 hr0
  rw [Int.toNat_zero, Addr.add_zero'] at hx1
  have b0 : decide ((n : Int) < 1) = false := by simp; omega
  have b1 : decide (0 < n) = true := by simp; omega
  have hnp : 0 < n := by omega
  have hE1 := hE
  unfold Enters at hE1
  have HC0 := Aside0.mk (And.intro hc0 hr0)
  clear hr hF hn hg hc0 hr0
  go_enter Try.func78, Try.ntmps78
  go_wp2
  go_loopg [5, 6] (n + 1) (fun kq v5 v6 w' => ∃ (j : Nat) (y : Int) (m : List (List Int)) (B : Option Addr) (d : Nat), v6 = .int .i64 y ∧ v5 = .slice B m.length d ∧ Aside0 (j + 1 ≤ n ∧ kq = n + 1 - j ∧ y = (j : Int) + 1 ∧ m ∈ x :: xs ∧ m.length ≤ d ∧ minT cmp x xs = minT cmp m (xs.drop j)) ∧ Aside0 (Kd.C (Kd.slice 3 (Kd.int .i64)) w B m.length m) ∧ 0 ≤ y ∧ y ≤ 9223372036854775807 ∧ Drawn0 w w')
  case atStart => exact ⟨0, 1, x, A0, c0, rfl, rfl, ⟨⟨by omega, by omega, rfl, by simp, HC0.out.1, by simp⟩⟩, ⟨HC0.out.2⟩, by omega, by omega, by repeat (first | exact Drawn0.refl _ | apply Drawn0.step)⟩
  case round =>
    obtain ⟨j, y, m, B, d, rfl, rfl, HA, HM, hy0, hy1, ⟨m1, rfl⟩⟩ := hrel
    by_cases c4 : y < (n : Int)
    · have c4b0 : decide (y < (n : Int)) = true := decide_eq_true c4
      have hjx : j < xs.length := by have := HA.out; have := HN.out; omega
      obtain ⟨ad2, B2, d2, e2, hx3, hc2, hr2⟩ := at_tab HR0.out y hy0 c4
      cases e2
      have hg : (x :: xs).getD y.toNat [] = xs[j] := by
        rw [show y.toNat = j + 1 by have := HA.out; omega, List.getD_eq_getElem?_getD]
        simp [List.getElem?_eq_getElem hjx]
      rw [hg] at hx3 hc2 hr2
      obtain ⟨z, hz⟩ : ∃ z, z = xs[j] := ⟨_, rfl⟩
      have hzm : z ∈ x :: xs := by rw [hz]; exact List.mem_cons_of_mem _ (List.getElem_mem _)
      have hst : minT cmp m (xs.drop j) = minT cmp (if cmp z m < 0 then z else m) (xs.drop (j + 1)) := by rw [List.drop_eq_getElem_cons hjx, hz]; rfl
      rw [← hz] at hx3 hc2 hr2
      have hcall := HF.out z m B2 B d2 d m1 hzm HA.out.2.2.2.1 hc2 HA.out.2.2.2.2.1 hr2 HM.out
      obtain ⟨v, hv⟩ : ∃ v, v = cmp z m := ⟨_, rfl⟩
      rw [← hv] at hst hcall
      have HST := Aside0.mk hst
      have HZ := Aside0.mk (And.intro hzm (And.intro hc2 hr2))
      clear hst hv hg hz hzm hc2 hr2
      by_cases c5 : v < 0
      · have c6 := decide_eq_true c5
        have C5 := Aside0.mk c5
        clear c5
        go_wp2_with (go_at_fn K; refine hcall.mono ?_; rintro e w' ⟨rfl, ⟨n2, rfl⟩⟩)
        go_roundg (gk - 1)
        case measure => have := HA.out; omega
        case rel => exact ⟨j + 1, y + 1, z, B2, d2, by first | rfl | go_num, rfl, ⟨⟨by have := HA.out; omega, by have := HA.out; omega, by have := HA.out; omega, HZ.out.1, HZ.out.2.1, by rw [HA.out.2.2.2.2.2, HST.out, if_pos C5.out]⟩⟩, ⟨HZ.out.2.2⟩, by omega, by have := HA.out; omega, by repeat (first | exact Drawn0.refl _ | apply Drawn0.step)⟩
      · have c6 := decide_eq_false c5
        have C5 := Aside0.mk c5
        clear c5
        go_wp2_with (go_at_fn K; refine hcall.mono ?_; rintro e w' ⟨rfl, ⟨n2, rfl⟩⟩)
        go_roundg (gk - 1)
        case measure => have := HA.out; omega
        case rel => exact ⟨j + 1, y + 1, m, B, d, by first | rfl | go_num, rfl, ⟨⟨by have := HA.out; omega, by have := HA.out; omega, by have := HA.out; omega, HA.out.2.2.2.1, HA.out.2.2.2.2.1, by rw [HA.out.2.2.2.2.2, HST.out, if_neg (show ¬ v < 0 by have := C5.out; omega)]⟩⟩, ⟨HM.out⟩, by omega, by have := HA.out; omega, by repeat (first | exact Drawn0.refl _ | apply Drawn0.step)⟩
    · have c4b0 : decide (y < (n : Int)) = false := decide_eq_false c4
      have hres : minT cmp x xs = m := by
        rw [HA.out.2.2.2.2.2, List.drop_eq_nil_of_le (by have := HA.out; have := HN.out; omega)]
        rfl
      go_wp2
      go_ret
      exact ⟨B, d, rfl, HA.out.2.2.2.2.1, HM.out, by repeat (first | exact Drawn0.refl _ | apply Drawn0.step)⟩
end Go.Proofs.Ythjiajkmaimbjaa.P
