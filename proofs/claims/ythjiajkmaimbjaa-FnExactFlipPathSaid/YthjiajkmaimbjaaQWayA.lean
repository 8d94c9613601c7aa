/- Whether a cell can be flipped, and the heights behind a flip: program and reference tell them alike. -/
import Derived.Test.YthjiajkmaimbjaaQHeight
import Derived.Test.YthjiajkmaimbjaaFSpecWay
import Derived.Test.YthjiajkmaimbjaaFImplWay
namespace Go.Proofs.Ythjiajkmaimbjaa.Pure
open Go.Proofs.Ythjiajkmaimbjaa.B Go.Proofs.Ythjiajkmaimbjaa.P
open Go.RowKit Go.Proofs.YthjiajkmaimbjaaW.PrintWords Go.Proofs.YthjiajkmaimbjaaW.PrintLast Go.Proofs.YthjiajkmaimbjaaW.PrintMore
set_option linter.unusedVariables false
set_option linter.unusedSimpArgs false
def wayV (h : List (List Int)) (i j : Nat) : Int :=
 if gd h (i - 1) j = gd h i j + 1 ∧ gd h (i + 1) j = gd h i j + 1 ∧ gd h i (j - 1) = gd h i j + 1 ∧ gd h i (j + 1) = gd h i j + 1 then 1
 else if gd h (i - 1) j = gd h i j - 1 ∧ gd h (i + 1) j = gd h i j - 1 ∧ gd h i (j - 1) = gd h i j - 1 ∧ gd h i (j + 1) = gd h i j - 1 then -1 else 0
theorem way_num (x a b c d : Int) (ha : a = x + 1 ∨ a = x - 1) (hb : b = x + 1 ∨ b = x - 1) (hc : c = x + 1 ∨ c = x - 1) (hd : d = x + 1 ∨ d = x - 1) :
  (if mn (mn (mn a b) c) d = mx (mx (mx a b) c) d then some (wrap64 (2 * wrap64 (mn (mn (mn a b) c) d - x))) else some (0 : Int)) = some (2 * (if a = x + 1 ∧ c = x + 1 ∧ d = x + 1 ∧ b = x + 1 then 1 else if a = x - 1 ∧ c = x - 1 ∧ d = x - 1 ∧ b = x - 1 then -1 else 0)) := by
 have k1 : mn (mn (mn a b) c) d = if a = x + 1 ∧ b = x + 1 ∧ c = x + 1 ∧ d = x + 1 then x + 1 else x - 1 := by
  unfold mn
  repeat' split
  all_goals omega
 have k2 : mx (mx (mx a b) c) d = if a = x - 1 ∧ b = x - 1 ∧ c = x - 1 ∧ d = x - 1 then x - 1 else x + 1 := by
  unfold mx
  repeat' split
  all_goals omega
 rw [k1, k2]
 have w1 : wrap64 (2 * wrap64 (x + 1 - x)) = 2 := by unfold wrap64; omega
 have w2 : wrap64 (2 * wrap64 (x - 1 - x)) = -2 := by unfold wrap64; omega
 by_cases p : a = x + 1 ∧ b = x + 1 ∧ c = x + 1 ∧ d = x + 1
 ·rw [if_pos p, if_neg (show ¬ (a = x - 1 ∧ b = x - 1 ∧ c = x - 1 ∧ d = x - 1) by omega), if_pos rfl, w1, if_pos (by omega)]; rfl
 ·rw [if_neg p, if_neg (show ¬ (a = x + 1 ∧ c = x + 1 ∧ d = x + 1 ∧ b = x + 1) by omega)]
  by_cases q : a = x - 1 ∧ b = x - 1 ∧ c = x - 1 ∧ d = x - 1
  ·rw [if_pos q, if_pos rfl, w2, if_pos (by omega)]; rfl
  ·rw [if_neg q, if_neg (show ¬ (x - 1 = x + 1) by omega), if_neg (show ¬ (a = x - 1 ∧ c = x - 1 ∧ d = x - 1 ∧ b = x - 1) by omega)]; rfl
theorem Lip.near {h : List (List Int)} {n : Nat} (L : Lip h n) (i j : Nat) (hi1 : 1 ≤ i) (hi : i < n) (hj1 : 1 ≤ j) (hj : j < n) :
  (gd h (i - 1) j = gd h i j + 1 ∨ gd h (i - 1) j = gd h i j - 1) ∧ (gd h i (j + 1) = gd h i j + 1 ∨ gd h i (j + 1) = gd h i j - 1) ∧ (gd h (i + 1) j = gd h i j + 1 ∨ gd h (i + 1) j = gd h i j - 1) ∧ (gd h i (j - 1) = gd h i j + 1 ∨ gd h i (j - 1) = gd h i j - 1) := by
 obtain ⟨a, rfl⟩ : ∃ a, i = a + 1 := ⟨i - 1, by omega⟩
 obtain ⟨b, rfl⟩ : ∃ b, j = b + 1 := ⟨j - 1, by omega⟩
 have h1 := L.dv a (by omega) (b + 1) (by omega); have h2 := L.dv (a + 1) (by omega) (b + 1) (by omega); have h3 := L.dh (a + 1) (by omega) b (by omega); have h4 := L.dh (a + 1) (by omega) (b + 1) (by omega); simp only [Nat.add_sub_cancel]; omega
theorem way_eq {h : List (List Int)} {n : Nat} (L : Lip h n) (hn : n ≤ 6) (i j : Nat) (hi1 : 1 ≤ i) (hi : i < n) (hj1 : 1 ≤ j) (hj : j < n) : impl_way.f h (i : Int) (j : Int) = some (2 * wayV h i j) := by
 obtain ⟨n1, n2, n3, n4⟩ := L.near i j hi1 hi hj1 hj; have r1 := L.rows (i - 1) (by omega); have r2 := L.rows i (by omega); have r3 := L.rows (i + 1) (by omega); unfold impl_way.f; rw [wrapE ((i : Int) - 1) (by omega) (by omega), wrapE ((j : Int) - 1) (by omega) (by omega), wrapN i (by omega), wrapN j (by omega), show (i : Int) - 1 = ((i - 1 : Nat) : Int) by omega, show (j : Int) - 1 = ((j - 1 : Nat) : Int) by omega]; simp only [row_eq, r1, r2, r3, L.len, rd_row]; rw [if_pos (by omega), if_pos (by omega), if_pos (by omega), if_pos (by omega), if_pos (by omega), if_pos (by omega), if_pos (by omega), if_pos (by omega), if_pos (by omega), if_pos (by omega), if_pos (by omega), if_pos (by omega), if_pos (by omega)]; simp only [Option.bind_some]; have m1 : slices_Min_int_int.f [gd h (i - 1) j, gd h i (j + 1), gd h (i + 1) j, gd h i (j - 1)] = some (mn (mn (mn (gd h (i - 1) j) (gd h i (j + 1))) (gd h (i + 1) j)) (gd h i (j - 1))) := rfl; have m2 : slices_Max_int_int.f [gd h (i - 1) j, gd h i (j + 1), gd h (i + 1) j, gd h i (j - 1)] = some (mx (mx (mx (gd h (i - 1) j) (gd h i (j + 1))) (gd h (i + 1) j)) (gd h i (j - 1))) := rfl; rw [m1, m2]; simp only [Option.bind_some]; rw [if_pos (show (j : Int) < ((n + 1 : Nat) : Int) by omega)]; exact way_num (gd h i j) _ _ _ _ n1 n2 n3 n4
theorem ev_heWay {h : List (List Int)} {n : Nat} (L : Lip h n) (hn : n ≤ 6) (i j : Nat) (hi1 : 1 ≤ i) (hi : i < n) (hj1 : 1 ≤ j) (hj : j < n) : Ev (fun k => spec_heWay.f k h (i : Int) (j : Int)) (wayV h i j) := by
 have r1 := L.rows (i - 1) (by omega); have r2 := L.rows i (by omega); have r3 := L.rows (i + 1) (by omega); have nb := L.num i j (by omega) (by omega); unfold spec_heWay.f; rw [wrapE ((i : Int) - 1) (by omega) (by omega), wrapE ((j : Int) - 1) (by omega) (by omega), wrapN i (by omega), wrapN j (by omega), show (i : Int) - 1 = ((i - 1 : Nat) : Int) by omega, show (j : Int) - 1 = ((j - 1 : Nat) : Int) by omega]; simp only [row_eq, r1, r2, r3, L.len, rd_row]; rw [wrapE (gd h i j + 1) (by omega) (by omega), wrapE (gd h i j - 1) (by omega) (by omega)]
 (repeat (first | refine Ev.pos (by omega) ?_ | refine Ev.neg (by omega) ?_))
 simp only [Option.bind_some]; refine Ev.bind (ev_l1All _ _ _ (by simp)) ?_; unfold wayV
 by_cases p : gd h (i - 1) j = gd h i j + 1 ∧ gd h (i + 1) j = gd h i j + 1 ∧ gd h i (j - 1) = gd h i j + 1 ∧ gd h i (j + 1) = gd h i j + 1
 ·rw [if_pos p]
  refine Ev.pos ?_ (Ev.now _); rw [p.1, p.2.1, p.2.2.1, p.2.2.2]
  simp [inB]
 ·rw [if_neg p]
  refine Ev.neg ?_ ?_
  ·intro c
   apply p
   simp [inB] at c
   omega
  ·refine Ev.bind (ev_l1All _ _ _ (by simp)) ?_
   by_cases q : gd h (i - 1) j = gd h i j - 1 ∧ gd h (i + 1) j = gd h i j - 1 ∧ gd h i (j - 1) = gd h i j - 1 ∧ gd h i (j + 1) = gd h i j - 1
   ·rw [if_pos q]
    refine Ev.pos ?_ (Ev.now _); rw [q.1, q.2.1, q.2.2.1, q.2.2.2]
    simp [inB]
   ·rw [if_neg q]
    refine Ev.neg ?_ (Ev.now _); intro c
    apply q
    simp [inB] at c
    omega
def flipT (h : List (List Int)) (i j : Nat) : List (List Int) := h.set i ((row h i).set j (gd h i j + 2 * wayV h i j))
theorem flipT_row {h : List (List Int)} {n : Nat} (L : Lip h n) (i j a : Nat) (hi : i ≤ n) (ha : a ≤ n) : row (flipT h i j) a = if a = i then (row h i).set j (gd h i j + 2 * wayV h i j) else row h a := by
 unfold flipT row; rw [List.getD_eq_getElem?_getD, List.getElem?_set]; have := L.len
 by_cases e : i = a
 ·subst e; rw [if_pos rfl, if_pos rfl, if_pos (by omega)]; rfl
 ·have e2 : ¬ a = i := fun x => e x.symm
  rw [if_neg e, if_neg e2]; rfl
theorem flipT_gd {h : List (List Int)} {n : Nat} (L : Lip h n) (i j a b : Nat) (hi : i ≤ n) (hj : j ≤ n) (ha : a ≤ n) (hb : b ≤ n) : gd (flipT h i j) a b = if a = i ∧ b = j then gd h i j + 2 * wayV h i j else gd h a b := by
 have e : gd (flipT h i j) a b = (row (flipT h i j) a).getD b 0 := rfl; rw [e, flipT_row L i j a hi ha]
 by_cases c : a = i
 ·subst c
  rw [if_pos rfl, List.getD_eq_getElem?_getD, List.getElem?_set]; have hr := L.rows a ha
  by_cases d : j = b
  ·subst d; rw [if_pos rfl, if_pos (by omega), if_pos ⟨rfl, rfl⟩]; rfl
  ·rw [if_neg d, if_neg (fun x => d x.2.symm)]; rfl
 ·rw [if_neg c, if_neg (fun x => c x.1)]; rfl
theorem wayV_cases (h : List (List Int)) (i j : Nat) : (wayV h i j = 1 ∧ gd h (i - 1) j = gd h i j + 1 ∧ gd h (i + 1) j = gd h i j + 1 ∧ gd h i (j - 1) = gd h i j + 1 ∧ gd h i (j + 1) = gd h i j + 1) ∨ (wayV h i j = -1 ∧ gd h (i - 1) j = gd h i j - 1 ∧ gd h (i + 1) j = gd h i j - 1 ∧ gd h i (j - 1) = gd h i j - 1 ∧ gd h i (j + 1) = gd h i j - 1) ∨ wayV h i j = 0 := by
 unfold wayV
 by_cases p : gd h (i - 1) j = gd h i j + 1 ∧ gd h (i + 1) j = gd h i j + 1 ∧ gd h i (j - 1) = gd h i j + 1 ∧ gd h i (j + 1) = gd h i j + 1
 ·exact .inl ⟨if_pos p, p⟩
 ·by_cases q : gd h (i - 1) j = gd h i j - 1 ∧ gd h (i + 1) j = gd h i j - 1 ∧ gd h i (j - 1) = gd h i j - 1 ∧ gd h i (j + 1) = gd h i j - 1
  ·exact .inr (.inl ⟨by rw [if_neg p, if_pos q], q⟩)
  ·exact .inr (.inr (by rw [if_neg p, if_neg q]))
theorem Lip.flip {h : List (List Int)} {n : Nat} (L : Lip h n) (i j : Nat) (hi1 : 1 ≤ i) (hi : i < n) (hj1 : 1 ≤ j) (hj : j < n) : Lip (flipT h i j) n where
 len := by unfold flipT; rw [List.length_set]; exact L.len
 rows := fun a ha => by
  rw [flipT_row L i j a (by omega) ha]
  split
  ·rw [List.length_set]; exact L.rows i (by omega)
  ·exact L.rows a ha
 dv := fun a ha b hb => by
  rw [flipT_gd L i j (a + 1) b (by omega) (by omega) (by omega) hb, flipT_gd L i j a b (by omega) (by omega) (by omega) hb]; have hd := L.dv a ha b hb; have hw := wayV_cases h i j
  by_cases c1 : a + 1 = i ∧ b = j
  ·obtain ⟨c, d⟩ := c1; subst d; subst c; rw [if_pos ⟨rfl, rfl⟩, if_neg (by omega)]; rw [Nat.add_sub_cancel] at hw; omega
  ·rw [if_neg c1]
   by_cases c2 : a = i ∧ b = j
   ·obtain ⟨c, d⟩ := c2; subst d; subst c; rw [if_pos ⟨rfl, rfl⟩]; omega
   ·rw [if_neg c2]; exact hd
 dh := fun a ha b hb => by
  rw [flipT_gd L i j a (b + 1) (by omega) (by omega) ha (by omega), flipT_gd L i j a b (by omega) (by omega) ha (by omega)]; have hd := L.dh a ha b hb; have hw := wayV_cases h i j
  by_cases c1 : a = i ∧ b + 1 = j
  ·obtain ⟨c, d⟩ := c1; subst d; subst c; rw [if_pos ⟨rfl, rfl⟩, if_neg (by omega)]; rw [Nat.add_sub_cancel] at hw; omega
  ·rw [if_neg c1]
   by_cases c2 : a = i ∧ b = j
   ·obtain ⟨c, d⟩ := c2; subst d; subst c; rw [if_pos ⟨rfl, rfl⟩]; omega
   ·rw [if_neg c2]; exact hd
 bord := fun b hb => by
  rw [flipT_gd L i j 0 b (by omega) (by omega) (by omega) hb, flipT_gd L i j b 0 (by omega) (by omega) hb (by omega), if_neg (by omega), if_neg (by omega)]; exact L.bord b hb
theorem flipT_small {h : List (List Int)} {n : Nat} (L : Lip h n) (hn : n ≤ 6) (i j : Nat) (hi : i ≤ n) (hj : j ≤ n) (d : Int) (hd : d = 2 * wayV h i j) : h.set i ((row h i).set j (wrap64 (gd h i j + d))) = flipT h i j := by
 have h1 := L.num i j hi hj; have h2 := wayV_cases h i j; unfold flipT; rw [hd, wrapE _ (by omega) (by omega)]
end Go.Proofs.Ythjiajkmaimbjaa.Pure
