import Derived.Test.YthjiajkmaimbjaaQWayA
import Derived.Test.YthjiajkmaimbjaaQSameT
import Derived.Test.YthjiajkmaimbjaaFSpecFlip
import Derived.Test.YthjiajkmaimbjaaFImplFlipPath
import Derived.Test.YthjiajkmaimbjaaQCmp
import Derived.Test.YthjiajkmaimbjaaQSign
/- Cells whose flips lead nearer to other heights: there is one as long as the heights differ, and program and reference find the same. -/
namespace Go.Proofs.Ythjiajkmaimbjaa.Pure
open Go.Proofs.Ythjiajkmaimbjaa.B Go.Proofs.Ythjiajkmaimbjaa.P
open Go.RowKit Go.Proofs.YthjiajkmaimbjaaW.PrintWords Go.Proofs.YthjiajkmaimbjaaW.PrintLast Go.Proofs.YthjiajkmaimbjaaW.PrintMore
set_option linter.unusedVariables false
set_option linter.unusedSimpArgs false
def SameEdge (h g : List (List Int)) (n : Nat) : Prop := ∀ j, j ≤ n → gd h 0 j = gd g 0 j ∧ gd h j 0 = gd g j 0 ∧ gd h n j = gd g n j ∧ gd h j n = gd g j n
theorem Lip.par {h : List (List Int)} {n : Nat} (L : Lip h n) (i j : Nat) (hi : i ≤ n) (hj : j ≤ n) : (gd h i j - (i : Int) - (j : Int)) % 2 = 0 := by
 induction i with
 | zero => have := (L.bord j hj).1; omega
 | succ i ih =>
  have h1 := ih (by omega); have h2 := L.dv i (by omega) j hj; omega
theorem wayV_up {h : List (List Int)} {i j : Nat} (h1 : gd h (i - 1) j = gd h i j + 1) (h2 : gd h (i + 1) j = gd h i j + 1) (h3 : gd h i (j - 1) = gd h i j + 1) (h4 : gd h i (j + 1) = gd h i j + 1) : wayV h i j = 1 := by
 unfold wayV; exact if_pos ⟨h1, h2, h3, h4⟩
theorem wayV_dn {h : List (List Int)} {i j : Nat} (h1 : gd h (i - 1) j = gd h i j - 1) (h2 : gd h (i + 1) j = gd h i j - 1) (h3 : gd h i (j - 1) = gd h i j - 1) (h4 : gd h i (j + 1) = gd h i j - 1) : wayV h i j = -1 := by
 unfold wayV; rw [if_neg (by omega)]; exact if_pos ⟨h1, h2, h3, h4⟩
theorem edge_in {h g : List (List Int)} {n : Nat} (e : SameEdge h g n) {i j : Nat} (hi : i ≤ n) (hj : j ≤ n) (hne : ¬ gd h i j = gd g i j) : 1 ≤ i ∧ i < n ∧ 1 ≤ j ∧ j < n := by
 refine ⟨?_, ?_, ?_, ?_⟩
 ·refine Classical.byContradiction (fun c => hne ?_)
  have : i = 0 := by omega
  subst this; exact (e j hj).1
 ·refine Classical.byContradiction (fun c => hne ?_)
  have : i = n := by omega
  subst this; exact (e j hj).2.2.1
 ·refine Classical.byContradiction (fun c => hne ?_)
  have : j = 0 := by omega
  subst this; exact (e i hi).2.1
 ·refine Classical.byContradiction (fun c => hne ?_)
  have : j = n := by omega
  subst this; exact (e i hi).2.2.2
theorem up_ex {h g : List (List Int)} {n : Nat} (L : Lip h n) (G : Lip g n) (e : SameEdge h g n) : ∀ (d i j : Nat), (gd h i j + (n : Int) + 1).toNat ≤ d → i ≤ n → j ≤ n → gd h i j < gd g i j → ∃ a b, 1 ≤ a ∧ a < n ∧ 1 ≤ b ∧ b < n ∧ gd h a b < gd g a b ∧ wayV h a b = 1 := by
 intro d
 induction d with
 | zero =>
  intro i j hd hi hj hlt; have := L.num i j hi hj; omega
 | succ d ih =>
  intro i j hd hi hj hlt; obtain ⟨i1, i2, j1, j2⟩ := edge_in e hi hj (by omega); have p1 := L.par i j hi hj; have p2 := G.par i j hi hj
  have key : ∀ a b : Nat, a ≤ n → b ≤ n → (gd h a b = gd h i j + 1 ∨ gd h a b = gd h i j - 1) → (gd g a b = gd g i j + 1 ∨ gd g a b = gd g i j - 1) → ¬ gd h a b = gd h i j + 1 → ∃ a b, 1 ≤ a ∧ a < n ∧ 1 ≤ b ∧ b < n ∧ gd h a b < gd g a b ∧ wayV h a b = 1 := by
   intro a b ha hb q1 q2 q3; have := L.num a b ha hb; exact ih a b (by omega) ha hb (by omega)
  obtain ⟨n1, n2, n3, n4⟩ := L.near i j i1 i2 j1 j2; obtain ⟨m1, m2, m3, m4⟩ := G.near i j i1 i2 j1 j2
  by_cases c1 : gd h (i - 1) j = gd h i j + 1
  ·by_cases c2 : gd h (i + 1) j = gd h i j + 1
   ·by_cases c3 : gd h i (j - 1) = gd h i j + 1
    ·by_cases c4 : gd h i (j + 1) = gd h i j + 1
     ·exact ⟨i, j, i1, i2, j1, j2, hlt, wayV_up c1 c2 c3 c4⟩
     ·exact key i (j + 1) hi j2 n2 m2 c4
    ·exact key i (j - 1) hi (Nat.le_trans (Nat.sub_le _ _) hj) n4 m4 c3
   ·exact key (i + 1) j i2 hj n3 m3 c2
  ·exact key (i - 1) j (Nat.le_trans (Nat.sub_le _ _) hi) hj n1 m1 c1
theorem dn_ex {h g : List (List Int)} {n : Nat} (L : Lip h n) (G : Lip g n) (e : SameEdge h g n) : ∀ (d i j : Nat), (2 * (n : Int) + 1 - gd h i j).toNat ≤ d → i ≤ n → j ≤ n → gd g i j < gd h i j → ∃ a b, 1 ≤ a ∧ a < n ∧ 1 ≤ b ∧ b < n ∧ gd g a b < gd h a b ∧ wayV h a b = -1 := by
 intro d
 induction d with
 | zero =>
  intro i j hd hi hj hlt; have := L.num i j hi hj; omega
 | succ d ih =>
  intro i j hd hi hj hlt; obtain ⟨i1, i2, j1, j2⟩ := edge_in e hi hj (by omega); have p1 := L.par i j hi hj; have p2 := G.par i j hi hj
  have key : ∀ a b : Nat, a ≤ n → b ≤ n → (gd h a b = gd h i j + 1 ∨ gd h a b = gd h i j - 1) → (gd g a b = gd g i j + 1 ∨ gd g a b = gd g i j - 1) → ¬ gd h a b = gd h i j - 1 → ∃ a b, 1 ≤ a ∧ a < n ∧ 1 ≤ b ∧ b < n ∧ gd g a b < gd h a b ∧ wayV h a b = -1 := by
   intro a b ha hb q1 q2 q3; have := L.num a b ha hb; exact ih a b (by omega) ha hb (by omega)
  obtain ⟨n1, n2, n3, n4⟩ := L.near i j i1 i2 j1 j2; obtain ⟨m1, m2, m3, m4⟩ := G.near i j i1 i2 j1 j2
  by_cases c1 : gd h (i - 1) j = gd h i j - 1
  ·by_cases c2 : gd h (i + 1) j = gd h i j - 1
   ·by_cases c3 : gd h i (j - 1) = gd h i j - 1
    ·by_cases c4 : gd h i (j + 1) = gd h i j - 1
     ·exact ⟨i, j, i1, i2, j1, j2, hlt, wayV_dn c1 c2 c3 c4⟩
     ·exact key i (j + 1) hi j2 n2 m2 c4
    ·exact key i (j - 1) hi (Nat.le_trans (Nat.sub_le _ _) hj) n4 m4 c3
   ·exact key (i + 1) j i2 hj n3 m3 c2
  ·exact key (i - 1) j (Nat.le_trans (Nat.sub_le _ _) hi) hj n1 m1 c1
def rowC (i j d : Nat) : List (Nat × Nat) := (List.range' j d).map fun b => (i, b)
def allC (n i d : Nat) : List (Nat × Nat) := (List.range' i d).flatMap fun a => rowC a 1 (n - 1)
theorem rowC_succ (i j d : Nat) : rowC i j (d + 1) = (i, j) :: rowC i (j + 1) d := by simp [rowC, List.range'_succ]
theorem allC_succ (n i d : Nat) : allC n i (d + 1) = rowC i 1 (n - 1) ++ allC n (i + 1) d := by simp [allC, List.range'_succ]
theorem mem_allC {n : Nat} {c : Nat × Nat} : c ∈ allC n 1 (n - 1) ↔ 1 ≤ c.1 ∧ c.1 < n ∧ 1 ≤ c.2 ∧ c.2 < n := by
 obtain ⟨a, b⟩ := c; simp only [allC, rowC, List.mem_flatMap, List.mem_map, List.mem_range'_1]; constructor
 ·rintro ⟨x, hx, y, hy, e⟩; injection e with e1 e2; subst e1; subst e2; omega
 ·rintro ⟨h1, h2, h3, h4⟩; exact ⟨a, by omega, b, by omega, rfl⟩
def pairL (c : Nat × Nat) : List Int := [(c.1 : Int), (c.2 : Int)]
def sel (P : Nat → Nat → Bool) (C : List (Nat × Nat)) : List (Nat × Nat) := C.filter fun c => P c.1 c.2
theorem sel_cons (P : Nat → Nat → Bool) (i j : Nat) (C : List (Nat × Nat)) : sel P ((i, j) :: C) = if P i j = true then (i, j) :: sel P C else sel P C := by
 unfold sel; rw [List.filter_cons]
theorem sel_app (P : Nat → Nat → Bool) (C D : List (Nat × Nat)) : sel P (C ++ D) = sel P C ++ sel P D := by
 unfold sel; rw [List.filter_append]
theorem sel_row_len (P : Nat → Nat → Bool) (i j d : Nat) : (sel P (rowC i j d)).length ≤ d := by
 have := List.length_filter_le (fun c : Nat × Nat => P c.1 c.2) (rowC i j d)
 have e : (rowC i j d).length = d := by simp [rowC]
 unfold sel; omega
def firstP (P : Nat → Nat → Bool) : List (Nat × Nat) → Option (Nat × Nat)
 | [] => none
 | c :: cs => if P c.1 c.2 = true then some c else firstP P cs
theorem firstP_some {P : Nat → Nat → Bool} {c : Nat × Nat} : ∀ {C : List (Nat × Nat)}, firstP P C = some c → c ∈ C ∧ P c.1 c.2 = true
 | [], h => by simp [firstP] at h
 | x :: xs, h => by
  simp only [firstP] at h
  by_cases e : P x.1 x.2 = true
  ·rw [if_pos e] at h; injection h with h; subst h; exact ⟨by simp, e⟩
  ·rw [if_neg e] at h; have := firstP_some h; exact ⟨by simp [this.1], this.2⟩
theorem firstP_none {P : Nat → Nat → Bool} : ∀ {C : List (Nat × Nat)}, firstP P C = none → ∀ c ∈ C, P c.1 c.2 = false
 | [], _ => by simp
 | x :: xs, h => by
  simp only [firstP] at h
  by_cases e : P x.1 x.2 = true
  ·rw [if_pos e] at h
   cases h
  ·rw [if_neg e] at h
   intro c hc
   rcases List.mem_cons.mp hc with rfl | hc
   ·exact Bool.eq_false_iff.mpr e
   ·exact firstP_none h c hc
theorem firstP_sel (P Q : Nat → Nat → Bool) : ∀ C : List (Nat × Nat), firstP Q (sel P C) = firstP (fun i j => P i j && Q i j) C
 | [] => rfl
 | (i, j) :: cs => by
  have e2 : firstP (fun i j => P i j && Q i j) ((i, j) :: cs) = if (P i j && Q i j) = true then some (i, j) else firstP (fun i j => P i j && Q i j) cs := rfl
  rw [sel_cons, e2]
  by_cases e : P i j = true
  ·have e3 : firstP Q ((i, j) :: sel P cs) = if Q i j = true then some (i, j) else firstP Q (sel P cs) := rfl
   rw [if_pos e, e3, firstP_sel P Q cs, e, Bool.true_and]
  ·rw [if_neg e, firstP_sel P Q cs, Bool.eq_false_iff.mpr e, Bool.false_and, if_neg (by decide)]
theorem sel_none {P : Nat → Nat → Bool} : ∀ {C : List (Nat × Nat)}, firstP P C = none → sel P C = []
 | [], _ => rfl
 | (i, j) :: cs, h => by
  have e := firstP_none h (i, j) (by simp); simp only [firstP] at h; rw [e] at h; rw [if_neg (by decide)] at h; rw [sel_cons]; simp only at e; rw [e, if_neg (by decide), sel_none h]
theorem sel_some {P : Nat → Nat → Bool} {c : Nat × Nat} : ∀ {C : List (Nat × Nat)}, firstP P C = some c → ∃ cs, sel P C = c :: cs
 | [], h => by simp [firstP] at h
 | (i, j) :: cs, h => by
  simp only [firstP] at h; rw [sel_cons]
  by_cases e : P i j = true
  ·rw [if_pos e] at h; injection h with h; rw [if_pos e, h]; exact ⟨_, rfl⟩
  ·rw [if_neg e] at h; rw [if_neg e]; exact sel_some h
theorem ev_cells_row {n : Nat} (hn : n ≤ 6) (P : Int → Int → Bool) (i : Nat) (hi : i < n) (R : List (List Int)) : ∀ (d j : Nat) (out : List (List Int)), j + d = n → 1 ≤ j → out.length + d ≤ 1000 →
  Ev (fun k => impl_cells.l0 k (n : Int) P (out ++ (sel (fun a b => P (a : Int) (b : Int)) (rowC i j d)).map pairL) ((i + 1 : Nat) : Int)) R → Ev (fun k => impl_cells.l1 k (n : Int) P out (i : Int) (j : Int)) R := by
 intro d
 induction d with
 | zero =>
  intro j out hj h1 ho h; refine Ev.succ ?_; simp only [impl_cells.l1]; rw [wrapN i (by omega)]; rw [show rowC i j 0 = [] from rfl, show sel (fun a b => P (a : Int) (b : Int)) [] = [] from rfl, List.map_nil, List.append_nil] at h; exact Ev.neg (by omega) h
 | succ d ih =>
  intro j out hj h1 ho h; refine Ev.succ ?_; simp only [impl_cells.l1]; rw [wrapN i (by omega), wrapN j (by omega)]; rw [rowC_succ, sel_cons] at h; refine Ev.pos (by omega) ?_
  by_cases e : P (i : Int) (j : Int) = true
  ·rw [if_pos e, List.map_cons, List.append_cons] at h; refine Ev.pos e (Ev.pos (by omega) ?_); exact ih (j + 1) (out ++ [[(i : Int), (j : Int)]]) (by omega) (by omega) (by simp; omega) h
  ·rw [if_neg e] at h; exact Ev.neg e (ih (j + 1) out (by omega) (by omega) (by omega) h)
theorem ev_cells_all {n : Nat} (hn : n ≤ 6) (P : Int → Int → Bool) : ∀ (d i : Nat) (out : List (List Int)), i + d = n → 1 ≤ i → out.length + d * 6 ≤ 900 →
  Ev (fun k => impl_cells.l0 k (n : Int) P out (i : Int)) (out ++ (sel (fun a b => P (a : Int) (b : Int)) (allC n i d)).map pairL) := by
 intro d
 induction d with
 | zero =>
  intro i out hi h1 ho; refine Ev.succ ?_; simp only [impl_cells.l0]; rw [show allC n i 0 = [] from rfl, show sel (fun a b => P (a : Int) (b : Int)) [] = [] from rfl, List.map_nil, List.append_nil]; exact Ev.neg (by omega) (Ev.now _)
 | succ d ih =>
  intro i out hi h1 ho; refine Ev.succ ?_; simp only [impl_cells.l0]; refine Ev.pos (by omega) ?_; rw [allC_succ, sel_app, List.map_append, ← List.append_assoc]; have hl := sel_row_len (fun a b => P (a : Int) (b : Int)) i 1 (n - 1); exact ev_cells_row hn P i (by omega) _ (n - 1) 1 out (by omega) (by omega) (by omega) (ih (i + 1) _ (by omega) (by omega) (by rw [List.length_append, List.length_map]; omega))
theorem ev_cells {n : Nat} (hn : n ≤ 6) (h1 : 1 ≤ n) (P : Int → Int → Bool) : Ev (fun k => impl_cells.f k (n : Int) P) ((sel (fun a b => P (a : Int) (b : Int)) (allC n 1 (n - 1))).map pairL) := by
 have := ev_cells_all hn P (n - 1) 1 [] (by omega) (by omega) (by simp; omega); rw [List.nil_append] at this; exact this
theorem ev_flips_row {h : List (List Int)} {n : Nat} (L : Lip h n) (hn : n ≤ 6) (w : Int) (i : Nat) (hi1 : 1 ≤ i) (hi : i < n) (R : List (List Int)) : ∀ (d j : Nat) (out : List (List Int)), j + d = n → 1 ≤ j → out.length + d ≤ 1000 →
  Ev (fun k => spec_heFlips.l0 k h w (out ++ (sel (fun a b => decide (wayV h a b = w)) (rowC i j d)).map pairL) ((i + 1 : Nat) : Int)) R → Ev (fun k => spec_heFlips.l1 k h w out (i : Int) (j : Int)) R := by
 intro d
 induction d with
 | zero =>
  intro j out hj h1 ho e; refine Ev.succ ?_; simp only [spec_heFlips.l1]; rw [L.len, wrapE (((n + 1 : Nat) : Int) - 1) (by omega) (by omega), wrapN i (by omega)]; rw [show rowC i j 0 = [] from rfl, show sel (fun a b => decide (wayV h a b = w)) [] = [] from rfl, List.map_nil, List.append_nil] at e; exact Ev.neg (by omega) e
 | succ d ih =>
  intro j out hj h1 ho e; refine Ev.succ ?_; simp only [spec_heFlips.l1]; rw [L.len, wrapE (((n + 1 : Nat) : Int) - 1) (by omega) (by omega), wrapN i (by omega), wrapN j (by omega)]; rw [rowC_succ, sel_cons] at e; refine Ev.pos (by omega) (Ev.bind (ev_heWay L hn i j hi1 hi h1 (by omega)) ?_)
  by_cases c : wayV h i j = w
  ·rw [if_pos (decide_eq_true c), List.map_cons, List.append_cons] at e; refine Ev.pos c (Ev.pos (by omega) ?_); exact ih (j + 1) (out ++ [[(i : Int), (j : Int)]]) (by omega) (by omega) (by simp; omega) e
  ·rw [if_neg (by simpa using c)] at e; exact Ev.neg c (ih (j + 1) out (by omega) (by omega) (by omega) e)
theorem ev_flips_all {h : List (List Int)} {n : Nat} (L : Lip h n) (hn : n ≤ 6) (w : Int) : ∀ (d i : Nat) (out : List (List Int)), i + d = n → 1 ≤ i → out.length + d * 6 ≤ 900 →
  Ev (fun k => spec_heFlips.l0 k h w out (i : Int)) (out ++ (sel (fun a b => decide (wayV h a b = w)) (allC n i d)).map pairL) := by
 intro d
 induction d with
 | zero =>
  intro i out hi h1 ho; refine Ev.succ ?_; simp only [spec_heFlips.l0]; rw [L.len, wrapE (((n + 1 : Nat) : Int) - 1) (by omega) (by omega)]; rw [show allC n i 0 = [] from rfl, show sel (fun a b => decide (wayV h a b = w)) [] = [] from rfl, List.map_nil, List.append_nil]; exact Ev.neg (by omega) (Ev.now _)
 | succ d ih =>
  intro i out hi h1 ho; refine Ev.succ ?_; simp only [spec_heFlips.l0]; rw [L.len, wrapE (((n + 1 : Nat) : Int) - 1) (by omega) (by omega)]; refine Ev.pos (by omega) ?_; rw [allC_succ, sel_app, List.map_append, ← List.append_assoc]; have hl := sel_row_len (fun a b => decide (wayV h a b = w)) i 1 (n - 1); exact ev_flips_row L hn w i h1 (by omega) _ (n - 1) 1 out (by omega) (by omega) (by omega) (ih (i + 1) _ (by omega) (by omega) (by rw [List.length_append, List.length_map]; omega))
theorem ev_heFlips {h : List (List Int)} {n : Nat} (L : Lip h n) (hn : n ≤ 6) (h1 : 1 ≤ n) (w : Int) : Ev (fun k => spec_heFlips.f k h w) ((sel (fun a b => decide (wayV h a b = w)) (allC n 1 (n - 1))).map pairL) := by
 have := ev_flips_all L hn w (n - 1) 1 [] (by omega) (by omega) (by simp; omega); rw [List.nil_append] at this; exact this
def nearB (h g : List (List Int)) (w : Int) (i j : Nat) : Bool := decide (0 < w * (gd g i j - gd h i j))
def goodB (h g : List (List Int)) (w : Int) (i j : Nat) : Bool := decide (wayV h i j = w) && nearB h g w i j
def cellOf : Option (Nat × Nat) → List Int
 | none => []
 | some c => pairL c
theorem ev_first_l0 {h g : List (List Int)} {n : Nat} (L : Lip h n) (G : Lip g n) (hn : n ≤ 6) (w : Int) (hw : w = 1 ∨ w = -1) (C : List (Nat × Nat)) (hC : ∀ c ∈ C, 1 ≤ c.1 ∧ c.1 < n ∧ 1 ≤ c.2 ∧ c.2 < n) (hl : C.length ≤ 1000) : ∀ (d i : Nat), i + d = C.length →
  Ev (fun k => spec_heFirst.l0 k h g w (C.map pairL) (C.length : Int) (i : Int)) (cellOf (firstP (nearB h g w) (C.drop i))) := by
 intro d
 induction d with
 | zero =>
  intro i hi; refine Ev.succ ?_; simp only [spec_heFirst.l0]; rw [List.drop_eq_nil_of_le (by omega)]; exact Ev.neg (by omega) (Ev.now _)
 | succ d ih =>
  intro i hi
  have hiC : i < C.length := by omega
  obtain ⟨a, b, hab⟩ : ∃ a b, C[i] = (a, b) := ⟨_, _, rfl⟩
  have hc := hC C[i] (List.getElem_mem _); rw [hab] at hc; obtain ⟨a1, a2, b1, b2⟩ := hc; simp only at a1 a2 b1 b2
  have e1 : rd_L1 (C.map pairL) (i : Int) = [(a : Int), (b : Int)] := by
   rw [row_eq]; unfold row; rw [List.getD_eq_getElem?_getD, List.getElem?_map, List.getElem?_eq_getElem hiC, hab]; rfl
  refine Ev.succ ?_; simp only [spec_heFirst.l0]; rw [e1, show rd [(a : Int), (b : Int)] 0 = (a : Int) from rfl, show rd [(a : Int), (b : Int)] 1 = (b : Int) from rfl, row_eq, row_eq, G.rows a (by omega), L.rows a (by omega), G.len, L.len, rd_row, rd_row, wrapN i (by omega), List.length_map]; have q1 := L.num a b (by omega) (by omega); have q2 := G.num a b (by omega) (by omega); rw [List.drop_eq_getElem_cons hiC, hab]; simp only [firstP]
  have ew : wrap64 (w * wrap64 (gd g a b - gd h a b)) = w * (gd g a b - gd h a b) := by
   rw [wrapE (gd g a b - gd h a b) (by omega) (by omega)]
   rcases hw with e | e <;> rw [e] <;> rw [wrapE _ (by omega) (by omega)]
  rw [ew]; refine Ev.pos (by omega) (Ev.pos (by omega) (Ev.pos (by omega) (Ev.pos (by simp) (Ev.pos (by omega) (Ev.pos (by omega) (Ev.pos (by simp) (Ev.pos (by omega) (Ev.pos (by omega) (Ev.pos (by omega) (Ev.pos (by omega) ?_))))))))))
  by_cases c : w * (gd g a b - gd h a b) > 0
  ·rw [if_pos (show nearB h g w a b = true from decide_eq_true c)]; exact Ev.pos c (Ev.now _)
  ·rw [if_neg (show ¬ nearB h g w a b = true by unfold nearB; simpa using c)]; exact Ev.neg c (ih (i + 1) (by omega))
theorem sel_all_len (P : Nat → Nat → Bool) (n : Nat) : ∀ (d i : Nat), (sel P (allC n i d)).length ≤ d * n := by
 intro d
 induction d with
 | zero => intro i; simp [allC, sel]
 | succ d ih =>
  intro i; rw [allC_succ, sel_app, List.length_append, Nat.succ_mul]; have h1 := sel_row_len P i 1 (n - 1); have h2 := ih (i + 1); omega
theorem ev_heFirst {h g : List (List Int)} {n : Nat} (L : Lip h n) (G : Lip g n) (hn : n ≤ 6) (h1 : 1 ≤ n) (w : Int) (hw : w = 1 ∨ w = -1) : Ev (fun k => spec_heFirst.f k h g w) (cellOf (firstP (goodB h g w) (allC n 1 (n - 1)))) := by
 unfold spec_heFirst.f; refine Ev.bind (ev_heFlips L hn h1 w) ?_; have hl := sel_all_len (fun a b => decide (wayV h a b = w)) n (n - 1) 1; have hl2 : (n - 1) * n ≤ 6 * 6 := Nat.mul_le_mul (by omega) hn; have := ev_first_l0 L G hn w hw (sel (fun a b => decide (wayV h a b = w)) (allC n 1 (n - 1))) (fun c hc => mem_allC.mp (List.mem_filter.mp hc).1) (by omega) _ 0 (Nat.zero_add _); rw [List.drop_zero, firstP_sel] at this; rw [List.length_map]; exact this
end Go.Proofs.Ythjiajkmaimbjaa.Pure
namespace Go.Proofs.Ythjiajkmaimbjaa.Pure
open Go.Proofs.Ythjiajkmaimbjaa.B Go.Proofs.Ythjiajkmaimbjaa.P
open Go.RowKit Go.Proofs.YthjiajkmaimbjaaW.PrintWords Go.Proofs.YthjiajkmaimbjaaW.PrintLast Go.Proofs.YthjiajkmaimbjaaW.PrintMore
set_option linter.unusedVariables false
set_option linter.unusedSimpArgs false
theorem corn_full2 {m : List (List Int)} (g : Good m) (i : Nat) (hi : i ≤ m.length) : cornZ m i m.length = i := by
 unfold cornZ
 rw [sumTo_congr (g := fun _ => 1) (fun a ha => by
  have hl : (row m a).length = m.length := g.1.row (by omega); have h := (g.2.1 a (by omega)).sum m.length (by omega); have h2 := (g.2.1 a (by omega)).2; rw [hl] at h2; rw [h2, sumTo_congr (g := fun b => gd m a b) (fun b _ => rd_row m a b)] at h
  exact h.1.symm)]
 clear hi
 induction i with
 | zero => rfl
 | succ i ih => simp only [sumTo]; rw [ih]; omega
theorem ht_edge {m : List (List Int)} (g : Good m) (j : Nat) (hj : j ≤ m.length) : gd (htT m) 0 j = (j : Int) ∧ gd (htT m) j 0 = (j : Int) ∧ gd (htT m) m.length j = (m.length : Int) - (j : Int) ∧ gd (htT m) j m.length = (m.length : Int) - (j : Int) := by
 have L := lip_ht g; have hb := L.bord j hj; refine ⟨hb.1, hb.2, ?_, ?_⟩
 ·rw [htT_gd _ _ _ (Nat.le_refl _) hj, (htV_small g m.length j (Nat.le_refl _) hj).1, corn_full g j hj]; omega
 ·rw [htT_gd _ _ _ hj (Nat.le_refl _), (htV_small g j m.length hj (Nat.le_refl _)).1, corn_full2 g j hj]; omega
theorem same_edge {m k : List (List Int)} (g : Good m) (g2 : Good k) (e : m.length = k.length) : SameEdge (htT m) (htT k) m.length := by
 intro j hj; have h1 := ht_edge g j hj; have h2 := ht_edge g2 j (by omega); rw [← e] at h2; exact ⟨h1.1.trans h2.1.symm, h1.2.1.trans h2.2.1.symm, h1.2.2.1.trans h2.2.2.1.symm, h1.2.2.2.trans h2.2.2.2.symm⟩
theorem Lip.ext {h g : List (List Int)} {n : Nat} (L : Lip h n) (G : Lip g n) (e : ∀ i, i ≤ n → ∀ j, j ≤ n → gd h i j = gd g i j) : h = g := by
 refine tab_same h g (by rw [L.len, G.len]) (fun i hi => ?_)
 have hi2 : i ≤ n := by have := L.len; omega
 refine list_same _ _ (by rw [L.rows i hi2, G.rows i hi2]) (fun j hj => ?_); rw [L.rows i hi2] at hj; rw [rd_row, rd_row]; exact e i hi2 j (by omega)
theorem pick_ex {h g : List (List Int)} {n : Nat} (L : Lip h n) (G : Lip g n) (E : SameEdge h g n) (hne : ¬ h = g) : ∃ (a b : Nat) (w : Int), (w = 1 ∨ w = -1) ∧ 1 ≤ a ∧ a < n ∧ 1 ≤ b ∧ b < n ∧ wayV h a b = w ∧ 0 < w * (gd g a b - gd h a b) ∧
  ((w = 1 ∧ firstP (goodB h g 1) (allC n 1 (n - 1)) = some (a, b)) ∨ (w = -1 ∧ firstP (goodB h g 1) (allC n 1 (n - 1)) = none ∧ firstP (goodB h g (-1)) (allC n 1 (n - 1)) = some (a, b))) := by
 cases e1 : firstP (goodB h g 1) (allC n 1 (n - 1)) with
 | some c =>
  obtain ⟨a, b⟩ := c; obtain ⟨hm, hg⟩ := firstP_some e1; obtain ⟨a1, a2, b1, b2⟩ := mem_allC.mp hm; unfold goodB nearB at hg; rw [Bool.and_eq_true, decide_eq_true_iff, decide_eq_true_iff] at hg; exact ⟨a, b, 1, .inl rfl, a1, a2, b1, b2, hg.1, hg.2, .inl ⟨rfl, rfl⟩⟩
 | none =>
  cases e2 : firstP (goodB h g (-1)) (allC n 1 (n - 1)) with
  | some c =>
   obtain ⟨a, b⟩ := c; obtain ⟨hm, hg⟩ := firstP_some e2; obtain ⟨a1, a2, b1, b2⟩ := mem_allC.mp hm; unfold goodB nearB at hg; rw [Bool.and_eq_true, decide_eq_true_iff, decide_eq_true_iff] at hg; exact ⟨a, b, -1, .inr rfl, a1, a2, b1, b2, hg.1, hg.2, .inr ⟨rfl, rfl, rfl⟩⟩
  | none =>
   refine absurd (L.ext G (fun i hi j hj => ?_)) hne; refine Classical.byContradiction (fun c => ?_)
   rcases Int.lt_or_gt_of_ne c with c | c
   ·obtain ⟨a, b, a1, a2, b1, b2, hlt, hw⟩ := up_ex L G E _ i j (Nat.le_refl _) hi hj c; have := firstP_none e1 (a, b) (mem_allC.mpr ⟨a1, a2, b1, b2⟩); unfold goodB nearB at this; rw [hw, decide_eq_true rfl, Bool.true_and, decide_eq_false_iff_not] at this; simp only at this; omega
   ·obtain ⟨a, b, a1, a2, b1, b2, hlt, hw⟩ := dn_ex L G E _ i j (Nat.le_refl _) hi hj c; have := firstP_none e2 (a, b) (mem_allC.mpr ⟨a1, a2, b1, b2⟩); unfold goodB nearB at this; rw [hw, decide_eq_true rfl, Bool.true_and, decide_eq_false_iff_not] at this; simp only at this; omega
theorem ev_pick {h g : List (List Int)} {n : Nat} (L : Lip h n) (G : Lip g n) (hn : n ≤ 6) (h1 : 1 ≤ n) {a b : Nat} {w : Int} (hp : (w = 1 ∧ firstP (goodB h g 1) (allC n 1 (n - 1)) = some (a, b)) ∨ (w = -1 ∧ firstP (goodB h g 1) (allC n 1 (n - 1)) = none ∧ firstP (goodB h g (-1)) (allC n 1 (n - 1)) = some (a, b))) : Ev (fun k => fpPick k h g) ([(a : Int), (b : Int)], w) := by
 unfold fpPick; have e1 := ev_heFirst L G hn h1 1 (.inl rfl)
 rcases hp with ⟨rfl, hf⟩ | ⟨rfl, hf, hf2⟩
 ·rw [hf] at e1
  refine Ev.bind e1 (Ev.neg ?_ (Ev.now _))
  simp [cellOf, pairL]
 ·rw [hf] at e1; have e2 := ev_heFirst L G hn h1 (-1) (.inr rfl); rw [hf2] at e2; refine Ev.bind e1 (Ev.pos rfl (Ev.bind e2 (Ev.now _)))
theorem fpUp_eq {h g : List (List Int)} {n : Nat} (L : Lip h n) (hn : n ≤ 6) (i j : Nat) (hi1 : 1 ≤ i) (hi : i < n) (hj1 : 1 ≤ j) (hj : j < n) : fpUp h g (i : Int) (j : Int) = goodB h g 1 i j := by
 unfold fpUp goodB nearB; rw [way_eq L hn i j hi1 hi hj1 hj, rd_gd, rd_gd, Option.getD_some, Bool.and_comm]; have h3 := wayV_cases h i j
 congr 1
 ·rw [decide_eq_decide]; omega
 ·rw [decide_eq_decide]; omega
theorem fpDn_eq {h g : List (List Int)} {n : Nat} (L : Lip h n) (hn : n ≤ 6) (i j : Nat) (hi1 : 1 ≤ i) (hi : i < n) (hj1 : 1 ≤ j) (hj : j < n) : fpDn h g (i : Int) (j : Int) = goodB h g (-1) i j := by
 unfold fpDn goodB nearB; rw [way_eq L hn i j hi1 hi hj1 hj, rd_gd, rd_gd, Option.getD_some, Bool.and_comm]; have h3 := wayV_cases h i j
 congr 1
 ·rw [decide_eq_decide]; omega
 ·rw [decide_eq_decide]; omega
theorem sel_congr {P Q : Nat → Nat → Bool} : ∀ C : List (Nat × Nat), (∀ c ∈ C, P c.1 c.2 = Q c.1 c.2) → sel P C = sel Q C
 | [], _ => rfl
 | (i, j) :: cs, h => by
  rw [sel_cons, sel_cons, h (i, j) (by simp), sel_congr cs (fun x hx => h x (by simp [hx]))]
theorem ev_list {h g : List (List Int)} {n : Nat} (L : Lip h n) (hn : n ≤ 6) (h1 : 1 ≤ n) {a b : Nat} {w : Int} (hp : (w = 1 ∧ firstP (goodB h g 1) (allC n 1 (n - 1)) = some (a, b)) ∨ (w = -1 ∧ firstP (goodB h g 1) (allC n 1 (n - 1)) = none ∧ firstP (goodB h g (-1)) (allC n 1 (n - 1)) = some (a, b))) : ∃ l : List (List Int), Ev (fun k => fpList k n h g) l ∧ 0 < l.length ∧ rd_L1 l 0 = [(a : Int), (b : Int)] := by
 have s1 : sel (fun a b => fpUp h g (a : Int) (b : Int)) (allC n 1 (n - 1)) = sel (goodB h g 1) (allC n 1 (n - 1)) := sel_congr _ (fun c hc => by
  obtain ⟨a1, a2, b1, b2⟩ := mem_allC.mp hc
  exact fpUp_eq L hn c.1 c.2 a1 a2 b1 b2)
 have s2 : sel (fun a b => fpDn h g (a : Int) (b : Int)) (allC n 1 (n - 1)) = sel (goodB h g (-1)) (allC n 1 (n - 1)) := sel_congr _ (fun c hc => by
  obtain ⟨a1, a2, b1, b2⟩ := mem_allC.mp hc
  exact fpDn_eq L hn c.1 c.2 a1 a2 b1 b2)
 have e1 := ev_cells hn h1 (fpUp h g); have e2 := ev_cells hn h1 (fpDn h g); rw [s1] at e1; rw [s2] at e2; unfold fpList
 rcases hp with ⟨rfl, hf⟩ | ⟨rfl, hf, hf2⟩
 ·obtain ⟨cs, hcs⟩ := sel_some hf; rw [hcs, List.map_cons] at e1; exact ⟨_, Ev.bind e1 (Ev.neg (by simp) (Ev.now _)), by simp, rfl⟩
 ·rw [sel_none hf, List.map_nil] at e1; obtain ⟨cs, hcs⟩ := sel_some hf2; rw [hcs, List.map_cons] at e2; exact ⟨_, Ev.bind e1 (Ev.pos rfl e2), by simp, rfl⟩
def farV (x y : Int) : Int := if x < y then y - x else x - y
def pot (h g : List (List Int)) (n : Nat) : Int := sumTo (n + 1) fun i => sumTo (n + 1) fun j => farV (gd h i j) (gd g i j)
theorem sumTo_one (a : Nat) (f f' : Nat → Int) : ∀ m : Nat, a < m → (∀ i, i < m → i ≠ a → f' i = f i) → sumTo m f' = sumTo m f + (f' a - f a) := by
 intro m
 induction m with
 | zero => intro h; omega
 | succ m ih =>
  intro ha h; simp only [sumTo]
  by_cases e : a = m
  ·subst e; rw [sumTo_congr (fun i hi => h i (by omega) (by omega))]; omega
  ·rw [ih (by omega) (fun i hi hne => h i (by omega) hne), h m (by omega) (by omega)]; omega
theorem sumTo_nn (n : Nat) (f : Nat → Int) (h : ∀ i, i < n → 0 ≤ f i) : 0 ≤ sumTo n f := by
 induction n with
 | zero => exact Int.le_refl _
 | succ n ih =>
  have h1 := ih (fun i hi => h i (by omega)); have h2 := h n (by omega); simp only [sumTo]; omega
theorem farV_nn (x y : Int) : 0 ≤ farV x y := by
 unfold farV
 split <;> omega
theorem pot_nn (h g : List (List Int)) (n : Nat) : 0 ≤ pot h g n := sumTo_nn _ _ (fun i _ => sumTo_nn _ _ (fun j _ => farV_nn _ _))
theorem pot_flip {h g : List (List Int)} {n : Nat} (L : Lip h n) (G : Lip g n) {a b : Nat} {w : Int} (hw : w = 1 ∨ w = -1) (ha : a ≤ n) (hb : b ≤ n) (hv : wayV h a b = w) (hd : 0 < w * (gd g a b - gd h a b)) : pot (flipT h a b) g n = pot h g n - 2 := by
 unfold pot
 have e1 : ∀ i, i < n + 1 → i ≠ a → (sumTo (n + 1) fun j => farV (gd (flipT h a b) i j) (gd g i j)) = sumTo (n + 1) fun j => farV (gd h i j) (gd g i j) := by
  intro i hi hne; refine sumTo_congr (fun j hj => ?_); rw [flipT_gd L a b i j ha hb (by omega) (by omega), if_neg (fun c => hne c.1)]
 have e2 : (sumTo (n + 1) fun j => farV (gd (flipT h a b) a j) (gd g a j)) = (sumTo (n + 1) fun j => farV (gd h a j) (gd g a j)) + (farV (gd (flipT h a b) a b) (gd g a b) - farV (gd h a b) (gd g a b)) := by
  refine sumTo_one b _ _ (n + 1) (by omega) (fun j hj hne => ?_); rw [flipT_gd L a b a j ha hb ha (by omega), if_neg (fun c => hne c.2)]
 have e3 : farV (gd (flipT h a b) a b) (gd g a b) - farV (gd h a b) (gd g a b) = -2 := by
  rw [flipT_gd L a b a b ha hb ha hb, if_pos ⟨rfl, rfl⟩, hv]; have p1 := L.par a b ha hb; have p2 := G.par a b ha hb; unfold farV
  rcases hw with rfl | rfl
  ·rw [if_pos (show gd h a b < gd g a b by omega)]
   split <;> omega
  ·rw [if_neg (show ¬ gd h a b < gd g a b by omega)]
   split <;> omega
 rw [sumTo_one a (fun i => sumTo (n + 1) fun j => farV (gd h i j) (gd g i j)) (fun i => sumTo (n + 1) fun j => farV (gd (flipT h a b) i j) (gd g i j)) (n + 1) (by omega) e1, e2, e3]; omega
theorem pot_small {h g : List (List Int)} {n : Nat} (L : Lip h n) (G : Lip g n) (hn : n ≤ 6) : pot h g n ≤ 9800 := by
 have h2 : ∀ i, i < n + 1 → ∀ j, j < n + 1 → 0 ≤ farV (gd h i j) (gd g i j) ∧ farV (gd h i j) (gd g i j) ≤ 100 := by
  intro i hi j hj; have a := L.num i j (by omega) (by omega); have b := G.num i j (by omega) (by omega); refine ⟨farV_nn _ _, ?_⟩; unfold farV
  split <;> omega
 have h3 : ∀ i, i < n + 1 → 0 ≤ (sumTo (n + 1) fun j => farV (gd h i j) (gd g i j)) ∧ (sumTo (n + 1) fun j => farV (gd h i j) (gd g i j)) ≤ 700 := by
  intro i hi; have := sumTo_bound (n + 1) (fun j => farV (gd h i j) (gd g i j)) 0 100 (h2 i hi); omega
 have := sumTo_bound (n + 1) (fun i => sumTo (n + 1) fun j => farV (gd h i j) (gd g i j)) 0 700 h3; unfold pot; omega
theorem SameEdge.flip {h g : List (List Int)} {n : Nat} (E : SameEdge h g n) (L : Lip h n) {a b : Nat} (a1 : 1 ≤ a) (a2 : a < n) (b1 : 1 ≤ b) (b2 : b < n) : SameEdge (flipT h a b) g n := by
 intro j hj; have e := E j hj; rw [flipT_gd L a b 0 j (by omega) (by omega) (by omega) hj, flipT_gd L a b j 0 (by omega) (by omega) hj (by omega), flipT_gd L a b n j (by omega) (by omega) (by omega) hj, flipT_gd L a b j n (by omega) (by omega) hj (by omega), if_neg (by omega), if_neg (by omega), if_neg (by omega), if_neg (by omega)]; exact e
def PathOk (l : List (List Int)) : Prop := l.length ≤ 10000 ∧ total l = 2 * l.length
theorem Lip.row_small {h : List (List Int)} {n : Nat} (L : Lip h n) (hn : n ≤ 6) : ∀ x ∈ h, x.length ≤ 1048576 := by
 intro x hx; obtain ⟨a, ha, rfl⟩ := List.mem_iff_getElem.mp hx; have := L.rows a (by have := L.len; omega); unfold row at this; rw [List.getD_eq_getElem?_getD, List.getElem?_eq_getElem ha] at this; simp only [Option.getD_some] at this; omega
theorem ev_same {h g : List (List Int)} {n : Nat} (L : Lip h n) (hn : n ≤ 6) : EvB (fun k => spec_heSame.f k h g) (h = g) :=
 ev_heSame h g (by rw [L.len]; omega) (fun i hi => by rw [L.rows i (by have := L.len; omega)]; omega)
theorem fpPut_eq {h : List (List Int)} {n : Nat} (L : Lip h n) (hn : n ≤ 6) {a b : Nat} {w : Int} (hw : w = 1 ∨ w = -1) (ha : a ≤ n) (hb : b ≤ n) (hv : wayV h a b = w) : fpPut h [(a : Int), (b : Int)] (wrap64 (2 * w)) = flipT h a b := by
 unfold fpPut; rw [show rd [(a : Int), (b : Int)] 0 = (a : Int) from rfl, show rd [(a : Int), (b : Int)] 1 = (b : Int) from rfl, Int.toNat_natCast, Int.toNat_natCast, row_eq, rd_row, wrapE (2 * w) (by omega) (by omega)]; exact flipT_small L hn a b ha hb _ (by rw [hv])
theorem fpStep_eq {h : List (List Int)} {n : Nat} (L : Lip h n) (hn : n ≤ 6) {a b : Nat} (ha : a ≤ n) (hb : b ≤ n) : fpStep h (a : Int) (b : Int) (2 * wayV h a b) = flipT h a b := by
 unfold fpStep; rw [Int.toNat_natCast, Int.toNat_natCast, row_eq, rd_row]; exact flipT_small L hn a b ha hb _ rfl
theorem fpOk_of {h g : List (List Int)} {n : Nat} (L : Lip h n) (G : Lip g n) (hn : n ≤ 6) : FpOk n h g := by
 refine ⟨by omega, fun i hi j hj h1 h2 => ?_⟩; rw [row_eq, row_eq, L.rows i (by omega), G.rows i (by omega), L.len, G.len, way_eq L hn i j h1 hi h2 hj]; exact ⟨by omega, by omega, by omega, by omega, rfl⟩
theorem path_both {n : Nat} (hn : n ≤ 6) (h1 : 1 ≤ n) {g : List (List Int)} (G : Lip g n) : ∀ (d : Nat) (h out : List (List Int)), Lip h n → SameEdge h g n → pot h g n ≤ (d : Int) → out.length + d ≤ 10000 → total out = 2 * out.length →
  EvP PathOk (fun k => spec_FlipPath.l0 k g h out) (fun k => impl_FlipPath.l0 k n g h out) := by
 intro d
 induction d with
 | zero =>
  intro h out L E hp ho ht
  by_cases hne : h = g
  ·obtain ⟨t, ht2, es⟩ := ev_same (g := g) L hn; rw [ht2.mpr hne] at es; have ec := ev_compareTables h g (L.row_small hn); rw [(compareTables_zero h g).mpr hne] at ec; refine EvP.succ ?_; simp only [spec_FlipPath.l0, impl_FlipPath.l0]; exact ⟨out, ⟨by omega, ht⟩, Ev.bind es (Ev.pos rfl (Ev.now _)), Ev.bind ec (Ev.pos rfl (Ev.now _))⟩
  ·obtain ⟨a, b, w, hw, a1, a2, b1, b2, hv, hd, hf⟩ := pick_ex L G E hne; have hpf := pot_flip L G hw (by omega) (by omega) hv hd; have hp0 := pot_nn (flipT h a b) g n; omega
 | succ d ih =>
  intro h out L E hp ho ht
  by_cases hne : h = g
  ·obtain ⟨t, ht2, es⟩ := ev_same (g := g) L hn; rw [ht2.mpr hne] at es; have ec := ev_compareTables h g (L.row_small hn); rw [(compareTables_zero h g).mpr hne] at ec; refine EvP.succ ?_; simp only [spec_FlipPath.l0, impl_FlipPath.l0]; exact ⟨out, ⟨by omega, ht⟩, Ev.bind es (Ev.pos rfl (Ev.now _)), Ev.bind ec (Ev.pos rfl (Ev.now _))⟩
  ·obtain ⟨a, b, w, hw, a1, a2, b1, b2, hv, hd, hf⟩ := pick_ex L G E hne
   have hpf := pot_flip L G hw (by omega) (by omega) hv hd; obtain ⟨r, hr, i1, i2⟩ := ih (flipT h a b) (out ++ [[(a : Int), (b : Int)]]) (L.flip a b a1 a2 b1 b2) (E.flip L a1 a2 b1 b2) (by omega) (by simp; omega) (by rw [total_append]; simp [total] at ht ⊢; omega); have ra := L.rows a (by omega); refine ⟨r, hr, ?_, ?_⟩
   ·obtain ⟨t, ht2, es⟩ := ev_same (g := g) L hn
    have et : t = false := Bool.eq_false_iff.mpr (fun c => hne (ht2.mp c)); rw [et] at es; refine Ev.succ ?_; simp only [spec_FlipPath.l0]; refine Ev.bind es (Ev.neg (by decide) (Ev.bind (ev_pick L G hn h1 hf) (Ev.pos ⟨?_, by omega⟩ ?_)))
    ·unfold fpIn; rw [show rd [(a : Int), (b : Int)] 0 = (a : Int) from rfl, show rd [(a : Int), (b : Int)] 1 = (b : Int) from rfl, row_eq, ra, L.len]; exact ⟨by simp, by omega, by omega, by omega, by omega⟩
    ·rw [fpPut_eq L hn hw (by omega) (by omega) hv]; exact i1
   ·have ec := ev_compareTables h g (L.row_small hn)
    obtain ⟨l, el, hl, hl0⟩ := ev_list L hn h1 hf; refine Ev.succ ?_; simp only [impl_FlipPath.l0]; refine Ev.bind ec (Ev.neg (fun c => hne ((compareTables_zero h g).mp c)) (Ev.pos (fpOk_of L G hn) (Ev.bind el (Ev.pos ⟨?_, by omega⟩ ?_))))
    ·unfold fpCell; rw [hl0, show rd [(a : Int), (b : Int)] 0 = (a : Int) from rfl, show rd [(a : Int), (b : Int)] 1 = (b : Int) from rfl, row_eq, ra, L.len]; exact ⟨hl, by simp, by omega, by omega, by omega, by omega⟩
    ·rw [hl0, show rd [(a : Int), (b : Int)] 0 = (a : Int) from rfl, show rd [(a : Int), (b : Int)] 1 = (b : Int) from rfl]; refine Ev.bind0 (way_eq L hn a b a1 a2 b1 b2) ?_; rw [fpStep_eq L hn (by omega) (by omega)]; exact i2
end Go.Proofs.Ythjiajkmaimbjaa.Pure
