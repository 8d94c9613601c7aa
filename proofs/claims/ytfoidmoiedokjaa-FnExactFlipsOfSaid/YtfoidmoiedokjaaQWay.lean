/- Cells that can be flipped: on tables of heights program and reference find the same. -/
import Derived.Test.YtfoidmoiedokjaaQHeight
import Derived.Test.YtfoidmoiedokjaaFSpecWay
import Derived.Test.YtfoidmoiedokjaaFImplWay
import Derived.Test.YtfoidmoiedokjaaFImplFlips
namespace Go.Proofs.Ytfoidmoiedokjaa.Pure
open Go.Proofs.Ytfoidmoiedokjaa.B Go.Proofs.Ytfoidmoiedokjaa.P
open Go.RowKit Go.Proofs.YtfoidmoiedokjaaW.PrintWords Go.Proofs.YtfoidmoiedokjaaW.PrintLast Go.Proofs.YtfoidmoiedokjaaW.PrintMore
set_option linter.unusedVariables false
set_option linter.unusedSimpArgs false
/-- 1, -1 or 0: up, down, not at all. -/
def wayV (h : List (List Int)) (i j : Nat) : Int :=
  if gd h (i - 1) j = gd h i j + 1 ∧ gd h (i + 1) j = gd h i j + 1 ∧ gd h i (j - 1) = gd h i j + 1 ∧ gd h i (j + 1) = gd h i j + 1 then 1
  else if gd h (i - 1) j = gd h i j - 1 ∧ gd h (i + 1) j = gd h i j - 1 ∧ gd h i (j - 1) = gd h i j - 1 ∧ gd h i (j + 1) = gd h i j - 1 then -1 else 0
theorem way_num (x a b c d : Int) (ha : a = x + 1 ∨ a = x - 1) (hb : b = x + 1 ∨ b = x - 1) (hc : c = x + 1 ∨ c = x - 1) (hd : d = x + 1 ∨ d = x - 1) :
    (if mn (mn (mn a b) c) d = mx (mx (mx a b) c) d then some (wrap64 (2 * wrap64 (mn (mn (mn a b) c) d - x))) else some (0 : Int)) = some (2 * (if a = x + 1 ∧ c = x + 1 ∧ d = x + 1 ∧ b = x + 1 then 1 else if a = x - 1 ∧ c = x - 1 ∧ d = x - 1 ∧ b = x - 1 then -1 else 0)) := by
  have k1 : mn (mn (mn a b) c) d = if a = x + 1 ∧ b = x + 1 ∧ c = x + 1 ∧ d = x + 1 then x + 1 else x - 1 := by
    unfold mn
    repeat' split
    all_goals omega
  have k2 : mx (mx (mx a b) c) d = if a = x - 1 ∧ b = x - 1 ∧ c = x - 1 ∧ d = x - 1 then x - 1 else x + 1 := by
    unfold mx
    repeat' split
    all_goals omega
  rw [k1, k2]
  have w1 : wrap64 (2 * wrap64 (x + 1 - x)) = 2 := by unfold wrap64; omega
  have w2 : wrap64 (2 * wrap64 (x - 1 - x)) = -2 := by unfold wrap64; omega
  by_cases p : a = x + 1 ∧ b = x + 1 ∧ c = x + 1 ∧ d = x + 1
  · rw [if_pos p, if_neg (show ¬ (a = x - 1 ∧ b = x - 1 ∧ c = x - 1 ∧ d = x - 1) by omega), if_pos rfl, w1, if_pos (by omega)]
    rfl
  · rw [if_neg p, if_neg (show ¬ (a = x + 1 ∧ c = x + 1 ∧ d = x + 1 ∧ b = x + 1) by omega)]
    by_cases q : a = x - 1 ∧ b = x - 1 ∧ c = x - 1 ∧ d = x - 1
    · rw [if_pos q, if_pos rfl, w2, if_pos (by omega)]
      rfl
    · rw [if_neg q, if_neg (show ¬ (x - 1 = x + 1) by omega), if_neg (show ¬ (a = x - 1 ∧ c = x - 1 ∧ d = x - 1 ∧ b = x - 1) by omega)]
      rfl
theorem Lip.near {h : List (List Int)} {n : Nat} (L : Lip h n) (i j : Nat) (hi1 : 1 ≤ i) (hi : i < n) (hj1 : 1 ≤ j) (hj : j < n) :
    (gd h (i - 1) j = gd h i j + 1 ∨ gd h (i - 1) j = gd h i j - 1) ∧ (gd h i (j + 1) = gd h i j + 1 ∨ gd h i (j + 1) = gd h i j - 1) ∧ (gd h (i + 1) j = gd h i j + 1 ∨ gd h (i + 1) j = gd h i j - 1) ∧ (gd h i (j - 1) = gd h i j + 1 ∨ gd h i (j - 1) = gd h i j - 1) := by
  obtain ⟨a, rfl⟩ : ∃ a, i = a + 1 := ⟨i - 1, by omega⟩
  obtain ⟨b, rfl⟩ : ∃ b, j = b + 1 := ⟨j - 1, by omega⟩
  have h1 := L.dv a (by omega) (b + 1) (by omega)
  have h2 := L.dv (a + 1) (by omega) (b + 1) (by omega)
  have h3 := L.dh (a + 1) (by omega) b (by omega)
  have h4 := L.dh (a + 1) (by omega) (b + 1) (by omega)
  simp only [Nat.add_sub_cancel]
  omega
theorem way_eq {h : List (List Int)} {n : Nat} (L : Lip h n) (hn : n ≤ 6) (i j : Nat) (hi1 : 1 ≤ i) (hi : i < n) (hj1 : 1 ≤ j) (hj : j < n) : impl_way.f h (i : Int) (j : Int) = some (2 * wayV h i j) := by
  obtain ⟨n1, n2, n3, n4⟩ := L.near i j hi1 hi hj1 hj
  have r1 := L.rows (i - 1) (by omega)
  have r2 := L.rows i (by omega)
  have r3 := L.rows (i + 1) (by omega)
  unfold impl_way.f
  rw [wrapE ((i : Int) - 1) (by omega) (by omega), wrapE ((j : Int) - 1) (by omega) (by omega), wrapN i (by omega), wrapN j (by omega), show (i : Int) - 1 = ((i - 1 : Nat) : Int) by omega, show (j : Int) - 1 = ((j - 1 : Nat) : Int) by omega]
  simp only [row_eq, r1, r2, r3, L.len, rd_row]
  rw [if_pos (by omega), if_pos (by omega), if_pos (by omega), if_pos (by omega), if_pos (by omega), if_pos (by omega), if_pos (by omega), if_pos (by omega), if_pos (by omega), if_pos (by omega), if_pos (by omega), if_pos (by omega), if_pos (by omega)]
  simp only [Option.bind_some]
  have m1 : slices_Min_int_int.f [gd h (i - 1) j, gd h i (j + 1), gd h (i + 1) j, gd h i (j - 1)] = some (mn (mn (mn (gd h (i - 1) j) (gd h i (j + 1))) (gd h (i + 1) j)) (gd h i (j - 1))) := rfl
  have m2 : slices_Max_int_int.f [gd h (i - 1) j, gd h i (j + 1), gd h (i + 1) j, gd h i (j - 1)] = some (mx (mx (mx (gd h (i - 1) j) (gd h i (j + 1))) (gd h (i + 1) j)) (gd h i (j - 1))) := rfl
  rw [m1, m2]
  simp only [Option.bind_some]
  rw [if_pos (show (j : Int) < ((n + 1 : Nat) : Int) by omega)]
  exact way_num (gd h i j) _ _ _ _ n1 n2 n3 n4
theorem ev_heWay {h : List (List Int)} {n : Nat} (L : Lip h n) (hn : n ≤ 6) (i j : Nat) (hi1 : 1 ≤ i) (hi : i < n) (hj1 : 1 ≤ j) (hj : j < n) : Ev (fun k => spec_heWay.f k h (i : Int) (j : Int)) (wayV h i j) := by
  have r1 := L.rows (i - 1) (by omega)
  have r2 := L.rows i (by omega)
  have r3 := L.rows (i + 1) (by omega)
  have nb := L.num i j (by omega) (by omega)
  unfold spec_heWay.f
  rw [wrapE ((i : Int) - 1) (by omega) (by omega), wrapE ((j : Int) - 1) (by omega) (by omega), wrapN i (by omega), wrapN j (by omega), show (i : Int) - 1 = ((i - 1 : Nat) : Int) by omega, show (j : Int) - 1 = ((j - 1 : Nat) : Int) by omega]
  simp only [row_eq, r1, r2, r3, L.len, rd_row]
  rw [wrapE (gd h i j + 1) (by omega) (by omega), wrapE (gd h i j - 1) (by omega) (by omega)]
  (repeat (first | refine Ev.pos (by omega) ?_ | refine Ev.neg (by omega) ?_))
  simp only [Option.bind_some]
  refine Ev.bind (ev_l1All _ _ _ (by simp)) ?_
  unfold wayV
  by_cases p : gd h (i - 1) j = gd h i j + 1 ∧ gd h (i + 1) j = gd h i j + 1 ∧ gd h i (j - 1) = gd h i j + 1 ∧ gd h i (j + 1) = gd h i j + 1
  · rw [if_pos p]
    refine Ev.pos ?_ (Ev.now _)
    rw [p.1, p.2.1, p.2.2.1, p.2.2.2]
    simp [inB]
  · rw [if_neg p]
    refine Ev.neg ?_ ?_
    · intro c
      apply p
      simp [inB] at c
      omega
    · refine Ev.bind (ev_l1All _ _ _ (by simp)) ?_
      by_cases q : gd h (i - 1) j = gd h i j - 1 ∧ gd h (i + 1) j = gd h i j - 1 ∧ gd h i (j - 1) = gd h i j - 1 ∧ gd h i (j + 1) = gd h i j - 1
      · rw [if_pos q]
        refine Ev.pos ?_ (Ev.now _)
        rw [q.1, q.2.1, q.2.2.1, q.2.2.2]
        simp [inB]
      · rw [if_neg q]
        refine Ev.neg ?_ (Ev.now _)
        intro c
        apply q
        simp [inB] at c
        omega
theorem flipP_eq {h : List (List Int)} {n : Nat} (L : Lip h n) (hn : n ≤ 6) (up : Bool) (i j : Nat) (hi1 : 1 ≤ i) (hi : i < n) (hj1 : 1 ≤ j) (hj : j < n) : flipP h up (i : Int) (j : Int) = true ↔ wayV h i j = if up = true then 1 else -1 := by
  unfold flipP
  rw [way_eq L hn i j hi1 hi hj1 hj]
  have h3 : wayV h i j = 1 ∨ wayV h i j = -1 ∨ wayV h i j = 0 := by
    unfold wayV
    repeat' split
    all_goals simp
  simp only [Option.getD_some]
  rcases h3 with e | e | e <;> rw [e] <;> cases up <;> decide
/-- Lists of cells: how many, and that each has two numbers. -/
def CellsOk (b : Nat) (l : List (List Int)) : Prop := l.length ≤ b ∧ total l = 2 * l.length
theorem CellsOk.push {b : Nat} {l : List (List Int)} (h : CellsOk b l) (x y : Int) : CellsOk (b + 1) (l ++ [[x, y]]) := by
  refine ⟨by simp; exact h.1, ?_⟩
  rw [total_append, h.2]
  simp [total]
  omega
theorem CellsOk.le {b c : Nat} {l : List (List Int)} (h : CellsOk b l) (hc : b ≤ c) : CellsOk c l := ⟨by have := h.1; omega, h.2⟩
theorem flips_l1 {h : List (List Int)} {n : Nat} (L : Lip h n) (hn : n ≤ 6) (up : Bool) (i : Nat) (hi1 : 1 ≤ i) (hi : i < n)
    (hx : ∀ out, CellsOk (6 * (i + 1)) out → EvP (CellsOk 42) (fun k => spec_heFlips.l0 k h (if up = true then 1 else -1) out ((i + 1 : Nat) : Int)) (fun k => impl_cells.l0 k (n : Int) (flipP h up) out ((i + 1 : Nat) : Int))) : ∀ (d j : Nat) (out : List (List Int)), 1 ≤ j → n ≤ j + d → j ≤ 6 → CellsOk (6 * i + (j - 1)) out →
    EvP (CellsOk 42) (fun k => spec_heFlips.l1 k h (if up = true then 1 else -1) out (i : Int) (j : Int)) (fun k => impl_cells.l1 k (n : Int) (flipP h up) out (i : Int) (j : Int)) := by
  intro d
  induction d with
  | zero =>
    intro j out h1 hd h6 ho
    refine EvP.succ ?_
    simp only [spec_heFlips.l1, impl_cells.l1]
    rw [L.len, wrapE _ (by omega) (by omega), wrapN i (by omega)]
    exact EvP.neg (by omega) (by omega) (hx out (ho.le (by omega)))
  | succ d ih =>
    intro j out h1 hd h6 ho
    refine EvP.succ ?_
    simp only [spec_heFlips.l1, impl_cells.l1]
    rw [L.len, wrapE (((n + 1 : Nat) : Int) - 1) (by omega) (by omega), wrapN i (by omega), wrapN j (by omega)]
    by_cases c : j < n
    · refine EvP.pos (by omega) (by omega) ?_
      have hl := ho.1
      have hw := ev_heWay L hn i j hi1 hi h1 c
      have hP := flipP_eq L hn up i j hi1 hi h1 c
      by_cases e : wayV h i j = if up = true then 1 else -1
      · obtain ⟨b, hb, e1, e2⟩ := ih (j + 1) (out ++ [[(i : Int), (j : Int)]]) (by omega) (by omega) (by omega) ((ho.push _ _).le (by omega))
        exact ⟨b, hb, Ev.bind hw (Ev.pos e (Ev.pos (by omega) e1)), Ev.pos (hP.mpr e) (Ev.pos (by omega) e2)⟩
      · obtain ⟨b, hb, e1, e2⟩ := ih (j + 1) out (by omega) (by omega) (by omega) (ho.le (by omega))
        exact ⟨b, hb, Ev.bind hw (Ev.neg e e1), Ev.neg (fun x => e (hP.mp x)) e2⟩
    · exact EvP.neg (by omega) (by omega) (hx out (ho.le (by omega)))
theorem flips_l0 {h : List (List Int)} {n : Nat} (L : Lip h n) (hn : n ≤ 6) (up : Bool) : ∀ (d i : Nat) (out : List (List Int)), 1 ≤ i → i ≤ 6 → n ≤ i + d → CellsOk (6 * i) out →
    EvP (CellsOk 42) (fun k => spec_heFlips.l0 k h (if up = true then 1 else -1) out (i : Int)) (fun k => impl_cells.l0 k (n : Int) (flipP h up) out (i : Int)) := by
  intro d
  induction d with
  | zero =>
    intro i out h1 h6 hi ho
    refine EvP.succ ?_
    simp only [spec_heFlips.l0, impl_cells.l0]
    rw [L.len, wrapE _ (by omega) (by omega)]
    exact EvP.neg (by omega) (by omega) (EvP.now _ (ho.le (by omega)))
  | succ d ih =>
    intro i out h1 h6 hi ho
    refine EvP.succ ?_
    simp only [spec_heFlips.l0, impl_cells.l0]
    rw [L.len, wrapE _ (by omega) (by omega)]
    by_cases c : i < n
    · refine EvP.pos (by omega) (by omega) ?_
      exact flips_l1 L hn up i h1 c (fun out ho2 => ih (i + 1) out (by omega) (by omega) (by omega) ho2) n 1 out (by omega) (by omega) (by omega) (ho.le (by omega))
    · exact EvP.neg (by omega) (by omega) (EvP.now _ (ho.le (by omega)))
/-- The flips of a sign matrix: both lists are one, of at most 42 cells. -/
theorem flips_both {m : List (List Int)} (g : Good m) (up : Bool) : ∃ T, CellsOk 42 T ∧ Ev (fun k => (spec_heOf.f k m).bind fun a => (spec_heFlips.f k a (if up = true then 1 else -1))) T ∧ Ev (fun k => impl_flips.f k m up) T := by
  have h1 := g.1.1
  have h6 := g.1.2.1
  have L := lip_ht g
  obtain ⟨T, hT, e1, e2⟩ := flips_l0 L h6 up m.length 1 [] (by omega) (by omega) (by omega) ⟨by simp, by simp [total]⟩
  refine ⟨T, hT, Ev.bind (ev_heOf m g.1) e1, ?_⟩
  unfold impl_flips.f
  refine Ev.bind (ev_heights m g.1) (Ev.pos ⟨by omega, ?_⟩ e2)
  intro i hi hi1 j hj hj1
  rw [way_eq L h6 i j hi1 hi hj1 hj]
  rfl
end Go.Proofs.Ytfoidmoiedokjaa.Pure
