import Derived.Test.YthjiajkmaimbjaaFSlicesCompareIntInt
import Derived.Test.YthjiajkmaimbjaaFImplCompareTables
import Derived.Test.YthjiajkmaimbjaaQIn
import Derived.Test.YthjiajkmaimbjaaQSign
import Derived.Test.YthjiajkmaimbjaaFSpecSgLess
import Derived.Test.YthjiajkmaimbjaaMinFuncTab
/- Tables compared row by row: 0 tells that they are equal. -/
namespace Go.Proofs.Ythjiajkmaimbjaa.Pure
open Go.Proofs.Ythjiajkmaimbjaa.B Go.Proofs.Ythjiajkmaimbjaa.P
open Go.RowKit Go.Proofs.YthjiajkmaimbjaaW.PrintWords Go.Proofs.YthjiajkmaimbjaaW.PrintLast Go.Proofs.YthjiajkmaimbjaaW.PrintMore
set_option linter.unusedVariables false
set_option linter.unusedSimpArgs false
def cmpI (a b : Int) : Int := if a < b then -1 else if a > b then 1 else 0
theorem compare_eq (a b : Int) : cmp_Compare_int.f a b = some (cmpI a b) := by
  unfold cmp_Compare_int.f cmp_isNaN_int.f cmpI
  by_cases c : a < b
  · simp [c]
  · by_cases d : a > b
    · simp [c, d]
    · simp [c, d]
theorem cmpT_zero {α : Type} {cmp : α → α → Int} (h : ∀ x y, cmp x y = 0 ↔ x = y) : ∀ l m : List α, cmpT cmp l m = 0 ↔ l = m
  | [], [] => by simp [cmpT]
  | [], _ :: _ => by simp [cmpT]
  | _ :: _, [] => by simp [cmpT]
  | x :: xs, y :: ys => by
    simp only [cmpT]
    by_cases c : cmp x y = 0
    · rw [if_pos c, cmpT_zero h xs ys, (h x y).mp c]
      simp
    · rw [if_neg c]
      refine ⟨fun e => absurd e c, fun e => ?_⟩
      injection e with e1 _
      exact absurd ((h x y).mpr e1) c
theorem cmpI_zero (a b : Int) : cmpI a b = 0 ↔ a = b := by
  unfold cmpI
  by_cases c : a < b
  · rw [if_pos c]; omega
  · rw [if_neg c]
    by_cases d : a > b
    · rw [if_pos d]; omega
    · rw [if_neg d]; omega
theorem ev_Compare (l m : List Int) (hl : l.length ≤ 1048576) : Ev (fun k => slices_Compare_int_int.f k l m) (cmpT cmpI l m) := by
  unfold slices_Compare_int_int.f
  suffices h : ∀ (d i : Nat), l.length = i + d → Ev (fun k => slices_Compare_int_int.l0 k l m l (l.length : Int) (i : Int)) (cmpT cmpI (l.drop i) (m.drop i)) by
    have := h l.length 0 (by omega)
    simpa using this
  intro d
  induction d with
  | zero =>
    intro i hd
    refine Ev.succ ?_
    simp only [slices_Compare_int_int.l0]
    refine Ev.neg (by omega) ?_
    rw [cmpT_end _ _ _ _ (by omega)]
    by_cases c : i < m.length
    · rw [if_pos c]
      exact Ev.pos (by omega) (Ev.now _)
    · rw [if_neg c]
      exact Ev.neg (by omega) (Ev.now _)
  | succ d ih =>
    intro i hd
    refine Ev.succ ?_
    simp only [slices_Compare_int_int.l0]
    refine Ev.pos (by omega) (Ev.pos (by omega) (Ev.pos (by omega) ?_))
    by_cases c : i < m.length
    · refine Ev.neg (by omega) (Ev.pos (by omega) ?_)
      rw [rd_get l i (by omega), rd_get m i c, cmpT_drop _ _ _ _ (by omega) c, wrapN i (by omega)]
      refine Ev.bind0 (compare_eq _ _) ?_
      by_cases e : cmpI (l[i]'(by omega)) m[i] = 0
      · rw [if_pos e]
        exact Ev.pos e (ih (i + 1) (by omega))
      · rw [if_neg e]
        exact Ev.neg e (Ev.now _)
    · rw [cmpT_long _ _ _ _ (by omega) (by omega)]
      exact Ev.pos (by omega) (Ev.now _)
theorem ev_compareTables (a b : List (List Int)) (hr : ∀ x ∈ a, x.length ≤ 1048576) : Ev (fun k => impl_compareTables.f k a b) (cmpT (cmpT cmpI) a b) := by
  have h1 : ∀ x ∈ a, ∃ K, ∀ k, K ≤ k → ∀ y ∈ b, slices_Compare_int_int.f k x y = some (cmpT cmpI x y) := by
    intro x hx
    obtain ⟨K, hK⟩ := ev_upTo (n := b.length) (F := fun j k => slices_Compare_int_int.f k x (b.getD j [])) (f := fun j => cmpT cmpI x (b.getD j [])) (fun j hj => ev_Compare x _ (hr x hx))
    refine ⟨K, fun k hk y hy => ?_⟩
    obtain ⟨j, hj, rfl⟩ := List.mem_iff_getElem.mp hy
    have := hK k hk j hj
    rwa [List.getD_eq_getElem?_getD, List.getElem?_eq_getElem hj] at this
  have h2 : ∃ K, ∀ k, K ≤ k → ∀ x ∈ a, ∀ y ∈ b, slices_Compare_int_int.f k x y = some (cmpT cmpI x y) := by
    clear hr
    induction a with
    | nil => exact ⟨0, fun k _ x hx => by cases hx⟩
    | cons x xs ih =>
      obtain ⟨K, hK⟩ := ih (fun z hz => h1 z (by simp [hz]))
      obtain ⟨K', hK'⟩ := h1 x (by simp)
      refine ⟨K + K', fun k hk z hz => ?_⟩
      rcases List.mem_cons.mp hz with e | e
      · subst e; exact hK' k (by omega)
      · exact hK k (by omega) z e
  obtain ⟨K, hK⟩ := h2
  refine ⟨K, fun k hk => ?_⟩
  show impl_compareTables.f k a b = some _
  unfold impl_compareTables.f
  rw [if_pos (fun x hx y hy => by rw [hK k hk x hx y hy]; rfl)]
  congr 1
  exact cmpT_congr _ _ (fun x hx y hy => by rw [hK k hk x hx y hy]; rfl)
theorem compareTables_zero (a b : List (List Int)) : cmpT (cmpT cmpI) a b = 0 ↔ a = b := cmpT_zero (cmpT_zero cmpI_zero) a b
end Go.Proofs.Ythjiajkmaimbjaa.Pure

/- Tables in their order: the comparison is one of a total order; the least of a list. -/
namespace Go.Proofs.Ythjiajkmaimbjaa.Pure
open Go.Proofs.Ythjiajkmaimbjaa.B Go.Proofs.Ythjiajkmaimbjaa.P
open Go.RowKit Go.Proofs.YthjiajkmaimbjaaW.PrintWords Go.Proofs.YthjiajkmaimbjaaW.PrintLast Go.Proofs.YthjiajkmaimbjaaW.PrintMore
set_option linter.unusedVariables false
set_option linter.unusedSimpArgs false
/-- A comparison that tells a total order. -/
structure Cmp {α : Type} (c : α → α → Int) : Prop where
  anti : ∀ x y, c x y < 0 ↔ 0 < c y x
  zero : ∀ x y, c x y = 0 → x = y
  trans : ∀ x y z, c x y ≤ 0 → c y z ≤ 0 → c x z ≤ 0
theorem Cmp.self {α : Type} {c : α → α → Int} (h : Cmp c) (x : α) : c x x = 0 := by
  have := h.anti x x
  omega
theorem cmp_list {α : Type} {c : α → α → Int} (h : Cmp c) : Cmp (cmpT c) where
  anti := by
    intro x
    induction x with
    | nil => intro y; cases y <;> simp [cmpT]
    | cons a xs ih =>
      intro y
      cases y with
      | nil => simp [cmpT]
      | cons b ys =>
        simp only [cmpT]
        by_cases e : c a b = 0
        · have e2 := h.zero a b e
          subst e2
          rw [if_pos e, if_pos e]
          exact ih ys
        · have e3 : ¬ c b a = 0 := fun e2 => e (by rw [h.zero b a e2]; exact h.self a)
          rw [if_neg e, if_neg e3]
          exact h.anti a b
  zero := by
    intro x
    induction x with
    | nil => intro y; cases y <;> simp [cmpT]
    | cons a xs ih =>
      intro y
      cases y with
      | nil => simp [cmpT]
      | cons b ys =>
        simp only [cmpT]
        by_cases e : c a b = 0
        · rw [if_pos e, h.zero a b e]
          intro k
          rw [ih ys k]
        · rw [if_neg e]
          exact fun k => absurd k e
  trans := by
    intro x
    induction x with
    | nil => intro y z; cases y <;> cases z <;> simp [cmpT]
    | cons a xs ih =>
      intro y z
      cases y with
      | nil => simp [cmpT]
      | cons b ys =>
        cases z with
        | nil => simp [cmpT]
        | cons d zs =>
          simp only [cmpT]
          intro h1 h2
          by_cases e : c a b = 0
          · have e1 := h.zero a b e
            subst e1
            rw [if_pos e] at h1
            by_cases e2 : c a d = 0
            · rw [if_pos e2] at h2 ⊢
              exact ih ys zs h1 h2
            · rw [if_neg e2] at h2 ⊢
              exact h2
          · rw [if_neg e] at h1
            by_cases e2 : c b d = 0
            · have e3 := h.zero b d e2
              subst e3
              rw [if_neg e]
              exact h1
            · rw [if_neg e2] at h2
              have e4 : ¬ c a d = 0 := fun e5 => by
                have e6 := h.zero a d e5
                subst e6
                have := h.anti a b
                omega
              rw [if_neg e4]
              exact h.trans a b d h1 h2
theorem cmp_int : Cmp cmpI where
  anti := fun x y => by
    unfold cmpI
    split <;> split <;> (try split) <;> (try split) <;> omega
  zero := fun x y => (cmpI_zero x y).mp
  trans := fun x y z => by
    unfold cmpI
    intro h1 h2
    split at h1 <;> split at h2 <;> (try split at h1) <;> (try split at h2) <;> split <;> (try split) <;> omega
/-- Tables, row by row. -/
def cmpTT (a b : List (List Int)) : Int := cmpT (cmpT cmpI) a b
theorem cmp_tabs : Cmp cmpTT := cmp_list (cmp_list cmp_int)
theorem minT_mem {α : Type} (c : α → α → Int) : ∀ (xs : List α) (m : α), minT c m xs ∈ m :: xs
  | [], m => by simp [minT]
  | x :: xs, m => by
    simp only [minT]
    have := minT_mem c xs (if c x m < 0 then x else m)
    rcases List.mem_cons.mp this with e | e
    · rw [e]
      split <;> simp
    · simp [e]
theorem minT_le {α : Type} {c : α → α → Int} (h : Cmp c) : ∀ (xs : List α) (m y : α), y ∈ m :: xs → c (minT c m xs) y ≤ 0
  | [], m, y, hy => by
    have : y = m := by simpa using hy
    subst this
    simp only [minT]
    exact Int.le_of_eq (h.self y)
  | x :: xs, m, y, hy => by
    simp only [minT]
    have ih := minT_le h xs (if c x m < 0 then x else m)
    have h0 := ih (if c x m < 0 then x else m) List.mem_cons_self
    rcases List.mem_cons.mp hy with rfl | hy
    · refine h.trans _ _ _ h0 ?_
      by_cases e : c x y < 0
      · rw [if_pos e]; omega
      · rw [if_neg e]; exact Int.le_of_eq (h.self y)
    · rcases List.mem_cons.mp hy with rfl | hy
      · refine h.trans _ _ _ h0 ?_
        by_cases e : c y m < 0
        · rw [if_pos e]; exact Int.le_of_eq (h.self y)
        · rw [if_neg e]
          have := h.anti y m
          have h2 := h.anti m y
          omega
      · exact ih y (List.mem_cons_of_mem _ hy)
/-- The least of two lists with the same members is one. -/
theorem minT_same {α : Type} {c : α → α → Int} (h : Cmp c) (m k : α) (xs ys : List α) (e : ∀ y, y ∈ m :: xs ↔ y ∈ k :: ys) : minT c m xs = minT c k ys := by
  have h1 := minT_le h xs m _ ((e _).mpr (minT_mem c ys k))
  have h2 := minT_le h ys k _ ((e _).mp (minT_mem c xs m))
  refine h.zero _ _ ?_
  have := h.anti (minT c m xs) (minT c k ys)
  omega
/-- The reference's test: a matrix comes before another one. -/
theorem ev_sgLess (a b : List (List Int)) (n : Nat) (hn : n ≤ 6) (ha : a.length = n) (hb : b.length = n) (ra : ∀ i, i < n → (row a i).length = n) (rb : ∀ i, i < n → (row b i).length = n) : Ev (fun k => spec_sgLess.f k a b) (decide (cmpTT a b < 0)) := by
  unfold spec_sgLess.f cmpTT
  rw [ha]
  have ga : ∀ i (hi : i < n), a[i]'(by omega) = row a i := fun i hi => by unfold row; rw [List.getD_eq_getElem?_getD, List.getElem?_eq_getElem (by omega)]; rfl
  have gb : ∀ i (hi : i < n), b[i]'(by omega) = row b i := fun i hi => by unfold row; rw [List.getD_eq_getElem?_getD, List.getElem?_eq_getElem (by omega)]; rfl
  suffices hs : ∀ (d i : Nat), i + d = n → Ev (fun k => spec_sgLess.l0 k b a (n : Int) (i : Int)) (decide (cmpT (cmpT cmpI) (a.drop i) (b.drop i) < 0)) from hs n 0 (by omega)
  intro d
  induction d with
  | zero =>
    intro i hi
    refine Ev.succ ?_
    simp only [spec_sgLess.l0]
    refine Ev.neg (by omega) ?_
    rw [cmpT_end _ _ _ _ (by omega), if_neg (by omega)]
    exact Ev.now _
  | succ d ih =>
    intro i hi
    have hin : i < n := by omega
    refine Ev.succ ?_
    simp only [spec_sgLess.l0]
    rw [row_eq, ra i hin, cmpT_drop _ _ _ _ (by omega) (by omega), ga i hin, gb i hin]
    refine Ev.pos (by omega) (Ev.pos (by omega) (Ev.pos (by omega) ?_))
    suffices ht : ∀ (c j : Nat), j + c = n → Ev (fun k => spec_sgLess.l1 k b (i : Int) a (n : Int) (i : Int) (row a i) (n : Int) (j : Int)) (decide ((if cmpT cmpI ((row a i).drop j) ((row b i).drop j) = 0 then cmpT (cmpT cmpI) (a.drop (i + 1)) (b.drop (i + 1)) else cmpT cmpI ((row a i).drop j) ((row b i).drop j)) < 0)) from ht n 0 (by omega)
    intro c
    induction c with
    | zero =>
      intro j hj
      refine Ev.succ ?_
      simp only [spec_sgLess.l1]
      have hra := ra i hin
      have hrb := rb i hin
      rw [wrapN i (by omega), cmpT_end _ _ _ _ (by omega), if_neg (show ¬ j < (row b i).length by omega), if_pos rfl]
      exact Ev.neg (by omega) (ih (i + 1) (by omega))
    | succ c ihc =>
      intro j hj
      refine Ev.succ ?_
      simp only [spec_sgLess.l1]
      have hra := ra i hin
      have hrb := rb i hin
      rw [row_eq, hra, hrb, wrapN j (by omega), cmpT_drop _ _ _ _ (by omega) (by omega), ← rd_get _ j (by omega), ← rd_get _ j (by omega)]
      refine Ev.pos (by omega) (Ev.pos (by omega) (Ev.pos (by omega) (Ev.pos (by omega) (Ev.pos (by omega) (Ev.pos (by omega) ?_)))))
      by_cases e : rd (row a i) (j : Int) = rd (row b i) (j : Int)
      · have e2 : cmpI (rd (row a i) (j : Int)) (rd (row b i) (j : Int)) = 0 := (cmpI_zero _ _).mpr e
        rw [if_pos e2]
        exact Ev.pos e (ihc (j + 1) (by omega))
      · have e2 : ¬ cmpI (rd (row a i) (j : Int)) (rd (row b i) (j : Int)) = 0 := fun x => e ((cmpI_zero _ _).mp x)
        rw [if_neg e2, if_neg e2]
        have e3 : decide (cmpI (rd (row a i) (j : Int)) (rd (row b i) (j : Int)) < 0) = decide (rd (row a i) (j : Int) < rd (row b i) (j : Int)) := by
          congr 1
          unfold cmpI
          refine propext ⟨fun h => ?_, fun h => ?_⟩
          · split at h
            · assumption
            · split at h <;> omega
          · rw [if_pos h]; omega
        rw [e3]
        exact Ev.neg e (Ev.now _)
end Go.Proofs.Ythjiajkmaimbjaa.Pure
