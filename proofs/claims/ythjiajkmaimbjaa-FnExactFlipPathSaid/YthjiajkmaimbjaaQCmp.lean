/- Tables compared row by row: 0 tells that they are equal. -/
import Derived.Test.YthjiajkmaimbjaaFImplCmp
import Derived.Test.YthjiajkmaimbjaaQIn
import Derived.Test.YthjiajkmaimbjaaQSign
namespace Go.Proofs.Ythjiajkmaimbjaa.Pure
open Go.Proofs.Ythjiajkmaimbjaa.B Go.Proofs.Ythjiajkmaimbjaa.P
open Go.RowKit Go.Proofs.YthjiajkmaimbjaaW.PrintWords Go.Proofs.YthjiajkmaimbjaaW.PrintLast Go.Proofs.YthjiajkmaimbjaaW.PrintMore
set_option linter.unusedVariables false
set_option linter.unusedSimpArgs false
def cmpI (a b : Int) : Int := if a < b then -1 else if a > b then 1 else 0
theorem compare_eq (a b : Int) : cmp_Compare_int.f a b = some (cmpI a b) := by
 unfold cmp_Compare_int.f cmp_isNaN_int.f cmpI
 by_cases c : a < b
 ·simp [c]
 ·by_cases d : a > b
  ·simp [c, d]
  ·simp [c, d]
theorem cmpT_zero {α : Type} {cmp : α → α → Int} (h : ∀ x y, cmp x y = 0 ↔ x = y) : ∀ l m : List α, cmpT cmp l m = 0 ↔ l = m
 | [], [] => by simp [cmpT]
 | [], _ :: _ => by simp [cmpT]
 | _ :: _, [] => by simp [cmpT]
 | x :: xs, y :: ys => by
  simp only [cmpT]
  by_cases c : cmp x y = 0
  ·rw [if_pos c, cmpT_zero h xs ys, (h x y).mp c]
   simp
  ·rw [if_neg c]; refine ⟨fun e => absurd e c, fun e => ?_⟩; injection e with e1 _; exact absurd ((h x y).mpr e1) c
theorem cmpI_zero (a b : Int) : cmpI a b = 0 ↔ a = b := by
 unfold cmpI
 by_cases c : a < b
 ·rw [if_pos c]; omega
 ·rw [if_neg c]
  by_cases d : a > b
  ·rw [if_pos d]; omega
  ·rw [if_neg d]; omega
theorem ev_Compare (l m : List Int) (hl : l.length ≤ 1048576) : Ev (fun k => slices_Compare_int_int.f k l m) (cmpT cmpI l m) := by
 unfold slices_Compare_int_int.f
 suffices h : ∀ (d i : Nat), l.length = i + d → Ev (fun k => slices_Compare_int_int.l0 k l m l (l.length : Int) (i : Int)) (cmpT cmpI (l.drop i) (m.drop i)) by
  have := h l.length 0 (by omega)
  simpa using this
 intro d
 induction d with
 | zero =>
  intro i hd; refine Ev.succ ?_; simp only [slices_Compare_int_int.l0]; refine Ev.neg (by omega) ?_; rw [cmpT_end _ _ _ _ (by omega)]
  by_cases c : i < m.length
  ·rw [if_pos c]; exact Ev.pos (by omega) (Ev.now _)
  ·rw [if_neg c]; exact Ev.neg (by omega) (Ev.now _)
 | succ d ih =>
  intro i hd; refine Ev.succ ?_; simp only [slices_Compare_int_int.l0]; refine Ev.pos (by omega) (Ev.pos (by omega) (Ev.pos (by omega) ?_))
  by_cases c : i < m.length
  ·refine Ev.neg (by omega) (Ev.pos (by omega) ?_)
   rw [rd_get l i (by omega), rd_get m i c, cmpT_drop _ _ _ _ (by omega) c, wrapN i (by omega)]; refine Ev.bind0 (compare_eq _ _) ?_
   by_cases e : cmpI (l[i]'(by omega)) m[i] = 0
   ·rw [if_pos e]; exact Ev.pos e (ih (i + 1) (by omega))
   ·rw [if_neg e]; exact Ev.neg e (Ev.now _)
  ·rw [cmpT_long _ _ _ _ (by omega) (by omega)]; exact Ev.pos (by omega) (Ev.now _)
theorem ev_compareTables (a b : List (List Int)) (hr : ∀ x ∈ a, x.length ≤ 1048576) : Ev (fun k => impl_compareTables.f k a b) (cmpT (cmpT cmpI) a b) := by
 have h1 : ∀ x ∈ a, ∃ K, ∀ k, K ≤ k → ∀ y ∈ b, slices_Compare_int_int.f k x y = some (cmpT cmpI x y) := by
  intro x hx; obtain ⟨K, hK⟩ := ev_upTo (n := b.length) (F := fun j k => slices_Compare_int_int.f k x (b.getD j [])) (f := fun j => cmpT cmpI x (b.getD j [])) (fun j hj => ev_Compare x _ (hr x hx)); refine ⟨K, fun k hk y hy => ?_⟩; obtain ⟨j, hj, rfl⟩ := List.mem_iff_getElem.mp hy; have := hK k hk j hj
  rwa [List.getD_eq_getElem?_getD, List.getElem?_eq_getElem hj] at this
 have h2 : ∃ K, ∀ k, K ≤ k → ∀ x ∈ a, ∀ y ∈ b, slices_Compare_int_int.f k x y = some (cmpT cmpI x y) := by
  clear hr
  induction a with
  | nil => exact ⟨0, fun k _ x hx => by cases hx⟩
  | cons x xs ih =>
   obtain ⟨K, hK⟩ := ih (fun z hz => h1 z (by simp [hz])); obtain ⟨K', hK'⟩ := h1 x (by simp); refine ⟨K + K', fun k hk z hz => ?_⟩
   rcases List.mem_cons.mp hz with e | e
   ·subst e; exact hK' k (by omega)
   ·exact hK k (by omega) z e
 obtain ⟨K, hK⟩ := h2; refine ⟨K, fun k hk => ?_⟩; show impl_compareTables.f k a b = some _; unfold impl_compareTables.f; rw [if_pos (fun x hx y hy => by rw [hK k hk x hx y hy]; rfl)]
 congr 1
 exact cmpT_congr _ _ (fun x hx y hy => by rw [hK k hk x hx y hy]; rfl)
theorem compareTables_zero (a b : List (List Int)) : cmpT (cmpT cmpI) a b = 0 ↔ a = b := cmpT_zero (cmpT_zero cmpI_zero) a b
end Go.Proofs.Ythjiajkmaimbjaa.Pure
