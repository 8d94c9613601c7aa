/- FnSignsCounted returns true for all bytes: the counts of the program are the reference's, they add up to the formula, and neighbours stand as it tells. No conditions. -/
import Derived.Test.YtadepmjfhcmkoaaFLawsFnSignsCounted
import Derived.Test.YtadepmjfhcmkoaaPureFnExactCountByFirst
import Derived.Test.YtadepmjfhcmkoaaPureFnExactCountByMinus
import Derived.Test.YtadepmjfhcmkoaaPureFnExactCountByInversions
import Derived.KernelRfl
namespace Go.Proofs.Ytadepmjfhcmkoaa.Pure
open Go.Proofs.Ytadepmjfhcmkoaa.B Go.Proofs.Ytadepmjfhcmkoaa.P
open Go.RowKit Go.Proofs.YtadepmjfhcmkoaaW.PrintWords Go.Proofs.YtadepmjfhcmkoaaW.PrintLast Go.Proofs.YtadepmjfhcmkoaaW.PrintMore
set_option linter.unusedVariables false
set_option linter.unusedSimpArgs false
set_option maxRecDepth 100000
theorem one_of {s1 : Nat → Int → Option (List Int × Bool)} {i1 : Int → Option (List Int × Bool)} {a : Int} {K : Nat} {v : List Int × Bool} (hm : ∀ k, LeO (s1 k a) (s1 (k + 1) a)) (hs : s1 K a = some v) (h : ∃ (r1 : List Int) (r2 : Bool), (∃ k, s1 k a = some (r1, r2)) ∧ i1 a = some (r1, r2)) : Ev (fun k => s1 k a) v ∧ i1 a = some v := by
  obtain ⟨r1, r2, ⟨k, h1⟩, h2⟩ := h
  have e1 := Ev.of (fun k => hm k) hs
  obtain ⟨K1, k1⟩ := e1
  obtain ⟨K2, k2⟩ := Ev.of (fun k => hm k) h1
  have a1 := k1 (max K1 K2) (by omega)
  have a2 := k2 (max K1 K2) (by omega)
  rw [a1] at a2
  exact ⟨⟨K1, k1⟩, by rw [h2, ← a2]⟩
def tail0 (k : Nat) (l1 : List Int) (t796 : Int) (bt797 bt801 : List Int × Bool) : Option Bool := ((impl_CountSigns.f k t796).bind fun bt805 => (if (bt797.2 != bt801.2) = true then (laws_FnSignsCounted.j0 k l1 t796 bt797.1 bt797.2 true) else ((laws_hSame.f k bt797.1 bt801.1).bind fun t807 => (if t807 = true then (if bt797.2 = true then (if bt805.2 = true then ((laws_hSum.f k bt797.1).bind fun t808 => (if t808 = bt805.1 then (laws_FnSignsCounted.j0 k l1 t796 bt797.1 bt797.2 ((bt797.1.length : Int) != t796)) else (laws_FnSignsCounted.j0 k l1 t796 bt797.1 bt797.2 true))) else (laws_FnSignsCounted.j0 k l1 t796 bt797.1 bt797.2 true)) else (laws_FnSignsCounted.j0 k l1 t796 bt797.1 bt797.2 false)) else (laws_FnSignsCounted.j0 k l1 t796 bt797.1 bt797.2 true)))))
def tail5 (k : Nat) (t816 : Int) (bt817 bt821 bt825 bt829 : List Int × Bool) : Option Bool := (if (bt817.2 != bt821.2) = true then (laws_FnSignsCounted.j6 k t816 bt817.1 bt817.2 bt825.1 true) else ((laws_hSame.f k bt817.1 bt821.1).bind fun t833 => (if t833 = true then (if (bt825.2 != bt829.2) = true then (laws_FnSignsCounted.j6 k t816 bt817.1 bt817.2 bt825.1 true) else ((laws_hSame.f k bt825.1 bt829.1).bind fun t834 => (if t834 = true then (laws_FnSignsCounted.j6 k t816 bt817.1 bt817.2 bt825.1 (bt825.2 != bt817.2)) else (laws_FnSignsCounted.j6 k t816 bt817.1 bt817.2 bt825.1 true)))) else (laws_FnSignsCounted.j6 k t816 bt817.1 bt817.2 bt825.1 true))))
theorem sF_1 : spec_CountByFirst.f 400 1 = some (([1] : List Int), true) := by kernel_rfl
theorem sF_2 : spec_CountByFirst.f 400 2 = some (([1, 1] : List Int), true) := by kernel_rfl
theorem sF_3 : spec_CountByFirst.f 400 3 = some (([2, 3, 2] : List Int), true) := by kernel_rfl
theorem sF_4 : spec_CountByFirst.f 400 4 = some (([7, 14, 14, 7] : List Int), true) := by kernel_rfl
theorem sF_5 : spec_CountByFirst.f 400 5 = some (([42, 105, 135, 105, 42] : List Int), true) := by kernel_rfl
theorem sF_6 : spec_CountByFirst.f 400 6 = some (([429, 1287, 2002, 2002, 1287, 429] : List Int), true) := by kernel_rfl
theorem sM_1 : spec_CountByMinus.f 400 1 = some (([1] : List Int), true) := by kernel_rfl
theorem sM_2 : spec_CountByMinus.f 400 2 = some (([2] : List Int), true) := by kernel_rfl
theorem sM_3 : spec_CountByMinus.f 400 3 = some (([6, 1] : List Int), true) := by kernel_rfl
theorem sM_4 : spec_CountByMinus.f 400 4 = some (([24, 16, 2] : List Int), true) := by kernel_rfl
theorem sM_5 : spec_CountByMinus.f 400 5 = some (([120, 200, 94, 14, 1] : List Int), true) := by kernel_rfl
theorem sI_1 : spec_CountByInversions.f 400 1 = some (([1] : List Int), true) := by kernel_rfl
theorem sI_2 : spec_CountByInversions.f 400 2 = some (([1, 1] : List Int), true) := by kernel_rfl
theorem sI_3 : spec_CountByInversions.f 400 3 = some (([1, 2, 3, 1] : List Int), true) := by kernel_rfl
theorem sI_4 : spec_CountByInversions.f 400 4 = some (([1, 3, 7, 13, 11, 6, 1] : List Int), true) := by kernel_rfl
theorem sI_5 : spec_CountByInversions.f 1500 5 = some (([1, 4, 12, 31, 67, 92, 99, 77, 35, 10, 1] : List Int), true) := by kernel_rfl
theorem sF_7 : spec_CountByFirst.f 400 (7) = some (([] : List Int), false) := by kernel_rfl
theorem sF_0 : spec_CountByFirst.f 400 (0) = some (([] : List Int), false) := by kernel_rfl
theorem sF_m : spec_CountByFirst.f 400 (-1) = some (([] : List Int), false) := by kernel_rfl
theorem sM_6 : spec_CountByMinus.f 400 6 = some (([] : List Int), false) := by kernel_rfl
theorem sI_6 : spec_CountByInversions.f 400 6 = some (([] : List Int), false) := by kernel_rfl
theorem sM_0 : spec_CountByMinus.f 400 0 = some (([] : List Int), false) := by kernel_rfl
theorem sI_0 : spec_CountByInversions.f 400 0 = some (([] : List Int), false) := by kernel_rfl
theorem t5_1 (k : Nat) : tail5 (k + 80) 1 (([1] : List Int), true) (([1] : List Int), true) (([1] : List Int), true) (([1] : List Int), true) = some true := by kernel_rfl
theorem t5_2 (k : Nat) : tail5 (k + 80) 2 (([2] : List Int), true) (([2] : List Int), true) (([1, 1] : List Int), true) (([1, 1] : List Int), true) = some true := by kernel_rfl
theorem t5_3 (k : Nat) : tail5 (k + 80) 3 (([6, 1] : List Int), true) (([6, 1] : List Int), true) (([1, 2, 3, 1] : List Int), true) (([1, 2, 3, 1] : List Int), true) = some true := by kernel_rfl
theorem t5_4 (k : Nat) : tail5 (k + 80) 4 (([24, 16, 2] : List Int), true) (([24, 16, 2] : List Int), true) (([1, 3, 7, 13, 11, 6, 1] : List Int), true) (([1, 3, 7, 13, 11, 6, 1] : List Int), true) = some true := by kernel_rfl
theorem t5_5 (k : Nat) : tail5 (k + 80) 5 (([120, 200, 94, 14, 1] : List Int), true) (([120, 200, 94, 14, 1] : List Int), true) (([1, 4, 12, 31, 67, 92, 99, 77, 35, 10, 1] : List Int), true) (([1, 4, 12, 31, 67, 92, 99, 77, 35, 10, 1] : List Int), true) = some true := by kernel_rfl
theorem t5_6 (k : Nat) : tail5 (k + 80) 6 (([] : List Int), false) (([] : List Int), false) (([] : List Int), false) (([] : List Int), false) = some true := by kernel_rfl
theorem t5_0 (k : Nat) : tail5 (k + 80) 0 (([] : List Int), false) (([] : List Int), false) (([] : List Int), false) (([] : List Int), false) = some true := by kernel_rfl
theorem t0_1 (k : Nat) (l1 : List Int) : tail0 (k + 60) l1 1 (([1] : List Int), true) (([1] : List Int), true) = laws_FnSignsCounted.j5 (k + 56) l1 := by kernel_rfl
theorem t0_2 (k : Nat) (l1 : List Int) : tail0 (k + 60) l1 2 (([1, 1] : List Int), true) (([1, 1] : List Int), true) = laws_FnSignsCounted.j5 (k + 52) l1 := by kernel_rfl
theorem t0_3 (k : Nat) (l1 : List Int) : tail0 (k + 60) l1 3 (([2, 3, 2] : List Int), true) (([2, 3, 2] : List Int), true) = laws_FnSignsCounted.j5 (k + 50) l1 := by kernel_rfl
theorem t0_4 (k : Nat) (l1 : List Int) : tail0 (k + 60) l1 4 (([7, 14, 14, 7] : List Int), true) (([7, 14, 14, 7] : List Int), true) = laws_FnSignsCounted.j5 (k + 48) l1 := by kernel_rfl
theorem t0_5 (k : Nat) (l1 : List Int) : tail0 (k + 60) l1 5 (([42, 105, 135, 105, 42] : List Int), true) (([42, 105, 135, 105, 42] : List Int), true) = laws_FnSignsCounted.j5 (k + 46) l1 := by kernel_rfl
theorem t0_6 (k : Nat) (l1 : List Int) : tail0 (k + 60) l1 6 (([429, 1287, 2002, 2002, 1287, 429] : List Int), true) (([429, 1287, 2002, 2002, 1287, 429] : List Int), true) = laws_FnSignsCounted.j5 (k + 44) l1 := by kernel_rfl
theorem t0_7 (k : Nat) (l1 : List Int) : tail0 (k + 60) l1 (7) (([] : List Int), false) (([] : List Int), false) = laws_FnSignsCounted.j5 (k + 57) l1 := by kernel_rfl
theorem t0_0 (k : Nat) (l1 : List Int) : tail0 (k + 60) l1 (0) (([] : List Int), false) (([] : List Int), false) = laws_FnSignsCounted.j5 (k + 57) l1 := by kernel_rfl
theorem t0_m (k : Nat) (l1 : List Int) : tail0 (k + 60) l1 (-1) (([] : List Int), false) (([] : List Int), false) = laws_FnSignsCounted.j5 (k + 57) l1 := by kernel_rfl
theorem Ev.plus {α : Type} {f : Nat → Option α} {x : α} (C : Nat) (h : ∀ k, f (k + C) = some x) : Ev f x := ⟨C, fun k hk => by
  obtain ⟨d, rfl⟩ : ∃ d, k = d + C := ⟨k - C, by omega⟩
  exact h d⟩
theorem Ev.moved {α : Type} {f g : Nat → Option α} {x : α} (C c : Nat) (hc : c ≤ C) (h : ∀ k, f (k + C) = g (k + c)) (hg : Ev g x) : Ev f x := by
  obtain ⟨K, hk⟩ := hg
  refine ⟨K + C, fun k hk2 => ?_⟩
  obtain ⟨d, rfl⟩ : ∃ d, k = d + C := ⟨k - C, by omega⟩
  rw [h]
  exact hk _ (by omega)
theorem bytes_of {l : List Int} (h : ∀ x ∈ l, (Lit.int .u8 x).wf = true) : ∀ x ∈ l, 0 ≤ x ∧ x ≤ 255 := by
  intro x hx
  have h1 := h x hx
  simp [Lit.wf] at h1
  have m0 : IntKind.u8.min = 0 := rfl
  have m1 : IntKind.u8.max = 255 := rfl
  omega
theorem ev5 (l1 : List Int) (hl : l1.length ≤ 1048576) (hb : ∀ x ∈ l1, 0 ≤ x ∧ x ≤ 255) : Ev (fun k => laws_FnSignsCounted.j5 k l1) true := by
  refine Ev.succ ?_
  simp only [laws_FnSignsCounted.j5]
  have hd : spec_DrawCountByMinus.f l1 = some (rd [1, 2, 3, 4, 5, 6, 0] (firstB l1 % 7)) := by unfold spec_DrawCountByMinus.f; rw [if_pos ⟨hl, hb⟩]
  refine Ev.bind0 hd ?_
  have f0 := firstB_bound hb
  obtain ⟨i, hi⟩ : ∃ i : Nat, firstB l1 % 7 = (i : Int) := ⟨(firstB l1 % 7).toNat, by omega⟩
  have hi7 : i < 7 := by omega
  rw [hi]
  suffices h : ∀ (a : Int) (bm bi : List Int × Bool), (Ev (fun k => spec_CountByMinus.f k a) bm ∧ impl_CountByMinus.f a = some bm) → (Ev (fun k => spec_CountByInversions.f k a) bi ∧ impl_CountByInversions.f a = some bi) → (∀ k, tail5 (k + 80) a bm bm bi bi = some true) → rd [1, 2, 3, 4, 5, 6, 0] (i : Int) = a → Ev (fun k => (impl_CountByMinus.f (rd [1, 2, 3, 4, 5, 6, 0] (i : Int))).bind fun bt817 => ((spec_CountByMinus.f k (rd [1, 2, 3, 4, 5, 6, 0] (i : Int))).bind fun bt821 => ((impl_CountByInversions.f (rd [1, 2, 3, 4, 5, 6, 0] (i : Int))).bind fun bt825 => ((spec_CountByInversions.f k (rd [1, 2, 3, 4, 5, 6, 0] (i : Int))).bind fun bt829 => tail5 k (rd [1, 2, 3, 4, 5, 6, 0] (i : Int)) bt817 bt821 bt825 bt829)))) true by
    have M := fun (a : Int) (h : (Lit.int .i64 a).wf = true) => FnExactCountByMinus a h
    have I := fun (a : Int) (h : (Lit.int .i64 a).wf = true) => FnExactCountByInversions a h
    have h7 : i = 0 ∨ i = 1 ∨ i = 2 ∨ i = 3 ∨ i = 4 ∨ i = 5 ∨ i = 6 := by omega
    rcases h7 with rfl | rfl | rfl | rfl | rfl | rfl | rfl
    · exact h 1 _ _ (one_of (fun k => spec_CountByMinus.mono 1 k) sM_1 (by obtain ⟨r1, r2, h1, h2, _⟩ := M 1 rfl; exact ⟨r1, r2, h1, h2⟩)) (one_of (fun k => spec_CountByInversions.mono 1 k) sI_1 (by obtain ⟨r1, r2, h1, h2, _⟩ := I 1 rfl; exact ⟨r1, r2, h1, h2⟩)) t5_1 rfl
    · exact h 2 _ _ (one_of (fun k => spec_CountByMinus.mono 2 k) sM_2 (by obtain ⟨r1, r2, h1, h2, _⟩ := M 2 rfl; exact ⟨r1, r2, h1, h2⟩)) (one_of (fun k => spec_CountByInversions.mono 2 k) sI_2 (by obtain ⟨r1, r2, h1, h2, _⟩ := I 2 rfl; exact ⟨r1, r2, h1, h2⟩)) t5_2 rfl
    · exact h 3 _ _ (one_of (fun k => spec_CountByMinus.mono 3 k) sM_3 (by obtain ⟨r1, r2, h1, h2, _⟩ := M 3 rfl; exact ⟨r1, r2, h1, h2⟩)) (one_of (fun k => spec_CountByInversions.mono 3 k) sI_3 (by obtain ⟨r1, r2, h1, h2, _⟩ := I 3 rfl; exact ⟨r1, r2, h1, h2⟩)) t5_3 rfl
    · exact h 4 _ _ (one_of (fun k => spec_CountByMinus.mono 4 k) sM_4 (by obtain ⟨r1, r2, h1, h2, _⟩ := M 4 rfl; exact ⟨r1, r2, h1, h2⟩)) (one_of (fun k => spec_CountByInversions.mono 4 k) sI_4 (by obtain ⟨r1, r2, h1, h2, _⟩ := I 4 rfl; exact ⟨r1, r2, h1, h2⟩)) t5_4 rfl
    · exact h 5 _ _ (one_of (fun k => spec_CountByMinus.mono 5 k) sM_5 (by obtain ⟨r1, r2, h1, h2, _⟩ := M 5 rfl; exact ⟨r1, r2, h1, h2⟩)) (one_of (fun k => spec_CountByInversions.mono 5 k) sI_5 (by obtain ⟨r1, r2, h1, h2, _⟩ := I 5 rfl; exact ⟨r1, r2, h1, h2⟩)) t5_5 rfl
    · exact h 6 _ _ (one_of (fun k => spec_CountByMinus.mono 6 k) sM_6 (by obtain ⟨r1, r2, h1, h2, _⟩ := M 6 rfl; exact ⟨r1, r2, h1, h2⟩)) (one_of (fun k => spec_CountByInversions.mono 6 k) sI_6 (by obtain ⟨r1, r2, h1, h2, _⟩ := I 6 rfl; exact ⟨r1, r2, h1, h2⟩)) t5_6 rfl
    · exact h 0 _ _ (one_of (fun k => spec_CountByMinus.mono 0 k) sM_0 (by obtain ⟨r1, r2, h1, h2, _⟩ := M 0 rfl; exact ⟨r1, r2, h1, h2⟩)) (one_of (fun k => spec_CountByInversions.mono 0 k) sI_0 (by obtain ⟨r1, r2, h1, h2, _⟩ := I 0 rfl; exact ⟨r1, r2, h1, h2⟩)) t5_0 rfl
  intro a bm bi hm hi ht e
  rw [e]
  exact Ev.bind0 hm.2 (Ev.bind hm.1 (Ev.bind0 hi.2 (Ev.bind hi.1 (Ev.plus 80 ht))))
theorem FnSignsCounted : laws_FnSignsCounted.Pure := by
  intro l0 l1 hl0 _ hw0 hl1 _ hw1
  refine Ev.rounds ?_
  have hb0 := bytes_of hw0
  have hb1 := bytes_of hw1
  unfold laws_FnSignsCounted.f
  by_cases hbig : laws_big.f l0 l1 = some true
  · exact Ev.bind0 hbig (Ev.pos rfl (Ev.now _))
  have hm : maxLen = 9223372036854775807 := rfl
  have hs : l0.length ≤ 1048576 ∧ l1.length ≤ 1048576 ∧ laws_big.f l0 l1 = some false := by
    unfold laws_big.f at hbig ⊢
    by_cases c : (l0.length : Int) > 1048576
    · rw [if_pos c] at hbig; exact absurd rfl hbig
    · rw [if_neg c] at hbig ⊢
      rw [wrapE _ (by omega) (by omega)] at hbig ⊢
      by_cases c2 : (l1.length : Int) > 1048576 - (l0.length : Int)
      · rw [decide_eq_true c2] at hbig; exact absurd rfl hbig
      · exact ⟨by omega, by omega, by rw [decide_eq_false c2]⟩
  obtain ⟨hs0, hs1, hs2⟩ := hs
  refine Ev.bind0 hs2 (Ev.neg (by decide) ?_)
  have hd : spec_DrawCountByFirst.f l0 = some (rd [1, 2, 3, 4, 5, 6, 7, 0, -1] (firstB l0 % 9)) := by unfold spec_DrawCountByFirst.f; rw [if_pos ⟨hs0, hb0⟩]
  refine Ev.bind0 hd ?_
  have f0 := firstB_bound hb0
  obtain ⟨i, hi⟩ : ∃ i : Nat, firstB l0 % 9 = (i : Int) := ⟨(firstB l0 % 9).toNat, by omega⟩
  have hi9 : i < 9 := by omega
  rw [hi]
  have E5 := ev5 l1 hs1 hb1
  suffices h : ∀ (a : Int) (bf : List Int × Bool) (c : Nat), c ≤ 60 → (Ev (fun k => spec_CountByFirst.f k a) bf ∧ impl_CountByFirst.f a = some bf) → (∀ k, tail0 (k + 60) l1 a bf bf = laws_FnSignsCounted.j5 (k + c) l1) → rd [1, 2, 3, 4, 5, 6, 7, 0, -1] (i : Int) = a → Ev (fun k => (impl_CountByFirst.f (rd [1, 2, 3, 4, 5, 6, 7, 0, -1] (i : Int))).bind fun bt797 => ((spec_CountByFirst.f k (rd [1, 2, 3, 4, 5, 6, 7, 0, -1] (i : Int))).bind fun bt801 => tail0 k l1 (rd [1, 2, 3, 4, 5, 6, 7, 0, -1] (i : Int)) bt797 bt801)) true by
    have F := fun (a : Int) (h : (Lit.int .i64 a).wf = true) => FnExactCountByFirst a h
    have h9 : i = 0 ∨ i = 1 ∨ i = 2 ∨ i = 3 ∨ i = 4 ∨ i = 5 ∨ i = 6 ∨ i = 7 ∨ i = 8 := by omega
    rcases h9 with rfl | rfl | rfl | rfl | rfl | rfl | rfl | rfl | rfl
    · exact h (1) _ 56 (by omega) (one_of (fun k => spec_CountByFirst.mono (1) k) sF_1 (by obtain ⟨r1, r2, h1, h2, _⟩ := F (1) rfl; exact ⟨r1, r2, h1, h2⟩)) (fun k => t0_1 k l1) rfl
    · exact h (2) _ 52 (by omega) (one_of (fun k => spec_CountByFirst.mono (2) k) sF_2 (by obtain ⟨r1, r2, h1, h2, _⟩ := F (2) rfl; exact ⟨r1, r2, h1, h2⟩)) (fun k => t0_2 k l1) rfl
    · exact h (3) _ 50 (by omega) (one_of (fun k => spec_CountByFirst.mono (3) k) sF_3 (by obtain ⟨r1, r2, h1, h2, _⟩ := F (3) rfl; exact ⟨r1, r2, h1, h2⟩)) (fun k => t0_3 k l1) rfl
    · exact h (4) _ 48 (by omega) (one_of (fun k => spec_CountByFirst.mono (4) k) sF_4 (by obtain ⟨r1, r2, h1, h2, _⟩ := F (4) rfl; exact ⟨r1, r2, h1, h2⟩)) (fun k => t0_4 k l1) rfl
    · exact h (5) _ 46 (by omega) (one_of (fun k => spec_CountByFirst.mono (5) k) sF_5 (by obtain ⟨r1, r2, h1, h2, _⟩ := F (5) rfl; exact ⟨r1, r2, h1, h2⟩)) (fun k => t0_5 k l1) rfl
    · exact h (6) _ 44 (by omega) (one_of (fun k => spec_CountByFirst.mono (6) k) sF_6 (by obtain ⟨r1, r2, h1, h2, _⟩ := F (6) rfl; exact ⟨r1, r2, h1, h2⟩)) (fun k => t0_6 k l1) rfl
    · exact h (7) _ 57 (by omega) (one_of (fun k => spec_CountByFirst.mono (7) k) sF_7 (by obtain ⟨r1, r2, h1, h2, _⟩ := F (7) rfl; exact ⟨r1, r2, h1, h2⟩)) (fun k => t0_7 k l1) rfl
    · exact h (0) _ 57 (by omega) (one_of (fun k => spec_CountByFirst.mono (0) k) sF_0 (by obtain ⟨r1, r2, h1, h2, _⟩ := F (0) rfl; exact ⟨r1, r2, h1, h2⟩)) (fun k => t0_0 k l1) rfl
    · exact h (-1) _ 57 (by omega) (one_of (fun k => spec_CountByFirst.mono (-1) k) sF_m (by obtain ⟨r1, r2, h1, h2, _⟩ := F (-1) rfl; exact ⟨r1, r2, h1, h2⟩)) (fun k => t0_m k l1) rfl
  intro a bf c hc hf ht e
  rw [e]
  exact Ev.bind0 hf.2 (Ev.bind hf.1 (Ev.moved 60 c hc ht E5))
end Go.Proofs.Ytadepmjfhcmkoaa.Pure
