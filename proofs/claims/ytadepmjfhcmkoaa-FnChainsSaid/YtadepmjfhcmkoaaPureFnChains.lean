/- FnChains returns true for all bytes: ways up are counted alike, the least and the greatest sign matrix are the reference's, their ranks are as told, and no flip leads beyond them. No conditions. -/
import Derived.Test.YtadepmjfhcmkoaaFLawsFnChains
import Derived.Test.YtadepmjfhcmkoaaFSpecEnds
import Derived.KernelRfl
namespace Go.Proofs.Ytadepmjfhcmkoaa.Pure
open Go.Proofs.Ytadepmjfhcmkoaa.B Go.Proofs.Ytadepmjfhcmkoaa.P
open Go.RowKit Go.Proofs.YtadepmjfhcmkoaaW.PrintWords Go.Proofs.YtadepmjfhcmkoaaW.PrintLast Go.Proofs.YtadepmjfhcmkoaaW.PrintMore
set_option linter.unusedVariables false
set_option linter.unusedSimpArgs false
set_option maxRecDepth 100000
def tailL (k : Nat) (t792 : Int) : Option Bool := ((impl_LeastSigns.f t792).bind fun bt793 => ((spec_LeastSigns.f k t792).bind fun bt797 => ((impl_GreatestSigns.f t792).bind fun bt801 => ((spec_GreatestSigns.f k t792).bind fun bt805 => (if (bt793.2 != bt797.2) = true then (laws_FnChains.j1 k t792 bt793.1 bt793.2 bt801.1 true) else ((laws_hRows.f k bt793.1 bt797.1).bind fun t809 => (if t809 = true then (if (bt801.2 != bt805.2) = true then (laws_FnChains.j1 k t792 bt793.1 bt793.2 bt801.1 true) else ((laws_hRows.f k bt801.1 bt805.1).bind fun t810 => (if t810 = true then (laws_FnChains.j1 k t792 bt793.1 bt793.2 bt801.1 (bt801.2 != bt793.2)) else (laws_FnChains.j1 k t792 bt793.1 bt793.2 bt801.1 true)))) else (laws_FnChains.j1 k t792 bt793.1 bt793.2 bt801.1 true))))))))
def tailC (k : Nat) (l1 : List Int) (t787 : Int) : Option Bool := ((impl_CountChains.f t787).bind fun bt788 => ((spec_CountChains.f t787).bind fun bt790 => (if (bt788.2 != bt790.2) = true then (laws_FnChains.j0 k l1 true) else (if bt788.1 = bt790.1 then (if bt788.2 = true then (laws_FnChains.j0 k l1 (decide (bt788.1 < 1))) else (laws_FnChains.j0 k l1 false)) else (laws_FnChains.j0 k l1 true)))))
theorem tl_1 (k : Nat) : tailL (k + 120) 1 = some true := by kernel_rfl
theorem tl_2 (k : Nat) : tailL (k + 120) 2 = some true := by kernel_rfl
theorem tl_3 (k : Nat) : tailL (k + 120) 3 = some true := by kernel_rfl
theorem tl_5 (k : Nat) : tailL (k + 120) 5 = some true := by kernel_rfl
theorem tl_6 (k : Nat) : tailL (k + 120) 6 = some true := by kernel_rfl
theorem tl_7 (k : Nat) : tailL (k + 120) 7 = some true := by kernel_rfl
theorem tl_0 (k : Nat) : tailL (k + 120) 0 = some true := by kernel_rfl
theorem tc_0 (k : Nat) (l1 : List Int) : tailC k l1 0 = laws_FnChains.j0 k l1 false := by kernel_rfl
theorem tc_1 (k : Nat) (l1 : List Int) : tailC k l1 1 = laws_FnChains.j0 k l1 false := by kernel_rfl
theorem tc_2 (k : Nat) (l1 : List Int) : tailC k l1 2 = laws_FnChains.j0 k l1 false := by kernel_rfl
theorem tc_3 (k : Nat) (l1 : List Int) : tailC k l1 3 = laws_FnChains.j0 k l1 false := by kernel_rfl
theorem tc_4 (k : Nat) (l1 : List Int) : tailC k l1 4 = laws_FnChains.j0 k l1 false := by kernel_rfl
theorem tc_5 (k : Nat) (l1 : List Int) : tailC k l1 5 = laws_FnChains.j0 k l1 false := by kernel_rfl
theorem plus_ev {α : Type} {f : Nat → Option α} {x : α} (C : Nat) (h : ∀ k, f (k + C) = some x) : Ev f x := ⟨C, fun k hk => by
 obtain ⟨d, rfl⟩ : ∃ d, k = d + C := ⟨k - C, by omega⟩
 exact h d⟩
theorem bytes_in {l : List Int} (h : ∀ x ∈ l, (Lit.int .u8 x).wf = true) : ∀ x ∈ l, 0 ≤ x ∧ x ≤ 255 := by
 intro x hx; have h1 := h x hx
 simp [Lit.wf] at h1
 have m0 : IntKind.u8.min = 0 := rfl; have m1 : IntKind.u8.max = 255 := rfl; omega
theorem ev_j0 (l1 : List Int) (hl : l1.length ≤ 1048576) (hb : ∀ x ∈ l1, 0 ≤ x ∧ x ≤ 255) : Ev (fun k => laws_FnChains.j0 k l1 false) true := by
 refine Ev.succ ?_; simp only [laws_FnChains.j0]; refine Ev.neg (by decide) ?_
 have hd : spec_DrawLeastSigns.f l1 = some (rd [1, 2, 3, 5, 6, 7, 0] (firstB l1 % 7)) := by unfold spec_DrawLeastSigns.f; rw [if_pos ⟨hl, hb⟩]
 refine Ev.bind0 hd ?_; have f0 := firstB_bound hb
 obtain ⟨i, hi⟩ : ∃ i : Nat, firstB l1 % 7 = (i : Int) := ⟨(firstB l1 % 7).toNat, by omega⟩
 have hi7 : i < 7 := by omega
 rw [hi]; show Ev (fun k => tailL k (rd [1, 2, 3, 5, 6, 7, 0] (i : Int))) true
 have h7 : i = 0 ∨ i = 1 ∨ i = 2 ∨ i = 3 ∨ i = 4 ∨ i = 5 ∨ i = 6 := by omega
 rcases h7 with rfl | rfl | rfl | rfl | rfl | rfl | rfl
 ·exact plus_ev 120 tl_1
 ·exact plus_ev 120 tl_2
 ·exact plus_ev 120 tl_3
 ·exact plus_ev 120 tl_5
 ·exact plus_ev 120 tl_6
 ·exact plus_ev 120 tl_7
 ·exact plus_ev 120 tl_0
theorem FnChains : laws_FnChains.Pure := by
 intro l0 l1 hl0 _ hw0 hl1 _ hw1; refine Ev.rounds ?_; have hb0 := bytes_in hw0; have hb1 := bytes_in hw1; unfold laws_FnChains.f
 by_cases hbig : laws_big.f l0 l1 = some true
 ·exact Ev.bind0 hbig (Ev.pos rfl (Ev.now _))
 have hm : maxLen = 9223372036854775807 := rfl
 have hs : l0.length ≤ 1048576 ∧ l1.length ≤ 1048576 ∧ laws_big.f l0 l1 = some false := by
  unfold laws_big.f at hbig ⊢
  by_cases c : (l0.length : Int) > 1048576
  ·rw [if_pos c] at hbig; exact absurd rfl hbig
  ·rw [if_neg c] at hbig ⊢
   rw [wrapE _ (by omega) (by omega)] at hbig ⊢
   by_cases c2 : (l1.length : Int) > 1048576 - (l0.length : Int)
   ·rw [decide_eq_true c2] at hbig; exact absurd rfl hbig
   ·exact ⟨by omega, by omega, by rw [decide_eq_false c2]⟩
 obtain ⟨hs0, hs1, hs2⟩ := hs; refine Ev.bind0 hs2 (Ev.neg (by decide) ?_)
 have hd : spec_DrawCountChains.f l0 = some (rd [1, 2, 3, 4, 3, 5, 0] (firstB l0 % 7)) := by unfold spec_DrawCountChains.f; rw [if_pos ⟨hs0, hb0⟩]
 refine Ev.bind0 hd ?_; have f0 := firstB_bound hb0
 obtain ⟨i, hi⟩ : ∃ i : Nat, firstB l0 % 7 = (i : Int) := ⟨(firstB l0 % 7).toNat, by omega⟩
 have hi7 : i < 7 := by omega
 rw [hi]; have E := ev_j0 l1 hs1 hb1; show Ev (fun k => tailC k l1 (rd [1, 2, 3, 4, 3, 5, 0] (i : Int))) true
 have h7 : i = 0 ∨ i = 1 ∨ i = 2 ∨ i = 3 ∨ i = 4 ∨ i = 5 ∨ i = 6 := by omega
 rcases h7 with rfl | rfl | rfl | rfl | rfl | rfl | rfl
 ·exact Ev.congr (fun k => tc_1 k l1) E
 ·exact Ev.congr (fun k => tc_2 k l1) E
 ·exact Ev.congr (fun k => tc_3 k l1) E
 ·exact Ev.congr (fun k => tc_4 k l1) E
 ·exact Ev.congr (fun k => tc_3 k l1) E
 ·exact Ev.congr (fun k => tc_5 k l1) E
 ·exact Ev.congr (fun k => tc_0 k l1) E
end Go.Proofs.Ytadepmjfhcmkoaa.Pure
