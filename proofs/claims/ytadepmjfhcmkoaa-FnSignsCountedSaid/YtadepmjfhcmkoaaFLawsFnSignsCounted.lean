-- By gp.py (this session's own driver over the kit's print). Not trusted: Lean checks it.
import Derived.Test.YtadepmjfhcmkoaaF0
import Derived.Test.YtadepmjfhcmkoaaB
import Derived.Test.YtadepmjfhcmkoaaFImplCountSigns
import Derived.Test.YtadepmjfhcmkoaaFImplTally
import Derived.Test.YtadepmjfhcmkoaaFLawsH
import Derived.Test.YtadepmjfhcmkoaaFSpecCountBy
namespace Go.Proofs.Ytadepmjfhcmkoaa.P
open Go.Proofs.Ytadepmjfhcmkoaa.B
open Go.RowKit Go.Proofs.YtadepmjfhcmkoaaW.PrintWords Go.Proofs.YtadepmjfhcmkoaaW.PrintLast Go.Proofs.YtadepmjfhcmkoaaW.PrintMore
attribute [local go_sem] max2_int min2_int max_two min_two max_three min_three max_four min_four   -- for this text's walks alone
set_option linter.unusedVariables false
set_option linter.unusedSimpArgs false

/-! ### laws_FnSignsCounted: function 13 -/
mutual
def laws_FnSignsCounted.j0 : Nat → List Int → Int → List Int → Bool → Bool → Option (Bool)
  | 0, _, _, _, _, _ => none
  | k + 1, x1, x5, x6, x7, x83 => if x83 = true then (some false) else (laws_FnSignsCounted.l0 k x1 x5 x6 x7 x6 (x6.length : Int) 0)
def laws_FnSignsCounted.l0 : Nat → List Int → Int → List Int → Bool → List Int → Int → Int → Option (Bool)
  | 0, _, _, _, _, _, _, _ => none
  | k + 1, x1, x5, x6, x7, x84, x85, x86 => if x86 < x85 then (if 0 ≤ x86 then (if x86 < (x84.length : Int) then (if 0 ≤ (wrap64 ((wrap64 (x5 - 1)) - x86)) then (if (wrap64 ((wrap64 (x5 - 1)) - x86)) < (x6.length : Int) then (if (rd x84 x86) = (rd x6 (wrap64 ((wrap64 (x5 - 1)) - x86))) then (laws_FnSignsCounted.l0 k x1 x5 x6 x7 x84 x85 (wrap64 (x86 + 1))) else (some false)) else (none)) else (none)) else (none)) else (none)) else (if x7 = true then (laws_FnSignsCounted.j2 k x1 x5 x6 (decide (x5 > 1))) else (laws_FnSignsCounted.j2 k x1 x5 x6 false))
def laws_FnSignsCounted.j2 : Nat → List Int → Int → List Int → Bool → Option (Bool)
  | 0, _, _, _, _ => none
  | k + 1, x1, x5, x6, x105 => if x105 = true then ((impl_CountSigns.f k (wrap64 (x5 - 1))).bind fun bt811 => (if bt811.2 = true then (if 0 < (x6.length : Int) then (laws_FnSignsCounted.j3 k x1 x5 x6 ((rd x6 0) != bt811.1)) else (none)) else (laws_FnSignsCounted.j3 k x1 x5 x6 true))) else (laws_FnSignsCounted.j5 k x1)
def laws_FnSignsCounted.j5 : Nat → List Int → Option (Bool)
  | 0, _ => none
  | k + 1, x1 => (spec_DrawCountByMinus.f x1).bind fun t816 => ((impl_CountByMinus.f t816).bind fun bt817 => ((spec_CountByMinus.f k t816).bind fun bt821 => ((impl_CountByInversions.f t816).bind fun bt825 => ((spec_CountByInversions.f k t816).bind fun bt829 => (if (bt817.2 != bt821.2) = true then (laws_FnSignsCounted.j6 k t816 bt817.1 bt817.2 bt825.1 true) else ((laws_hSame.f k bt817.1 bt821.1).bind fun t833 => (if t833 = true then (if (bt825.2 != bt829.2) = true then (laws_FnSignsCounted.j6 k t816 bt817.1 bt817.2 bt825.1 true) else ((laws_hSame.f k bt825.1 bt829.1).bind fun t834 => (if t834 = true then (laws_FnSignsCounted.j6 k t816 bt817.1 bt817.2 bt825.1 (bt825.2 != bt817.2)) else (laws_FnSignsCounted.j6 k t816 bt817.1 bt817.2 bt825.1 true)))) else (laws_FnSignsCounted.j6 k t816 bt817.1 bt817.2 bt825.1 true))))))))
def laws_FnSignsCounted.j6 : Nat → Int → List Int → Bool → List Int → Bool → Option (Bool)
  | 0, _, _, _, _, _ => none
  | k + 1, x17, x18, x19, x22, x201 => if x201 = true then (some false) else (if x19 = true then ((impl_CountSigns.f k x17).bind fun bt835 => (laws_FnSignsCounted.l2 k x17 x18 x22 bt835.1 bt835.2 1 1 0 2)) else (some true))
def laws_FnSignsCounted.l2 : Nat → Int → List Int → List Int → Int → Bool → Int → Int → Int → Int → Option (Bool)
  | 0, _, _, _, _, _, _, _, _, _ => none
  | k + 1, x17, x18, x22, x26, x27, x28, x29, x30, x31 => if x31 ≤ x17 then (laws_FnSignsCounted.l2 k x17 x18 x22 x26 x27 (wrap64 (x28 * x31)) x29 x30 (wrap64 (x31 + 1))) else (laws_FnSignsCounted.l3 k x17 x18 x22 x26 x27 x28 x29 x30 0)
def laws_FnSignsCounted.l3 : Nat → Int → List Int → List Int → Int → Bool → Int → Int → Int → Int → Option (Bool)
  | 0, _, _, _, _, _, _, _, _, _ => none
  | k + 1, x17, x18, x22, x26, x27, x28, x29, x30, x32 => if x32 < (wrap64 (Int.tdiv (wrap64 (x17 * (wrap64 (x17 - 1)))) 2)) then (laws_FnSignsCounted.l3 k x17 x18 x22 x26 x27 x28 (wrap64 (x29 * 2)) x30 (wrap64 (x32 + 1))) else (laws_FnSignsCounted.l4 k x17 x18 x22 x26 x27 x28 x29 x30 1 x18 (x18.length : Int) 0)
def laws_FnSignsCounted.l4 : Nat → Int → List Int → List Int → Int → Bool → Int → Int → Int → Int → List Int → Int → Int → Option (Bool)
  | 0, _, _, _, _, _, _, _, _, _, _, _, _ => none
  | k + 1, x17, x18, x22, x26, x27, x28, x29, x30, x33, x227, x228, x229 => if x229 < x228 then (if 0 ≤ x229 then (if x229 < (x227.length : Int) then (laws_FnSignsCounted.l4 k x17 x18 x22 x26 x27 x28 x29 (wrap64 (x30 + (wrap64 (x33 * (rd x227 x229))))) (wrap64 (x33 * 2)) x227 x228 (wrap64 (x229 + 1))) else (none)) else (none)) else (if x27 = true then ((laws_hSum.f k x18).bind fun t838 => (if t838 = x26 then ((laws_hSum.f k x22).bind fun t839 => (if t839 = x26 then (if 0 < (x18.length : Int) then (if (rd x18 0) = x28 then (if x30 = x29 then (if (x22.length : Int) = (wrap64 ((wrap64 (Int.tdiv (wrap64 (x17 * (wrap64 (x17 - 1)))) 2)) + 1)) then (if 0 < (x22.length : Int) then (some ((rd x22 0) == 1)) else (none)) else (some false)) else (some false)) else (some false)) else (none)) else (some false))) else (some false))) else (some false))
def laws_FnSignsCounted.j3 : Nat → List Int → Int → List Int → Bool → Option (Bool)
  | 0, _, _, _, _ => none
  | k + 1, x1, x5, x6, x120 => if x120 = true then (some false) else (laws_FnSignsCounted.l1 k x1 x5 x6 0)
def laws_FnSignsCounted.l1 : Nat → List Int → Int → List Int → Int → Option (Bool)
  | 0, _, _, _, _ => none
  | k + 1, x1, x5, x6, x16 => if (wrap64 (x16 + 1)) < x5 then (if 0 ≤ x16 then (if x16 < (x6.length : Int) then (if 0 ≤ (wrap64 (x16 + 1)) then (if (wrap64 (x16 + 1)) < (x6.length : Int) then (if (wrap64 ((wrap64 ((rd x6 x16) * (wrap64 ((wrap64 (x5 - x16)) - 1)))) * (wrap64 (x5 + x16)))) = (wrap64 ((wrap64 ((rd x6 (wrap64 (x16 + 1))) * (wrap64 (x16 + 1)))) * (wrap64 ((wrap64 ((wrap64 (2 * x5)) - x16)) - 2)))) then (laws_FnSignsCounted.l1 k x1 x5 x6 (wrap64 (x16 + 1))) else (some false)) else (none)) else (none)) else (none)) else (none)) else (laws_FnSignsCounted.j5 k x1)
end
def laws_FnSignsCounted.f (k : Nat) (l0 : List Int) (l1 : List Int) : Option (Bool) := (laws_big.f l0 l1).bind fun t795 => (if t795 = true then (some true) else ((spec_DrawCountByFirst.f l0).bind fun t796 => ((impl_CountByFirst.f t796).bind fun bt797 => ((spec_CountByFirst.f k t796).bind fun bt801 => ((impl_CountSigns.f k t796).bind fun bt805 => (if (bt797.2 != bt801.2) = true then (laws_FnSignsCounted.j0 k l1 t796 bt797.1 bt797.2 true) else ((laws_hSame.f k bt797.1 bt801.1).bind fun t807 => (if t807 = true then (if bt797.2 = true then (if bt805.2 = true then ((laws_hSum.f k bt797.1).bind fun t808 => (if t808 = bt805.1 then (laws_FnSignsCounted.j0 k l1 t796 bt797.1 bt797.2 ((bt797.1.length : Int) != t796)) else (laws_FnSignsCounted.j0 k l1 t796 bt797.1 bt797.2 true))) else (laws_FnSignsCounted.j0 k l1 t796 bt797.1 bt797.2 true)) else (laws_FnSignsCounted.j0 k l1 t796 bt797.1 bt797.2 false)) else (laws_FnSignsCounted.j0 k l1 t796 bt797.1 bt797.2 true)))))))))
theorem laws_FnSignsCounted.mono_l : ∀ k, (∀ y0 y1 y2 y3 y4, LeO (laws_FnSignsCounted.j0 k y0 y1 y2 y3 y4) (laws_FnSignsCounted.j0 (k + 1) y0 y1 y2 y3 y4)) ∧ (∀ y0 y1 y2 y3 y4 y5 y6, LeO (laws_FnSignsCounted.l0 k y0 y1 y2 y3 y4 y5 y6) (laws_FnSignsCounted.l0 (k + 1) y0 y1 y2 y3 y4 y5 y6)) ∧ (∀ y0 y1 y2 y3, LeO (laws_FnSignsCounted.j2 k y0 y1 y2 y3) (laws_FnSignsCounted.j2 (k + 1) y0 y1 y2 y3)) ∧ (∀ y0, LeO (laws_FnSignsCounted.j5 k y0) (laws_FnSignsCounted.j5 (k + 1) y0)) ∧ (∀ y0 y1 y2 y3 y4, LeO (laws_FnSignsCounted.j6 k y0 y1 y2 y3 y4) (laws_FnSignsCounted.j6 (k + 1) y0 y1 y2 y3 y4)) ∧ (∀ y0 y1 y2 y3 y4 y5 y6 y7 y8, LeO (laws_FnSignsCounted.l2 k y0 y1 y2 y3 y4 y5 y6 y7 y8) (laws_FnSignsCounted.l2 (k + 1) y0 y1 y2 y3 y4 y5 y6 y7 y8)) ∧ (∀ y0 y1 y2 y3 y4 y5 y6 y7 y8, LeO (laws_FnSignsCounted.l3 k y0 y1 y2 y3 y4 y5 y6 y7 y8) (laws_FnSignsCounted.l3 (k + 1) y0 y1 y2 y3 y4 y5 y6 y7 y8)) ∧ (∀ y0 y1 y2 y3 y4 y5 y6 y7 y8 y9 y10 y11, LeO (laws_FnSignsCounted.l4 k y0 y1 y2 y3 y4 y5 y6 y7 y8 y9 y10 y11) (laws_FnSignsCounted.l4 (k + 1) y0 y1 y2 y3 y4 y5 y6 y7 y8 y9 y10 y11)) ∧ (∀ y0 y1 y2 y3, LeO (laws_FnSignsCounted.j3 k y0 y1 y2 y3) (laws_FnSignsCounted.j3 (k + 1) y0 y1 y2 y3)) ∧ (∀ y0 y1 y2 y3, LeO (laws_FnSignsCounted.l1 k y0 y1 y2 y3) (laws_FnSignsCounted.l1 (k + 1) y0 y1 y2 y3))
  | 0 => ⟨fun _ _ _ _ _ r h => by simp [laws_FnSignsCounted.j0] at h, fun _ _ _ _ _ _ _ r h => by simp [laws_FnSignsCounted.l0] at h, fun _ _ _ _ r h => by simp [laws_FnSignsCounted.j2] at h, fun _ r h => by simp [laws_FnSignsCounted.j5] at h, fun _ _ _ _ _ r h => by simp [laws_FnSignsCounted.j6] at h, fun _ _ _ _ _ _ _ _ _ r h => by simp [laws_FnSignsCounted.l2] at h, fun _ _ _ _ _ _ _ _ _ r h => by simp [laws_FnSignsCounted.l3] at h, fun _ _ _ _ _ _ _ _ _ _ _ _ r h => by simp [laws_FnSignsCounted.l4] at h, fun _ _ _ _ r h => by simp [laws_FnSignsCounted.j3] at h, fun _ _ _ _ r h => by simp [laws_FnSignsCounted.l1] at h⟩
  | k + 1 => by
    obtain ⟨ih0, ih1, ih2, ih3, ih4, ih5, ih6, ih7, ih8, ih9⟩ := laws_FnSignsCounted.mono_l k
    refine ⟨?_, ?_, ?_, ?_, ?_, ?_, ?_, ?_, ?_, ?_⟩
    · intro y0 y1 y2 y3 y4
      unfold laws_FnSignsCounted.j0
      repeat' first
      | (with_reducible exact ih0 _ _ _ _ _)
      | (with_reducible exact ih1 _ _ _ _ _ _ _)
      | (with_reducible exact ih2 _ _ _ _)
      | (with_reducible exact ih3 _)
      | (with_reducible exact ih4 _ _ _ _ _)
      | (with_reducible exact ih5 _ _ _ _ _ _ _ _ _)
      | (with_reducible exact ih6 _ _ _ _ _ _ _ _ _)
      | (with_reducible exact ih7 _ _ _ _ _ _ _ _ _ _ _ _)
      | (with_reducible exact ih8 _ _ _ _)
      | (with_reducible exact ih9 _ _ _ _)
      | (with_reducible exact impl_CountSigns.mono _ _)
      | (with_reducible exact laws_hSame.mono _ _ _)
      | (with_reducible exact laws_hSum.mono _ _)
      | (with_reducible exact spec_CountByFirst.mono _ _)
      | (with_reducible exact spec_CountByInversions.mono _ _)
      | (with_reducible exact spec_CountByMinus.mono _ _)
      | (with_reducible exact LeO.refl _)
      | (with_reducible exact LeO.none _)
      | (with_reducible refine LeO.ite ?_ ?_)
      | (with_reducible refine LeO.bind ?_ (fun _ => ?_))
      | exact ih0 _ _ _ _ _
      | exact ih1 _ _ _ _ _ _ _
      | exact ih2 _ _ _ _
      | exact ih3 _
      | exact ih4 _ _ _ _ _
      | exact ih5 _ _ _ _ _ _ _ _ _
      | exact ih6 _ _ _ _ _ _ _ _ _
      | exact ih7 _ _ _ _ _ _ _ _ _ _ _ _
      | exact ih8 _ _ _ _
      | exact ih9 _ _ _ _
      | exact impl_CountSigns.mono _ _
      | exact laws_hSame.mono _ _ _
      | exact laws_hSum.mono _ _
      | exact spec_CountByFirst.mono _ _
      | exact spec_CountByInversions.mono _ _
      | exact spec_CountByMinus.mono _ _
      | exact LeO.none _
      | refine LeO.ite ?_ ?_
      | refine LeO.bind ?_ (fun _ => ?_)
    · intro y0 y1 y2 y3 y4 y5 y6
      unfold laws_FnSignsCounted.l0
      repeat' first
      | (with_reducible exact ih0 _ _ _ _ _)
      | (with_reducible exact ih1 _ _ _ _ _ _ _)
      | (with_reducible exact ih2 _ _ _ _)
      | (with_reducible exact ih3 _)
      | (with_reducible exact ih4 _ _ _ _ _)
      | (with_reducible exact ih5 _ _ _ _ _ _ _ _ _)
      | (with_reducible exact ih6 _ _ _ _ _ _ _ _ _)
      | (with_reducible exact ih7 _ _ _ _ _ _ _ _ _ _ _ _)
      | (with_reducible exact ih8 _ _ _ _)
      | (with_reducible exact ih9 _ _ _ _)
      | (with_reducible exact impl_CountSigns.mono _ _)
      | (with_reducible exact laws_hSame.mono _ _ _)
      | (with_reducible exact laws_hSum.mono _ _)
      | (with_reducible exact spec_CountByFirst.mono _ _)
      | (with_reducible exact spec_CountByInversions.mono _ _)
      | (with_reducible exact spec_CountByMinus.mono _ _)
      | (with_reducible exact LeO.refl _)
      | (with_reducible exact LeO.none _)
      | (with_reducible refine LeO.ite ?_ ?_)
      | (with_reducible refine LeO.bind ?_ (fun _ => ?_))
      | exact ih0 _ _ _ _ _
      | exact ih1 _ _ _ _ _ _ _
      | exact ih2 _ _ _ _
      | exact ih3 _
      | exact ih4 _ _ _ _ _
      | exact ih5 _ _ _ _ _ _ _ _ _
      | exact ih6 _ _ _ _ _ _ _ _ _
      | exact ih7 _ _ _ _ _ _ _ _ _ _ _ _
      | exact ih8 _ _ _ _
      | exact ih9 _ _ _ _
      | exact impl_CountSigns.mono _ _
      | exact laws_hSame.mono _ _ _
      | exact laws_hSum.mono _ _
      | exact spec_CountByFirst.mono _ _
      | exact spec_CountByInversions.mono _ _
      | exact spec_CountByMinus.mono _ _
      | exact LeO.none _
      | refine LeO.ite ?_ ?_
      | refine LeO.bind ?_ (fun _ => ?_)
    · intro y0 y1 y2 y3
      unfold laws_FnSignsCounted.j2
      repeat' first
      | (with_reducible exact ih0 _ _ _ _ _)
      | (with_reducible exact ih1 _ _ _ _ _ _ _)
      | (with_reducible exact ih2 _ _ _ _)
      | (with_reducible exact ih3 _)
      | (with_reducible exact ih4 _ _ _ _ _)
      | (with_reducible exact ih5 _ _ _ _ _ _ _ _ _)
      | (with_reducible exact ih6 _ _ _ _ _ _ _ _ _)
      | (with_reducible exact ih7 _ _ _ _ _ _ _ _ _ _ _ _)
      | (with_reducible exact ih8 _ _ _ _)
      | (with_reducible exact ih9 _ _ _ _)
      | (with_reducible exact impl_CountSigns.mono _ _)
      | (with_reducible exact laws_hSame.mono _ _ _)
      | (with_reducible exact laws_hSum.mono _ _)
      | (with_reducible exact spec_CountByFirst.mono _ _)
      | (with_reducible exact spec_CountByInversions.mono _ _)
      | (with_reducible exact spec_CountByMinus.mono _ _)
      | (with_reducible exact LeO.refl _)
      | (with_reducible exact LeO.none _)
      | (with_reducible refine LeO.ite ?_ ?_)
      | (with_reducible refine LeO.bind ?_ (fun _ => ?_))
      | exact ih0 _ _ _ _ _
      | exact ih1 _ _ _ _ _ _ _
      | exact ih2 _ _ _ _
      | exact ih3 _
      | exact ih4 _ _ _ _ _
      | exact ih5 _ _ _ _ _ _ _ _ _
      | exact ih6 _ _ _ _ _ _ _ _ _
      | exact ih7 _ _ _ _ _ _ _ _ _ _ _ _
      | exact ih8 _ _ _ _
      | exact ih9 _ _ _ _
      | exact impl_CountSigns.mono _ _
      | exact laws_hSame.mono _ _ _
      | exact laws_hSum.mono _ _
      | exact spec_CountByFirst.mono _ _
      | exact spec_CountByInversions.mono _ _
      | exact spec_CountByMinus.mono _ _
      | exact LeO.none _
      | refine LeO.ite ?_ ?_
      | refine LeO.bind ?_ (fun _ => ?_)
    · intro y0
      unfold laws_FnSignsCounted.j5
      repeat' first
      | (with_reducible exact ih0 _ _ _ _ _)
      | (with_reducible exact ih1 _ _ _ _ _ _ _)
      | (with_reducible exact ih2 _ _ _ _)
      | (with_reducible exact ih3 _)
      | (with_reducible exact ih4 _ _ _ _ _)
      | (with_reducible exact ih5 _ _ _ _ _ _ _ _ _)
      | (with_reducible exact ih6 _ _ _ _ _ _ _ _ _)
      | (with_reducible exact ih7 _ _ _ _ _ _ _ _ _ _ _ _)
      | (with_reducible exact ih8 _ _ _ _)
      | (with_reducible exact ih9 _ _ _ _)
      | (with_reducible exact impl_CountSigns.mono _ _)
      | (with_reducible exact laws_hSame.mono _ _ _)
      | (with_reducible exact laws_hSum.mono _ _)
      | (with_reducible exact spec_CountByFirst.mono _ _)
      | (with_reducible exact spec_CountByInversions.mono _ _)
      | (with_reducible exact spec_CountByMinus.mono _ _)
      | (with_reducible exact LeO.refl _)
      | (with_reducible exact LeO.none _)
      | (with_reducible refine LeO.ite ?_ ?_)
      | (with_reducible refine LeO.bind ?_ (fun _ => ?_))
      | exact ih0 _ _ _ _ _
      | exact ih1 _ _ _ _ _ _ _
      | exact ih2 _ _ _ _
      | exact ih3 _
      | exact ih4 _ _ _ _ _
      | exact ih5 _ _ _ _ _ _ _ _ _
      | exact ih6 _ _ _ _ _ _ _ _ _
      | exact ih7 _ _ _ _ _ _ _ _ _ _ _ _
      | exact ih8 _ _ _ _
      | exact ih9 _ _ _ _
      | exact impl_CountSigns.mono _ _
      | exact laws_hSame.mono _ _ _
      | exact laws_hSum.mono _ _
      | exact spec_CountByFirst.mono _ _
      | exact spec_CountByInversions.mono _ _
      | exact spec_CountByMinus.mono _ _
      | exact LeO.none _
      | refine LeO.ite ?_ ?_
      | refine LeO.bind ?_ (fun _ => ?_)
    · intro y0 y1 y2 y3 y4
      unfold laws_FnSignsCounted.j6
      repeat' first
      | (with_reducible exact ih0 _ _ _ _ _)
      | (with_reducible exact ih1 _ _ _ _ _ _ _)
      | (with_reducible exact ih2 _ _ _ _)
      | (with_reducible exact ih3 _)
      | (with_reducible exact ih4 _ _ _ _ _)
      | (with_reducible exact ih5 _ _ _ _ _ _ _ _ _)
      | (with_reducible exact ih6 _ _ _ _ _ _ _ _ _)
      | (with_reducible exact ih7 _ _ _ _ _ _ _ _ _ _ _ _)
      | (with_reducible exact ih8 _ _ _ _)
      | (with_reducible exact ih9 _ _ _ _)
      | (with_reducible exact impl_CountSigns.mono _ _)
      | (with_reducible exact laws_hSame.mono _ _ _)
      | (with_reducible exact laws_hSum.mono _ _)
      | (with_reducible exact spec_CountByFirst.mono _ _)
      | (with_reducible exact spec_CountByInversions.mono _ _)
      | (with_reducible exact spec_CountByMinus.mono _ _)
      | (with_reducible exact LeO.refl _)
      | (with_reducible exact LeO.none _)
      | (with_reducible refine LeO.ite ?_ ?_)
      | (with_reducible refine LeO.bind ?_ (fun _ => ?_))
      | exact ih0 _ _ _ _ _
      | exact ih1 _ _ _ _ _ _ _
      | exact ih2 _ _ _ _
      | exact ih3 _
      | exact ih4 _ _ _ _ _
      | exact ih5 _ _ _ _ _ _ _ _ _
      | exact ih6 _ _ _ _ _ _ _ _ _
      | exact ih7 _ _ _ _ _ _ _ _ _ _ _ _
      | exact ih8 _ _ _ _
      | exact ih9 _ _ _ _
      | exact impl_CountSigns.mono _ _
      | exact laws_hSame.mono _ _ _
      | exact laws_hSum.mono _ _
      | exact spec_CountByFirst.mono _ _
      | exact spec_CountByInversions.mono _ _
      | exact spec_CountByMinus.mono _ _
      | exact LeO.none _
      | refine LeO.ite ?_ ?_
      | refine LeO.bind ?_ (fun _ => ?_)
    · intro y0 y1 y2 y3 y4 y5 y6 y7 y8
      unfold laws_FnSignsCounted.l2
      repeat' first
      | (with_reducible exact ih0 _ _ _ _ _)
      | (with_reducible exact ih1 _ _ _ _ _ _ _)
      | (with_reducible exact ih2 _ _ _ _)
      | (with_reducible exact ih3 _)
      | (with_reducible exact ih4 _ _ _ _ _)
      | (with_reducible exact ih5 _ _ _ _ _ _ _ _ _)
      | (with_reducible exact ih6 _ _ _ _ _ _ _ _ _)
      | (with_reducible exact ih7 _ _ _ _ _ _ _ _ _ _ _ _)
      | (with_reducible exact ih8 _ _ _ _)
      | (with_reducible exact ih9 _ _ _ _)
      | (with_reducible exact impl_CountSigns.mono _ _)
      | (with_reducible exact laws_hSame.mono _ _ _)
      | (with_reducible exact laws_hSum.mono _ _)
      | (with_reducible exact spec_CountByFirst.mono _ _)
      | (with_reducible exact spec_CountByInversions.mono _ _)
      | (with_reducible exact spec_CountByMinus.mono _ _)
      | (with_reducible exact LeO.refl _)
      | (with_reducible exact LeO.none _)
      | (with_reducible refine LeO.ite ?_ ?_)
      | (with_reducible refine LeO.bind ?_ (fun _ => ?_))
      | exact ih0 _ _ _ _ _
      | exact ih1 _ _ _ _ _ _ _
      | exact ih2 _ _ _ _
      | exact ih3 _
      | exact ih4 _ _ _ _ _
      | exact ih5 _ _ _ _ _ _ _ _ _
      | exact ih6 _ _ _ _ _ _ _ _ _
      | exact ih7 _ _ _ _ _ _ _ _ _ _ _ _
      | exact ih8 _ _ _ _
      | exact ih9 _ _ _ _
      | exact impl_CountSigns.mono _ _
      | exact laws_hSame.mono _ _ _
      | exact laws_hSum.mono _ _
      | exact spec_CountByFirst.mono _ _
      | exact spec_CountByInversions.mono _ _
      | exact spec_CountByMinus.mono _ _
      | exact LeO.none _
      | refine LeO.ite ?_ ?_
      | refine LeO.bind ?_ (fun _ => ?_)
    · intro y0 y1 y2 y3 y4 y5 y6 y7 y8
      unfold laws_FnSignsCounted.l3
      repeat' first
      | (with_reducible exact ih0 _ _ _ _ _)
      | (with_reducible exact ih1 _ _ _ _ _ _ _)
      | (with_reducible exact ih2 _ _ _ _)
      | (with_reducible exact ih3 _)
      | (with_reducible exact ih4 _ _ _ _ _)
      | (with_reducible exact ih5 _ _ _ _ _ _ _ _ _)
      | (with_reducible exact ih6 _ _ _ _ _ _ _ _ _)
      | (with_reducible exact ih7 _ _ _ _ _ _ _ _ _ _ _ _)
      | (with_reducible exact ih8 _ _ _ _)
      | (with_reducible exact ih9 _ _ _ _)
      | (with_reducible exact impl_CountSigns.mono _ _)
      | (with_reducible exact laws_hSame.mono _ _ _)
      | (with_reducible exact laws_hSum.mono _ _)
      | (with_reducible exact spec_CountByFirst.mono _ _)
      | (with_reducible exact spec_CountByInversions.mono _ _)
      | (with_reducible exact spec_CountByMinus.mono _ _)
      | (with_reducible exact LeO.refl _)
      | (with_reducible exact LeO.none _)
      | (with_reducible refine LeO.ite ?_ ?_)
      | (with_reducible refine LeO.bind ?_ (fun _ => ?_))
      | exact ih0 _ _ _ _ _
      | exact ih1 _ _ _ _ _ _ _
      | exact ih2 _ _ _ _
      | exact ih3 _
      | exact ih4 _ _ _ _ _
      | exact ih5 _ _ _ _ _ _ _ _ _
      | exact ih6 _ _ _ _ _ _ _ _ _
      | exact ih7 _ _ _ _ _ _ _ _ _ _ _ _
      | exact ih8 _ _ _ _
      | exact ih9 _ _ _ _
      | exact impl_CountSigns.mono _ _
      | exact laws_hSame.mono _ _ _
      | exact laws_hSum.mono _ _
      | exact spec_CountByFirst.mono _ _
      | exact spec_CountByInversions.mono _ _
      | exact spec_CountByMinus.mono _ _
      | exact LeO.none _
      | refine LeO.ite ?_ ?_
      | refine LeO.bind ?_ (fun _ => ?_)
    · intro y0 y1 y2 y3 y4 y5 y6 y7 y8 y9 y10 y11
      unfold laws_FnSignsCounted.l4
      repeat' first
      | (with_reducible exact ih0 _ _ _ _ _)
      | (with_reducible exact ih1 _ _ _ _ _ _ _)
      | (with_reducible exact ih2 _ _ _ _)
      | (with_reducible exact ih3 _)
      | (with_reducible exact ih4 _ _ _ _ _)
      | (with_reducible exact ih5 _ _ _ _ _ _ _ _ _)
      | (with_reducible exact ih6 _ _ _ _ _ _ _ _ _)
      | (with_reducible exact ih7 _ _ _ _ _ _ _ _ _ _ _ _)
      | (with_reducible exact ih8 _ _ _ _)
      | (with_reducible exact ih9 _ _ _ _)
      | (with_reducible exact impl_CountSigns.mono _ _)
      | (with_reducible exact laws_hSame.mono _ _ _)
      | (with_reducible exact laws_hSum.mono _ _)
      | (with_reducible exact spec_CountByFirst.mono _ _)
      | (with_reducible exact spec_CountByInversions.mono _ _)
      | (with_reducible exact spec_CountByMinus.mono _ _)
      | (with_reducible exact LeO.refl _)
      | (with_reducible exact LeO.none _)
      | (with_reducible refine LeO.ite ?_ ?_)
      | (with_reducible refine LeO.bind ?_ (fun _ => ?_))
      | exact ih0 _ _ _ _ _
      | exact ih1 _ _ _ _ _ _ _
      | exact ih2 _ _ _ _
      | exact ih3 _
      | exact ih4 _ _ _ _ _
      | exact ih5 _ _ _ _ _ _ _ _ _
      | exact ih6 _ _ _ _ _ _ _ _ _
      | exact ih7 _ _ _ _ _ _ _ _ _ _ _ _
      | exact ih8 _ _ _ _
      | exact ih9 _ _ _ _
      | exact impl_CountSigns.mono _ _
      | exact laws_hSame.mono _ _ _
      | exact laws_hSum.mono _ _
      | exact spec_CountByFirst.mono _ _
      | exact spec_CountByInversions.mono _ _
      | exact spec_CountByMinus.mono _ _
      | exact LeO.none _
      | refine LeO.ite ?_ ?_
      | refine LeO.bind ?_ (fun _ => ?_)
    · intro y0 y1 y2 y3
      unfold laws_FnSignsCounted.j3
      repeat' first
      | (with_reducible exact ih0 _ _ _ _ _)
      | (with_reducible exact ih1 _ _ _ _ _ _ _)
      | (with_reducible exact ih2 _ _ _ _)
      | (with_reducible exact ih3 _)
      | (with_reducible exact ih4 _ _ _ _ _)
      | (with_reducible exact ih5 _ _ _ _ _ _ _ _ _)
      | (with_reducible exact ih6 _ _ _ _ _ _ _ _ _)
      | (with_reducible exact ih7 _ _ _ _ _ _ _ _ _ _ _ _)
      | (with_reducible exact ih8 _ _ _ _)
      | (with_reducible exact ih9 _ _ _ _)
      | (with_reducible exact impl_CountSigns.mono _ _)
      | (with_reducible exact laws_hSame.mono _ _ _)
      | (with_reducible exact laws_hSum.mono _ _)
      | (with_reducible exact spec_CountByFirst.mono _ _)
      | (with_reducible exact spec_CountByInversions.mono _ _)
      | (with_reducible exact spec_CountByMinus.mono _ _)
      | (with_reducible exact LeO.refl _)
      | (with_reducible exact LeO.none _)
      | (with_reducible refine LeO.ite ?_ ?_)
      | (with_reducible refine LeO.bind ?_ (fun _ => ?_))
      | exact ih0 _ _ _ _ _
      | exact ih1 _ _ _ _ _ _ _
      | exact ih2 _ _ _ _
      | exact ih3 _
      | exact ih4 _ _ _ _ _
      | exact ih5 _ _ _ _ _ _ _ _ _
      | exact ih6 _ _ _ _ _ _ _ _ _
      | exact ih7 _ _ _ _ _ _ _ _ _ _ _ _
      | exact ih8 _ _ _ _
      | exact ih9 _ _ _ _
      | exact impl_CountSigns.mono _ _
      | exact laws_hSame.mono _ _ _
      | exact laws_hSum.mono _ _
      | exact spec_CountByFirst.mono _ _
      | exact spec_CountByInversions.mono _ _
      | exact spec_CountByMinus.mono _ _
      | exact LeO.none _
      | refine LeO.ite ?_ ?_
      | refine LeO.bind ?_ (fun _ => ?_)
    · intro y0 y1 y2 y3
      unfold laws_FnSignsCounted.l1
      repeat' first
      | (with_reducible exact ih0 _ _ _ _ _)
      | (with_reducible exact ih1 _ _ _ _ _ _ _)
      | (with_reducible exact ih2 _ _ _ _)
      | (with_reducible exact ih3 _)
      | (with_reducible exact ih4 _ _ _ _ _)
      | (with_reducible exact ih5 _ _ _ _ _ _ _ _ _)
      | (with_reducible exact ih6 _ _ _ _ _ _ _ _ _)
      | (with_reducible exact ih7 _ _ _ _ _ _ _ _ _ _ _ _)
      | (with_reducible exact ih8 _ _ _ _)
      | (with_reducible exact ih9 _ _ _ _)
      | (with_reducible exact impl_CountSigns.mono _ _)
      | (with_reducible exact laws_hSame.mono _ _ _)
      | (with_reducible exact laws_hSum.mono _ _)
      | (with_reducible exact spec_CountByFirst.mono _ _)
      | (with_reducible exact spec_CountByInversions.mono _ _)
      | (with_reducible exact spec_CountByMinus.mono _ _)
      | (with_reducible exact LeO.refl _)
      | (with_reducible exact LeO.none _)
      | (with_reducible refine LeO.ite ?_ ?_)
      | (with_reducible refine LeO.bind ?_ (fun _ => ?_))
      | exact ih0 _ _ _ _ _
      | exact ih1 _ _ _ _ _ _ _
      | exact ih2 _ _ _ _
      | exact ih3 _
      | exact ih4 _ _ _ _ _
      | exact ih5 _ _ _ _ _ _ _ _ _
      | exact ih6 _ _ _ _ _ _ _ _ _
      | exact ih7 _ _ _ _ _ _ _ _ _ _ _ _
      | exact ih8 _ _ _ _
      | exact ih9 _ _ _ _
      | exact impl_CountSigns.mono _ _
      | exact laws_hSame.mono _ _ _
      | exact laws_hSum.mono _ _
      | exact spec_CountByFirst.mono _ _
      | exact spec_CountByInversions.mono _ _
      | exact spec_CountByMinus.mono _ _
      | exact LeO.none _
      | refine LeO.ite ?_ ?_
      | refine LeO.bind ?_ (fun _ => ?_)
theorem laws_FnSignsCounted.mono : ∀ a0 a1 k, LeO (laws_FnSignsCounted.f k a0 a1) (laws_FnSignsCounted.f (k + 1) a0 a1) := by
  intro a0 a1 k
  obtain ⟨ih0, ih1, ih2, ih3, ih4, ih5, ih6, ih7, ih8, ih9⟩ := laws_FnSignsCounted.mono_l k
  unfold laws_FnSignsCounted.f
  repeat' first
      | (with_reducible exact ih0 _ _ _ _ _)
      | (with_reducible exact ih1 _ _ _ _ _ _ _)
      | (with_reducible exact ih2 _ _ _ _)
      | (with_reducible exact ih3 _)
      | (with_reducible exact ih4 _ _ _ _ _)
      | (with_reducible exact ih5 _ _ _ _ _ _ _ _ _)
      | (with_reducible exact ih6 _ _ _ _ _ _ _ _ _)
      | (with_reducible exact ih7 _ _ _ _ _ _ _ _ _ _ _ _)
      | (with_reducible exact ih8 _ _ _ _)
      | (with_reducible exact ih9 _ _ _ _)
      | (with_reducible exact impl_CountSigns.mono _ _)
      | (with_reducible exact laws_hSame.mono _ _ _)
      | (with_reducible exact laws_hSum.mono _ _)
      | (with_reducible exact spec_CountByFirst.mono _ _)
      | (with_reducible exact spec_CountByInversions.mono _ _)
      | (with_reducible exact spec_CountByMinus.mono _ _)
      | (with_reducible exact LeO.refl _)
      | (with_reducible exact LeO.none _)
      | (with_reducible refine LeO.ite ?_ ?_)
      | (with_reducible refine LeO.bind ?_ (fun _ => ?_))
      | exact ih0 _ _ _ _ _
      | exact ih1 _ _ _ _ _ _ _
      | exact ih2 _ _ _ _
      | exact ih3 _
      | exact ih4 _ _ _ _ _
      | exact ih5 _ _ _ _ _ _ _ _ _
      | exact ih6 _ _ _ _ _ _ _ _ _
      | exact ih7 _ _ _ _ _ _ _ _ _ _ _ _
      | exact ih8 _ _ _ _
      | exact ih9 _ _ _ _
      | exact impl_CountSigns.mono _ _
      | exact laws_hSame.mono _ _ _
      | exact laws_hSum.mono _ _
      | exact spec_CountByFirst.mono _ _
      | exact spec_CountByInversions.mono _ _
      | exact spec_CountByMinus.mono _ _
      | exact LeO.none _
      | refine LeO.ite ?_ ?_
      | refine LeO.bind ?_ (fun _ => ?_)
set_option maxHeartbeats 8000000 in
set_option maxRecDepth 100000 in
theorem laws_FnSignsCounted.calls (k : Nat) (A0 : Option Addr) (c0 : Nat) (l0 : List Int) (A1 : Option Addr) (c1 : Nat) (l1 : List Int) (r : Bool) (w : World) (hr0 : Kd.C (Kd.int .u8) w A0 l0.length l0) (hc0 : l0.length ≤ c0) (hr1 : Kd.C (Kd.int .u8) w A1 l1.length l1) (hc1 : l1.length ≤ c1) (h : laws_FnSignsCounted.f k l0 l1 = some r) :
    Calls Try.prog 13 #[.slice A0 l0.length c0, .slice A1 l1.length c1] w fun e w' => e = .returned (.bool r) ∧ Below w.heap.size w w' := by
  have HR0 := Aside0.mk hr0
  have HC0 := Aside0.mk hc0
  clear hr0 hc0
  have HR1 := Aside0.mk hr1
  have HC1 := Aside0.mk hc1
  clear hr1 hc1
  have HB := Aside0.mk (Below.refl w.heap.size w)
  have H : ((laws_big.f l0 l1).bind fun t795 => (if t795 = true then (some true) else ((spec_DrawCountByFirst.f l0).bind fun t796 => ((impl_CountByFirst.f t796).bind fun bt797 => ((spec_CountByFirst.f k t796).bind fun bt801 => ((impl_CountSigns.f k t796).bind fun bt805 => (if (bt797.2 != bt801.2) = true then (laws_FnSignsCounted.j0 k l1 t796 bt797.1 bt797.2 true) else ((laws_hSame.f k bt797.1 bt801.1).bind fun t807 => (if t807 = true then (if bt797.2 = true then (if bt805.2 = true then ((laws_hSum.f k bt797.1).bind fun t808 => (if t808 = bt805.1 then (laws_FnSignsCounted.j0 k l1 t796 bt797.1 bt797.2 ((bt797.1.length : Int) != t796)) else (laws_FnSignsCounted.j0 k l1 t796 bt797.1 bt797.2 true))) else (laws_FnSignsCounted.j0 k l1 t796 bt797.1 bt797.2 true)) else (laws_FnSignsCounted.j0 k l1 t796 bt797.1 bt797.2 false)) else (laws_FnSignsCounted.j0 k l1 t796 bt797.1 bt797.2 true)))))))))) = some r := h
  clear h
  replace H := Option.bind_eq_some_iff.mp H
  obtain ⟨t795, A30, H⟩ := H
  replace H : (if t795 = true then (some true) else ((spec_DrawCountByFirst.f l0).bind fun t796 => ((impl_CountByFirst.f t796).bind fun bt797 => ((spec_CountByFirst.f k t796).bind fun bt801 => ((impl_CountSigns.f k t796).bind fun bt805 => (if (bt797.2 != bt801.2) = true then (laws_FnSignsCounted.j0 k l1 t796 bt797.1 bt797.2 true) else ((laws_hSame.f k bt797.1 bt801.1).bind fun t807 => (if t807 = true then (if bt797.2 = true then (if bt805.2 = true then ((laws_hSum.f k bt797.1).bind fun t808 => (if t808 = bt805.1 then (laws_FnSignsCounted.j0 k l1 t796 bt797.1 bt797.2 ((bt797.1.length : Int) != t796)) else (laws_FnSignsCounted.j0 k l1 t796 bt797.1 bt797.2 true))) else (laws_FnSignsCounted.j0 k l1 t796 bt797.1 bt797.2 true)) else (laws_FnSignsCounted.j0 k l1 t796 bt797.1 bt797.2 false)) else (laws_FnSignsCounted.j0 k l1 t796 bt797.1 bt797.2 true))))))))) = some r := H
  have A3 := Aside0.mk A30
  clear A30
  by_cases c4 : t795 = true
  · subst c4
    have H1 : (some true) = some r := by rw [if_pos rfl] at H; exact H
    clear H
    have H := H1
    clear H1
    obtain rfl := Option.some.inj H
    go_enter Try.func13, Try.ntmps13
    go_wp2_with (first | (go_at_call 43; (with_reducible refine (laws_big.calls _ _ l0 _ _ l1 true _ ?side1 ?side2 ?side3 ?side4 A3.out).mono ?_); (case side1 => repeat (first | exact HR0.out | (with_reducible refine Kd.C_alloc ?_ _) | (with_reducible refine Kd.C_drewN ?_ _) | (with_reducible refine Kd.C_drew ?_))); (case side2 => exact HC0.out); (case side3 => repeat (first | exact HR1.out | (with_reducible refine Kd.C_alloc ?_ _) | (with_reducible refine Kd.C_drewN ?_ _) | (with_reducible refine Kd.C_drew ?_))); (case side4 => exact HC1.out); rintro e w' ⟨rfl, ⟨nd, rfl⟩⟩; (try first | exact ⟨rfl, _, World.drewN_drewN _ _ _⟩ | exact ⟨rfl, _, Eq.trans (World.drewN_drewN _ _ _) (congrArg (World.drewN _) (Nat.add_assoc _ _ _))⟩)))
    repeat (go_quiet (first | (go_at_call 43; (with_reducible refine (laws_big.calls _ _ l0 _ _ l1 true _ ?side1 ?side2 ?side3 ?side4 A3.out).mono ?_); (case side1 => repeat (first | exact HR0.out | (with_reducible refine Kd.C_alloc ?_ _) | (with_reducible refine Kd.C_drewN ?_ _) | (with_reducible refine Kd.C_drew ?_))); (case side2 => exact HC0.out); (case side3 => repeat (first | exact HR1.out | (with_reducible refine Kd.C_alloc ?_ _) | (with_reducible refine Kd.C_drewN ?_ _) | (with_reducible refine Kd.C_drew ?_))); (case side4 => exact HC1.out); rintro e w' ⟨rfl, ⟨nd, rfl⟩⟩; (try first | exact ⟨rfl, _, World.drewN_drewN _ _ _⟩ | exact ⟨rfl, _, Eq.trans (World.drewN_drewN _ _ _) (congrArg (World.drewN _) (Nat.add_assoc _ _ _))⟩))); try go_wp2_with (first | (go_at_call 43; (with_reducible refine (laws_big.calls _ _ l0 _ _ l1 true _ ?side1 ?side2 ?side3 ?side4 A3.out).mono ?_); (case side1 => repeat (first | exact HR0.out | (with_reducible refine Kd.C_alloc ?_ _) | (with_reducible refine Kd.C_drewN ?_ _) | (with_reducible refine Kd.C_drew ?_))); (case side2 => exact HC0.out); (case side3 => repeat (first | exact HR1.out | (with_reducible refine Kd.C_alloc ?_ _) | (with_reducible refine Kd.C_drewN ?_ _) | (with_reducible refine Kd.C_drew ?_))); (case side4 => exact HC1.out); rintro e w' ⟨rfl, ⟨nd, rfl⟩⟩; (try first | exact ⟨rfl, _, World.drewN_drewN _ _ _⟩ | exact ⟨rfl, _, Eq.trans (World.drewN_drewN _ _ _) (congrArg (World.drewN _) (Nat.add_assoc _ _ _))⟩))))
    go_ret
    exact ⟨by first | rfl | (simp [errW_none, errW_some] <;> rfl) | (simp [*, errW_none, errW_some] <;> rfl), by repeat (first | (with_reducible first | exact HB.out | apply below_alloc | apply pw_below_drewN | apply below_drew1) | exact HB.out)⟩
  · replace c4 := Bool.eq_false_iff.mpr c4
    subst c4
    have H1 : ((spec_DrawCountByFirst.f l0).bind fun t796 => ((impl_CountByFirst.f t796).bind fun bt797 => ((spec_CountByFirst.f k t796).bind fun bt801 => ((impl_CountSigns.f k t796).bind fun bt805 => (if (bt797.2 != bt801.2) = true then (laws_FnSignsCounted.j0 k l1 t796 bt797.1 bt797.2 true) else ((laws_hSame.f k bt797.1 bt801.1).bind fun t807 => (if t807 = true then (if bt797.2 = true then (if bt805.2 = true then ((laws_hSum.f k bt797.1).bind fun t808 => (if t808 = bt805.1 then (laws_FnSignsCounted.j0 k l1 t796 bt797.1 bt797.2 ((bt797.1.length : Int) != t796)) else (laws_FnSignsCounted.j0 k l1 t796 bt797.1 bt797.2 true))) else (laws_FnSignsCounted.j0 k l1 t796 bt797.1 bt797.2 true)) else (laws_FnSignsCounted.j0 k l1 t796 bt797.1 bt797.2 false)) else (laws_FnSignsCounted.j0 k l1 t796 bt797.1 bt797.2 true)))))))) = some r := by rw [if_neg (show ¬ (false = true) by decide)] at H; exact H
    clear H
    have H := H1
    clear H1
    replace H := Option.bind_eq_some_iff.mp H
    obtain ⟨t796, A50, H⟩ := H
    replace H : ((impl_CountByFirst.f t796).bind fun bt797 => ((spec_CountByFirst.f k t796).bind fun bt801 => ((impl_CountSigns.f k t796).bind fun bt805 => (if (bt797.2 != bt801.2) = true then (laws_FnSignsCounted.j0 k l1 t796 bt797.1 bt797.2 true) else ((laws_hSame.f k bt797.1 bt801.1).bind fun t807 => (if t807 = true then (if bt797.2 = true then (if bt805.2 = true then ((laws_hSum.f k bt797.1).bind fun t808 => (if t808 = bt805.1 then (laws_FnSignsCounted.j0 k l1 t796 bt797.1 bt797.2 ((bt797.1.length : Int) != t796)) else (laws_FnSignsCounted.j0 k l1 t796 bt797.1 bt797.2 true))) else (laws_FnSignsCounted.j0 k l1 t796 bt797.1 bt797.2 true)) else (laws_FnSignsCounted.j0 k l1 t796 bt797.1 bt797.2 false)) else (laws_FnSignsCounted.j0 k l1 t796 bt797.1 bt797.2 true))))))) = some r := H
    have A5 := Aside0.mk A50
    clear A50
    replace H := Option.bind_eq_some_iff.mp H
    obtain ⟨⟨t797, t798⟩, A60, H⟩ := H
    replace H : ((spec_CountByFirst.f k t796).bind fun bt801 => ((impl_CountSigns.f k t796).bind fun bt805 => (if (t798 != bt801.2) = true then (laws_FnSignsCounted.j0 k l1 t796 t797 t798 true) else ((laws_hSame.f k t797 bt801.1).bind fun t807 => (if t807 = true then (if t798 = true then (if bt805.2 = true then ((laws_hSum.f k t797).bind fun t808 => (if t808 = bt805.1 then (laws_FnSignsCounted.j0 k l1 t796 t797 t798 ((t797.length : Int) != t796)) else (laws_FnSignsCounted.j0 k l1 t796 t797 t798 true))) else (laws_FnSignsCounted.j0 k l1 t796 t797 t798 true)) else (laws_FnSignsCounted.j0 k l1 t796 t797 t798 false)) else (laws_FnSignsCounted.j0 k l1 t796 t797 t798 true)))))) = some r := H
    have A6 := Aside0.mk A60
    clear A60
    replace H := Option.bind_eq_some_iff.mp H
    obtain ⟨⟨t801, t802⟩, A70, H⟩ := H
    replace H : ((impl_CountSigns.f k t796).bind fun bt805 => (if (t798 != t802) = true then (laws_FnSignsCounted.j0 k l1 t796 t797 t798 true) else ((laws_hSame.f k t797 t801).bind fun t807 => (if t807 = true then (if t798 = true then (if bt805.2 = true then ((laws_hSum.f k t797).bind fun t808 => (if t808 = bt805.1 then (laws_FnSignsCounted.j0 k l1 t796 t797 t798 ((t797.length : Int) != t796)) else (laws_FnSignsCounted.j0 k l1 t796 t797 t798 true))) else (laws_FnSignsCounted.j0 k l1 t796 t797 t798 true)) else (laws_FnSignsCounted.j0 k l1 t796 t797 t798 false)) else (laws_FnSignsCounted.j0 k l1 t796 t797 t798 true))))) = some r := H
    have A7 := Aside0.mk A70
    clear A70
    replace H := Option.bind_eq_some_iff.mp H
    obtain ⟨⟨t805, t806⟩, A80, H⟩ := H
    replace H : (if (t798 != t802) = true then (laws_FnSignsCounted.j0 k l1 t796 t797 t798 true) else ((laws_hSame.f k t797 t801).bind fun t807 => (if t807 = true then (if t798 = true then (if t806 = true then ((laws_hSum.f k t797).bind fun t808 => (if t808 = t805 then (laws_FnSignsCounted.j0 k l1 t796 t797 t798 ((t797.length : Int) != t796)) else (laws_FnSignsCounted.j0 k l1 t796 t797 t798 true))) else (laws_FnSignsCounted.j0 k l1 t796 t797 t798 true)) else (laws_FnSignsCounted.j0 k l1 t796 t797 t798 false)) else (laws_FnSignsCounted.j0 k l1 t796 t797 t798 true)))) = some r := H
    have A8 := Aside0.mk A80
    clear A80
    have HC9 := Aside0.mk H
    clear H
    go_enter Try.func13, Try.ntmps13
    go_upto_region 7 with (first | (go_at_call 43; (with_reducible refine (laws_big.calls _ _ l0 _ _ l1 false _ ?side1 ?side2 ?side3 ?side4 A3.out).mono ?_); (case side1 => repeat (first | exact HR0.out | (with_reducible refine Kd.C_alloc ?_ _) | (with_reducible refine Kd.C_drewN ?_ _) | (with_reducible refine Kd.C_drew ?_))); (case side2 => exact HC0.out); (case side3 => repeat (first | exact HR1.out | (with_reducible refine Kd.C_alloc ?_ _) | (with_reducible refine Kd.C_drewN ?_ _) | (with_reducible refine Kd.C_drew ?_))); (case side4 => exact HC1.out); rintro e w' ⟨rfl, ⟨nd, rfl⟩⟩; (try first | exact ⟨rfl, _, World.drewN_drewN _ _ _⟩ | exact ⟨rfl, _, Eq.trans (World.drewN_drewN _ _ _) (congrArg (World.drewN _) (Nat.add_assoc _ _ _))⟩)) | (go_at_call 53; (with_reducible refine (spec_DrawCountByFirst.calls _ _ l0 t796 _ ?side1 ?side2 A5.out).mono ?_); (case side1 => repeat (first | exact HR0.out | (with_reducible refine Kd.C_alloc ?_ _) | (with_reducible refine Kd.C_drewN ?_ _) | (with_reducible refine Kd.C_drew ?_))); (case side2 => exact HC0.out); rintro e w10 ⟨rfl, hb⟩; have n0_ := Aside0.mk (below_step (by repeat (first | (with_reducible first | exact HB.out | apply below_alloc | apply pw_below_drewN | apply below_drew1) | exact HB.out)) hb); clear HB; have HB := n0_; clear n0_; (try clear hb); (try clear hb2); (try clear hk); (try clear hi)) | (go_at_call 31; (with_reducible refine (impl_CountByFirst.calls t796 t797 t798 _ A6.out).mono ?_); rintro e w11 ⟨v799, rfl, ho0, hb⟩; have n0_ := Aside0.mk (Kd.R_lower ho0 (below_size (by repeat (first | (with_reducible first | exact HB.out | apply below_alloc | apply pw_below_drewN | apply below_drew1) | exact HB.out)))); have n1_ := Aside0.mk (below_step (by repeat (first | (with_reducible first | exact HB.out | apply below_alloc | apply pw_below_drewN | apply below_drew1) | exact HB.out)) hb); clear HB; have HO800 := n0_; have HB := n1_; clear n0_ n1_; (try clear hb); (try clear hb2); (try clear hk); (try clear hi); (try clear ho0)) | (go_at_call 30; (with_reducible refine (spec_CountByFirst.calls k t796 t801 t802 _ A7.out).mono ?_); rintro e w12 ⟨v803, rfl, ho0, hb⟩; have n0_ := Aside0.mk (Kd.R_elder' (by (with_reducible repeat (first | apply Kd.R_alloc | apply Kd.R_drewN | apply Kd.R_drew)); exact HO800.out) (Kd.R_base ho0) hb); have n1_ := Aside0.mk (Kd.R_lower (Kd.R_new' ho0 (Kd.R_lt (by (with_reducible repeat (first | apply Kd.R_alloc | apply Kd.R_drewN | apply Kd.R_drew)); exact HO800.out))) (below_size (by repeat (first | (with_reducible first | exact HB.out | apply below_alloc | apply pw_below_drewN | apply below_drew1) | exact HB.out)))); have n2_ := Aside0.mk (below_step (by repeat (first | (with_reducible first | exact HB.out | apply below_alloc | apply pw_below_drewN | apply below_drew1) | exact HB.out)) hb); clear HO800; clear HB; have HO800 := n0_; have HO804 := n1_; have HB := n2_; clear n0_ n1_ n2_; (try clear hb); (try clear hb2); (try clear hk); (try clear hi); (try clear ho0)) | (go_at_call 54; (with_reducible refine (impl_CountSigns.calls k t796 t805 t806 _ A8.out).mono ?_); rintro e w' ⟨rfl, ⟨nd, rfl⟩⟩; (try first | exact ⟨rfl, _, World.drewN_drewN _ _ _⟩ | exact ⟨rfl, _, Eq.trans (World.drewN_drewN _ _ _) (congrArg (World.drewN _) (Nat.add_assoc _ _ _))⟩)))
    repeat (go_quiet (first | (go_at_call 43; (with_reducible refine (laws_big.calls _ _ l0 _ _ l1 false _ ?side1 ?side2 ?side3 ?side4 A3.out).mono ?_); (case side1 => repeat (first | exact HR0.out | (with_reducible refine Kd.C_alloc ?_ _) | (with_reducible refine Kd.C_drewN ?_ _) | (with_reducible refine Kd.C_drew ?_))); (case side2 => exact HC0.out); (case side3 => repeat (first | exact HR1.out | (with_reducible refine Kd.C_alloc ?_ _) | (with_reducible refine Kd.C_drewN ?_ _) | (with_reducible refine Kd.C_drew ?_))); (case side4 => exact HC1.out); rintro e w' ⟨rfl, ⟨nd, rfl⟩⟩; (try first | exact ⟨rfl, _, World.drewN_drewN _ _ _⟩ | exact ⟨rfl, _, Eq.trans (World.drewN_drewN _ _ _) (congrArg (World.drewN _) (Nat.add_assoc _ _ _))⟩)) | (go_at_call 53; (with_reducible refine (spec_DrawCountByFirst.calls _ _ l0 t796 _ ?side1 ?side2 A5.out).mono ?_); (case side1 => repeat (first | exact HR0.out | (with_reducible refine Kd.C_alloc ?_ _) | (with_reducible refine Kd.C_drewN ?_ _) | (with_reducible refine Kd.C_drew ?_))); (case side2 => exact HC0.out); rintro e w10 ⟨rfl, hb⟩; have n0_ := Aside0.mk (below_step (by repeat (first | (with_reducible first | exact HB.out | apply below_alloc | apply pw_below_drewN | apply below_drew1) | exact HB.out)) hb); clear HB; have HB := n0_; clear n0_; (try clear hb); (try clear hb2); (try clear hk); (try clear hi)) | (go_at_call 31; (with_reducible refine (impl_CountByFirst.calls t796 t797 t798 _ A6.out).mono ?_); rintro e w11 ⟨v799, rfl, ho0, hb⟩; have n0_ := Aside0.mk (Kd.R_lower ho0 (below_size (by repeat (first | (with_reducible first | exact HB.out | apply below_alloc | apply pw_below_drewN | apply below_drew1) | exact HB.out)))); have n1_ := Aside0.mk (below_step (by repeat (first | (with_reducible first | exact HB.out | apply below_alloc | apply pw_below_drewN | apply below_drew1) | exact HB.out)) hb); clear HB; have HO800 := n0_; have HB := n1_; clear n0_ n1_; (try clear hb); (try clear hb2); (try clear hk); (try clear hi); (try clear ho0)) | (go_at_call 30; (with_reducible refine (spec_CountByFirst.calls k t796 t801 t802 _ A7.out).mono ?_); rintro e w12 ⟨v803, rfl, ho0, hb⟩; have n0_ := Aside0.mk (Kd.R_elder' (by (with_reducible repeat (first | apply Kd.R_alloc | apply Kd.R_drewN | apply Kd.R_drew)); exact HO800.out) (Kd.R_base ho0) hb); have n1_ := Aside0.mk (Kd.R_lower (Kd.R_new' ho0 (Kd.R_lt (by (with_reducible repeat (first | apply Kd.R_alloc | apply Kd.R_drewN | apply Kd.R_drew)); exact HO800.out))) (below_size (by repeat (first | (with_reducible first | exact HB.out | apply below_alloc | apply pw_below_drewN | apply below_drew1) | exact HB.out)))); have n2_ := Aside0.mk (below_step (by repeat (first | (with_reducible first | exact HB.out | apply below_alloc | apply pw_below_drewN | apply below_drew1) | exact HB.out)) hb); clear HO800; clear HB; have HO800 := n0_; have HO804 := n1_; have HB := n2_; clear n0_ n1_ n2_; (try clear hb); (try clear hb2); (try clear hk); (try clear hi); (try clear ho0)) | (go_at_call 54; (with_reducible refine (impl_CountSigns.calls k t796 t805 t806 _ A8.out).mono ?_); rintro e w' ⟨rfl, ⟨nd, rfl⟩⟩; (try first | exact ⟨rfl, _, World.drewN_drewN _ _ _⟩ | exact ⟨rfl, _, Eq.trans (World.drewN_drewN _ _ _) (congrArg (World.drewN _) (Nat.add_assoc _ _ _))⟩))); go_upto_region 7 with (first | (go_at_call 43; (with_reducible refine (laws_big.calls _ _ l0 _ _ l1 false _ ?side1 ?side2 ?side3 ?side4 A3.out).mono ?_); (case side1 => repeat (first | exact HR0.out | (with_reducible refine Kd.C_alloc ?_ _) | (with_reducible refine Kd.C_drewN ?_ _) | (with_reducible refine Kd.C_drew ?_))); (case side2 => exact HC0.out); (case side3 => repeat (first | exact HR1.out | (with_reducible refine Kd.C_alloc ?_ _) | (with_reducible refine Kd.C_drewN ?_ _) | (with_reducible refine Kd.C_drew ?_))); (case side4 => exact HC1.out); rintro e w' ⟨rfl, ⟨nd, rfl⟩⟩; (try first | exact ⟨rfl, _, World.drewN_drewN _ _ _⟩ | exact ⟨rfl, _, Eq.trans (World.drewN_drewN _ _ _) (congrArg (World.drewN _) (Nat.add_assoc _ _ _))⟩)) | (go_at_call 53; (with_reducible refine (spec_DrawCountByFirst.calls _ _ l0 t796 _ ?side1 ?side2 A5.out).mono ?_); (case side1 => repeat (first | exact HR0.out | (with_reducible refine Kd.C_alloc ?_ _) | (with_reducible refine Kd.C_drewN ?_ _) | (with_reducible refine Kd.C_drew ?_))); (case side2 => exact HC0.out); rintro e w10 ⟨rfl, hb⟩; have n0_ := Aside0.mk (below_step (by repeat (first | (with_reducible first | exact HB.out | apply below_alloc | apply pw_below_drewN | apply below_drew1) | exact HB.out)) hb); clear HB; have HB := n0_; clear n0_; (try clear hb); (try clear hb2); (try clear hk); (try clear hi)) | (go_at_call 31; (with_reducible refine (impl_CountByFirst.calls t796 t797 t798 _ A6.out).mono ?_); rintro e w11 ⟨v799, rfl, ho0, hb⟩; have n0_ := Aside0.mk (Kd.R_lower ho0 (below_size (by repeat (first | (with_reducible first | exact HB.out | apply below_alloc | apply pw_below_drewN | apply below_drew1) | exact HB.out)))); have n1_ := Aside0.mk (below_step (by repeat (first | (with_reducible first | exact HB.out | apply below_alloc | apply pw_below_drewN | apply below_drew1) | exact HB.out)) hb); clear HB; have HO800 := n0_; have HB := n1_; clear n0_ n1_; (try clear hb); (try clear hb2); (try clear hk); (try clear hi); (try clear ho0)) | (go_at_call 30; (with_reducible refine (spec_CountByFirst.calls k t796 t801 t802 _ A7.out).mono ?_); rintro e w12 ⟨v803, rfl, ho0, hb⟩; have n0_ := Aside0.mk (Kd.R_elder' (by (with_reducible repeat (first | apply Kd.R_alloc | apply Kd.R_drewN | apply Kd.R_drew)); exact HO800.out) (Kd.R_base ho0) hb); have n1_ := Aside0.mk (Kd.R_lower (Kd.R_new' ho0 (Kd.R_lt (by (with_reducible repeat (first | apply Kd.R_alloc | apply Kd.R_drewN | apply Kd.R_drew)); exact HO800.out))) (below_size (by repeat (first | (with_reducible first | exact HB.out | apply below_alloc | apply pw_below_drewN | apply below_drew1) | exact HB.out)))); have n2_ := Aside0.mk (below_step (by repeat (first | (with_reducible first | exact HB.out | apply below_alloc | apply pw_below_drewN | apply below_drew1) | exact HB.out)) hb); clear HO800; clear HB; have HO800 := n0_; have HO804 := n1_; have HB := n2_; clear n0_ n1_ n2_; (try clear hb); (try clear hb2); (try clear hk); (try clear hi); (try clear ho0)) | (go_at_call 54; (with_reducible refine (impl_CountSigns.calls k t796 t805 t806 _ A8.out).mono ?_); rintro e w' ⟨rfl, ⟨nd, rfl⟩⟩; (try first | exact ⟨rfl, _, World.drewN_drewN _ _ _⟩ | exact ⟨rfl, _, Eq.trans (World.drewN_drewN _ _ _) (congrArg (World.drewN _) (Nat.add_assoc _ _ _))⟩))))
    (try simp only [Act.put, List.setIfInBounds_toArray, List.set_cons_zero, List.set_cons_succ])
    go_cut [83] (fun v83 wc => ∃ (kq : Nat) (x83_8 : Bool), v83 = .bool x83_8 ∧ Aside0 (laws_FnSignsCounted.j0 kq l1 t796 t797 t798 x83_8 = some r) ∧ Aside0 (kq ≤ k) ∧ Aside0 (Kd.R (Kd.int .i64) 3 wc w.heap.size (fun _ => True) v799 t797) ∧ Aside0 (Below w.heap.size w wc))
    case first =>
      as_aux_lemma =>
        have H := HC9.out
        clear HC9
        by_cases c13 : (t798 != t802) = true
        · rw [if_pos c13] at H
          have c13b0 : (t798 != t802) = true := c13
          (try (have c13b1 : decide (t798 = t802) = false := by simpa using c13))
          (try (have c13b2 : (t798 == t802) = false := by simpa using c13))
          (try (have c13b3 : ¬ (t798 = t802) := by simpa using c13))
          clear c13
          (first | rw [c13b0] | (simp only [i64_w, i32_w]; rw [c13b0]) | skip)
          have H' := Aside0.mk H
          clear H
          go_wp2
          repeat (go_quiet (fail); try go_wp2)
          go_meet
          case rel => exact ⟨_, (true), (by first | rfl | (simp; done) | (simp [*]; done)), H', ⟨by first | omega | exact Nat.le_refl _⟩, ⟨by (with_reducible repeat (first | apply Kd.R_alloc | apply Kd.R_drewN | apply Kd.R_drew)); exact Kd.R_mono HO800.out (fun _ hk => trivial)⟩, ⟨by repeat (first | (with_reducible first | exact HB.out | apply below_alloc | apply pw_below_drewN | apply below_drew1) | exact HB.out)⟩⟩
        · rw [if_neg c13] at H
          have c13b0 : (t798 != t802) = false := by simpa using c13
          (try (have c13b1 : decide (t798 = t802) = true := by simpa using c13))
          (try (have c13b2 : (t798 == t802) = true := by simpa using c13))
          clear c13
          (first | rw [c13b0] | (simp only [i64_w, i32_w]; rw [c13b0]) | skip)
          replace H := Option.bind_eq_some_iff.mp H
          obtain ⟨t807, A140, H⟩ := H
          replace H : (if t807 = true then (if t798 = true then (if t806 = true then ((laws_hSum.f k t797).bind fun t808 => (if t808 = t805 then (laws_FnSignsCounted.j0 k l1 t796 t797 t798 ((t797.length : Int) != t796)) else (laws_FnSignsCounted.j0 k l1 t796 t797 t798 true))) else (laws_FnSignsCounted.j0 k l1 t796 t797 t798 true)) else (laws_FnSignsCounted.j0 k l1 t796 t797 t798 false)) else (laws_FnSignsCounted.j0 k l1 t796 t797 t798 true)) = some r := H
          have A14 := Aside0.mk A140
          clear A140
          by_cases c15 : t807 = true
          · subst c15
            have H1 : (if t798 = true then (if t806 = true then ((laws_hSum.f k t797).bind fun t808 => (if t808 = t805 then (laws_FnSignsCounted.j0 k l1 t796 t797 t798 ((t797.length : Int) != t796)) else (laws_FnSignsCounted.j0 k l1 t796 t797 t798 true))) else (laws_FnSignsCounted.j0 k l1 t796 t797 t798 true)) else (laws_FnSignsCounted.j0 k l1 t796 t797 t798 false)) = some r := by rw [if_pos rfl] at H; exact H
            clear H
            have H := H1
            clear H1
            by_cases c16 : t798 = true
            · subst c16
              have H1 : (if t806 = true then ((laws_hSum.f k t797).bind fun t808 => (if t808 = t805 then (laws_FnSignsCounted.j0 k l1 t796 t797 true ((t797.length : Int) != t796)) else (laws_FnSignsCounted.j0 k l1 t796 t797 true true))) else (laws_FnSignsCounted.j0 k l1 t796 t797 true true)) = some r := by rw [if_pos rfl] at H; exact H
              clear H
              have H := H1
              clear H1
              by_cases c17 : t806 = true
              · subst c17
                have H1 : ((laws_hSum.f k t797).bind fun t808 => (if t808 = t805 then (laws_FnSignsCounted.j0 k l1 t796 t797 true ((t797.length : Int) != t796)) else (laws_FnSignsCounted.j0 k l1 t796 t797 true true))) = some r := by rw [if_pos rfl] at H; exact H
                clear H
                have H := H1
                clear H1
                replace H := Option.bind_eq_some_iff.mp H
                obtain ⟨t808, A180, H⟩ := H
                replace H : (if t808 = t805 then (laws_FnSignsCounted.j0 k l1 t796 t797 true ((t797.length : Int) != t796)) else (laws_FnSignsCounted.j0 k l1 t796 t797 true true)) = some r := H
                have A18 := Aside0.mk A180
                clear A180
                by_cases c19 : t808 = t805
                · rw [if_pos c19] at H
                  have c19b0 : (t808 == t805) = true := beq_iff_eq.mpr c19
                  have c19b1 : (t808 != t805) = false := bne_eq_false_iff_eq.mpr c19
                  clear c19
                  have H' := Aside0.mk H
                  clear H
                  obtain ⟨Ao20, co20, eo20⟩ := Kd.R_slice HO800.out
                  subst eo20
                  obtain ⟨Ao21, co21, eo21⟩ := Kd.R_slice HO804.out
                  subst eo21
                  go_wp2_with (first | (go_at_call 55; (with_reducible refine (laws_hSame.calls k _ _ t797 _ _ t801 true _ ?side1 ?side2 ?side3 ?side4 A14.out).mono ?_); (case side1 => repeat (first | exact (Kd.R_reads' HO800.out).2.2 | (with_reducible refine Kd.C_alloc ?_ _) | (with_reducible refine Kd.C_drewN ?_ _) | (with_reducible refine Kd.C_drew ?_))); (case side2 => exact (Kd.R_reads' HO800.out).2.1); (case side3 => repeat (first | exact (Kd.R_reads' HO804.out).2.2 | (with_reducible refine Kd.C_alloc ?_ _) | (with_reducible refine Kd.C_drewN ?_ _) | (with_reducible refine Kd.C_drew ?_))); (case side4 => exact (Kd.R_reads' HO804.out).2.1); rintro e w' ⟨rfl, ⟨nd, rfl⟩⟩; (try first | exact ⟨rfl, _, World.drewN_drewN _ _ _⟩ | exact ⟨rfl, _, Eq.trans (World.drewN_drewN _ _ _) (congrArg (World.drewN _) (Nat.add_assoc _ _ _))⟩)) | (go_at_call 56; (with_reducible refine (laws_hSum.calls k _ _ t797 t808 _ ?side1 ?side2 A18.out).mono ?_); (case side1 => repeat (first | exact (Kd.R_reads' HO800.out).2.2 | (with_reducible refine Kd.C_alloc ?_ _) | (with_reducible refine Kd.C_drewN ?_ _) | (with_reducible refine Kd.C_drew ?_))); (case side2 => exact (Kd.R_reads' HO800.out).2.1); rintro e w' ⟨rfl, ⟨nd, rfl⟩⟩; (try first | exact ⟨rfl, _, World.drewN_drewN _ _ _⟩ | exact ⟨rfl, _, Eq.trans (World.drewN_drewN _ _ _) (congrArg (World.drewN _) (Nat.add_assoc _ _ _))⟩)))
                  repeat (go_quiet (first | (go_at_call 55; (with_reducible refine (laws_hSame.calls k _ _ t797 _ _ t801 true _ ?side1 ?side2 ?side3 ?side4 A14.out).mono ?_); (case side1 => repeat (first | exact (Kd.R_reads' HO800.out).2.2 | (with_reducible refine Kd.C_alloc ?_ _) | (with_reducible refine Kd.C_drewN ?_ _) | (with_reducible refine Kd.C_drew ?_))); (case side2 => exact (Kd.R_reads' HO800.out).2.1); (case side3 => repeat (first | exact (Kd.R_reads' HO804.out).2.2 | (with_reducible refine Kd.C_alloc ?_ _) | (with_reducible refine Kd.C_drewN ?_ _) | (with_reducible refine Kd.C_drew ?_))); (case side4 => exact (Kd.R_reads' HO804.out).2.1); rintro e w' ⟨rfl, ⟨nd, rfl⟩⟩; (try first | exact ⟨rfl, _, World.drewN_drewN _ _ _⟩ | exact ⟨rfl, _, Eq.trans (World.drewN_drewN _ _ _) (congrArg (World.drewN _) (Nat.add_assoc _ _ _))⟩)) | (go_at_call 56; (with_reducible refine (laws_hSum.calls k _ _ t797 t808 _ ?side1 ?side2 A18.out).mono ?_); (case side1 => repeat (first | exact (Kd.R_reads' HO800.out).2.2 | (with_reducible refine Kd.C_alloc ?_ _) | (with_reducible refine Kd.C_drewN ?_ _) | (with_reducible refine Kd.C_drew ?_))); (case side2 => exact (Kd.R_reads' HO800.out).2.1); rintro e w' ⟨rfl, ⟨nd, rfl⟩⟩; (try first | exact ⟨rfl, _, World.drewN_drewN _ _ _⟩ | exact ⟨rfl, _, Eq.trans (World.drewN_drewN _ _ _) (congrArg (World.drewN _) (Nat.add_assoc _ _ _))⟩))); try go_wp2_with (first | (go_at_call 55; (with_reducible refine (laws_hSame.calls k _ _ t797 _ _ t801 true _ ?side1 ?side2 ?side3 ?side4 A14.out).mono ?_); (case side1 => repeat (first | exact (Kd.R_reads' HO800.out).2.2 | (with_reducible refine Kd.C_alloc ?_ _) | (with_reducible refine Kd.C_drewN ?_ _) | (with_reducible refine Kd.C_drew ?_))); (case side2 => exact (Kd.R_reads' HO800.out).2.1); (case side3 => repeat (first | exact (Kd.R_reads' HO804.out).2.2 | (with_reducible refine Kd.C_alloc ?_ _) | (with_reducible refine Kd.C_drewN ?_ _) | (with_reducible refine Kd.C_drew ?_))); (case side4 => exact (Kd.R_reads' HO804.out).2.1); rintro e w' ⟨rfl, ⟨nd, rfl⟩⟩; (try first | exact ⟨rfl, _, World.drewN_drewN _ _ _⟩ | exact ⟨rfl, _, Eq.trans (World.drewN_drewN _ _ _) (congrArg (World.drewN _) (Nat.add_assoc _ _ _))⟩)) | (go_at_call 56; (with_reducible refine (laws_hSum.calls k _ _ t797 t808 _ ?side1 ?side2 A18.out).mono ?_); (case side1 => repeat (first | exact (Kd.R_reads' HO800.out).2.2 | (with_reducible refine Kd.C_alloc ?_ _) | (with_reducible refine Kd.C_drewN ?_ _) | (with_reducible refine Kd.C_drew ?_))); (case side2 => exact (Kd.R_reads' HO800.out).2.1); rintro e w' ⟨rfl, ⟨nd, rfl⟩⟩; (try first | exact ⟨rfl, _, World.drewN_drewN _ _ _⟩ | exact ⟨rfl, _, Eq.trans (World.drewN_drewN _ _ _) (congrArg (World.drewN _) (Nat.add_assoc _ _ _))⟩))))
                  go_meet
                  case rel => exact ⟨_, (((t797.length : Int) != t796)), (by first | rfl | (simp; done) | (simp [*]; done)), H', ⟨by first | omega | exact Nat.le_refl _⟩, ⟨by (with_reducible repeat (first | apply Kd.R_alloc | apply Kd.R_drewN | apply Kd.R_drew)); exact Kd.R_mono HO800.out (fun _ hk => trivial)⟩, ⟨by repeat (first | (with_reducible first | exact HB.out | apply below_alloc | apply pw_below_drewN | apply below_drew1) | exact HB.out)⟩⟩
                · rw [if_neg c19] at H
                  have c19b0 : (t808 == t805) = false := beq_eq_false_iff_ne.mpr c19
                  have c19b1 : (t808 != t805) = true := bne_iff_ne.mpr c19
                  have H' := Aside0.mk H
                  clear H
                  obtain ⟨Ao22, co22, eo22⟩ := Kd.R_slice HO800.out
                  subst eo22
                  obtain ⟨Ao23, co23, eo23⟩ := Kd.R_slice HO804.out
                  subst eo23
                  go_wp2_with (first | (go_at_call 55; (with_reducible refine (laws_hSame.calls k _ _ t797 _ _ t801 true _ ?side1 ?side2 ?side3 ?side4 A14.out).mono ?_); (case side1 => repeat (first | exact (Kd.R_reads' HO800.out).2.2 | (with_reducible refine Kd.C_alloc ?_ _) | (with_reducible refine Kd.C_drewN ?_ _) | (with_reducible refine Kd.C_drew ?_))); (case side2 => exact (Kd.R_reads' HO800.out).2.1); (case side3 => repeat (first | exact (Kd.R_reads' HO804.out).2.2 | (with_reducible refine Kd.C_alloc ?_ _) | (with_reducible refine Kd.C_drewN ?_ _) | (with_reducible refine Kd.C_drew ?_))); (case side4 => exact (Kd.R_reads' HO804.out).2.1); rintro e w' ⟨rfl, ⟨nd, rfl⟩⟩; (try first | exact ⟨rfl, _, World.drewN_drewN _ _ _⟩ | exact ⟨rfl, _, Eq.trans (World.drewN_drewN _ _ _) (congrArg (World.drewN _) (Nat.add_assoc _ _ _))⟩)) | (go_at_call 56; (with_reducible refine (laws_hSum.calls k _ _ t797 t808 _ ?side1 ?side2 A18.out).mono ?_); (case side1 => repeat (first | exact (Kd.R_reads' HO800.out).2.2 | (with_reducible refine Kd.C_alloc ?_ _) | (with_reducible refine Kd.C_drewN ?_ _) | (with_reducible refine Kd.C_drew ?_))); (case side2 => exact (Kd.R_reads' HO800.out).2.1); rintro e w' ⟨rfl, ⟨nd, rfl⟩⟩; (try first | exact ⟨rfl, _, World.drewN_drewN _ _ _⟩ | exact ⟨rfl, _, Eq.trans (World.drewN_drewN _ _ _) (congrArg (World.drewN _) (Nat.add_assoc _ _ _))⟩)))
                  repeat (go_quiet (first | (go_at_call 55; (with_reducible refine (laws_hSame.calls k _ _ t797 _ _ t801 true _ ?side1 ?side2 ?side3 ?side4 A14.out).mono ?_); (case side1 => repeat (first | exact (Kd.R_reads' HO800.out).2.2 | (with_reducible refine Kd.C_alloc ?_ _) | (with_reducible refine Kd.C_drewN ?_ _) | (with_reducible refine Kd.C_drew ?_))); (case side2 => exact (Kd.R_reads' HO800.out).2.1); (case side3 => repeat (first | exact (Kd.R_reads' HO804.out).2.2 | (with_reducible refine Kd.C_alloc ?_ _) | (with_reducible refine Kd.C_drewN ?_ _) | (with_reducible refine Kd.C_drew ?_))); (case side4 => exact (Kd.R_reads' HO804.out).2.1); rintro e w' ⟨rfl, ⟨nd, rfl⟩⟩; (try first | exact ⟨rfl, _, World.drewN_drewN _ _ _⟩ | exact ⟨rfl, _, Eq.trans (World.drewN_drewN _ _ _) (congrArg (World.drewN _) (Nat.add_assoc _ _ _))⟩)) | (go_at_call 56; (with_reducible refine (laws_hSum.calls k _ _ t797 t808 _ ?side1 ?side2 A18.out).mono ?_); (case side1 => repeat (first | exact (Kd.R_reads' HO800.out).2.2 | (with_reducible refine Kd.C_alloc ?_ _) | (with_reducible refine Kd.C_drewN ?_ _) | (with_reducible refine Kd.C_drew ?_))); (case side2 => exact (Kd.R_reads' HO800.out).2.1); rintro e w' ⟨rfl, ⟨nd, rfl⟩⟩; (try first | exact ⟨rfl, _, World.drewN_drewN _ _ _⟩ | exact ⟨rfl, _, Eq.trans (World.drewN_drewN _ _ _) (congrArg (World.drewN _) (Nat.add_assoc _ _ _))⟩))); try go_wp2_with (first | (go_at_call 55; (with_reducible refine (laws_hSame.calls k _ _ t797 _ _ t801 true _ ?side1 ?side2 ?side3 ?side4 A14.out).mono ?_); (case side1 => repeat (first | exact (Kd.R_reads' HO800.out).2.2 | (with_reducible refine Kd.C_alloc ?_ _) | (with_reducible refine Kd.C_drewN ?_ _) | (with_reducible refine Kd.C_drew ?_))); (case side2 => exact (Kd.R_reads' HO800.out).2.1); (case side3 => repeat (first | exact (Kd.R_reads' HO804.out).2.2 | (with_reducible refine Kd.C_alloc ?_ _) | (with_reducible refine Kd.C_drewN ?_ _) | (with_reducible refine Kd.C_drew ?_))); (case side4 => exact (Kd.R_reads' HO804.out).2.1); rintro e w' ⟨rfl, ⟨nd, rfl⟩⟩; (try first | exact ⟨rfl, _, World.drewN_drewN _ _ _⟩ | exact ⟨rfl, _, Eq.trans (World.drewN_drewN _ _ _) (congrArg (World.drewN _) (Nat.add_assoc _ _ _))⟩)) | (go_at_call 56; (with_reducible refine (laws_hSum.calls k _ _ t797 t808 _ ?side1 ?side2 A18.out).mono ?_); (case side1 => repeat (first | exact (Kd.R_reads' HO800.out).2.2 | (with_reducible refine Kd.C_alloc ?_ _) | (with_reducible refine Kd.C_drewN ?_ _) | (with_reducible refine Kd.C_drew ?_))); (case side2 => exact (Kd.R_reads' HO800.out).2.1); rintro e w' ⟨rfl, ⟨nd, rfl⟩⟩; (try first | exact ⟨rfl, _, World.drewN_drewN _ _ _⟩ | exact ⟨rfl, _, Eq.trans (World.drewN_drewN _ _ _) (congrArg (World.drewN _) (Nat.add_assoc _ _ _))⟩))))
                  go_meet
                  case rel => exact ⟨_, (true), (by first | rfl | (simp; done) | (simp [*]; done)), H', ⟨by first | omega | exact Nat.le_refl _⟩, ⟨by (with_reducible repeat (first | apply Kd.R_alloc | apply Kd.R_drewN | apply Kd.R_drew)); exact Kd.R_mono HO800.out (fun _ hk => trivial)⟩, ⟨by repeat (first | (with_reducible first | exact HB.out | apply below_alloc | apply pw_below_drewN | apply below_drew1) | exact HB.out)⟩⟩
              · replace c17 := Bool.eq_false_iff.mpr c17
                subst c17
                have H1 : (laws_FnSignsCounted.j0 k l1 t796 t797 true true) = some r := by rw [if_neg (show ¬ (false = true) by decide)] at H; exact H
                clear H
                have H := H1
                clear H1
                have H' := Aside0.mk H
                clear H
                obtain ⟨Ao24, co24, eo24⟩ := Kd.R_slice HO800.out
                subst eo24
                obtain ⟨Ao25, co25, eo25⟩ := Kd.R_slice HO804.out
                subst eo25
                go_wp2_with (first | (go_at_call 55; (with_reducible refine (laws_hSame.calls k _ _ t797 _ _ t801 true _ ?side1 ?side2 ?side3 ?side4 A14.out).mono ?_); (case side1 => repeat (first | exact (Kd.R_reads' HO800.out).2.2 | (with_reducible refine Kd.C_alloc ?_ _) | (with_reducible refine Kd.C_drewN ?_ _) | (with_reducible refine Kd.C_drew ?_))); (case side2 => exact (Kd.R_reads' HO800.out).2.1); (case side3 => repeat (first | exact (Kd.R_reads' HO804.out).2.2 | (with_reducible refine Kd.C_alloc ?_ _) | (with_reducible refine Kd.C_drewN ?_ _) | (with_reducible refine Kd.C_drew ?_))); (case side4 => exact (Kd.R_reads' HO804.out).2.1); rintro e w' ⟨rfl, ⟨nd, rfl⟩⟩; (try first | exact ⟨rfl, _, World.drewN_drewN _ _ _⟩ | exact ⟨rfl, _, Eq.trans (World.drewN_drewN _ _ _) (congrArg (World.drewN _) (Nat.add_assoc _ _ _))⟩)))
                repeat (go_quiet (first | (go_at_call 55; (with_reducible refine (laws_hSame.calls k _ _ t797 _ _ t801 true _ ?side1 ?side2 ?side3 ?side4 A14.out).mono ?_); (case side1 => repeat (first | exact (Kd.R_reads' HO800.out).2.2 | (with_reducible refine Kd.C_alloc ?_ _) | (with_reducible refine Kd.C_drewN ?_ _) | (with_reducible refine Kd.C_drew ?_))); (case side2 => exact (Kd.R_reads' HO800.out).2.1); (case side3 => repeat (first | exact (Kd.R_reads' HO804.out).2.2 | (with_reducible refine Kd.C_alloc ?_ _) | (with_reducible refine Kd.C_drewN ?_ _) | (with_reducible refine Kd.C_drew ?_))); (case side4 => exact (Kd.R_reads' HO804.out).2.1); rintro e w' ⟨rfl, ⟨nd, rfl⟩⟩; (try first | exact ⟨rfl, _, World.drewN_drewN _ _ _⟩ | exact ⟨rfl, _, Eq.trans (World.drewN_drewN _ _ _) (congrArg (World.drewN _) (Nat.add_assoc _ _ _))⟩))); try go_wp2_with (first | (go_at_call 55; (with_reducible refine (laws_hSame.calls k _ _ t797 _ _ t801 true _ ?side1 ?side2 ?side3 ?side4 A14.out).mono ?_); (case side1 => repeat (first | exact (Kd.R_reads' HO800.out).2.2 | (with_reducible refine Kd.C_alloc ?_ _) | (with_reducible refine Kd.C_drewN ?_ _) | (with_reducible refine Kd.C_drew ?_))); (case side2 => exact (Kd.R_reads' HO800.out).2.1); (case side3 => repeat (first | exact (Kd.R_reads' HO804.out).2.2 | (with_reducible refine Kd.C_alloc ?_ _) | (with_reducible refine Kd.C_drewN ?_ _) | (with_reducible refine Kd.C_drew ?_))); (case side4 => exact (Kd.R_reads' HO804.out).2.1); rintro e w' ⟨rfl, ⟨nd, rfl⟩⟩; (try first | exact ⟨rfl, _, World.drewN_drewN _ _ _⟩ | exact ⟨rfl, _, Eq.trans (World.drewN_drewN _ _ _) (congrArg (World.drewN _) (Nat.add_assoc _ _ _))⟩))))
                go_meet
                case rel => exact ⟨_, (true), (by first | rfl | (simp; done) | (simp [*]; done)), H', ⟨by first | omega | exact Nat.le_refl _⟩, ⟨by (with_reducible repeat (first | apply Kd.R_alloc | apply Kd.R_drewN | apply Kd.R_drew)); exact Kd.R_mono HO800.out (fun _ hk => trivial)⟩, ⟨by repeat (first | (with_reducible first | exact HB.out | apply below_alloc | apply pw_below_drewN | apply below_drew1) | exact HB.out)⟩⟩
            · replace c16 := Bool.eq_false_iff.mpr c16
              subst c16
              have H1 : (laws_FnSignsCounted.j0 k l1 t796 t797 false false) = some r := by rw [if_neg (show ¬ (false = true) by decide)] at H; exact H
              clear H
              have H := H1
              clear H1
              have H' := Aside0.mk H
              clear H
              obtain ⟨Ao26, co26, eo26⟩ := Kd.R_slice HO800.out
              subst eo26
              obtain ⟨Ao27, co27, eo27⟩ := Kd.R_slice HO804.out
              subst eo27
              go_wp2_with (first | (go_at_call 55; (with_reducible refine (laws_hSame.calls k _ _ t797 _ _ t801 true _ ?side1 ?side2 ?side3 ?side4 A14.out).mono ?_); (case side1 => repeat (first | exact (Kd.R_reads' HO800.out).2.2 | (with_reducible refine Kd.C_alloc ?_ _) | (with_reducible refine Kd.C_drewN ?_ _) | (with_reducible refine Kd.C_drew ?_))); (case side2 => exact (Kd.R_reads' HO800.out).2.1); (case side3 => repeat (first | exact (Kd.R_reads' HO804.out).2.2 | (with_reducible refine Kd.C_alloc ?_ _) | (with_reducible refine Kd.C_drewN ?_ _) | (with_reducible refine Kd.C_drew ?_))); (case side4 => exact (Kd.R_reads' HO804.out).2.1); rintro e w' ⟨rfl, ⟨nd, rfl⟩⟩; (try first | exact ⟨rfl, _, World.drewN_drewN _ _ _⟩ | exact ⟨rfl, _, Eq.trans (World.drewN_drewN _ _ _) (congrArg (World.drewN _) (Nat.add_assoc _ _ _))⟩)))
              repeat (go_quiet (first | (go_at_call 55; (with_reducible refine (laws_hSame.calls k _ _ t797 _ _ t801 true _ ?side1 ?side2 ?side3 ?side4 A14.out).mono ?_); (case side1 => repeat (first | exact (Kd.R_reads' HO800.out).2.2 | (with_reducible refine Kd.C_alloc ?_ _) | (with_reducible refine Kd.C_drewN ?_ _) | (with_reducible refine Kd.C_drew ?_))); (case side2 => exact (Kd.R_reads' HO800.out).2.1); (case side3 => repeat (first | exact (Kd.R_reads' HO804.out).2.2 | (with_reducible refine Kd.C_alloc ?_ _) | (with_reducible refine Kd.C_drewN ?_ _) | (with_reducible refine Kd.C_drew ?_))); (case side4 => exact (Kd.R_reads' HO804.out).2.1); rintro e w' ⟨rfl, ⟨nd, rfl⟩⟩; (try first | exact ⟨rfl, _, World.drewN_drewN _ _ _⟩ | exact ⟨rfl, _, Eq.trans (World.drewN_drewN _ _ _) (congrArg (World.drewN _) (Nat.add_assoc _ _ _))⟩))); try go_wp2_with (first | (go_at_call 55; (with_reducible refine (laws_hSame.calls k _ _ t797 _ _ t801 true _ ?side1 ?side2 ?side3 ?side4 A14.out).mono ?_); (case side1 => repeat (first | exact (Kd.R_reads' HO800.out).2.2 | (with_reducible refine Kd.C_alloc ?_ _) | (with_reducible refine Kd.C_drewN ?_ _) | (with_reducible refine Kd.C_drew ?_))); (case side2 => exact (Kd.R_reads' HO800.out).2.1); (case side3 => repeat (first | exact (Kd.R_reads' HO804.out).2.2 | (with_reducible refine Kd.C_alloc ?_ _) | (with_reducible refine Kd.C_drewN ?_ _) | (with_reducible refine Kd.C_drew ?_))); (case side4 => exact (Kd.R_reads' HO804.out).2.1); rintro e w' ⟨rfl, ⟨nd, rfl⟩⟩; (try first | exact ⟨rfl, _, World.drewN_drewN _ _ _⟩ | exact ⟨rfl, _, Eq.trans (World.drewN_drewN _ _ _) (congrArg (World.drewN _) (Nat.add_assoc _ _ _))⟩))))
              go_meet
              case rel => exact ⟨_, (false), (by first | rfl | (simp; done) | (simp [*]; done)), H', ⟨by first | omega | exact Nat.le_refl _⟩, ⟨by (with_reducible repeat (first | apply Kd.R_alloc | apply Kd.R_drewN | apply Kd.R_drew)); exact Kd.R_mono HO800.out (fun _ hk => trivial)⟩, ⟨by repeat (first | (with_reducible first | exact HB.out | apply below_alloc | apply pw_below_drewN | apply below_drew1) | exact HB.out)⟩⟩
          · replace c15 := Bool.eq_false_iff.mpr c15
            subst c15
            have H1 : (laws_FnSignsCounted.j0 k l1 t796 t797 t798 true) = some r := by rw [if_neg (show ¬ (false = true) by decide)] at H; exact H
            clear H
            have H := H1
            clear H1
            have H' := Aside0.mk H
            clear H
            obtain ⟨Ao28, co28, eo28⟩ := Kd.R_slice HO800.out
            subst eo28
            obtain ⟨Ao29, co29, eo29⟩ := Kd.R_slice HO804.out
            subst eo29
            go_wp2_with (first | (go_at_call 55; (with_reducible refine (laws_hSame.calls k _ _ t797 _ _ t801 false _ ?side1 ?side2 ?side3 ?side4 A14.out).mono ?_); (case side1 => repeat (first | exact (Kd.R_reads' HO800.out).2.2 | (with_reducible refine Kd.C_alloc ?_ _) | (with_reducible refine Kd.C_drewN ?_ _) | (with_reducible refine Kd.C_drew ?_))); (case side2 => exact (Kd.R_reads' HO800.out).2.1); (case side3 => repeat (first | exact (Kd.R_reads' HO804.out).2.2 | (with_reducible refine Kd.C_alloc ?_ _) | (with_reducible refine Kd.C_drewN ?_ _) | (with_reducible refine Kd.C_drew ?_))); (case side4 => exact (Kd.R_reads' HO804.out).2.1); rintro e w' ⟨rfl, ⟨nd, rfl⟩⟩; (try first | exact ⟨rfl, _, World.drewN_drewN _ _ _⟩ | exact ⟨rfl, _, Eq.trans (World.drewN_drewN _ _ _) (congrArg (World.drewN _) (Nat.add_assoc _ _ _))⟩)))
            repeat (go_quiet (first | (go_at_call 55; (with_reducible refine (laws_hSame.calls k _ _ t797 _ _ t801 false _ ?side1 ?side2 ?side3 ?side4 A14.out).mono ?_); (case side1 => repeat (first | exact (Kd.R_reads' HO800.out).2.2 | (with_reducible refine Kd.C_alloc ?_ _) | (with_reducible refine Kd.C_drewN ?_ _) | (with_reducible refine Kd.C_drew ?_))); (case side2 => exact (Kd.R_reads' HO800.out).2.1); (case side3 => repeat (first | exact (Kd.R_reads' HO804.out).2.2 | (with_reducible refine Kd.C_alloc ?_ _) | (with_reducible refine Kd.C_drewN ?_ _) | (with_reducible refine Kd.C_drew ?_))); (case side4 => exact (Kd.R_reads' HO804.out).2.1); rintro e w' ⟨rfl, ⟨nd, rfl⟩⟩; (try first | exact ⟨rfl, _, World.drewN_drewN _ _ _⟩ | exact ⟨rfl, _, Eq.trans (World.drewN_drewN _ _ _) (congrArg (World.drewN _) (Nat.add_assoc _ _ _))⟩))); try go_wp2_with (first | (go_at_call 55; (with_reducible refine (laws_hSame.calls k _ _ t797 _ _ t801 false _ ?side1 ?side2 ?side3 ?side4 A14.out).mono ?_); (case side1 => repeat (first | exact (Kd.R_reads' HO800.out).2.2 | (with_reducible refine Kd.C_alloc ?_ _) | (with_reducible refine Kd.C_drewN ?_ _) | (with_reducible refine Kd.C_drew ?_))); (case side2 => exact (Kd.R_reads' HO800.out).2.1); (case side3 => repeat (first | exact (Kd.R_reads' HO804.out).2.2 | (with_reducible refine Kd.C_alloc ?_ _) | (with_reducible refine Kd.C_drewN ?_ _) | (with_reducible refine Kd.C_drew ?_))); (case side4 => exact (Kd.R_reads' HO804.out).2.1); rintro e w' ⟨rfl, ⟨nd, rfl⟩⟩; (try first | exact ⟨rfl, _, World.drewN_drewN _ _ _⟩ | exact ⟨rfl, _, Eq.trans (World.drewN_drewN _ _ _) (congrArg (World.drewN _) (Nat.add_assoc _ _ _))⟩))))
            go_meet
            case rel => exact ⟨_, (true), (by first | rfl | (simp; done) | (simp [*]; done)), H', ⟨by first | omega | exact Nat.le_refl _⟩, ⟨by (with_reducible repeat (first | apply Kd.R_alloc | apply Kd.R_drewN | apply Kd.R_drew)); exact Kd.R_mono HO800.out (fun _ hk => trivial)⟩, ⟨by repeat (first | (with_reducible first | exact HB.out | apply below_alloc | apply pw_below_drewN | apply below_drew1) | exact HB.out)⟩⟩
    case rest =>
      as_aux_lemma =>
        clear HC9
        try clear c1
        try clear p2
        try clear c4
        try clear c13
        try clear c13b0
        try clear c13b1
        try clear c13b2
        try clear c15
        try clear c16
        try clear c17
        try clear c19
        try clear c19b0
        try clear c19b1
        obtain ⟨kq, x83_8, rfl, HA, HJ8, HO_6, HB⟩ := hcut
        cases kq with
        | zero => exact absurd HA.out (by simp [laws_FnSignsCounted.j0])
        | succ kj8 =>
          have H := HA.out
          clear HA
          simp only [laws_FnSignsCounted.j0] at H
          by_cases c30 : x83_8 = true
          · subst c30
            have H1 : (some false) = some r := by rw [if_pos rfl] at H; exact H
            clear H
            have H := H1
            clear H1
            obtain rfl := Option.some.inj H
            go_wp2
            repeat (go_quiet (fail); try go_wp2)
            go_ret
            exact ⟨by first | rfl | (simp [errW_none, errW_some] <;> rfl) | (simp [*, errW_none, errW_some] <;> rfl), by repeat (first | (with_reducible first | exact HB.out | apply below_alloc | apply pw_below_drewN | apply below_drew1) | exact HB.out)⟩
          · replace c30 := Bool.eq_false_iff.mpr c30
            subst c30
            have H1 : (laws_FnSignsCounted.l0 kj8 l1 t796 t797 t798 t797 (t797.length : Int) 0) = some r := by rw [if_neg (show ¬ (false = true) by decide)] at H; exact H
            clear H
            have H := H1
            clear H1
            have H' := Aside0.mk H
            clear H
            obtain ⟨Ao31, co31, eo31⟩ := Kd.R_slice HO_6.out
            subst eo31
            go_wp2
            repeat (go_quiet (fail); try go_wp2)
            go_loopg [86] kj8 (fun kq v86 w' => ∃ (x86_2 : Int), v86 = .int .i64 x86_2 ∧ Aside0 (laws_FnSignsCounted.l0 kq l1 t796 t797 t798 t797 (t797.length : Int) x86_2 = some r) ∧ Aside0 (kq ≤ kj8) ∧ Aside0 (Kd.R (Kd.int .i64) 3 w' w.heap.size (fun _ => True) (.slice Ao31 t797.length co31) t797) ∧ Aside0 (Kd.R (Kd.int .i64) 3 w' w.heap.size (fun _ => True) (.slice Ao31 t797.length co31) t797) ∧ Aside0 (Below w.heap.size w w'))
            case atStart => exact ⟨(0), (by first | rfl | (simp; done) | (simp [*]; done)), H', ⟨Nat.le_refl _⟩, ⟨by (with_reducible repeat (first | apply Kd.R_alloc | apply Kd.R_drewN | apply Kd.R_drew)); exact HO_6.out⟩, ⟨by (with_reducible repeat (first | apply Kd.R_alloc | apply Kd.R_drewN | apply Kd.R_drew)); exact HO_6.out⟩, ⟨by repeat (first | (with_reducible first | exact HB.out | apply below_alloc | apply pw_below_drewN | apply below_drew1) | exact HB.out)⟩⟩
            case round =>
              as_aux_lemma =>
                clear H'
                try clear c1
                try clear p2
                try clear c3
                try clear c4
                try clear c13
                try clear c13b0
                try clear c13b1
                try clear c13b2
                try clear c15
                try clear c16
                try clear c17
                try clear c19
                try clear c19b0
                try clear c19b1
                try clear c30
                try clear p2
                obtain ⟨x86_2, rfl, HA, HK2, HO_6, HO_84, HB⟩ := hrel
                cases gk with
                | zero => exact absurd HA.out (by simp [laws_FnSignsCounted.l0])
                | succ k2 =>
                  have H := HA.out
                  clear HA
                  simp only [laws_FnSignsCounted.l0] at H
                  by_cases c32 : x86_2 < (t797.length : Int)
                  · rw [if_pos c32] at H
                    have c32b0 : decide (x86_2 < (t797.length : Int)) = true := decide_eq_true c32
                    clear c32
                    by_cases c33 : 0 ≤ x86_2
                    · rw [if_pos c33] at H
                      have c33b0 : decide (0 ≤ x86_2) = true := decide_eq_true c33
                      clear c33
                      by_cases c34 : x86_2 < (t797.length : Int)
                      · rw [if_pos c34] at H
                        have c34b0 : decide (x86_2 < (t797.length : Int)) = true := decide_eq_true c34
                        clear c34
                        obtain ⟨ji35, hji35⟩ : ∃ j_ : Int, (wrap64 ((wrap64 (t796 - 1)) - x86_2)) = j_ := ⟨_, rfl⟩
                        replace H : (if 0 ≤ (ji35) then (if (ji35) < (t797.length : Int) then (if (rd t797 x86_2) = (rd t797 (ji35)) then (laws_FnSignsCounted.l0 k2 l1 t796 t797 t798 t797 (t797.length : Int) (wrap64 (x86_2 + 1))) else (some false)) else (none)) else (none)) = some r := by first | (rw [hji35] at H; exact H) | (simp only [hji35] at H ⊢; exact H)
                        have hji35w : (IntKind.i64.wrap ((wrap64 (t796 - 1)) - x86_2)) = ji35 := (i64_w _).trans hji35
                        by_cases c36 : 0 ≤ (ji35)
                        · rw [if_pos c36] at H
                          have c36b0 : decide (0 ≤ (ji35)) = true := decide_eq_true c36
                          clear c36
                          by_cases c37 : (ji35) < (t797.length : Int)
                          · rw [if_pos c37] at H
                            have c37b0 : decide ((ji35) < (t797.length : Int)) = true := decide_eq_true c37
                            clear c37
                            by_cases c38 : (rd t797 x86_2) = (rd t797 (ji35))
                            · rw [if_pos c38] at H
                              have c38b0 : ((rd t797 x86_2) == (rd t797 (ji35))) = true := beq_iff_eq.mpr c38
                              have c38b1 : ((rd t797 x86_2) != (rd t797 (ji35))) = false := bne_eq_false_iff_eq.mpr c38
                              clear c38
                              have H' := Aside0.mk H
                              clear H
                              have p809 : 0 ≤ (x86_2 : Int) := of_decide_eq_true (by first | (with_reducible assumption) | assumption)
                              have q809 : x86_2 < (t797.length : Int) := of_decide_eq_true (by first | (with_reducible assumption) | assumption)
                              obtain ⟨ad809, e809, hx809_0⟩ := Kd.at_int (Kd.R_reads' HO_84.out).2.2 x86_2 p809 q809
                              cases e809
                              replace p809 := eq_true p809
                              replace q809 := eq_true q809
                              have p810 : 0 ≤ ((ji35) : Int) := of_decide_eq_true (by first | (with_reducible assumption) | assumption)
                              have q810 : (ji35) < (t797.length : Int) := of_decide_eq_true (by first | (with_reducible assumption) | assumption)
                              obtain ⟨ad810, e810, hx810_0⟩ := Kd.at_int (Kd.R_reads' HO_6.out).2.2 (ji35) p810 q810
                              obtain rfl : ad809 = ad810 := (by injection e810)
                              replace p810 := eq_true p810
                              replace q810 := eq_true q810
                              go_wp2
                              repeat (go_quiet (fail); try go_wp2)
                              go_roundg k2
                              case measure => have := HJ8.out; have := HK2.out; omega
                              case rel => exact ⟨(wrap64 (x86_2 + 1)), (by first | rfl | (simp; done) | (simp [*]; done)), H', ⟨by have := HJ8.out; have := HK2.out; omega⟩, ⟨by (with_reducible repeat (first | apply Kd.R_alloc | apply Kd.R_drewN | apply Kd.R_drew)); exact HO_6.out⟩, ⟨by (with_reducible repeat (first | apply Kd.R_alloc | apply Kd.R_drewN | apply Kd.R_drew)); exact HO_84.out⟩, ⟨by repeat (first | (with_reducible first | exact HB.out | apply below_alloc | apply pw_below_drewN | apply below_drew1) | exact HB.out)⟩⟩
                            · rw [if_neg c38] at H
                              have c38b0 : ((rd t797 x86_2) == (rd t797 (ji35))) = false := beq_eq_false_iff_ne.mpr c38
                              have c38b1 : ((rd t797 x86_2) != (rd t797 (ji35))) = true := bne_iff_ne.mpr c38
                              obtain rfl := Option.some.inj H
                              have p809 : 0 ≤ (x86_2 : Int) := of_decide_eq_true (by first | (with_reducible assumption) | assumption)
                              have q809 : x86_2 < (t797.length : Int) := of_decide_eq_true (by first | (with_reducible assumption) | assumption)
                              obtain ⟨ad809, e809, hx809_0⟩ := Kd.at_int (Kd.R_reads' HO_84.out).2.2 x86_2 p809 q809
                              cases e809
                              replace p809 := eq_true p809
                              replace q809 := eq_true q809
                              have p810 : 0 ≤ ((ji35) : Int) := of_decide_eq_true (by first | (with_reducible assumption) | assumption)
                              have q810 : (ji35) < (t797.length : Int) := of_decide_eq_true (by first | (with_reducible assumption) | assumption)
                              obtain ⟨ad810, e810, hx810_0⟩ := Kd.at_int (Kd.R_reads' HO_6.out).2.2 (ji35) p810 q810
                              obtain rfl : ad809 = ad810 := (by injection e810)
                              replace p810 := eq_true p810
                              replace q810 := eq_true q810
                              go_wp2
                              repeat (go_quiet (fail); try go_wp2)
                              go_ret
                              exact ⟨by first | rfl | (simp [errW_none, errW_some] <;> rfl) | (simp only [← hji35]; first | rfl | (simp [errW_none, errW_some] <;> rfl)) | (simp [*, errW_none, errW_some] <;> rfl), by repeat (first | (with_reducible first | exact HB.out | apply below_alloc | apply pw_below_drewN | apply below_drew1) | exact HB.out)⟩
                          · rw [if_neg c37] at H
                            exact absurd H (by simp)
                        · rw [if_neg c36] at H
                          exact absurd H (by simp)
                      · rw [if_neg c34] at H
                        exact absurd H (by simp)
                    · rw [if_neg c33] at H
                      exact absurd H (by simp)
                  · rw [if_neg c32] at H
                    have c32b0 : decide (x86_2 < (t797.length : Int)) = false := decide_eq_false c32
                    clear c32
                    have HC39 := Aside0.mk H
                    clear H
                    go_upto_region 15 with (fail)
                    repeat (go_quiet (fail); go_upto_region 15 with (fail))
                    go_cut [105] (fun v105 wc => ∃ (kq : Nat) (x105_38 : Bool), v105 = .bool x105_38 ∧ Aside0 (laws_FnSignsCounted.j2 kq l1 t796 t797 x105_38 = some r) ∧ Aside0 (kq ≤ k2) ∧ Aside0 (Kd.R (Kd.int .i64) 3 wc w.heap.size (fun _ => True) (.slice Ao31 t797.length co31) t797) ∧ Aside0 (Below w.heap.size w wc))
                    case first =>
                      as_aux_lemma =>
                        have H := HC39.out
                        clear HC39
                        by_cases c40 : t798 = true
                        · subst c40
                          have H1 : (laws_FnSignsCounted.j2 k2 l1 t796 t797 (decide (t796 > 1))) = some r := by rw [if_pos rfl] at H; exact H
                          clear H
                          have H := H1
                          clear H1
                          have H' := Aside0.mk H
                          clear H
                          go_wp2
                          repeat (go_quiet (fail); try go_wp2)
                          go_meet
                          case rel => exact ⟨_, (decide (t796 > 1)), (by first | rfl | (simp; done) | (simp [*]; done)), H', ⟨by have := HJ8.out; have := HK2.out; first | omega | exact Nat.le_refl _⟩, ⟨by (with_reducible repeat (first | apply Kd.R_alloc | apply Kd.R_drewN | apply Kd.R_drew)); exact HO_6.out⟩, ⟨by repeat (first | (with_reducible first | exact HB.out | apply below_alloc | apply pw_below_drewN | apply below_drew1) | exact HB.out)⟩⟩
                        · replace c40 := Bool.eq_false_iff.mpr c40
                          subst c40
                          have H1 : (laws_FnSignsCounted.j2 k2 l1 t796 t797 false) = some r := by rw [if_neg (show ¬ (false = true) by decide)] at H; exact H
                          clear H
                          have H := H1
                          clear H1
                          have H' := Aside0.mk H
                          clear H
                          go_wp2
                          repeat (go_quiet (fail); try go_wp2)
                          go_meet
                          case rel => exact ⟨_, (false), (by first | rfl | (simp; done) | (simp [*]; done)), H', ⟨by have := HJ8.out; have := HK2.out; first | omega | exact Nat.le_refl _⟩, ⟨by (with_reducible repeat (first | apply Kd.R_alloc | apply Kd.R_drewN | apply Kd.R_drew)); exact HO_6.out⟩, ⟨by repeat (first | (with_reducible first | exact HB.out | apply below_alloc | apply pw_below_drewN | apply below_drew1) | exact HB.out)⟩⟩
                    case rest =>
                      as_aux_lemma =>
                        clear HC39
                        try clear c1
                        try clear p2
                        try clear c3
                        try clear c4
                        try clear p6
                        try clear p8
                        try clear q8
                        try clear hx8
                        try clear c13
                        try clear c13b0
                        try clear c13b1
                        try clear c13b2
                        try clear c15
                        try clear c16
                        try clear c17
                        try clear c19
                        try clear c19b0
                        try clear c19b1
                        try clear c30
                        try clear c32
                        try clear c32b0
                        try clear c33
                        try clear c33b0
                        try clear c34
                        try clear c34b0
                        try clear c36
                        try clear c36b0
                        try clear c37
                        try clear c37b0
                        try clear c38
                        try clear c38b0
                        try clear c38b1
                        try clear c40
                        try clear hx809_0
                        try clear hx810_0
                        try clear p2
                        try clear p809
                        try clear p810
                        try clear q809
                        try clear q810
                        obtain ⟨kq, x105_38, rfl, HA, HJ38, HO_6, HB⟩ := hcut
                        cases kq with
                        | zero => exact absurd HA.out (by simp [laws_FnSignsCounted.j2])
                        | succ kj38 =>
                          have H := HA.out
                          clear HA
                          simp only [laws_FnSignsCounted.j2] at H
                          have HC41 := Aside0.mk H
                          clear H
                          go_upto_if 105 with (fail)
                          repeat (go_quiet (fail); go_upto_if 105 with (fail))
                          go_cut [] (fun wc => ∃ (kq : Nat), Aside0 (laws_FnSignsCounted.j5 kq l1 = some r) ∧ Aside0 (kq ≤ kj38) ∧ Aside0 (Below w.heap.size w wc))
                          case first =>
                            as_aux_lemma =>
                              have H := HC41.out
                              clear HC41
                              by_cases c42 : x105_38 = true
                              · subst c42
                                have H1 : ((impl_CountSigns.f kj38 (wrap64 (t796 - 1))).bind fun bt811 => (if bt811.2 = true then (if 0 < (t797.length : Int) then (laws_FnSignsCounted.j3 kj38 l1 t796 t797 ((rd t797 0) != bt811.1)) else (none)) else (laws_FnSignsCounted.j3 kj38 l1 t796 t797 true))) = some r := by rw [if_pos rfl] at H; exact H
                                clear H
                                have H := H1
                                clear H1
                                replace H := Option.bind_eq_some_iff.mp H
                                obtain ⟨⟨t811, t812⟩, A430, H⟩ := H
                                replace H : (if t812 = true then (if 0 < (t797.length : Int) then (laws_FnSignsCounted.j3 kj38 l1 t796 t797 ((rd t797 0) != t811)) else (none)) else (laws_FnSignsCounted.j3 kj38 l1 t796 t797 true)) = some r := H
                                have A43 := Aside0.mk A430
                                clear A430
                                have HC44 := Aside0.mk H
                                clear H
                                go_upto_region 17 with (first | (go_at_call 54; (with_reducible refine (impl_CountSigns.calls kj38 (wrap64 (t796 - 1)) t811 t812 _ A43.out).mono ?_); rintro e w' ⟨rfl, ⟨nd, rfl⟩⟩; (try first | exact ⟨rfl, _, World.drewN_drewN _ _ _⟩ | exact ⟨rfl, _, Eq.trans (World.drewN_drewN _ _ _) (congrArg (World.drewN _) (Nat.add_assoc _ _ _))⟩)))
                                repeat (go_quiet (first | (go_at_call 54; (with_reducible refine (impl_CountSigns.calls kj38 (wrap64 (t796 - 1)) t811 t812 _ A43.out).mono ?_); rintro e w' ⟨rfl, ⟨nd, rfl⟩⟩; (try first | exact ⟨rfl, _, World.drewN_drewN _ _ _⟩ | exact ⟨rfl, _, Eq.trans (World.drewN_drewN _ _ _) (congrArg (World.drewN _) (Nat.add_assoc _ _ _))⟩))); go_upto_region 17 with (first | (go_at_call 54; (with_reducible refine (impl_CountSigns.calls kj38 (wrap64 (t796 - 1)) t811 t812 _ A43.out).mono ?_); rintro e w' ⟨rfl, ⟨nd, rfl⟩⟩; (try first | exact ⟨rfl, _, World.drewN_drewN _ _ _⟩ | exact ⟨rfl, _, Eq.trans (World.drewN_drewN _ _ _) (congrArg (World.drewN _) (Nat.add_assoc _ _ _))⟩))))
                                (try simp only [Act.put, List.setIfInBounds_toArray, List.set_cons_zero, List.set_cons_succ])
                                go_cut [120] (fun v120 wc => ∃ (kq : Nat) (x120_43 : Bool), v120 = .bool x120_43 ∧ Aside0 (laws_FnSignsCounted.j3 kq l1 t796 t797 x120_43 = some r) ∧ Aside0 (kq ≤ kj38) ∧ Aside0 (Kd.R (Kd.int .i64) 3 wc w.heap.size (fun _ => True) (.slice Ao31 t797.length co31) t797) ∧ Aside0 (Below w.heap.size w wc))
                                case first =>
                                  as_aux_lemma =>
                                    have H := HC44.out
                                    clear HC44
                                    by_cases c45 : t812 = true
                                    · subst c45
                                      have H1 : (if 0 < (t797.length : Int) then (laws_FnSignsCounted.j3 kj38 l1 t796 t797 ((rd t797 0) != t811)) else (none)) = some r := by rw [if_pos rfl] at H; exact H
                                      clear H
                                      have H := H1
                                      clear H1
                                      by_cases c46 : 0 < (t797.length : Int)
                                      · rw [if_pos c46] at H
                                        have c46b0 : decide (0 < (t797.length : Int)) = true := decide_eq_true c46
                                        have c46b1 : decide (0 < t797.length) = true := decide_eq_true (by omega)
                                        clear c46
                                        (first | rw [c46b0] | (simp only [i64_w, i32_w]; rw [c46b0]) | skip)
                                        have H' := Aside0.mk H
                                        clear H
                                        have p813 : 0 ≤ (0 : Int) := (by omega)
                                        have q813 : 0 < (t797.length : Int) := of_decide_eq_true (by first | (with_reducible assumption) | assumption)
                                        obtain ⟨ad813, e813, hx813_0⟩ := Kd.at_int (Kd.R_reads' HO_6.out).2.2 0 p813 q813
                                        cases e813
                                        have qi813 : (0 < t797.length) = True := eq_true (by omega)
                                        (try rw [show ((0 : Int)).toNat = 0 from rfl] at hx813_0)
                                        (try rw [Addr.add_zero'] at hx813_0)
                                        replace p813 := eq_true p813
                                        replace q813 := eq_true q813
                                        go_wp2
                                        repeat (go_quiet (fail); try go_wp2)
                                        go_meet
                                        case rel => exact ⟨_, (((rd t797 0) != t811)), (by first | rfl | (simp; done) | (simp [*]; done)), H', ⟨by have := HJ8.out; have := HK2.out; have := HJ38.out; first | omega | exact Nat.le_refl _⟩, ⟨by (with_reducible repeat (first | apply Kd.R_alloc | apply Kd.R_drewN | apply Kd.R_drew)); exact HO_6.out⟩, ⟨by repeat (first | (with_reducible first | exact HB.out | apply below_alloc | apply pw_below_drewN | apply below_drew1) | exact HB.out)⟩⟩
                                      · rw [if_neg c46] at H
                                        exact absurd H (by simp)
                                    · replace c45 := Bool.eq_false_iff.mpr c45
                                      subst c45
                                      have H1 : (laws_FnSignsCounted.j3 kj38 l1 t796 t797 true) = some r := by rw [if_neg (show ¬ (false = true) by decide)] at H; exact H
                                      clear H
                                      have H := H1
                                      clear H1
                                      have H' := Aside0.mk H
                                      clear H
                                      go_wp2
                                      repeat (go_quiet (fail); try go_wp2)
                                      go_meet
                                      case rel => exact ⟨_, (true), (by first | rfl | (simp; done) | (simp [*]; done)), H', ⟨by have := HJ8.out; have := HK2.out; have := HJ38.out; first | omega | exact Nat.le_refl _⟩, ⟨by (with_reducible repeat (first | apply Kd.R_alloc | apply Kd.R_drewN | apply Kd.R_drew)); exact HO_6.out⟩, ⟨by repeat (first | (with_reducible first | exact HB.out | apply below_alloc | apply pw_below_drewN | apply below_drew1) | exact HB.out)⟩⟩
                                case rest =>
                                  as_aux_lemma =>
                                    clear HC44
                                    try clear c1
                                    try clear p2
                                    try clear c3
                                    try clear c4
                                    try clear p6
                                    try clear p8
                                    try clear q8
                                    try clear hx8
                                    try clear qi8
                                    try clear c13
                                    try clear c13b0
                                    try clear c13b1
                                    try clear c13b2
                                    try clear c15
                                    try clear c16
                                    try clear c17
                                    try clear c19
                                    try clear c19b0
                                    try clear c19b1
                                    try clear c30
                                    try clear c32
                                    try clear c32b0
                                    try clear c33
                                    try clear c33b0
                                    try clear c34
                                    try clear c34b0
                                    try clear c36
                                    try clear c36b0
                                    try clear c37
                                    try clear c37b0
                                    try clear c38
                                    try clear c38b0
                                    try clear c38b1
                                    try clear c40
                                    try clear c42
                                    try clear c45
                                    try clear c46
                                    try clear c46b0
                                    try clear c46b1
                                    try clear hx809_0
                                    try clear hx810_0
                                    try clear hx813_0
                                    try clear p2
                                    try clear p6
                                    try clear p8
                                    try clear p809
                                    try clear p810
                                    try clear p813
                                    try clear q8
                                    try clear q809
                                    try clear q810
                                    try clear q813
                                    obtain ⟨kq, x120_43, rfl, HA, HJ43, HO_6, HB⟩ := hcut
                                    cases kq with
                                    | zero => exact absurd HA.out (by simp [laws_FnSignsCounted.j3])
                                    | succ kj43 =>
                                      have H := HA.out
                                      clear HA
                                      simp only [laws_FnSignsCounted.j3] at H
                                      by_cases c47 : x120_43 = true
                                      · subst c47
                                        have H1 : (some false) = some r := by rw [if_pos rfl] at H; exact H
                                        clear H
                                        have H := H1
                                        clear H1
                                        obtain rfl := Option.some.inj H
                                        go_wp2
                                        repeat (go_quiet (fail); try go_wp2)
                                        go_ret
                                        exact ⟨by first | rfl | (simp [errW_none, errW_some] <;> rfl) | (simp [*, errW_none, errW_some] <;> rfl), by repeat (first | (with_reducible first | exact HB.out | apply below_alloc | apply pw_below_drewN | apply below_drew1) | exact HB.out)⟩
                                      · replace c47 := Bool.eq_false_iff.mpr c47
                                        subst c47
                                        have H1 : (laws_FnSignsCounted.l1 kj43 l1 t796 t797 0) = some r := by rw [if_neg (show ¬ (false = true) by decide)] at H; exact H
                                        clear H
                                        have H := H1
                                        clear H1
                                        have H' := Aside0.mk H
                                        clear H
                                        go_wp2
                                        repeat (go_quiet (fail); try go_wp2)
                                        go_loopg [16] kj43 (fun kq v16 w' => ∃ (x16_5 : Int), v16 = .int .i64 x16_5 ∧ Aside0 (laws_FnSignsCounted.l1 kq l1 t796 t797 x16_5 = some r) ∧ Aside0 (kq ≤ kj43) ∧ Aside0 (Kd.R (Kd.int .i64) 3 w' w.heap.size (fun _ => True) (.slice Ao31 t797.length co31) t797) ∧ Aside0 (Below w.heap.size w w'))
                                        case atStart => exact ⟨(0), (by first | rfl | (simp; done) | (simp [*]; done)), H', ⟨Nat.le_refl _⟩, ⟨by (with_reducible repeat (first | apply Kd.R_alloc | apply Kd.R_drewN | apply Kd.R_drew)); exact HO_6.out⟩, ⟨by repeat (first | (with_reducible first | exact HB.out | apply below_alloc | apply pw_below_drewN | apply below_drew1) | exact HB.out)⟩⟩
                                        case round =>
                                          as_aux_lemma =>
                                            clear H'
                                            try clear c1
                                            try clear p2
                                            try clear c3
                                            try clear c4
                                            try clear p6
                                            try clear p8
                                            try clear q8
                                            try clear hx8
                                            try clear qi8
                                            try clear c13
                                            try clear c13b0
                                            try clear c13b1
                                            try clear c13b2
                                            try clear c15
                                            try clear c16
                                            try clear c17
                                            try clear c19
                                            try clear c19b0
                                            try clear c19b1
                                            try clear c30
                                            try clear c32
                                            try clear c32b0
                                            try clear c33
                                            try clear c33b0
                                            try clear c34
                                            try clear c34b0
                                            try clear c36
                                            try clear c36b0
                                            try clear c37
                                            try clear c37b0
                                            try clear c38
                                            try clear c38b0
                                            try clear c38b1
                                            try clear c40
                                            try clear c42
                                            try clear c45
                                            try clear c46
                                            try clear c46b0
                                            try clear c46b1
                                            try clear c47
                                            try clear hx809_0
                                            try clear hx810_0
                                            try clear hx813_0
                                            try clear p2
                                            try clear p6
                                            try clear p8
                                            try clear p809
                                            try clear p810
                                            try clear p813
                                            try clear q8
                                            try clear q809
                                            try clear q810
                                            try clear q813
                                            obtain ⟨x16_5, rfl, HA, HK5, HO_6, HB⟩ := hrel
                                            cases gk with
                                            | zero => exact absurd HA.out (by simp [laws_FnSignsCounted.l1])
                                            | succ k5 =>
                                              have H := HA.out
                                              clear HA
                                              simp only [laws_FnSignsCounted.l1] at H
                                              by_cases c48 : (wrap64 (x16_5 + 1)) < t796
                                              · rw [if_pos c48] at H
                                                have c48b0 : decide ((wrap64 (x16_5 + 1)) < t796) = true := decide_eq_true c48
                                                clear c48
                                                by_cases c49 : 0 ≤ x16_5
                                                · rw [if_pos c49] at H
                                                  have c49b0 : decide (0 ≤ x16_5) = true := decide_eq_true c49
                                                  clear c49
                                                  by_cases c50 : x16_5 < (t797.length : Int)
                                                  · rw [if_pos c50] at H
                                                    have c50b0 : decide (x16_5 < (t797.length : Int)) = true := decide_eq_true c50
                                                    clear c50
                                                    obtain ⟨ji51, hji51⟩ : ∃ j_ : Int, (wrap64 (x16_5 + 1)) = j_ := ⟨_, rfl⟩
                                                    replace H : (if 0 ≤ (ji51) then (if (ji51) < (t797.length : Int) then (if (wrap64 ((wrap64 ((rd t797 x16_5) * (wrap64 ((wrap64 (t796 - x16_5)) - 1)))) * (wrap64 (t796 + x16_5)))) = (wrap64 ((wrap64 ((rd t797 (ji51)) * (ji51))) * (wrap64 ((wrap64 ((wrap64 (2 * t796)) - x16_5)) - 2)))) then (laws_FnSignsCounted.l1 k5 l1 t796 t797 ji51) else (some false)) else (none)) else (none)) = some r := by first | (rw [hji51] at H; exact H) | (simp only [hji51] at H ⊢; exact H)
                                                    (try rw [hji51] at c48b0)
                                                    have hji51w : (IntKind.i64.wrap (x16_5 + 1)) = ji51 := (i64_w _).trans hji51
                                                    by_cases c52 : 0 ≤ (ji51)
                                                    · rw [if_pos c52] at H
                                                      have c52b0 : decide (0 ≤ (ji51)) = true := decide_eq_true c52
                                                      clear c52
                                                      by_cases c53 : (ji51) < (t797.length : Int)
                                                      · rw [if_pos c53] at H
                                                        have c53b0 : decide ((ji51) < (t797.length : Int)) = true := decide_eq_true c53
                                                        clear c53
                                                        by_cases c54 : (wrap64 ((wrap64 ((rd t797 x16_5) * (wrap64 ((wrap64 (t796 - x16_5)) - 1)))) * (wrap64 (t796 + x16_5)))) = (wrap64 ((wrap64 ((rd t797 (ji51)) * (ji51))) * (wrap64 ((wrap64 ((wrap64 (2 * t796)) - x16_5)) - 2))))
                                                        · rw [if_pos c54] at H
                                                          have c54b0 : ((wrap64 ((wrap64 ((rd t797 x16_5) * (wrap64 ((wrap64 (t796 - x16_5)) - 1)))) * (wrap64 (t796 + x16_5)))) == (wrap64 ((wrap64 ((rd t797 (ji51)) * (ji51))) * (wrap64 ((wrap64 ((wrap64 (2 * t796)) - x16_5)) - 2))))) = true := beq_iff_eq.mpr c54
                                                          have c54b1 : ((wrap64 ((wrap64 ((rd t797 x16_5) * (wrap64 ((wrap64 (t796 - x16_5)) - 1)))) * (wrap64 (t796 + x16_5)))) != (wrap64 ((wrap64 ((rd t797 (ji51)) * (ji51))) * (wrap64 ((wrap64 ((wrap64 (2 * t796)) - x16_5)) - 2))))) = false := bne_eq_false_iff_eq.mpr c54
                                                          clear c54
                                                          have H' := Aside0.mk H
                                                          clear H
                                                          have p814 : 0 ≤ (x16_5 : Int) := of_decide_eq_true (by first | (with_reducible assumption) | assumption)
                                                          have q814 : x16_5 < (t797.length : Int) := of_decide_eq_true (by first | (with_reducible assumption) | assumption)
                                                          obtain ⟨ad814, e814, hx814_0⟩ := Kd.at_int (Kd.R_reads' HO_6.out).2.2 x16_5 p814 q814
                                                          cases e814
                                                          replace p814 := eq_true p814
                                                          replace q814 := eq_true q814
                                                          have p815 : 0 ≤ ((ji51) : Int) := of_decide_eq_true (by first | (with_reducible assumption) | assumption)
                                                          have q815 : (ji51) < (t797.length : Int) := of_decide_eq_true (by first | (with_reducible assumption) | assumption)
                                                          obtain ⟨ad815, e815, hx815_0⟩ := Kd.at_int (Kd.R_reads' HO_6.out).2.2 (ji51) p815 q815
                                                          obtain rfl : ad814 = ad815 := (by injection e815)
                                                          replace p815 := eq_true p815
                                                          replace q815 := eq_true q815
                                                          go_wp2
                                                          repeat (go_quiet (fail); try go_wp2)
                                                          go_roundg k5
                                                          case measure => have := HJ8.out; have := HK2.out; have := HJ38.out; have := HJ43.out; have := HK5.out; omega
                                                          case rel => exact ⟨(ji51), (by first | rfl | (simp; done) | (simp only [← hji51] <;> (first | rfl | simp)) | (simp [*]; done)), H', ⟨by have := HJ8.out; have := HK2.out; have := HJ38.out; have := HJ43.out; have := HK5.out; omega⟩, ⟨by (with_reducible repeat (first | apply Kd.R_alloc | apply Kd.R_drewN | apply Kd.R_drew)); exact HO_6.out⟩, ⟨by repeat (first | (with_reducible first | exact HB.out | apply below_alloc | apply pw_below_drewN | apply below_drew1) | exact HB.out)⟩⟩
                                                        · rw [if_neg c54] at H
                                                          have c54b0 : ((wrap64 ((wrap64 ((rd t797 x16_5) * (wrap64 ((wrap64 (t796 - x16_5)) - 1)))) * (wrap64 (t796 + x16_5)))) == (wrap64 ((wrap64 ((rd t797 (ji51)) * (ji51))) * (wrap64 ((wrap64 ((wrap64 (2 * t796)) - x16_5)) - 2))))) = false := beq_eq_false_iff_ne.mpr c54
                                                          have c54b1 : ((wrap64 ((wrap64 ((rd t797 x16_5) * (wrap64 ((wrap64 (t796 - x16_5)) - 1)))) * (wrap64 (t796 + x16_5)))) != (wrap64 ((wrap64 ((rd t797 (ji51)) * (ji51))) * (wrap64 ((wrap64 ((wrap64 (2 * t796)) - x16_5)) - 2))))) = true := bne_iff_ne.mpr c54
                                                          obtain rfl := Option.some.inj H
                                                          have p814 : 0 ≤ (x16_5 : Int) := of_decide_eq_true (by first | (with_reducible assumption) | assumption)
                                                          have q814 : x16_5 < (t797.length : Int) := of_decide_eq_true (by first | (with_reducible assumption) | assumption)
                                                          obtain ⟨ad814, e814, hx814_0⟩ := Kd.at_int (Kd.R_reads' HO_6.out).2.2 x16_5 p814 q814
                                                          cases e814
                                                          replace p814 := eq_true p814
                                                          replace q814 := eq_true q814
                                                          have p815 : 0 ≤ ((ji51) : Int) := of_decide_eq_true (by first | (with_reducible assumption) | assumption)
                                                          have q815 : (ji51) < (t797.length : Int) := of_decide_eq_true (by first | (with_reducible assumption) | assumption)
                                                          obtain ⟨ad815, e815, hx815_0⟩ := Kd.at_int (Kd.R_reads' HO_6.out).2.2 (ji51) p815 q815
                                                          obtain rfl : ad814 = ad815 := (by injection e815)
                                                          replace p815 := eq_true p815
                                                          replace q815 := eq_true q815
                                                          go_wp2
                                                          repeat (go_quiet (fail); try go_wp2)
                                                          go_ret
                                                          exact ⟨by first | rfl | (simp [errW_none, errW_some] <;> rfl) | (simp only [← hji51]; first | rfl | (simp [errW_none, errW_some] <;> rfl)) | (simp [*, errW_none, errW_some] <;> rfl), by repeat (first | (with_reducible first | exact HB.out | apply below_alloc | apply pw_below_drewN | apply below_drew1) | exact HB.out)⟩
                                                      · rw [if_neg c53] at H
                                                        exact absurd H (by simp)
                                                    · rw [if_neg c52] at H
                                                      exact absurd H (by simp)
                                                  · rw [if_neg c50] at H
                                                    exact absurd H (by simp)
                                                · rw [if_neg c49] at H
                                                  exact absurd H (by simp)
                                              · rw [if_neg c48] at H
                                                have c48b0 : decide ((wrap64 (x16_5 + 1)) < t796) = false := decide_eq_false c48
                                                clear c48
                                                have H' := Aside0.mk H
                                                clear H
                                                go_wp2
                                                repeat (go_quiet (fail); try go_wp2)
                                                go_meet
                                                case rel => exact ⟨_, H', ⟨by have := HJ8.out; have := HK2.out; have := HJ38.out; have := HJ43.out; have := HK5.out; first | omega | exact Nat.le_refl _⟩, ⟨by repeat (first | (with_reducible first | exact HB.out | apply below_alloc | apply pw_below_drewN | apply below_drew1) | exact HB.out)⟩⟩
                              · replace c42 := Bool.eq_false_iff.mpr c42
                                subst c42
                                have H1 : (laws_FnSignsCounted.j5 kj38 l1) = some r := by rw [if_neg (show ¬ (false = true) by decide)] at H; exact H
                                clear H
                                have H := H1
                                clear H1
                                have H' := Aside0.mk H
                                clear H
                                go_wp2
                                repeat (go_quiet (fail); try go_wp2)
                                go_meet
                                case rel => exact ⟨_, H', ⟨by have := HJ8.out; have := HK2.out; have := HJ38.out; first | omega | exact Nat.le_refl _⟩, ⟨by repeat (first | (with_reducible first | exact HB.out | apply below_alloc | apply pw_below_drewN | apply below_drew1) | exact HB.out)⟩⟩
                          case rest =>
                            as_aux_lemma =>
                              clear HC41
                              try clear c1
                              try clear p2
                              try clear c3
                              try clear c4
                              try clear c5
                              try clear p6
                              try clear p8
                              try clear q8
                              try clear hx8
                              try clear qi8
                              try clear c13
                              try clear c13b0
                              try clear c13b1
                              try clear c13b2
                              try clear c15
                              try clear c16
                              try clear c17
                              try clear c19
                              try clear c19b0
                              try clear c19b1
                              try clear c30
                              try clear c32
                              try clear c32b0
                              try clear c33
                              try clear c33b0
                              try clear c34
                              try clear c34b0
                              try clear c36
                              try clear c36b0
                              try clear c37
                              try clear c37b0
                              try clear c38
                              try clear c38b0
                              try clear c38b1
                              try clear c40
                              try clear c42
                              try clear c45
                              try clear c46
                              try clear c46b0
                              try clear c46b1
                              try clear c47
                              try clear c48
                              try clear c48b0
                              try clear c49
                              try clear c49b0
                              try clear c50
                              try clear c50b0
                              try clear c52
                              try clear c52b0
                              try clear c53
                              try clear c53b0
                              try clear c54
                              try clear c54b0
                              try clear c54b1
                              try clear hx809_0
                              try clear hx810_0
                              try clear hx813_0
                              try clear hx814_0
                              try clear hx815_0
                              try clear p2
                              try clear p6
                              try clear p8
                              try clear p809
                              try clear p810
                              try clear p813
                              try clear p814
                              try clear p815
                              try clear q8
                              try clear q809
                              try clear q810
                              try clear q813
                              try clear q814
                              try clear q815
                              obtain ⟨kq, HA, HJ40, HB⟩ := hcut
                              cases kq with
                              | zero => exact absurd HA.out (by simp [laws_FnSignsCounted.j5])
                              | succ kj40 =>
                                have H := HA.out
                                clear HA
                                simp only [laws_FnSignsCounted.j5] at H
                                replace H := Option.bind_eq_some_iff.mp H
                                obtain ⟨t816, A550, H⟩ := H
                                replace H : ((impl_CountByMinus.f t816).bind fun bt817 => ((spec_CountByMinus.f kj40 t816).bind fun bt821 => ((impl_CountByInversions.f t816).bind fun bt825 => ((spec_CountByInversions.f kj40 t816).bind fun bt829 => (if (bt817.2 != bt821.2) = true then (laws_FnSignsCounted.j6 kj40 t816 bt817.1 bt817.2 bt825.1 true) else ((laws_hSame.f kj40 bt817.1 bt821.1).bind fun t833 => (if t833 = true then (if (bt825.2 != bt829.2) = true then (laws_FnSignsCounted.j6 kj40 t816 bt817.1 bt817.2 bt825.1 true) else ((laws_hSame.f kj40 bt825.1 bt829.1).bind fun t834 => (if t834 = true then (laws_FnSignsCounted.j6 kj40 t816 bt817.1 bt817.2 bt825.1 (bt825.2 != bt817.2)) else (laws_FnSignsCounted.j6 kj40 t816 bt817.1 bt817.2 bt825.1 true)))) else (laws_FnSignsCounted.j6 kj40 t816 bt817.1 bt817.2 bt825.1 true)))))))) = some r := H
                                have A55 := Aside0.mk A550
                                clear A550
                                replace H := Option.bind_eq_some_iff.mp H
                                obtain ⟨⟨t817, t818⟩, A560, H⟩ := H
                                replace H : ((spec_CountByMinus.f kj40 t816).bind fun bt821 => ((impl_CountByInversions.f t816).bind fun bt825 => ((spec_CountByInversions.f kj40 t816).bind fun bt829 => (if (t818 != bt821.2) = true then (laws_FnSignsCounted.j6 kj40 t816 t817 t818 bt825.1 true) else ((laws_hSame.f kj40 t817 bt821.1).bind fun t833 => (if t833 = true then (if (bt825.2 != bt829.2) = true then (laws_FnSignsCounted.j6 kj40 t816 t817 t818 bt825.1 true) else ((laws_hSame.f kj40 bt825.1 bt829.1).bind fun t834 => (if t834 = true then (laws_FnSignsCounted.j6 kj40 t816 t817 t818 bt825.1 (bt825.2 != t818)) else (laws_FnSignsCounted.j6 kj40 t816 t817 t818 bt825.1 true)))) else (laws_FnSignsCounted.j6 kj40 t816 t817 t818 bt825.1 true))))))) = some r := H
                                have A56 := Aside0.mk A560
                                clear A560
                                replace H := Option.bind_eq_some_iff.mp H
                                obtain ⟨⟨t821, t822⟩, A570, H⟩ := H
                                replace H : ((impl_CountByInversions.f t816).bind fun bt825 => ((spec_CountByInversions.f kj40 t816).bind fun bt829 => (if (t818 != t822) = true then (laws_FnSignsCounted.j6 kj40 t816 t817 t818 bt825.1 true) else ((laws_hSame.f kj40 t817 t821).bind fun t833 => (if t833 = true then (if (bt825.2 != bt829.2) = true then (laws_FnSignsCounted.j6 kj40 t816 t817 t818 bt825.1 true) else ((laws_hSame.f kj40 bt825.1 bt829.1).bind fun t834 => (if t834 = true then (laws_FnSignsCounted.j6 kj40 t816 t817 t818 bt825.1 (bt825.2 != t818)) else (laws_FnSignsCounted.j6 kj40 t816 t817 t818 bt825.1 true)))) else (laws_FnSignsCounted.j6 kj40 t816 t817 t818 bt825.1 true)))))) = some r := H
                                have A57 := Aside0.mk A570
                                clear A570
                                replace H := Option.bind_eq_some_iff.mp H
                                obtain ⟨⟨t825, t826⟩, A580, H⟩ := H
                                replace H : ((spec_CountByInversions.f kj40 t816).bind fun bt829 => (if (t818 != t822) = true then (laws_FnSignsCounted.j6 kj40 t816 t817 t818 t825 true) else ((laws_hSame.f kj40 t817 t821).bind fun t833 => (if t833 = true then (if (t826 != bt829.2) = true then (laws_FnSignsCounted.j6 kj40 t816 t817 t818 t825 true) else ((laws_hSame.f kj40 t825 bt829.1).bind fun t834 => (if t834 = true then (laws_FnSignsCounted.j6 kj40 t816 t817 t818 t825 (t826 != t818)) else (laws_FnSignsCounted.j6 kj40 t816 t817 t818 t825 true)))) else (laws_FnSignsCounted.j6 kj40 t816 t817 t818 t825 true))))) = some r := H
                                have A58 := Aside0.mk A580
                                clear A580
                                replace H := Option.bind_eq_some_iff.mp H
                                obtain ⟨⟨t829, t830⟩, A590, H⟩ := H
                                replace H : (if (t818 != t822) = true then (laws_FnSignsCounted.j6 kj40 t816 t817 t818 t825 true) else ((laws_hSame.f kj40 t817 t821).bind fun t833 => (if t833 = true then (if (t826 != t830) = true then (laws_FnSignsCounted.j6 kj40 t816 t817 t818 t825 true) else ((laws_hSame.f kj40 t825 t829).bind fun t834 => (if t834 = true then (laws_FnSignsCounted.j6 kj40 t816 t817 t818 t825 (t826 != t818)) else (laws_FnSignsCounted.j6 kj40 t816 t817 t818 t825 true)))) else (laws_FnSignsCounted.j6 kj40 t816 t817 t818 t825 true)))) = some r := H
                                have A59 := Aside0.mk A590
                                clear A590
                                have HC60 := Aside0.mk H
                                clear H
                                go_upto_region 29 with (first | (go_at_call 57; (with_reducible refine (spec_DrawCountByMinus.calls _ _ l1 t816 _ ?side1 ?side2 A55.out).mono ?_); (case side1 => repeat (first | exact (Kd.C_below HR1.out HB.out) | (with_reducible refine Kd.C_alloc ?_ _) | (with_reducible refine Kd.C_drewN ?_ _) | (with_reducible refine Kd.C_drew ?_))); (case side2 => exact HC1.out); rintro e w61 ⟨rfl, hb⟩; have n0_ := Aside0.mk (below_step (by repeat (first | (with_reducible first | exact HB.out | apply below_alloc | apply pw_below_drewN | apply below_drew1) | exact HB.out)) hb); clear HB; have HB := n0_; clear n0_; (try clear hb); (try clear hb2); (try clear hk); (try clear hi)) | (go_at_call 36; (with_reducible refine (impl_CountByMinus.calls t816 t817 t818 _ A56.out).mono ?_); rintro e w62 ⟨v819, rfl, ho0, hb⟩; have n0_ := Aside0.mk (Kd.R_lower ho0 (below_size (by repeat (first | (with_reducible first | exact HB.out | apply below_alloc | apply pw_below_drewN | apply below_drew1) | exact HB.out)))); have n1_ := Aside0.mk (below_step (by repeat (first | (with_reducible first | exact HB.out | apply below_alloc | apply pw_below_drewN | apply below_drew1) | exact HB.out)) hb); clear HB; have HO820 := n0_; have HB := n1_; clear n0_ n1_; (try clear hb); (try clear hb2); (try clear hk); (try clear hi); (try clear ho0)) | (go_at_call 35; (with_reducible refine (spec_CountByMinus.calls kj40 t816 t821 t822 _ A57.out).mono ?_); rintro e w63 ⟨v823, rfl, ho0, hb⟩; have n0_ := Aside0.mk (Kd.R_elder' (by (with_reducible repeat (first | apply Kd.R_alloc | apply Kd.R_drewN | apply Kd.R_drew)); exact HO820.out) (Kd.R_base ho0) hb); have n1_ := Aside0.mk (Kd.R_lower (Kd.R_new' ho0 (Kd.R_lt (by (with_reducible repeat (first | apply Kd.R_alloc | apply Kd.R_drewN | apply Kd.R_drew)); exact HO820.out))) (below_size (by repeat (first | (with_reducible first | exact HB.out | apply below_alloc | apply pw_below_drewN | apply below_drew1) | exact HB.out)))); have n2_ := Aside0.mk (below_step (by repeat (first | (with_reducible first | exact HB.out | apply below_alloc | apply pw_below_drewN | apply below_drew1) | exact HB.out)) hb); clear HO820; clear HB; have HO820 := n0_; have HO824 := n1_; have HB := n2_; clear n0_ n1_ n2_; (try clear hb); (try clear hb2); (try clear hk); (try clear hi); (try clear ho0)) | (go_at_call 38; (with_reducible refine (impl_CountByInversions.calls t816 t825 t826 _ A58.out).mono ?_); rintro e w64 ⟨v827, rfl, ho0, hb⟩; have n0_ := Aside0.mk (Kd.R_elder' (by (with_reducible repeat (first | apply Kd.R_alloc | apply Kd.R_drewN | apply Kd.R_drew)); exact HO820.out) (Kd.R_base ho0) hb); have n1_ := Aside0.mk (Kd.R_elder' (by (with_reducible repeat (first | apply Kd.R_alloc | apply Kd.R_drewN | apply Kd.R_drew)); exact HO824.out) (Kd.R_base ho0) hb); have n2_ := Aside0.mk (Kd.R_lower (Kd.R_new' (Kd.R_new' ho0 (Kd.R_lt (by (with_reducible repeat (first | apply Kd.R_alloc | apply Kd.R_drewN | apply Kd.R_drew)); exact HO820.out))) (Kd.R_lt (by (with_reducible repeat (first | apply Kd.R_alloc | apply Kd.R_drewN | apply Kd.R_drew)); exact HO824.out))) (below_size (by repeat (first | (with_reducible first | exact HB.out | apply below_alloc | apply pw_below_drewN | apply below_drew1) | exact HB.out)))); have n3_ := Aside0.mk (below_step (by repeat (first | (with_reducible first | exact HB.out | apply below_alloc | apply pw_below_drewN | apply below_drew1) | exact HB.out)) hb); clear HO820; clear HO824; clear HB; have HO820 := n0_; have HO824 := n1_; have HO828 := n2_; have HB := n3_; clear n0_ n1_ n2_ n3_; (try clear hb); (try clear hb2); (try clear hk); (try clear hi); (try clear ho0)) | (go_at_call 37; (with_reducible refine (spec_CountByInversions.calls kj40 t816 t829 t830 _ A59.out).mono ?_); rintro e w65 ⟨v831, rfl, ho0, hb⟩; have n0_ := Aside0.mk (Kd.R_elder' (by (with_reducible repeat (first | apply Kd.R_alloc | apply Kd.R_drewN | apply Kd.R_drew)); exact HO820.out) (Kd.R_base ho0) hb); have n1_ := Aside0.mk (Kd.R_elder' (by (with_reducible repeat (first | apply Kd.R_alloc | apply Kd.R_drewN | apply Kd.R_drew)); exact HO824.out) (Kd.R_base ho0) hb); have n2_ := Aside0.mk (Kd.R_elder' (by (with_reducible repeat (first | apply Kd.R_alloc | apply Kd.R_drewN | apply Kd.R_drew)); exact HO828.out) (Kd.R_base ho0) hb); have n3_ := Aside0.mk (Kd.R_lower (Kd.R_new' (Kd.R_new' (Kd.R_new' ho0 (Kd.R_lt (by (with_reducible repeat (first | apply Kd.R_alloc | apply Kd.R_drewN | apply Kd.R_drew)); exact HO820.out))) (Kd.R_lt (by (with_reducible repeat (first | apply Kd.R_alloc | apply Kd.R_drewN | apply Kd.R_drew)); exact HO824.out))) (Kd.R_lt (by (with_reducible repeat (first | apply Kd.R_alloc | apply Kd.R_drewN | apply Kd.R_drew)); exact HO828.out))) (below_size (by repeat (first | (with_reducible first | exact HB.out | apply below_alloc | apply pw_below_drewN | apply below_drew1) | exact HB.out)))); have n4_ := Aside0.mk (below_step (by repeat (first | (with_reducible first | exact HB.out | apply below_alloc | apply pw_below_drewN | apply below_drew1) | exact HB.out)) hb); clear HO820; clear HO824; clear HO828; clear HB; have HO820 := n0_; have HO824 := n1_; have HO828 := n2_; have HO832 := n3_; have HB := n4_; clear n0_ n1_ n2_ n3_ n4_; (try clear hb); (try clear hb2); (try clear hk); (try clear hi); (try clear ho0)))
                                repeat (go_quiet (first | (go_at_call 57; (with_reducible refine (spec_DrawCountByMinus.calls _ _ l1 t816 _ ?side1 ?side2 A55.out).mono ?_); (case side1 => repeat (first | exact (Kd.C_below HR1.out HB.out) | (with_reducible refine Kd.C_alloc ?_ _) | (with_reducible refine Kd.C_drewN ?_ _) | (with_reducible refine Kd.C_drew ?_))); (case side2 => exact HC1.out); rintro e w61 ⟨rfl, hb⟩; have n0_ := Aside0.mk (below_step (by repeat (first | (with_reducible first | exact HB.out | apply below_alloc | apply pw_below_drewN | apply below_drew1) | exact HB.out)) hb); clear HB; have HB := n0_; clear n0_; (try clear hb); (try clear hb2); (try clear hk); (try clear hi)) | (go_at_call 36; (with_reducible refine (impl_CountByMinus.calls t816 t817 t818 _ A56.out).mono ?_); rintro e w62 ⟨v819, rfl, ho0, hb⟩; have n0_ := Aside0.mk (Kd.R_lower ho0 (below_size (by repeat (first | (with_reducible first | exact HB.out | apply below_alloc | apply pw_below_drewN | apply below_drew1) | exact HB.out)))); have n1_ := Aside0.mk (below_step (by repeat (first | (with_reducible first | exact HB.out | apply below_alloc | apply pw_below_drewN | apply below_drew1) | exact HB.out)) hb); clear HB; have HO820 := n0_; have HB := n1_; clear n0_ n1_; (try clear hb); (try clear hb2); (try clear hk); (try clear hi); (try clear ho0)) | (go_at_call 35; (with_reducible refine (spec_CountByMinus.calls kj40 t816 t821 t822 _ A57.out).mono ?_); rintro e w63 ⟨v823, rfl, ho0, hb⟩; have n0_ := Aside0.mk (Kd.R_elder' (by (with_reducible repeat (first | apply Kd.R_alloc | apply Kd.R_drewN | apply Kd.R_drew)); exact HO820.out) (Kd.R_base ho0) hb); have n1_ := Aside0.mk (Kd.R_lower (Kd.R_new' ho0 (Kd.R_lt (by (with_reducible repeat (first | apply Kd.R_alloc | apply Kd.R_drewN | apply Kd.R_drew)); exact HO820.out))) (below_size (by repeat (first | (with_reducible first | exact HB.out | apply below_alloc | apply pw_below_drewN | apply below_drew1) | exact HB.out)))); have n2_ := Aside0.mk (below_step (by repeat (first | (with_reducible first | exact HB.out | apply below_alloc | apply pw_below_drewN | apply below_drew1) | exact HB.out)) hb); clear HO820; clear HB; have HO820 := n0_; have HO824 := n1_; have HB := n2_; clear n0_ n1_ n2_; (try clear hb); (try clear hb2); (try clear hk); (try clear hi); (try clear ho0)) | (go_at_call 38; (with_reducible refine (impl_CountByInversions.calls t816 t825 t826 _ A58.out).mono ?_); rintro e w64 ⟨v827, rfl, ho0, hb⟩; have n0_ := Aside0.mk (Kd.R_elder' (by (with_reducible repeat (first | apply Kd.R_alloc | apply Kd.R_drewN | apply Kd.R_drew)); exact HO820.out) (Kd.R_base ho0) hb); have n1_ := Aside0.mk (Kd.R_elder' (by (with_reducible repeat (first | apply Kd.R_alloc | apply Kd.R_drewN | apply Kd.R_drew)); exact HO824.out) (Kd.R_base ho0) hb); have n2_ := Aside0.mk (Kd.R_lower (Kd.R_new' (Kd.R_new' ho0 (Kd.R_lt (by (with_reducible repeat (first | apply Kd.R_alloc | apply Kd.R_drewN | apply Kd.R_drew)); exact HO820.out))) (Kd.R_lt (by (with_reducible repeat (first | apply Kd.R_alloc | apply Kd.R_drewN | apply Kd.R_drew)); exact HO824.out))) (below_size (by repeat (first | (with_reducible first | exact HB.out | apply below_alloc | apply pw_below_drewN | apply below_drew1) | exact HB.out)))); have n3_ := Aside0.mk (below_step (by repeat (first | (with_reducible first | exact HB.out | apply below_alloc | apply pw_below_drewN | apply below_drew1) | exact HB.out)) hb); clear HO820; clear HO824; clear HB; have HO820 := n0_; have HO824 := n1_; have HO828 := n2_; have HB := n3_; clear n0_ n1_ n2_ n3_; (try clear hb); (try clear hb2); (try clear hk); (try clear hi); (try clear ho0)) | (go_at_call 37; (with_reducible refine (spec_CountByInversions.calls kj40 t816 t829 t830 _ A59.out).mono ?_); rintro e w65 ⟨v831, rfl, ho0, hb⟩; have n0_ := Aside0.mk (Kd.R_elder' (by (with_reducible repeat (first | apply Kd.R_alloc | apply Kd.R_drewN | apply Kd.R_drew)); exact HO820.out) (Kd.R_base ho0) hb); have n1_ := Aside0.mk (Kd.R_elder' (by (with_reducible repeat (first | apply Kd.R_alloc | apply Kd.R_drewN | apply Kd.R_drew)); exact HO824.out) (Kd.R_base ho0) hb); have n2_ := Aside0.mk (Kd.R_elder' (by (with_reducible repeat (first | apply Kd.R_alloc | apply Kd.R_drewN | apply Kd.R_drew)); exact HO828.out) (Kd.R_base ho0) hb); have n3_ := Aside0.mk (Kd.R_lower (Kd.R_new' (Kd.R_new' (Kd.R_new' ho0 (Kd.R_lt (by (with_reducible repeat (first | apply Kd.R_alloc | apply Kd.R_drewN | apply Kd.R_drew)); exact HO820.out))) (Kd.R_lt (by (with_reducible repeat (first | apply Kd.R_alloc | apply Kd.R_drewN | apply Kd.R_drew)); exact HO824.out))) (Kd.R_lt (by (with_reducible repeat (first | apply Kd.R_alloc | apply Kd.R_drewN | apply Kd.R_drew)); exact HO828.out))) (below_size (by repeat (first | (with_reducible first | exact HB.out | apply below_alloc | apply pw_below_drewN | apply below_drew1) | exact HB.out)))); have n4_ := Aside0.mk (below_step (by repeat (first | (with_reducible first | exact HB.out | apply below_alloc | apply pw_below_drewN | apply below_drew1) | exact HB.out)) hb); clear HO820; clear HO824; clear HO828; clear HB; have HO820 := n0_; have HO824 := n1_; have HO828 := n2_; have HO832 := n3_; have HB := n4_; clear n0_ n1_ n2_ n3_ n4_; (try clear hb); (try clear hb2); (try clear hk); (try clear hi); (try clear ho0))); go_upto_region 29 with (first | (go_at_call 57; (with_reducible refine (spec_DrawCountByMinus.calls _ _ l1 t816 _ ?side1 ?side2 A55.out).mono ?_); (case side1 => repeat (first | exact (Kd.C_below HR1.out HB.out) | (with_reducible refine Kd.C_alloc ?_ _) | (with_reducible refine Kd.C_drewN ?_ _) | (with_reducible refine Kd.C_drew ?_))); (case side2 => exact HC1.out); rintro e w61 ⟨rfl, hb⟩; have n0_ := Aside0.mk (below_step (by repeat (first | (with_reducible first | exact HB.out | apply below_alloc | apply pw_below_drewN | apply below_drew1) | exact HB.out)) hb); clear HB; have HB := n0_; clear n0_; (try clear hb); (try clear hb2); (try clear hk); (try clear hi)) | (go_at_call 36; (with_reducible refine (impl_CountByMinus.calls t816 t817 t818 _ A56.out).mono ?_); rintro e w62 ⟨v819, rfl, ho0, hb⟩; have n0_ := Aside0.mk (Kd.R_lower ho0 (below_size (by repeat (first | (with_reducible first | exact HB.out | apply below_alloc | apply pw_below_drewN | apply below_drew1) | exact HB.out)))); have n1_ := Aside0.mk (below_step (by repeat (first | (with_reducible first | exact HB.out | apply below_alloc | apply pw_below_drewN | apply below_drew1) | exact HB.out)) hb); clear HB; have HO820 := n0_; have HB := n1_; clear n0_ n1_; (try clear hb); (try clear hb2); (try clear hk); (try clear hi); (try clear ho0)) | (go_at_call 35; (with_reducible refine (spec_CountByMinus.calls kj40 t816 t821 t822 _ A57.out).mono ?_); rintro e w63 ⟨v823, rfl, ho0, hb⟩; have n0_ := Aside0.mk (Kd.R_elder' (by (with_reducible repeat (first | apply Kd.R_alloc | apply Kd.R_drewN | apply Kd.R_drew)); exact HO820.out) (Kd.R_base ho0) hb); have n1_ := Aside0.mk (Kd.R_lower (Kd.R_new' ho0 (Kd.R_lt (by (with_reducible repeat (first | apply Kd.R_alloc | apply Kd.R_drewN | apply Kd.R_drew)); exact HO820.out))) (below_size (by repeat (first | (with_reducible first | exact HB.out | apply below_alloc | apply pw_below_drewN | apply below_drew1) | exact HB.out)))); have n2_ := Aside0.mk (below_step (by repeat (first | (with_reducible first | exact HB.out | apply below_alloc | apply pw_below_drewN | apply below_drew1) | exact HB.out)) hb); clear HO820; clear HB; have HO820 := n0_; have HO824 := n1_; have HB := n2_; clear n0_ n1_ n2_; (try clear hb); (try clear hb2); (try clear hk); (try clear hi); (try clear ho0)) | (go_at_call 38; (with_reducible refine (impl_CountByInversions.calls t816 t825 t826 _ A58.out).mono ?_); rintro e w64 ⟨v827, rfl, ho0, hb⟩; have n0_ := Aside0.mk (Kd.R_elder' (by (with_reducible repeat (first | apply Kd.R_alloc | apply Kd.R_drewN | apply Kd.R_drew)); exact HO820.out) (Kd.R_base ho0) hb); have n1_ := Aside0.mk (Kd.R_elder' (by (with_reducible repeat (first | apply Kd.R_alloc | apply Kd.R_drewN | apply Kd.R_drew)); exact HO824.out) (Kd.R_base ho0) hb); have n2_ := Aside0.mk (Kd.R_lower (Kd.R_new' (Kd.R_new' ho0 (Kd.R_lt (by (with_reducible repeat (first | apply Kd.R_alloc | apply Kd.R_drewN | apply Kd.R_drew)); exact HO820.out))) (Kd.R_lt (by (with_reducible repeat (first | apply Kd.R_alloc | apply Kd.R_drewN | apply Kd.R_drew)); exact HO824.out))) (below_size (by repeat (first | (with_reducible first | exact HB.out | apply below_alloc | apply pw_below_drewN | apply below_drew1) | exact HB.out)))); have n3_ := Aside0.mk (below_step (by repeat (first | (with_reducible first | exact HB.out | apply below_alloc | apply pw_below_drewN | apply below_drew1) | exact HB.out)) hb); clear HO820; clear HO824; clear HB; have HO820 := n0_; have HO824 := n1_; have HO828 := n2_; have HB := n3_; clear n0_ n1_ n2_ n3_; (try clear hb); (try clear hb2); (try clear hk); (try clear hi); (try clear ho0)) | (go_at_call 37; (with_reducible refine (spec_CountByInversions.calls kj40 t816 t829 t830 _ A59.out).mono ?_); rintro e w65 ⟨v831, rfl, ho0, hb⟩; have n0_ := Aside0.mk (Kd.R_elder' (by (with_reducible repeat (first | apply Kd.R_alloc | apply Kd.R_drewN | apply Kd.R_drew)); exact HO820.out) (Kd.R_base ho0) hb); have n1_ := Aside0.mk (Kd.R_elder' (by (with_reducible repeat (first | apply Kd.R_alloc | apply Kd.R_drewN | apply Kd.R_drew)); exact HO824.out) (Kd.R_base ho0) hb); have n2_ := Aside0.mk (Kd.R_elder' (by (with_reducible repeat (first | apply Kd.R_alloc | apply Kd.R_drewN | apply Kd.R_drew)); exact HO828.out) (Kd.R_base ho0) hb); have n3_ := Aside0.mk (Kd.R_lower (Kd.R_new' (Kd.R_new' (Kd.R_new' ho0 (Kd.R_lt (by (with_reducible repeat (first | apply Kd.R_alloc | apply Kd.R_drewN | apply Kd.R_drew)); exact HO820.out))) (Kd.R_lt (by (with_reducible repeat (first | apply Kd.R_alloc | apply Kd.R_drewN | apply Kd.R_drew)); exact HO824.out))) (Kd.R_lt (by (with_reducible repeat (first | apply Kd.R_alloc | apply Kd.R_drewN | apply Kd.R_drew)); exact HO828.out))) (below_size (by repeat (first | (with_reducible first | exact HB.out | apply below_alloc | apply pw_below_drewN | apply below_drew1) | exact HB.out)))); have n4_ := Aside0.mk (below_step (by repeat (first | (with_reducible first | exact HB.out | apply below_alloc | apply pw_below_drewN | apply below_drew1) | exact HB.out)) hb); clear HO820; clear HO824; clear HO828; clear HB; have HO820 := n0_; have HO824 := n1_; have HO828 := n2_; have HO832 := n3_; have HB := n4_; clear n0_ n1_ n2_ n3_ n4_; (try clear hb); (try clear hb2); (try clear hk); (try clear hi); (try clear ho0))))
                                (try simp only [Act.put, List.setIfInBounds_toArray, List.set_cons_zero, List.set_cons_succ])
                                go_cut [201] (fun v201 wc => ∃ (kq : Nat) (x201_59 : Bool), v201 = .bool x201_59 ∧ Aside0 (laws_FnSignsCounted.j6 kq t816 t817 t818 t825 x201_59 = some r) ∧ Aside0 (kq ≤ kj40) ∧ Aside0 (Kd.R (Kd.int .i64) 3 wc w.heap.size (fun k_ => some k_ ≠ (v827 : Value).ownBlock) v819 t817) ∧ Aside0 (Kd.R (Kd.int .i64) 3 wc w.heap.size (fun k_ => some k_ ≠ (v819 : Value).ownBlock) v827 t825) ∧ Aside0 (Below w.heap.size w wc))
                                case first =>
                                  as_aux_lemma =>
                                    have H := HC60.out
                                    clear HC60
                                    by_cases c66 : (t818 != t822) = true
                                    · rw [if_pos c66] at H
                                      have c66b0 : (t818 != t822) = true := c66
                                      (try (have c66b1 : decide (t818 = t822) = false := by simpa using c66))
                                      (try (have c66b2 : (t818 == t822) = false := by simpa using c66))
                                      (try (have c66b3 : ¬ (t818 = t822) := by simpa using c66))
                                      clear c66
                                      (first | rw [c66b0] | (simp only [i64_w, i32_w]; rw [c66b0]) | skip)
                                      have H' := Aside0.mk H
                                      clear H
                                      go_wp2
                                      repeat (go_quiet (fail); try go_wp2)
                                      go_meet
                                      case rel => exact ⟨_, (true), (by first | rfl | (simp; done) | (simp [*]; done)), H', ⟨by have := HJ8.out; have := HK2.out; have := HJ38.out; have := HJ40.out; first | omega | exact Nat.le_refl _⟩, ⟨by (with_reducible repeat (first | apply Kd.R_alloc | apply Kd.R_drewN | apply Kd.R_drew)); exact Kd.R_mono HO820.out (fun _ hk => hk.1.2)⟩, ⟨by (with_reducible repeat (first | apply Kd.R_alloc | apply Kd.R_drewN | apply Kd.R_drew)); exact Kd.R_mono HO828.out (fun _ hk => hk.1.1.2)⟩, ⟨by repeat (first | (with_reducible first | exact HB.out | apply below_alloc | apply pw_below_drewN | apply below_drew1) | exact HB.out)⟩⟩
                                    · rw [if_neg c66] at H
                                      have c66b0 : (t818 != t822) = false := by simpa using c66
                                      (try (have c66b1 : decide (t818 = t822) = true := by simpa using c66))
                                      (try (have c66b2 : (t818 == t822) = true := by simpa using c66))
                                      clear c66
                                      (first | rw [c66b0] | (simp only [i64_w, i32_w]; rw [c66b0]) | skip)
                                      replace H := Option.bind_eq_some_iff.mp H
                                      obtain ⟨t833, A670, H⟩ := H
                                      replace H : (if t833 = true then (if (t826 != t830) = true then (laws_FnSignsCounted.j6 kj40 t816 t817 t818 t825 true) else ((laws_hSame.f kj40 t825 t829).bind fun t834 => (if t834 = true then (laws_FnSignsCounted.j6 kj40 t816 t817 t818 t825 (t826 != t818)) else (laws_FnSignsCounted.j6 kj40 t816 t817 t818 t825 true)))) else (laws_FnSignsCounted.j6 kj40 t816 t817 t818 t825 true)) = some r := H
                                      have A67 := Aside0.mk A670
                                      clear A670
                                      by_cases c68 : t833 = true
                                      · subst c68
                                        have H1 : (if (t826 != t830) = true then (laws_FnSignsCounted.j6 kj40 t816 t817 t818 t825 true) else ((laws_hSame.f kj40 t825 t829).bind fun t834 => (if t834 = true then (laws_FnSignsCounted.j6 kj40 t816 t817 t818 t825 (t826 != t818)) else (laws_FnSignsCounted.j6 kj40 t816 t817 t818 t825 true)))) = some r := by rw [if_pos rfl] at H; exact H
                                        clear H
                                        have H := H1
                                        clear H1
                                        by_cases c69 : (t826 != t830) = true
                                        · rw [if_pos c69] at H
                                          have c69b0 : (t826 != t830) = true := c69
                                          (try (have c69b1 : decide (t826 = t830) = false := by simpa using c69))
                                          (try (have c69b2 : (t826 == t830) = false := by simpa using c69))
                                          (try (have c69b3 : ¬ (t826 = t830) := by simpa using c69))
                                          clear c69
                                          have H' := Aside0.mk H
                                          clear H
                                          obtain ⟨Ao70, co70, eo70⟩ := Kd.R_slice HO820.out
                                          subst eo70
                                          obtain ⟨Ao71, co71, eo71⟩ := Kd.R_slice HO824.out
                                          subst eo71
                                          go_wp2_with (first | (go_at_call 55; (with_reducible refine (laws_hSame.calls kj40 _ _ t817 _ _ t821 true _ ?side1 ?side2 ?side3 ?side4 A67.out).mono ?_); (case side1 => repeat (first | exact (Kd.R_reads' HO820.out).2.2 | (with_reducible refine Kd.C_alloc ?_ _) | (with_reducible refine Kd.C_drewN ?_ _) | (with_reducible refine Kd.C_drew ?_))); (case side2 => exact (Kd.R_reads' HO820.out).2.1); (case side3 => repeat (first | exact (Kd.R_reads' HO824.out).2.2 | (with_reducible refine Kd.C_alloc ?_ _) | (with_reducible refine Kd.C_drewN ?_ _) | (with_reducible refine Kd.C_drew ?_))); (case side4 => exact (Kd.R_reads' HO824.out).2.1); rintro e w' ⟨rfl, ⟨nd, rfl⟩⟩; (try first | exact ⟨rfl, _, World.drewN_drewN _ _ _⟩ | exact ⟨rfl, _, Eq.trans (World.drewN_drewN _ _ _) (congrArg (World.drewN _) (Nat.add_assoc _ _ _))⟩)))
                                          repeat (go_quiet (first | (go_at_call 55; (with_reducible refine (laws_hSame.calls kj40 _ _ t817 _ _ t821 true _ ?side1 ?side2 ?side3 ?side4 A67.out).mono ?_); (case side1 => repeat (first | exact (Kd.R_reads' HO820.out).2.2 | (with_reducible refine Kd.C_alloc ?_ _) | (with_reducible refine Kd.C_drewN ?_ _) | (with_reducible refine Kd.C_drew ?_))); (case side2 => exact (Kd.R_reads' HO820.out).2.1); (case side3 => repeat (first | exact (Kd.R_reads' HO824.out).2.2 | (with_reducible refine Kd.C_alloc ?_ _) | (with_reducible refine Kd.C_drewN ?_ _) | (with_reducible refine Kd.C_drew ?_))); (case side4 => exact (Kd.R_reads' HO824.out).2.1); rintro e w' ⟨rfl, ⟨nd, rfl⟩⟩; (try first | exact ⟨rfl, _, World.drewN_drewN _ _ _⟩ | exact ⟨rfl, _, Eq.trans (World.drewN_drewN _ _ _) (congrArg (World.drewN _) (Nat.add_assoc _ _ _))⟩))); try go_wp2_with (first | (go_at_call 55; (with_reducible refine (laws_hSame.calls kj40 _ _ t817 _ _ t821 true _ ?side1 ?side2 ?side3 ?side4 A67.out).mono ?_); (case side1 => repeat (first | exact (Kd.R_reads' HO820.out).2.2 | (with_reducible refine Kd.C_alloc ?_ _) | (with_reducible refine Kd.C_drewN ?_ _) | (with_reducible refine Kd.C_drew ?_))); (case side2 => exact (Kd.R_reads' HO820.out).2.1); (case side3 => repeat (first | exact (Kd.R_reads' HO824.out).2.2 | (with_reducible refine Kd.C_alloc ?_ _) | (with_reducible refine Kd.C_drewN ?_ _) | (with_reducible refine Kd.C_drew ?_))); (case side4 => exact (Kd.R_reads' HO824.out).2.1); rintro e w' ⟨rfl, ⟨nd, rfl⟩⟩; (try first | exact ⟨rfl, _, World.drewN_drewN _ _ _⟩ | exact ⟨rfl, _, Eq.trans (World.drewN_drewN _ _ _) (congrArg (World.drewN _) (Nat.add_assoc _ _ _))⟩))))
                                          go_meet
                                          case rel => exact ⟨_, (true), (by first | rfl | (simp; done) | (simp [*]; done)), H', ⟨by have := HJ8.out; have := HK2.out; have := HJ38.out; have := HJ40.out; first | omega | exact Nat.le_refl _⟩, ⟨by (with_reducible repeat (first | apply Kd.R_alloc | apply Kd.R_drewN | apply Kd.R_drew)); exact Kd.R_mono HO820.out (fun _ hk => hk.1.2)⟩, ⟨by (with_reducible repeat (first | apply Kd.R_alloc | apply Kd.R_drewN | apply Kd.R_drew)); exact Kd.R_mono HO828.out (fun _ hk => hk.1.1.2)⟩, ⟨by repeat (first | (with_reducible first | exact HB.out | apply below_alloc | apply pw_below_drewN | apply below_drew1) | exact HB.out)⟩⟩
                                        · rw [if_neg c69] at H
                                          have c69b0 : (t826 != t830) = false := by simpa using c69
                                          (try (have c69b1 : decide (t826 = t830) = true := by simpa using c69))
                                          (try (have c69b2 : (t826 == t830) = true := by simpa using c69))
                                          clear c69
                                          replace H := Option.bind_eq_some_iff.mp H
                                          obtain ⟨t834, A720, H⟩ := H
                                          replace H : (if t834 = true then (laws_FnSignsCounted.j6 kj40 t816 t817 t818 t825 (t826 != t818)) else (laws_FnSignsCounted.j6 kj40 t816 t817 t818 t825 true)) = some r := H
                                          have A72 := Aside0.mk A720
                                          clear A720
                                          by_cases c73 : t834 = true
                                          · subst c73
                                            have H1 : (laws_FnSignsCounted.j6 kj40 t816 t817 t818 t825 (t826 != t818)) = some r := by rw [if_pos rfl] at H; exact H
                                            clear H
                                            have H := H1
                                            clear H1
                                            have H' := Aside0.mk H
                                            clear H
                                            obtain ⟨Ao74, co74, eo74⟩ := Kd.R_slice HO820.out
                                            subst eo74
                                            obtain ⟨Ao75, co75, eo75⟩ := Kd.R_slice HO824.out
                                            subst eo75
                                            go_wp2_with (first | (go_at_call 55; (with_reducible refine (laws_hSame.calls kj40 _ _ t817 _ _ t821 true _ ?side1 ?side2 ?side3 ?side4 A67.out).mono ?_); (case side1 => repeat (first | exact (Kd.R_reads' HO820.out).2.2 | (with_reducible refine Kd.C_alloc ?_ _) | (with_reducible refine Kd.C_drewN ?_ _) | (with_reducible refine Kd.C_drew ?_))); (case side2 => exact (Kd.R_reads' HO820.out).2.1); (case side3 => repeat (first | exact (Kd.R_reads' HO824.out).2.2 | (with_reducible refine Kd.C_alloc ?_ _) | (with_reducible refine Kd.C_drewN ?_ _) | (with_reducible refine Kd.C_drew ?_))); (case side4 => exact (Kd.R_reads' HO824.out).2.1); rintro e w' ⟨rfl, ⟨nd, rfl⟩⟩; (try first | exact ⟨rfl, _, World.drewN_drewN _ _ _⟩ | exact ⟨rfl, _, Eq.trans (World.drewN_drewN _ _ _) (congrArg (World.drewN _) (Nat.add_assoc _ _ _))⟩); obtain ⟨Ao76, co76, eo76⟩ := Kd.R_slice HO828.out; subst eo76; obtain ⟨Ao77, co77, eo77⟩ := Kd.R_slice HO832.out; subst eo77) | (go_at_call 55; (with_reducible refine (laws_hSame.calls kj40 _ _ t825 _ _ t829 true _ ?side1 ?side2 ?side3 ?side4 A72.out).mono ?_); (case side1 => repeat (first | exact (Kd.R_reads' HO828.out).2.2 | (with_reducible refine Kd.C_alloc ?_ _) | (with_reducible refine Kd.C_drewN ?_ _) | (with_reducible refine Kd.C_drew ?_))); (case side2 => exact (Kd.R_reads' HO828.out).2.1); (case side3 => repeat (first | exact (Kd.R_reads' HO832.out).2.2 | (with_reducible refine Kd.C_alloc ?_ _) | (with_reducible refine Kd.C_drewN ?_ _) | (with_reducible refine Kd.C_drew ?_))); (case side4 => exact (Kd.R_reads' HO832.out).2.1); rintro e w' ⟨rfl, ⟨nd, rfl⟩⟩; (try first | exact ⟨rfl, _, World.drewN_drewN _ _ _⟩ | exact ⟨rfl, _, Eq.trans (World.drewN_drewN _ _ _) (congrArg (World.drewN _) (Nat.add_assoc _ _ _))⟩)))
                                            repeat (go_quiet (first | (go_at_call 55; (with_reducible refine (laws_hSame.calls kj40 _ _ t817 _ _ t821 true _ ?side1 ?side2 ?side3 ?side4 A67.out).mono ?_); (case side1 => repeat (first | exact (Kd.R_reads' HO820.out).2.2 | (with_reducible refine Kd.C_alloc ?_ _) | (with_reducible refine Kd.C_drewN ?_ _) | (with_reducible refine Kd.C_drew ?_))); (case side2 => exact (Kd.R_reads' HO820.out).2.1); (case side3 => repeat (first | exact (Kd.R_reads' HO824.out).2.2 | (with_reducible refine Kd.C_alloc ?_ _) | (with_reducible refine Kd.C_drewN ?_ _) | (with_reducible refine Kd.C_drew ?_))); (case side4 => exact (Kd.R_reads' HO824.out).2.1); rintro e w' ⟨rfl, ⟨nd, rfl⟩⟩; (try first | exact ⟨rfl, _, World.drewN_drewN _ _ _⟩ | exact ⟨rfl, _, Eq.trans (World.drewN_drewN _ _ _) (congrArg (World.drewN _) (Nat.add_assoc _ _ _))⟩); obtain ⟨Ao76, co76, eo76⟩ := Kd.R_slice HO828.out; subst eo76; obtain ⟨Ao77, co77, eo77⟩ := Kd.R_slice HO832.out; subst eo77) | (go_at_call 55; (with_reducible refine (laws_hSame.calls kj40 _ _ t825 _ _ t829 true _ ?side1 ?side2 ?side3 ?side4 A72.out).mono ?_); (case side1 => repeat (first | exact (Kd.R_reads' HO828.out).2.2 | (with_reducible refine Kd.C_alloc ?_ _) | (with_reducible refine Kd.C_drewN ?_ _) | (with_reducible refine Kd.C_drew ?_))); (case side2 => exact (Kd.R_reads' HO828.out).2.1); (case side3 => repeat (first | exact (Kd.R_reads' HO832.out).2.2 | (with_reducible refine Kd.C_alloc ?_ _) | (with_reducible refine Kd.C_drewN ?_ _) | (with_reducible refine Kd.C_drew ?_))); (case side4 => exact (Kd.R_reads' HO832.out).2.1); rintro e w' ⟨rfl, ⟨nd, rfl⟩⟩; (try first | exact ⟨rfl, _, World.drewN_drewN _ _ _⟩ | exact ⟨rfl, _, Eq.trans (World.drewN_drewN _ _ _) (congrArg (World.drewN _) (Nat.add_assoc _ _ _))⟩))); try go_wp2_with (first | (go_at_call 55; (with_reducible refine (laws_hSame.calls kj40 _ _ t817 _ _ t821 true _ ?side1 ?side2 ?side3 ?side4 A67.out).mono ?_); (case side1 => repeat (first | exact (Kd.R_reads' HO820.out).2.2 | (with_reducible refine Kd.C_alloc ?_ _) | (with_reducible refine Kd.C_drewN ?_ _) | (with_reducible refine Kd.C_drew ?_))); (case side2 => exact (Kd.R_reads' HO820.out).2.1); (case side3 => repeat (first | exact (Kd.R_reads' HO824.out).2.2 | (with_reducible refine Kd.C_alloc ?_ _) | (with_reducible refine Kd.C_drewN ?_ _) | (with_reducible refine Kd.C_drew ?_))); (case side4 => exact (Kd.R_reads' HO824.out).2.1); rintro e w' ⟨rfl, ⟨nd, rfl⟩⟩; (try first | exact ⟨rfl, _, World.drewN_drewN _ _ _⟩ | exact ⟨rfl, _, Eq.trans (World.drewN_drewN _ _ _) (congrArg (World.drewN _) (Nat.add_assoc _ _ _))⟩); obtain ⟨Ao76, co76, eo76⟩ := Kd.R_slice HO828.out; subst eo76; obtain ⟨Ao77, co77, eo77⟩ := Kd.R_slice HO832.out; subst eo77) | (go_at_call 55; (with_reducible refine (laws_hSame.calls kj40 _ _ t825 _ _ t829 true _ ?side1 ?side2 ?side3 ?side4 A72.out).mono ?_); (case side1 => repeat (first | exact (Kd.R_reads' HO828.out).2.2 | (with_reducible refine Kd.C_alloc ?_ _) | (with_reducible refine Kd.C_drewN ?_ _) | (with_reducible refine Kd.C_drew ?_))); (case side2 => exact (Kd.R_reads' HO828.out).2.1); (case side3 => repeat (first | exact (Kd.R_reads' HO832.out).2.2 | (with_reducible refine Kd.C_alloc ?_ _) | (with_reducible refine Kd.C_drewN ?_ _) | (with_reducible refine Kd.C_drew ?_))); (case side4 => exact (Kd.R_reads' HO832.out).2.1); rintro e w' ⟨rfl, ⟨nd, rfl⟩⟩; (try first | exact ⟨rfl, _, World.drewN_drewN _ _ _⟩ | exact ⟨rfl, _, Eq.trans (World.drewN_drewN _ _ _) (congrArg (World.drewN _) (Nat.add_assoc _ _ _))⟩))))
                                            go_meet
                                            case rel => exact ⟨_, ((t826 != t818)), (by first | rfl | (simp; done) | (simp [*]; done)), H', ⟨by have := HJ8.out; have := HK2.out; have := HJ38.out; have := HJ40.out; first | omega | exact Nat.le_refl _⟩, ⟨by (with_reducible repeat (first | apply Kd.R_alloc | apply Kd.R_drewN | apply Kd.R_drew)); exact Kd.R_mono HO820.out (fun _ hk => hk.1.2)⟩, ⟨by (with_reducible repeat (first | apply Kd.R_alloc | apply Kd.R_drewN | apply Kd.R_drew)); exact Kd.R_mono HO828.out (fun _ hk => hk.1.1.2)⟩, ⟨by repeat (first | (with_reducible first | exact HB.out | apply below_alloc | apply pw_below_drewN | apply below_drew1) | exact HB.out)⟩⟩
                                          · replace c73 := Bool.eq_false_iff.mpr c73
                                            subst c73
                                            have H1 : (laws_FnSignsCounted.j6 kj40 t816 t817 t818 t825 true) = some r := by rw [if_neg (show ¬ (false = true) by decide)] at H; exact H
                                            clear H
                                            have H := H1
                                            clear H1
                                            have H' := Aside0.mk H
                                            clear H
                                            obtain ⟨Ao78, co78, eo78⟩ := Kd.R_slice HO820.out
                                            subst eo78
                                            obtain ⟨Ao79, co79, eo79⟩ := Kd.R_slice HO824.out
                                            subst eo79
                                            go_wp2_with (first | (go_at_call 55; (with_reducible refine (laws_hSame.calls kj40 _ _ t817 _ _ t821 true _ ?side1 ?side2 ?side3 ?side4 A67.out).mono ?_); (case side1 => repeat (first | exact (Kd.R_reads' HO820.out).2.2 | (with_reducible refine Kd.C_alloc ?_ _) | (with_reducible refine Kd.C_drewN ?_ _) | (with_reducible refine Kd.C_drew ?_))); (case side2 => exact (Kd.R_reads' HO820.out).2.1); (case side3 => repeat (first | exact (Kd.R_reads' HO824.out).2.2 | (with_reducible refine Kd.C_alloc ?_ _) | (with_reducible refine Kd.C_drewN ?_ _) | (with_reducible refine Kd.C_drew ?_))); (case side4 => exact (Kd.R_reads' HO824.out).2.1); rintro e w' ⟨rfl, ⟨nd, rfl⟩⟩; (try first | exact ⟨rfl, _, World.drewN_drewN _ _ _⟩ | exact ⟨rfl, _, Eq.trans (World.drewN_drewN _ _ _) (congrArg (World.drewN _) (Nat.add_assoc _ _ _))⟩); obtain ⟨Ao80, co80, eo80⟩ := Kd.R_slice HO828.out; subst eo80; obtain ⟨Ao81, co81, eo81⟩ := Kd.R_slice HO832.out; subst eo81) | (go_at_call 55; (with_reducible refine (laws_hSame.calls kj40 _ _ t825 _ _ t829 false _ ?side1 ?side2 ?side3 ?side4 A72.out).mono ?_); (case side1 => repeat (first | exact (Kd.R_reads' HO828.out).2.2 | (with_reducible refine Kd.C_alloc ?_ _) | (with_reducible refine Kd.C_drewN ?_ _) | (with_reducible refine Kd.C_drew ?_))); (case side2 => exact (Kd.R_reads' HO828.out).2.1); (case side3 => repeat (first | exact (Kd.R_reads' HO832.out).2.2 | (with_reducible refine Kd.C_alloc ?_ _) | (with_reducible refine Kd.C_drewN ?_ _) | (with_reducible refine Kd.C_drew ?_))); (case side4 => exact (Kd.R_reads' HO832.out).2.1); rintro e w' ⟨rfl, ⟨nd, rfl⟩⟩; (try first | exact ⟨rfl, _, World.drewN_drewN _ _ _⟩ | exact ⟨rfl, _, Eq.trans (World.drewN_drewN _ _ _) (congrArg (World.drewN _) (Nat.add_assoc _ _ _))⟩)))
                                            repeat (go_quiet (first | (go_at_call 55; (with_reducible refine (laws_hSame.calls kj40 _ _ t817 _ _ t821 true _ ?side1 ?side2 ?side3 ?side4 A67.out).mono ?_); (case side1 => repeat (first | exact (Kd.R_reads' HO820.out).2.2 | (with_reducible refine Kd.C_alloc ?_ _) | (with_reducible refine Kd.C_drewN ?_ _) | (with_reducible refine Kd.C_drew ?_))); (case side2 => exact (Kd.R_reads' HO820.out).2.1); (case side3 => repeat (first | exact (Kd.R_reads' HO824.out).2.2 | (with_reducible refine Kd.C_alloc ?_ _) | (with_reducible refine Kd.C_drewN ?_ _) | (with_reducible refine Kd.C_drew ?_))); (case side4 => exact (Kd.R_reads' HO824.out).2.1); rintro e w' ⟨rfl, ⟨nd, rfl⟩⟩; (try first | exact ⟨rfl, _, World.drewN_drewN _ _ _⟩ | exact ⟨rfl, _, Eq.trans (World.drewN_drewN _ _ _) (congrArg (World.drewN _) (Nat.add_assoc _ _ _))⟩); obtain ⟨Ao80, co80, eo80⟩ := Kd.R_slice HO828.out; subst eo80; obtain ⟨Ao81, co81, eo81⟩ := Kd.R_slice HO832.out; subst eo81) | (go_at_call 55; (with_reducible refine (laws_hSame.calls kj40 _ _ t825 _ _ t829 false _ ?side1 ?side2 ?side3 ?side4 A72.out).mono ?_); (case side1 => repeat (first | exact (Kd.R_reads' HO828.out).2.2 | (with_reducible refine Kd.C_alloc ?_ _) | (with_reducible refine Kd.C_drewN ?_ _) | (with_reducible refine Kd.C_drew ?_))); (case side2 => exact (Kd.R_reads' HO828.out).2.1); (case side3 => repeat (first | exact (Kd.R_reads' HO832.out).2.2 | (with_reducible refine Kd.C_alloc ?_ _) | (with_reducible refine Kd.C_drewN ?_ _) | (with_reducible refine Kd.C_drew ?_))); (case side4 => exact (Kd.R_reads' HO832.out).2.1); rintro e w' ⟨rfl, ⟨nd, rfl⟩⟩; (try first | exact ⟨rfl, _, World.drewN_drewN _ _ _⟩ | exact ⟨rfl, _, Eq.trans (World.drewN_drewN _ _ _) (congrArg (World.drewN _) (Nat.add_assoc _ _ _))⟩))); try go_wp2_with (first | (go_at_call 55; (with_reducible refine (laws_hSame.calls kj40 _ _ t817 _ _ t821 true _ ?side1 ?side2 ?side3 ?side4 A67.out).mono ?_); (case side1 => repeat (first | exact (Kd.R_reads' HO820.out).2.2 | (with_reducible refine Kd.C_alloc ?_ _) | (with_reducible refine Kd.C_drewN ?_ _) | (with_reducible refine Kd.C_drew ?_))); (case side2 => exact (Kd.R_reads' HO820.out).2.1); (case side3 => repeat (first | exact (Kd.R_reads' HO824.out).2.2 | (with_reducible refine Kd.C_alloc ?_ _) | (with_reducible refine Kd.C_drewN ?_ _) | (with_reducible refine Kd.C_drew ?_))); (case side4 => exact (Kd.R_reads' HO824.out).2.1); rintro e w' ⟨rfl, ⟨nd, rfl⟩⟩; (try first | exact ⟨rfl, _, World.drewN_drewN _ _ _⟩ | exact ⟨rfl, _, Eq.trans (World.drewN_drewN _ _ _) (congrArg (World.drewN _) (Nat.add_assoc _ _ _))⟩); obtain ⟨Ao80, co80, eo80⟩ := Kd.R_slice HO828.out; subst eo80; obtain ⟨Ao81, co81, eo81⟩ := Kd.R_slice HO832.out; subst eo81) | (go_at_call 55; (with_reducible refine (laws_hSame.calls kj40 _ _ t825 _ _ t829 false _ ?side1 ?side2 ?side3 ?side4 A72.out).mono ?_); (case side1 => repeat (first | exact (Kd.R_reads' HO828.out).2.2 | (with_reducible refine Kd.C_alloc ?_ _) | (with_reducible refine Kd.C_drewN ?_ _) | (with_reducible refine Kd.C_drew ?_))); (case side2 => exact (Kd.R_reads' HO828.out).2.1); (case side3 => repeat (first | exact (Kd.R_reads' HO832.out).2.2 | (with_reducible refine Kd.C_alloc ?_ _) | (with_reducible refine Kd.C_drewN ?_ _) | (with_reducible refine Kd.C_drew ?_))); (case side4 => exact (Kd.R_reads' HO832.out).2.1); rintro e w' ⟨rfl, ⟨nd, rfl⟩⟩; (try first | exact ⟨rfl, _, World.drewN_drewN _ _ _⟩ | exact ⟨rfl, _, Eq.trans (World.drewN_drewN _ _ _) (congrArg (World.drewN _) (Nat.add_assoc _ _ _))⟩))))
                                            go_meet
                                            case rel => exact ⟨_, (true), (by first | rfl | (simp; done) | (simp [*]; done)), H', ⟨by have := HJ8.out; have := HK2.out; have := HJ38.out; have := HJ40.out; first | omega | exact Nat.le_refl _⟩, ⟨by (with_reducible repeat (first | apply Kd.R_alloc | apply Kd.R_drewN | apply Kd.R_drew)); exact Kd.R_mono HO820.out (fun _ hk => hk.1.2)⟩, ⟨by (with_reducible repeat (first | apply Kd.R_alloc | apply Kd.R_drewN | apply Kd.R_drew)); exact Kd.R_mono HO828.out (fun _ hk => hk.1.1.2)⟩, ⟨by repeat (first | (with_reducible first | exact HB.out | apply below_alloc | apply pw_below_drewN | apply below_drew1) | exact HB.out)⟩⟩
                                      · replace c68 := Bool.eq_false_iff.mpr c68
                                        subst c68
                                        have H1 : (laws_FnSignsCounted.j6 kj40 t816 t817 t818 t825 true) = some r := by rw [if_neg (show ¬ (false = true) by decide)] at H; exact H
                                        clear H
                                        have H := H1
                                        clear H1
                                        have H' := Aside0.mk H
                                        clear H
                                        obtain ⟨Ao82, co82, eo82⟩ := Kd.R_slice HO820.out
                                        subst eo82
                                        obtain ⟨Ao83, co83, eo83⟩ := Kd.R_slice HO824.out
                                        subst eo83
                                        go_wp2_with (first | (go_at_call 55; (with_reducible refine (laws_hSame.calls kj40 _ _ t817 _ _ t821 false _ ?side1 ?side2 ?side3 ?side4 A67.out).mono ?_); (case side1 => repeat (first | exact (Kd.R_reads' HO820.out).2.2 | (with_reducible refine Kd.C_alloc ?_ _) | (with_reducible refine Kd.C_drewN ?_ _) | (with_reducible refine Kd.C_drew ?_))); (case side2 => exact (Kd.R_reads' HO820.out).2.1); (case side3 => repeat (first | exact (Kd.R_reads' HO824.out).2.2 | (with_reducible refine Kd.C_alloc ?_ _) | (with_reducible refine Kd.C_drewN ?_ _) | (with_reducible refine Kd.C_drew ?_))); (case side4 => exact (Kd.R_reads' HO824.out).2.1); rintro e w' ⟨rfl, ⟨nd, rfl⟩⟩; (try first | exact ⟨rfl, _, World.drewN_drewN _ _ _⟩ | exact ⟨rfl, _, Eq.trans (World.drewN_drewN _ _ _) (congrArg (World.drewN _) (Nat.add_assoc _ _ _))⟩)))
                                        repeat (go_quiet (first | (go_at_call 55; (with_reducible refine (laws_hSame.calls kj40 _ _ t817 _ _ t821 false _ ?side1 ?side2 ?side3 ?side4 A67.out).mono ?_); (case side1 => repeat (first | exact (Kd.R_reads' HO820.out).2.2 | (with_reducible refine Kd.C_alloc ?_ _) | (with_reducible refine Kd.C_drewN ?_ _) | (with_reducible refine Kd.C_drew ?_))); (case side2 => exact (Kd.R_reads' HO820.out).2.1); (case side3 => repeat (first | exact (Kd.R_reads' HO824.out).2.2 | (with_reducible refine Kd.C_alloc ?_ _) | (with_reducible refine Kd.C_drewN ?_ _) | (with_reducible refine Kd.C_drew ?_))); (case side4 => exact (Kd.R_reads' HO824.out).2.1); rintro e w' ⟨rfl, ⟨nd, rfl⟩⟩; (try first | exact ⟨rfl, _, World.drewN_drewN _ _ _⟩ | exact ⟨rfl, _, Eq.trans (World.drewN_drewN _ _ _) (congrArg (World.drewN _) (Nat.add_assoc _ _ _))⟩))); try go_wp2_with (first | (go_at_call 55; (with_reducible refine (laws_hSame.calls kj40 _ _ t817 _ _ t821 false _ ?side1 ?side2 ?side3 ?side4 A67.out).mono ?_); (case side1 => repeat (first | exact (Kd.R_reads' HO820.out).2.2 | (with_reducible refine Kd.C_alloc ?_ _) | (with_reducible refine Kd.C_drewN ?_ _) | (with_reducible refine Kd.C_drew ?_))); (case side2 => exact (Kd.R_reads' HO820.out).2.1); (case side3 => repeat (first | exact (Kd.R_reads' HO824.out).2.2 | (with_reducible refine Kd.C_alloc ?_ _) | (with_reducible refine Kd.C_drewN ?_ _) | (with_reducible refine Kd.C_drew ?_))); (case side4 => exact (Kd.R_reads' HO824.out).2.1); rintro e w' ⟨rfl, ⟨nd, rfl⟩⟩; (try first | exact ⟨rfl, _, World.drewN_drewN _ _ _⟩ | exact ⟨rfl, _, Eq.trans (World.drewN_drewN _ _ _) (congrArg (World.drewN _) (Nat.add_assoc _ _ _))⟩))))
                                        go_meet
                                        case rel => exact ⟨_, (true), (by first | rfl | (simp; done) | (simp [*]; done)), H', ⟨by have := HJ8.out; have := HK2.out; have := HJ38.out; have := HJ40.out; first | omega | exact Nat.le_refl _⟩, ⟨by (with_reducible repeat (first | apply Kd.R_alloc | apply Kd.R_drewN | apply Kd.R_drew)); exact Kd.R_mono HO820.out (fun _ hk => hk.1.2)⟩, ⟨by (with_reducible repeat (first | apply Kd.R_alloc | apply Kd.R_drewN | apply Kd.R_drew)); exact Kd.R_mono HO828.out (fun _ hk => hk.1.1.2)⟩, ⟨by repeat (first | (with_reducible first | exact HB.out | apply below_alloc | apply pw_below_drewN | apply below_drew1) | exact HB.out)⟩⟩
                                case rest =>
                                  as_aux_lemma =>
                                    clear HC60
                                    try clear c1
                                    try clear p2
                                    try clear c3
                                    try clear c4
                                    try clear c5
                                    try clear c6
                                    try clear p6
                                    try clear c7
                                    try clear p8
                                    try clear q8
                                    try clear hx8
                                    try clear qi8
                                    try clear c13
                                    try clear c13b0
                                    try clear c13b1
                                    try clear c13b2
                                    try clear c15
                                    try clear c16
                                    try clear c17
                                    try clear c19
                                    try clear c19b0
                                    try clear c19b1
                                    try clear c30
                                    try clear c32
                                    try clear c32b0
                                    try clear c33
                                    try clear c33b0
                                    try clear c34
                                    try clear c34b0
                                    try clear c36
                                    try clear c36b0
                                    try clear c37
                                    try clear c37b0
                                    try clear c38
                                    try clear c38b0
                                    try clear c38b1
                                    try clear c40
                                    try clear c42
                                    try clear c45
                                    try clear c46
                                    try clear c46b0
                                    try clear c46b1
                                    try clear c47
                                    try clear c48
                                    try clear c48b0
                                    try clear c49
                                    try clear c49b0
                                    try clear c50
                                    try clear c50b0
                                    try clear c52
                                    try clear c52b0
                                    try clear c53
                                    try clear c53b0
                                    try clear c54
                                    try clear c54b0
                                    try clear c54b1
                                    try clear p64
                                    try clear c66
                                    try clear c66b0
                                    try clear c66b1
                                    try clear c66b2
                                    try clear c68
                                    try clear c69
                                    try clear c69b0
                                    try clear c69b1
                                    try clear c69b2
                                    try clear c73
                                    try clear p80
                                    try clear q80
                                    try clear hx80
                                    try clear p81
                                    try clear q81
                                    try clear hx81
                                    try clear qi81
                                    try clear hx809_0
                                    try clear hx810_0
                                    try clear hx813_0
                                    try clear hx814_0
                                    try clear hx815_0
                                    try clear p2
                                    try clear p6
                                    try clear p8
                                    try clear p809
                                    try clear p810
                                    try clear p813
                                    try clear p814
                                    try clear p815
                                    try clear q8
                                    try clear q809
                                    try clear q810
                                    try clear q813
                                    try clear q814
                                    try clear q815
                                    obtain ⟨kq, x201_59, rfl, HA, HJ59, HO_18, HO_22, HB⟩ := hcut
                                    cases kq with
                                    | zero => exact absurd HA.out (by simp [laws_FnSignsCounted.j6])
                                    | succ kj59 =>
                                      have H := HA.out
                                      clear HA
                                      simp only [laws_FnSignsCounted.j6] at H
                                      by_cases c84 : x201_59 = true
                                      · subst c84
                                        have H1 : (some false) = some r := by rw [if_pos rfl] at H; exact H
                                        clear H
                                        have H := H1
                                        clear H1
                                        obtain rfl := Option.some.inj H
                                        go_wp2
                                        repeat (go_quiet (fail); try go_wp2)
                                        go_ret
                                        exact ⟨by first | rfl | (simp [errW_none, errW_some] <;> rfl) | (simp [*, errW_none, errW_some] <;> rfl), by repeat (first | (with_reducible first | exact HB.out | apply below_alloc | apply pw_below_drewN | apply below_drew1) | exact HB.out)⟩
                                      · replace c84 := Bool.eq_false_iff.mpr c84
                                        subst c84
                                        have H1 : (if t818 = true then ((impl_CountSigns.f kj59 t816).bind fun bt835 => (laws_FnSignsCounted.l2 kj59 t816 t817 t825 bt835.1 bt835.2 1 1 0 2)) else (some true)) = some r := by rw [if_neg (show ¬ (false = true) by decide)] at H; exact H
                                        clear H
                                        have H := H1
                                        clear H1
                                        by_cases c85 : t818 = true
                                        · subst c85
                                          have H1 : ((impl_CountSigns.f kj59 t816).bind fun bt835 => (laws_FnSignsCounted.l2 kj59 t816 t817 t825 bt835.1 bt835.2 1 1 0 2)) = some r := by rw [if_pos rfl] at H; exact H
                                          clear H
                                          have H := H1
                                          clear H1
                                          replace H := Option.bind_eq_some_iff.mp H
                                          obtain ⟨⟨t835, t836⟩, A860, H⟩ := H
                                          replace H : (laws_FnSignsCounted.l2 kj59 t816 t817 t825 t835 t836 1 1 0 2) = some r := H
                                          have A86 := Aside0.mk A860
                                          clear A860
                                          have H' := Aside0.mk H
                                          clear H
                                          go_wp2_with (first | (go_at_call 54; (with_reducible refine (impl_CountSigns.calls kj59 t816 t835 t836 _ A86.out).mono ?_); rintro e w' ⟨rfl, ⟨nd, rfl⟩⟩; (try first | exact ⟨rfl, _, World.drewN_drewN _ _ _⟩ | exact ⟨rfl, _, Eq.trans (World.drewN_drewN _ _ _) (congrArg (World.drewN _) (Nat.add_assoc _ _ _))⟩)))
                                          repeat (go_quiet (first | (go_at_call 54; (with_reducible refine (impl_CountSigns.calls kj59 t816 t835 t836 _ A86.out).mono ?_); rintro e w' ⟨rfl, ⟨nd, rfl⟩⟩; (try first | exact ⟨rfl, _, World.drewN_drewN _ _ _⟩ | exact ⟨rfl, _, Eq.trans (World.drewN_drewN _ _ _) (congrArg (World.drewN _) (Nat.add_assoc _ _ _))⟩))); try go_wp2_with (first | (go_at_call 54; (with_reducible refine (impl_CountSigns.calls kj59 t816 t835 t836 _ A86.out).mono ?_); rintro e w' ⟨rfl, ⟨nd, rfl⟩⟩; (try first | exact ⟨rfl, _, World.drewN_drewN _ _ _⟩ | exact ⟨rfl, _, Eq.trans (World.drewN_drewN _ _ _) (congrArg (World.drewN _) (Nat.add_assoc _ _ _))⟩))))
                                          go_loopg [28, 31] kj59 (fun kq v28 v31 w' => ∃ (x28_6 : Int) (x31_6 : Int), v28 = .int .i64 x28_6 ∧ v31 = .int .i64 x31_6 ∧ Aside0 (laws_FnSignsCounted.l2 kq t816 t817 t825 t835 t836 x28_6 1 0 x31_6 = some r) ∧ Aside0 (kq ≤ kj59) ∧ Aside0 (Kd.R (Kd.int .i64) 3 w' w.heap.size (fun k_ => some k_ ≠ (v827 : Value).ownBlock) v819 t817) ∧ Aside0 (Kd.R (Kd.int .i64) 3 w' w.heap.size (fun k_ => some k_ ≠ (v819 : Value).ownBlock) v827 t825) ∧ Aside0 (Below w.heap.size w w'))
                                          case atStart => exact ⟨(1), (2), (by first | rfl | (simp; done) | (simp [*]; done)), (by first | rfl | (simp; done) | (simp [*]; done)), H', ⟨Nat.le_refl _⟩, ⟨by (with_reducible repeat (first | apply Kd.R_alloc | apply Kd.R_drewN | apply Kd.R_drew)); exact HO_18.out⟩, ⟨by (with_reducible repeat (first | apply Kd.R_alloc | apply Kd.R_drewN | apply Kd.R_drew)); exact HO_22.out⟩, ⟨by repeat (first | (with_reducible first | exact HB.out | apply below_alloc | apply pw_below_drewN | apply below_drew1) | exact HB.out)⟩⟩
                                          case round =>
                                            as_aux_lemma =>
                                              clear H'
                                              try clear c1
                                              try clear p2
                                              try clear c3
                                              try clear c4
                                              try clear c5
                                              try clear c6
                                              try clear p6
                                              try clear c7
                                              try clear c8
                                              try clear p8
                                              try clear q8
                                              try clear hx8
                                              try clear qi8
                                              try clear c13
                                              try clear c13b0
                                              try clear c13b1
                                              try clear c13b2
                                              try clear c15
                                              try clear c16
                                              try clear c17
                                              try clear c19
                                              try clear c19b0
                                              try clear c19b1
                                              try clear c30
                                              try clear c32
                                              try clear c32b0
                                              try clear c33
                                              try clear c33b0
                                              try clear c34
                                              try clear c34b0
                                              try clear c36
                                              try clear c36b0
                                              try clear c37
                                              try clear c37b0
                                              try clear c38
                                              try clear c38b0
                                              try clear c38b1
                                              try clear c40
                                              try clear c42
                                              try clear c45
                                              try clear c46
                                              try clear c46b0
                                              try clear c46b1
                                              try clear c47
                                              try clear c48
                                              try clear c48b0
                                              try clear c49
                                              try clear c49b0
                                              try clear c50
                                              try clear c50b0
                                              try clear c52
                                              try clear c52b0
                                              try clear c53
                                              try clear c53b0
                                              try clear c54
                                              try clear c54b0
                                              try clear c54b1
                                              try clear p64
                                              try clear c66
                                              try clear c66b0
                                              try clear c66b1
                                              try clear c66b2
                                              try clear c68
                                              try clear c69
                                              try clear c69b0
                                              try clear c69b1
                                              try clear c69b2
                                              try clear c73
                                              try clear p80
                                              try clear q80
                                              try clear hx80
                                              try clear p81
                                              try clear q81
                                              try clear hx81
                                              try clear qi81
                                              try clear c84
                                              try clear c85
                                              try clear hx809_0
                                              try clear hx810_0
                                              try clear hx813_0
                                              try clear hx814_0
                                              try clear hx815_0
                                              try clear p2
                                              try clear p6
                                              try clear p64
                                              try clear p8
                                              try clear p80
                                              try clear p809
                                              try clear p81
                                              try clear p810
                                              try clear p813
                                              try clear p814
                                              try clear p815
                                              try clear q8
                                              try clear q80
                                              try clear q809
                                              try clear q81
                                              try clear q810
                                              try clear q813
                                              try clear q814
                                              try clear q815
                                              obtain ⟨x28_6, x31_6, rfl, rfl, HA, HK6, HO_18, HO_22, HB⟩ := hrel
                                              cases gk with
                                              | zero => exact absurd HA.out (by simp [laws_FnSignsCounted.l2])
                                              | succ k6 =>
                                                have H := HA.out
                                                clear HA
                                                simp only [laws_FnSignsCounted.l2] at H
                                                by_cases c87 : x31_6 ≤ t816
                                                · rw [if_pos c87] at H
                                                  have c87b0 : decide (x31_6 ≤ t816) = true := decide_eq_true c87
                                                  clear c87
                                                  have H' := Aside0.mk H
                                                  clear H
                                                  go_wp2
                                                  repeat (go_quiet (fail); try go_wp2)
                                                  go_roundg k6
                                                  case measure => have := HJ8.out; have := HK2.out; have := HJ38.out; have := HJ40.out; have := HJ59.out; have := HK6.out; omega
                                                  case rel => exact ⟨(wrap64 (x28_6 * x31_6)), (wrap64 (x31_6 + 1)), (by first | rfl | (simp; done) | (simp [*]; done)), (by first | rfl | (simp; done) | (simp [*]; done)), H', ⟨by have := HJ8.out; have := HK2.out; have := HJ38.out; have := HJ40.out; have := HJ59.out; have := HK6.out; omega⟩, ⟨by (with_reducible repeat (first | apply Kd.R_alloc | apply Kd.R_drewN | apply Kd.R_drew)); exact HO_18.out⟩, ⟨by (with_reducible repeat (first | apply Kd.R_alloc | apply Kd.R_drewN | apply Kd.R_drew)); exact HO_22.out⟩, ⟨by repeat (first | (with_reducible first | exact HB.out | apply below_alloc | apply pw_below_drewN | apply below_drew1) | exact HB.out)⟩⟩
                                                · rw [if_neg c87] at H
                                                  have c87b0 : decide (x31_6 ≤ t816) = false := decide_eq_false c87
                                                  clear c87
                                                  have H' := Aside0.mk H
                                                  clear H
                                                  go_wp2
                                                  repeat (go_quiet (fail); try go_wp2)
                                                  go_loopg [29, 32] k6 (fun kq v29 v32 w' => ∃ (x29_7 : Int) (x32_7 : Int), v29 = .int .i64 x29_7 ∧ v32 = .int .i64 x32_7 ∧ Aside0 (laws_FnSignsCounted.l3 kq t816 t817 t825 t835 t836 x28_6 x29_7 0 x32_7 = some r) ∧ Aside0 (kq ≤ k6) ∧ Aside0 (Kd.R (Kd.int .i64) 3 w' w.heap.size (fun k_ => some k_ ≠ (v827 : Value).ownBlock) v819 t817) ∧ Aside0 (Kd.R (Kd.int .i64) 3 w' w.heap.size (fun k_ => some k_ ≠ (v819 : Value).ownBlock) v827 t825) ∧ Aside0 (Below w.heap.size w w'))
                                                  case atStart => exact ⟨(1), (0), (by first | rfl | (simp; done) | (simp [*]; done)), (by first | rfl | (simp; done) | (simp [*]; done)), H', ⟨Nat.le_refl _⟩, ⟨by (with_reducible repeat (first | apply Kd.R_alloc | apply Kd.R_drewN | apply Kd.R_drew)); exact HO_18.out⟩, ⟨by (with_reducible repeat (first | apply Kd.R_alloc | apply Kd.R_drewN | apply Kd.R_drew)); exact HO_22.out⟩, ⟨by repeat (first | (with_reducible first | exact HB.out | apply below_alloc | apply pw_below_drewN | apply below_drew1) | exact HB.out)⟩⟩
                                                  case round =>
                                                    as_aux_lemma =>
                                                      clear H'
                                                      try clear c1
                                                      try clear p2
                                                      try clear c3
                                                      try clear c4
                                                      try clear c5
                                                      try clear c6
                                                      try clear p6
                                                      try clear c7
                                                      try clear c8
                                                      try clear p8
                                                      try clear q8
                                                      try clear hx8
                                                      try clear qi8
                                                      try clear c13
                                                      try clear c13b0
                                                      try clear c13b1
                                                      try clear c13b2
                                                      try clear c15
                                                      try clear c16
                                                      try clear c17
                                                      try clear c19
                                                      try clear c19b0
                                                      try clear c19b1
                                                      try clear c30
                                                      try clear c32
                                                      try clear c32b0
                                                      try clear c33
                                                      try clear c33b0
                                                      try clear c34
                                                      try clear c34b0
                                                      try clear c36
                                                      try clear c36b0
                                                      try clear c37
                                                      try clear c37b0
                                                      try clear c38
                                                      try clear c38b0
                                                      try clear c38b1
                                                      try clear c40
                                                      try clear c42
                                                      try clear c45
                                                      try clear c46
                                                      try clear c46b0
                                                      try clear c46b1
                                                      try clear c47
                                                      try clear c48
                                                      try clear c48b0
                                                      try clear c49
                                                      try clear c49b0
                                                      try clear c50
                                                      try clear c50b0
                                                      try clear c52
                                                      try clear c52b0
                                                      try clear c53
                                                      try clear c53b0
                                                      try clear c54
                                                      try clear c54b0
                                                      try clear c54b1
                                                      try clear p64
                                                      try clear c66
                                                      try clear c66b0
                                                      try clear c66b1
                                                      try clear c66b2
                                                      try clear c68
                                                      try clear c69
                                                      try clear c69b0
                                                      try clear c69b1
                                                      try clear c69b2
                                                      try clear c73
                                                      try clear p80
                                                      try clear q80
                                                      try clear hx80
                                                      try clear p81
                                                      try clear q81
                                                      try clear hx81
                                                      try clear qi81
                                                      try clear c84
                                                      try clear c85
                                                      try clear c87
                                                      try clear c87b0
                                                      try clear hx809_0
                                                      try clear hx810_0
                                                      try clear hx813_0
                                                      try clear hx814_0
                                                      try clear hx815_0
                                                      try clear p2
                                                      try clear p6
                                                      try clear p64
                                                      try clear p8
                                                      try clear p80
                                                      try clear p809
                                                      try clear p81
                                                      try clear p810
                                                      try clear p813
                                                      try clear p814
                                                      try clear p815
                                                      try clear q8
                                                      try clear q80
                                                      try clear q809
                                                      try clear q81
                                                      try clear q810
                                                      try clear q813
                                                      try clear q814
                                                      try clear q815
                                                      obtain ⟨x29_7, x32_7, rfl, rfl, HA, HK7, HO_18, HO_22, HB⟩ := hrel
                                                      cases gk with
                                                      | zero => exact absurd HA.out (by simp [laws_FnSignsCounted.l3])
                                                      | succ k7 =>
                                                        have H := HA.out
                                                        clear HA
                                                        simp only [laws_FnSignsCounted.l3] at H
                                                        by_cases c88 : x32_7 < (wrap64 (Int.tdiv (wrap64 (t816 * (wrap64 (t816 - 1)))) 2))
                                                        · rw [if_pos c88] at H
                                                          have c88b0 : decide (x32_7 < (wrap64 (Int.tdiv (wrap64 (t816 * (wrap64 (t816 - 1)))) 2))) = true := decide_eq_true c88
                                                          clear c88
                                                          have H' := Aside0.mk H
                                                          clear H
                                                          go_wp2
                                                          repeat (go_quiet (fail); try go_wp2)
                                                          go_roundg k7
                                                          case measure => have := HJ8.out; have := HK2.out; have := HJ38.out; have := HJ40.out; have := HJ59.out; have := HK6.out; have := HK7.out; omega
                                                          case rel => exact ⟨(wrap64 (x29_7 * 2)), (wrap64 (x32_7 + 1)), (by first | rfl | (simp; done) | (simp [*]; done)), (by first | rfl | (simp; done) | (simp [*]; done)), H', ⟨by have := HJ8.out; have := HK2.out; have := HJ38.out; have := HJ40.out; have := HJ59.out; have := HK6.out; have := HK7.out; omega⟩, ⟨by (with_reducible repeat (first | apply Kd.R_alloc | apply Kd.R_drewN | apply Kd.R_drew)); exact HO_18.out⟩, ⟨by (with_reducible repeat (first | apply Kd.R_alloc | apply Kd.R_drewN | apply Kd.R_drew)); exact HO_22.out⟩, ⟨by repeat (first | (with_reducible first | exact HB.out | apply below_alloc | apply pw_below_drewN | apply below_drew1) | exact HB.out)⟩⟩
                                                        · rw [if_neg c88] at H
                                                          have c88b0 : decide (x32_7 < (wrap64 (Int.tdiv (wrap64 (t816 * (wrap64 (t816 - 1)))) 2))) = false := decide_eq_false c88
                                                          clear c88
                                                          have H' := Aside0.mk H
                                                          clear H
                                                          obtain ⟨Ao89, co89, eo89⟩ := Kd.R_slice HO_18.out
                                                          subst eo89
                                                          go_wp2
                                                          repeat (go_quiet (fail); try go_wp2)
                                                          go_loopg [30, 33, 229] k7 (fun kq v30 v33 v229 w' => ∃ (x30_8 : Int) (x33_8 : Int) (x229_8 : Int), v30 = .int .i64 x30_8 ∧ v33 = .int .i64 x33_8 ∧ v229 = .int .i64 x229_8 ∧ Aside0 (laws_FnSignsCounted.l4 kq t816 t817 t825 t835 t836 x28_6 x29_7 x30_8 x33_8 t817 (t817.length : Int) x229_8 = some r) ∧ Aside0 (kq ≤ k7) ∧ Aside0 (Kd.R (Kd.int .i64) 3 w' w.heap.size (fun k_ => some k_ ≠ (v827 : Value).ownBlock) (.slice Ao89 t817.length co89) t817) ∧ Aside0 (Kd.R (Kd.int .i64) 3 w' w.heap.size (fun k_ => some k_ ≠ ((.slice Ao89 t817.length co89) : Value).ownBlock ∧ some k_ ≠ ((.slice Ao89 t817.length co89) : Value).ownBlock) v827 t825) ∧ Aside0 (Kd.R (Kd.int .i64) 3 w' w.heap.size (fun k_ => some k_ ≠ (v827 : Value).ownBlock) (.slice Ao89 t817.length co89) t817) ∧ Aside0 (Below w.heap.size w w'))
                                                          case atStart => exact ⟨(0), (1), (0), (by first | rfl | (simp; done) | (simp [*]; done)), (by first | rfl | (simp; done) | (simp [*]; done)), (by first | rfl | (simp; done) | (simp [*]; done)), H', ⟨Nat.le_refl _⟩, ⟨by (with_reducible repeat (first | apply Kd.R_alloc | apply Kd.R_drewN | apply Kd.R_drew)); exact HO_18.out⟩, ⟨by (with_reducible repeat (first | apply Kd.R_alloc | apply Kd.R_drewN | apply Kd.R_drew)); exact Kd.R_mono HO_22.out (fun _ hk => ⟨hk, hk⟩)⟩, ⟨by (with_reducible repeat (first | apply Kd.R_alloc | apply Kd.R_drewN | apply Kd.R_drew)); exact HO_18.out⟩, ⟨by repeat (first | (with_reducible first | exact HB.out | apply below_alloc | apply pw_below_drewN | apply below_drew1) | exact HB.out)⟩⟩
                                                          case round =>
                                                            as_aux_lemma =>
                                                              clear H'
                                                              try clear c1
                                                              try clear p2
                                                              try clear c3
                                                              try clear c4
                                                              try clear c5
                                                              try clear c6
                                                              try clear p6
                                                              try clear c7
                                                              try clear c8
                                                              try clear p8
                                                              try clear q8
                                                              try clear hx8
                                                              try clear qi8
                                                              try clear c13
                                                              try clear c13b0
                                                              try clear c13b1
                                                              try clear c13b2
                                                              try clear c15
                                                              try clear c16
                                                              try clear c17
                                                              try clear c19
                                                              try clear c19b0
                                                              try clear c19b1
                                                              try clear c30
                                                              try clear c32
                                                              try clear c32b0
                                                              try clear c33
                                                              try clear c33b0
                                                              try clear c34
                                                              try clear c34b0
                                                              try clear c36
                                                              try clear c36b0
                                                              try clear c37
                                                              try clear c37b0
                                                              try clear c38
                                                              try clear c38b0
                                                              try clear c38b1
                                                              try clear c40
                                                              try clear c42
                                                              try clear c45
                                                              try clear c46
                                                              try clear c46b0
                                                              try clear c46b1
                                                              try clear c47
                                                              try clear c48
                                                              try clear c48b0
                                                              try clear c49
                                                              try clear c49b0
                                                              try clear c50
                                                              try clear c50b0
                                                              try clear c52
                                                              try clear c52b0
                                                              try clear c53
                                                              try clear c53b0
                                                              try clear c54
                                                              try clear c54b0
                                                              try clear c54b1
                                                              try clear p64
                                                              try clear c66
                                                              try clear c66b0
                                                              try clear c66b1
                                                              try clear c66b2
                                                              try clear c68
                                                              try clear c69
                                                              try clear c69b0
                                                              try clear c69b1
                                                              try clear c69b2
                                                              try clear c73
                                                              try clear p80
                                                              try clear q80
                                                              try clear hx80
                                                              try clear p81
                                                              try clear q81
                                                              try clear hx81
                                                              try clear qi81
                                                              try clear c84
                                                              try clear c85
                                                              try clear c87
                                                              try clear c87b0
                                                              try clear c88
                                                              try clear c88b0
                                                              try clear hx809_0
                                                              try clear hx810_0
                                                              try clear hx813_0
                                                              try clear hx814_0
                                                              try clear hx815_0
                                                              try clear p2
                                                              try clear p6
                                                              try clear p64
                                                              try clear p8
                                                              try clear p80
                                                              try clear p809
                                                              try clear p81
                                                              try clear p810
                                                              try clear p813
                                                              try clear p814
                                                              try clear p815
                                                              try clear q8
                                                              try clear q80
                                                              try clear q809
                                                              try clear q81
                                                              try clear q810
                                                              try clear q813
                                                              try clear q814
                                                              try clear q815
                                                              obtain ⟨x30_8, x33_8, x229_8, rfl, rfl, rfl, HA, HK8, HO_18, HO_22, HO_227, HB⟩ := hrel
                                                              cases gk with
                                                              | zero => exact absurd HA.out (by simp [laws_FnSignsCounted.l4])
                                                              | succ k8 =>
                                                                have H := HA.out
                                                                clear HA
                                                                simp only [laws_FnSignsCounted.l4] at H
                                                                by_cases c90 : x229_8 < (t817.length : Int)
                                                                · rw [if_pos c90] at H
                                                                  have c90b0 : decide (x229_8 < (t817.length : Int)) = true := decide_eq_true c90
                                                                  clear c90
                                                                  by_cases c91 : 0 ≤ x229_8
                                                                  · rw [if_pos c91] at H
                                                                    have c91b0 : decide (0 ≤ x229_8) = true := decide_eq_true c91
                                                                    clear c91
                                                                    by_cases c92 : x229_8 < (t817.length : Int)
                                                                    · rw [if_pos c92] at H
                                                                      have c92b0 : decide (x229_8 < (t817.length : Int)) = true := decide_eq_true c92
                                                                      clear c92
                                                                      have H' := Aside0.mk H
                                                                      clear H
                                                                      have p837 : 0 ≤ (x229_8 : Int) := of_decide_eq_true (by first | (with_reducible assumption) | assumption)
                                                                      have q837 : x229_8 < (t817.length : Int) := of_decide_eq_true (by first | (with_reducible assumption) | assumption)
                                                                      obtain ⟨ad837, e837, hx837_0⟩ := Kd.at_int (Kd.R_reads' HO_227.out).2.2 x229_8 p837 q837
                                                                      cases e837
                                                                      replace p837 := eq_true p837
                                                                      replace q837 := eq_true q837
                                                                      go_wp2
                                                                      repeat (go_quiet (fail); try go_wp2)
                                                                      go_roundg k8
                                                                      case measure => have := HJ8.out; have := HK2.out; have := HJ38.out; have := HJ40.out; have := HJ59.out; have := HK6.out; have := HK7.out; have := HK8.out; omega
                                                                      case rel => exact ⟨(wrap64 (x30_8 + (wrap64 (x33_8 * (rd t817 x229_8))))), (wrap64 (x33_8 * 2)), (wrap64 (x229_8 + 1)), (by first | rfl | (simp; done) | (simp [*]; done)), (by first | rfl | (simp; done) | (simp [*]; done)), (by first | rfl | (simp; done) | (simp [*]; done)), H', ⟨by have := HJ8.out; have := HK2.out; have := HJ38.out; have := HJ40.out; have := HJ59.out; have := HK6.out; have := HK7.out; have := HK8.out; omega⟩, ⟨by (with_reducible repeat (first | apply Kd.R_alloc | apply Kd.R_drewN | apply Kd.R_drew)); exact HO_18.out⟩, ⟨by (with_reducible repeat (first | apply Kd.R_alloc | apply Kd.R_drewN | apply Kd.R_drew)); exact HO_22.out⟩, ⟨by (with_reducible repeat (first | apply Kd.R_alloc | apply Kd.R_drewN | apply Kd.R_drew)); exact HO_227.out⟩, ⟨by repeat (first | (with_reducible first | exact HB.out | apply below_alloc | apply pw_below_drewN | apply below_drew1) | exact HB.out)⟩⟩
                                                                    · rw [if_neg c92] at H
                                                                      exact absurd H (by simp)
                                                                  · rw [if_neg c91] at H
                                                                    exact absurd H (by simp)
                                                                · rw [if_neg c90] at H
                                                                  have c90b0 : decide (x229_8 < (t817.length : Int)) = false := decide_eq_false c90
                                                                  clear c90
                                                                  by_cases c93 : t836 = true
                                                                  · subst c93
                                                                    have H1 : ((laws_hSum.f k8 t817).bind fun t838 => (if t838 = t835 then ((laws_hSum.f k8 t825).bind fun t839 => (if t839 = t835 then (if 0 < (t817.length : Int) then (if (rd t817 0) = x28_6 then (if x30_8 = x29_7 then (if (t825.length : Int) = (wrap64 ((wrap64 (Int.tdiv (wrap64 (t816 * (wrap64 (t816 - 1)))) 2)) + 1)) then (if 0 < (t825.length : Int) then (some ((rd t825 0) == 1)) else (none)) else (some false)) else (some false)) else (some false)) else (none)) else (some false))) else (some false))) = some r := by rw [if_pos rfl] at H; exact H
                                                                    clear H
                                                                    have H := H1
                                                                    clear H1
                                                                    replace H := Option.bind_eq_some_iff.mp H
                                                                    obtain ⟨t838, A940, H⟩ := H
                                                                    replace H : (if t838 = t835 then ((laws_hSum.f k8 t825).bind fun t839 => (if t839 = t835 then (if 0 < (t817.length : Int) then (if (rd t817 0) = x28_6 then (if x30_8 = x29_7 then (if (t825.length : Int) = (wrap64 ((wrap64 (Int.tdiv (wrap64 (t816 * (wrap64 (t816 - 1)))) 2)) + 1)) then (if 0 < (t825.length : Int) then (some ((rd t825 0) == 1)) else (none)) else (some false)) else (some false)) else (some false)) else (none)) else (some false))) else (some false)) = some r := H
                                                                    have A94 := Aside0.mk A940
                                                                    clear A940
                                                                    by_cases c95 : t838 = t835
                                                                    · rw [if_pos c95] at H
                                                                      have c95b0 : (t838 == t835) = true := beq_iff_eq.mpr c95
                                                                      have c95b1 : (t838 != t835) = false := bne_eq_false_iff_eq.mpr c95
                                                                      clear c95
                                                                      replace H := Option.bind_eq_some_iff.mp H
                                                                      obtain ⟨t839, A960, H⟩ := H
                                                                      replace H : (if t839 = t835 then (if 0 < (t817.length : Int) then (if (rd t817 0) = x28_6 then (if x30_8 = x29_7 then (if (t825.length : Int) = (wrap64 ((wrap64 (Int.tdiv (wrap64 (t816 * (wrap64 (t816 - 1)))) 2)) + 1)) then (if 0 < (t825.length : Int) then (some ((rd t825 0) == 1)) else (none)) else (some false)) else (some false)) else (some false)) else (none)) else (some false)) = some r := H
                                                                      have A96 := Aside0.mk A960
                                                                      clear A960
                                                                      by_cases c97 : t839 = t835
                                                                      · rw [if_pos c97] at H
                                                                        have c97b0 : (t839 == t835) = true := beq_iff_eq.mpr c97
                                                                        have c97b1 : (t839 != t835) = false := bne_eq_false_iff_eq.mpr c97
                                                                        clear c97
                                                                        by_cases c98 : 0 < (t817.length : Int)
                                                                        · rw [if_pos c98] at H
                                                                          have c98b0 : decide (0 < (t817.length : Int)) = true := decide_eq_true c98
                                                                          have c98b1 : decide (0 < t817.length) = true := decide_eq_true (by omega)
                                                                          clear c98
                                                                          by_cases c99 : (rd t817 0) = x28_6
                                                                          · rw [if_pos c99] at H
                                                                            have c99b0 : ((rd t817 0) == x28_6) = true := beq_iff_eq.mpr c99
                                                                            have c99b1 : ((rd t817 0) != x28_6) = false := bne_eq_false_iff_eq.mpr c99
                                                                            clear c99
                                                                            by_cases c100 : x30_8 = x29_7
                                                                            · rw [if_pos c100] at H
                                                                              have c100b0 : (x30_8 == x29_7) = true := beq_iff_eq.mpr c100
                                                                              have c100b1 : (x30_8 != x29_7) = false := bne_eq_false_iff_eq.mpr c100
                                                                              clear c100
                                                                              by_cases c101 : (t825.length : Int) = (wrap64 ((wrap64 (Int.tdiv (wrap64 (t816 * (wrap64 (t816 - 1)))) 2)) + 1))
                                                                              · rw [if_pos c101] at H
                                                                                have c101b0 : ((t825.length : Int) == (wrap64 ((wrap64 (Int.tdiv (wrap64 (t816 * (wrap64 (t816 - 1)))) 2)) + 1))) = true := beq_iff_eq.mpr c101
                                                                                have c101b1 : ((t825.length : Int) != (wrap64 ((wrap64 (Int.tdiv (wrap64 (t816 * (wrap64 (t816 - 1)))) 2)) + 1))) = false := bne_eq_false_iff_eq.mpr c101
                                                                                clear c101
                                                                                by_cases c102 : 0 < (t825.length : Int)
                                                                                · rw [if_pos c102] at H
                                                                                  have c102b0 : decide (0 < (t825.length : Int)) = true := decide_eq_true c102
                                                                                  have c102b1 : decide (0 < t825.length) = true := decide_eq_true (by omega)
                                                                                  clear c102
                                                                                  obtain rfl := Option.some.inj H
                                                                                  go_wp2_with (first | (go_at_call 56; (with_reducible refine (laws_hSum.calls k8 _ _ t817 t838 _ ?side1 ?side2 A94.out).mono ?_); (case side1 => repeat (first | exact (Kd.R_reads' HO_18.out).2.2 | (with_reducible refine Kd.C_alloc ?_ _) | (with_reducible refine Kd.C_drewN ?_ _) | (with_reducible refine Kd.C_drew ?_))); (case side2 => exact (Kd.R_reads' HO_18.out).2.1); rintro e w' ⟨rfl, ⟨nd, rfl⟩⟩; (try first | exact ⟨rfl, _, World.drewN_drewN _ _ _⟩ | exact ⟨rfl, _, Eq.trans (World.drewN_drewN _ _ _) (congrArg (World.drewN _) (Nat.add_assoc _ _ _))⟩); obtain ⟨Ao103, co103, eo103⟩ := Kd.R_slice HO_22.out; subst eo103) | (go_at_call 56; (with_reducible refine (laws_hSum.calls k8 _ _ t825 t839 _ ?side1 ?side2 A96.out).mono ?_); (case side1 => repeat (first | exact (Kd.R_reads' HO_22.out).2.2 | (with_reducible refine Kd.C_alloc ?_ _) | (with_reducible refine Kd.C_drewN ?_ _) | (with_reducible refine Kd.C_drew ?_))); (case side2 => exact (Kd.R_reads' HO_22.out).2.1); rintro e w' ⟨rfl, ⟨nd, rfl⟩⟩; (try first | exact ⟨rfl, _, World.drewN_drewN _ _ _⟩ | exact ⟨rfl, _, Eq.trans (World.drewN_drewN _ _ _) (congrArg (World.drewN _) (Nat.add_assoc _ _ _))⟩); have p840 : 0 ≤ (0 : Int) := (by omega); have q840 : 0 < (t817.length : Int) := of_decide_eq_true (by first | (with_reducible assumption) | assumption); obtain ⟨ad840, e840, hx840_0⟩ := Kd.at_int (Kd.R_reads' HO_18.out).2.2 0 p840 q840; cases e840; have qi840 : (0 < t817.length) = True := eq_true (by omega); (try rw [show ((0 : Int)).toNat = 0 from rfl] at hx840_0); (try rw [Addr.add_zero'] at hx840_0); replace p840 := eq_true p840; replace q840 := eq_true q840; have p841 : 0 ≤ (0 : Int) := (by omega); have q841 : 0 < (t825.length : Int) := of_decide_eq_true (by first | (with_reducible assumption) | assumption); obtain ⟨ad841, e841, hx841_0⟩ := Kd.at_int (Kd.R_reads' HO_22.out).2.2 0 p841 q841; cases e841; have qi841 : (0 < t825.length) = True := eq_true (by omega); (try rw [show ((0 : Int)).toNat = 0 from rfl] at hx841_0); (try rw [Addr.add_zero'] at hx841_0); replace p841 := eq_true p841; replace q841 := eq_true q841))
                                                                                  repeat (go_quiet (first | (go_at_call 56; (with_reducible refine (laws_hSum.calls k8 _ _ t817 t838 _ ?side1 ?side2 A94.out).mono ?_); (case side1 => repeat (first | exact (Kd.R_reads' HO_18.out).2.2 | (with_reducible refine Kd.C_alloc ?_ _) | (with_reducible refine Kd.C_drewN ?_ _) | (with_reducible refine Kd.C_drew ?_))); (case side2 => exact (Kd.R_reads' HO_18.out).2.1); rintro e w' ⟨rfl, ⟨nd, rfl⟩⟩; (try first | exact ⟨rfl, _, World.drewN_drewN _ _ _⟩ | exact ⟨rfl, _, Eq.trans (World.drewN_drewN _ _ _) (congrArg (World.drewN _) (Nat.add_assoc _ _ _))⟩); obtain ⟨Ao103, co103, eo103⟩ := Kd.R_slice HO_22.out; subst eo103) | (go_at_call 56; (with_reducible refine (laws_hSum.calls k8 _ _ t825 t839 _ ?side1 ?side2 A96.out).mono ?_); (case side1 => repeat (first | exact (Kd.R_reads' HO_22.out).2.2 | (with_reducible refine Kd.C_alloc ?_ _) | (with_reducible refine Kd.C_drewN ?_ _) | (with_reducible refine Kd.C_drew ?_))); (case side2 => exact (Kd.R_reads' HO_22.out).2.1); rintro e w' ⟨rfl, ⟨nd, rfl⟩⟩; (try first | exact ⟨rfl, _, World.drewN_drewN _ _ _⟩ | exact ⟨rfl, _, Eq.trans (World.drewN_drewN _ _ _) (congrArg (World.drewN _) (Nat.add_assoc _ _ _))⟩); have p840 : 0 ≤ (0 : Int) := (by omega); have q840 : 0 < (t817.length : Int) := of_decide_eq_true (by first | (with_reducible assumption) | assumption); obtain ⟨ad840, e840, hx840_0⟩ := Kd.at_int (Kd.R_reads' HO_18.out).2.2 0 p840 q840; cases e840; have qi840 : (0 < t817.length) = True := eq_true (by omega); (try rw [show ((0 : Int)).toNat = 0 from rfl] at hx840_0); (try rw [Addr.add_zero'] at hx840_0); replace p840 := eq_true p840; replace q840 := eq_true q840; have p841 : 0 ≤ (0 : Int) := (by omega); have q841 : 0 < (t825.length : Int) := of_decide_eq_true (by first | (with_reducible assumption) | assumption); obtain ⟨ad841, e841, hx841_0⟩ := Kd.at_int (Kd.R_reads' HO_22.out).2.2 0 p841 q841; cases e841; have qi841 : (0 < t825.length) = True := eq_true (by omega); (try rw [show ((0 : Int)).toNat = 0 from rfl] at hx841_0); (try rw [Addr.add_zero'] at hx841_0); replace p841 := eq_true p841; replace q841 := eq_true q841)); try go_wp2_with (first | (go_at_call 56; (with_reducible refine (laws_hSum.calls k8 _ _ t817 t838 _ ?side1 ?side2 A94.out).mono ?_); (case side1 => repeat (first | exact (Kd.R_reads' HO_18.out).2.2 | (with_reducible refine Kd.C_alloc ?_ _) | (with_reducible refine Kd.C_drewN ?_ _) | (with_reducible refine Kd.C_drew ?_))); (case side2 => exact (Kd.R_reads' HO_18.out).2.1); rintro e w' ⟨rfl, ⟨nd, rfl⟩⟩; (try first | exact ⟨rfl, _, World.drewN_drewN _ _ _⟩ | exact ⟨rfl, _, Eq.trans (World.drewN_drewN _ _ _) (congrArg (World.drewN _) (Nat.add_assoc _ _ _))⟩); obtain ⟨Ao103, co103, eo103⟩ := Kd.R_slice HO_22.out; subst eo103) | (go_at_call 56; (with_reducible refine (laws_hSum.calls k8 _ _ t825 t839 _ ?side1 ?side2 A96.out).mono ?_); (case side1 => repeat (first | exact (Kd.R_reads' HO_22.out).2.2 | (with_reducible refine Kd.C_alloc ?_ _) | (with_reducible refine Kd.C_drewN ?_ _) | (with_reducible refine Kd.C_drew ?_))); (case side2 => exact (Kd.R_reads' HO_22.out).2.1); rintro e w' ⟨rfl, ⟨nd, rfl⟩⟩; (try first | exact ⟨rfl, _, World.drewN_drewN _ _ _⟩ | exact ⟨rfl, _, Eq.trans (World.drewN_drewN _ _ _) (congrArg (World.drewN _) (Nat.add_assoc _ _ _))⟩); have p840 : 0 ≤ (0 : Int) := (by omega); have q840 : 0 < (t817.length : Int) := of_decide_eq_true (by first | (with_reducible assumption) | assumption); obtain ⟨ad840, e840, hx840_0⟩ := Kd.at_int (Kd.R_reads' HO_18.out).2.2 0 p840 q840; cases e840; have qi840 : (0 < t817.length) = True := eq_true (by omega); (try rw [show ((0 : Int)).toNat = 0 from rfl] at hx840_0); (try rw [Addr.add_zero'] at hx840_0); replace p840 := eq_true p840; replace q840 := eq_true q840; have p841 : 0 ≤ (0 : Int) := (by omega); have q841 : 0 < (t825.length : Int) := of_decide_eq_true (by first | (with_reducible assumption) | assumption); obtain ⟨ad841, e841, hx841_0⟩ := Kd.at_int (Kd.R_reads' HO_22.out).2.2 0 p841 q841; cases e841; have qi841 : (0 < t825.length) = True := eq_true (by omega); (try rw [show ((0 : Int)).toNat = 0 from rfl] at hx841_0); (try rw [Addr.add_zero'] at hx841_0); replace p841 := eq_true p841; replace q841 := eq_true q841)))
                                                                                  go_ret
                                                                                  exact ⟨by first | rfl | (simp [errW_none, errW_some] <;> rfl) | (simp [*, errW_none, errW_some] <;> rfl), by repeat (first | (with_reducible first | exact HB.out | apply below_alloc | apply pw_below_drewN | apply below_drew1) | exact HB.out)⟩
                                                                                · rw [if_neg c102] at H
                                                                                  exact absurd H (by simp)
                                                                              · rw [if_neg c101] at H
                                                                                have c101b0 : ((t825.length : Int) == (wrap64 ((wrap64 (Int.tdiv (wrap64 (t816 * (wrap64 (t816 - 1)))) 2)) + 1))) = false := beq_eq_false_iff_ne.mpr c101
                                                                                have c101b1 : ((t825.length : Int) != (wrap64 ((wrap64 (Int.tdiv (wrap64 (t816 * (wrap64 (t816 - 1)))) 2)) + 1))) = true := bne_iff_ne.mpr c101
                                                                                obtain rfl := Option.some.inj H
                                                                                go_wp2_with (first | (go_at_call 56; (with_reducible refine (laws_hSum.calls k8 _ _ t817 t838 _ ?side1 ?side2 A94.out).mono ?_); (case side1 => repeat (first | exact (Kd.R_reads' HO_18.out).2.2 | (with_reducible refine Kd.C_alloc ?_ _) | (with_reducible refine Kd.C_drewN ?_ _) | (with_reducible refine Kd.C_drew ?_))); (case side2 => exact (Kd.R_reads' HO_18.out).2.1); rintro e w' ⟨rfl, ⟨nd, rfl⟩⟩; (try first | exact ⟨rfl, _, World.drewN_drewN _ _ _⟩ | exact ⟨rfl, _, Eq.trans (World.drewN_drewN _ _ _) (congrArg (World.drewN _) (Nat.add_assoc _ _ _))⟩); obtain ⟨Ao104, co104, eo104⟩ := Kd.R_slice HO_22.out; subst eo104) | (go_at_call 56; (with_reducible refine (laws_hSum.calls k8 _ _ t825 t839 _ ?side1 ?side2 A96.out).mono ?_); (case side1 => repeat (first | exact (Kd.R_reads' HO_22.out).2.2 | (with_reducible refine Kd.C_alloc ?_ _) | (with_reducible refine Kd.C_drewN ?_ _) | (with_reducible refine Kd.C_drew ?_))); (case side2 => exact (Kd.R_reads' HO_22.out).2.1); rintro e w' ⟨rfl, ⟨nd, rfl⟩⟩; (try first | exact ⟨rfl, _, World.drewN_drewN _ _ _⟩ | exact ⟨rfl, _, Eq.trans (World.drewN_drewN _ _ _) (congrArg (World.drewN _) (Nat.add_assoc _ _ _))⟩); have p840 : 0 ≤ (0 : Int) := (by omega); have q840 : 0 < (t817.length : Int) := of_decide_eq_true (by first | (with_reducible assumption) | assumption); obtain ⟨ad840, e840, hx840_0⟩ := Kd.at_int (Kd.R_reads' HO_18.out).2.2 0 p840 q840; cases e840; have qi840 : (0 < t817.length) = True := eq_true (by omega); (try rw [show ((0 : Int)).toNat = 0 from rfl] at hx840_0); (try rw [Addr.add_zero'] at hx840_0); replace p840 := eq_true p840; replace q840 := eq_true q840))
                                                                                repeat (go_quiet (first | (go_at_call 56; (with_reducible refine (laws_hSum.calls k8 _ _ t817 t838 _ ?side1 ?side2 A94.out).mono ?_); (case side1 => repeat (first | exact (Kd.R_reads' HO_18.out).2.2 | (with_reducible refine Kd.C_alloc ?_ _) | (with_reducible refine Kd.C_drewN ?_ _) | (with_reducible refine Kd.C_drew ?_))); (case side2 => exact (Kd.R_reads' HO_18.out).2.1); rintro e w' ⟨rfl, ⟨nd, rfl⟩⟩; (try first | exact ⟨rfl, _, World.drewN_drewN _ _ _⟩ | exact ⟨rfl, _, Eq.trans (World.drewN_drewN _ _ _) (congrArg (World.drewN _) (Nat.add_assoc _ _ _))⟩); obtain ⟨Ao104, co104, eo104⟩ := Kd.R_slice HO_22.out; subst eo104) | (go_at_call 56; (with_reducible refine (laws_hSum.calls k8 _ _ t825 t839 _ ?side1 ?side2 A96.out).mono ?_); (case side1 => repeat (first | exact (Kd.R_reads' HO_22.out).2.2 | (with_reducible refine Kd.C_alloc ?_ _) | (with_reducible refine Kd.C_drewN ?_ _) | (with_reducible refine Kd.C_drew ?_))); (case side2 => exact (Kd.R_reads' HO_22.out).2.1); rintro e w' ⟨rfl, ⟨nd, rfl⟩⟩; (try first | exact ⟨rfl, _, World.drewN_drewN _ _ _⟩ | exact ⟨rfl, _, Eq.trans (World.drewN_drewN _ _ _) (congrArg (World.drewN _) (Nat.add_assoc _ _ _))⟩); have p840 : 0 ≤ (0 : Int) := (by omega); have q840 : 0 < (t817.length : Int) := of_decide_eq_true (by first | (with_reducible assumption) | assumption); obtain ⟨ad840, e840, hx840_0⟩ := Kd.at_int (Kd.R_reads' HO_18.out).2.2 0 p840 q840; cases e840; have qi840 : (0 < t817.length) = True := eq_true (by omega); (try rw [show ((0 : Int)).toNat = 0 from rfl] at hx840_0); (try rw [Addr.add_zero'] at hx840_0); replace p840 := eq_true p840; replace q840 := eq_true q840)); try go_wp2_with (first | (go_at_call 56; (with_reducible refine (laws_hSum.calls k8 _ _ t817 t838 _ ?side1 ?side2 A94.out).mono ?_); (case side1 => repeat (first | exact (Kd.R_reads' HO_18.out).2.2 | (with_reducible refine Kd.C_alloc ?_ _) | (with_reducible refine Kd.C_drewN ?_ _) | (with_reducible refine Kd.C_drew ?_))); (case side2 => exact (Kd.R_reads' HO_18.out).2.1); rintro e w' ⟨rfl, ⟨nd, rfl⟩⟩; (try first | exact ⟨rfl, _, World.drewN_drewN _ _ _⟩ | exact ⟨rfl, _, Eq.trans (World.drewN_drewN _ _ _) (congrArg (World.drewN _) (Nat.add_assoc _ _ _))⟩); obtain ⟨Ao104, co104, eo104⟩ := Kd.R_slice HO_22.out; subst eo104) | (go_at_call 56; (with_reducible refine (laws_hSum.calls k8 _ _ t825 t839 _ ?side1 ?side2 A96.out).mono ?_); (case side1 => repeat (first | exact (Kd.R_reads' HO_22.out).2.2 | (with_reducible refine Kd.C_alloc ?_ _) | (with_reducible refine Kd.C_drewN ?_ _) | (with_reducible refine Kd.C_drew ?_))); (case side2 => exact (Kd.R_reads' HO_22.out).2.1); rintro e w' ⟨rfl, ⟨nd, rfl⟩⟩; (try first | exact ⟨rfl, _, World.drewN_drewN _ _ _⟩ | exact ⟨rfl, _, Eq.trans (World.drewN_drewN _ _ _) (congrArg (World.drewN _) (Nat.add_assoc _ _ _))⟩); have p840 : 0 ≤ (0 : Int) := (by omega); have q840 : 0 < (t817.length : Int) := of_decide_eq_true (by first | (with_reducible assumption) | assumption); obtain ⟨ad840, e840, hx840_0⟩ := Kd.at_int (Kd.R_reads' HO_18.out).2.2 0 p840 q840; cases e840; have qi840 : (0 < t817.length) = True := eq_true (by omega); (try rw [show ((0 : Int)).toNat = 0 from rfl] at hx840_0); (try rw [Addr.add_zero'] at hx840_0); replace p840 := eq_true p840; replace q840 := eq_true q840)))
                                                                                go_ret
                                                                                exact ⟨by first | rfl | (simp [errW_none, errW_some] <;> rfl) | (simp [*, errW_none, errW_some] <;> rfl), by repeat (first | (with_reducible first | exact HB.out | apply below_alloc | apply pw_below_drewN | apply below_drew1) | exact HB.out)⟩
                                                                            · rw [if_neg c100] at H
                                                                              have c100b0 : (x30_8 == x29_7) = false := beq_eq_false_iff_ne.mpr c100
                                                                              have c100b1 : (x30_8 != x29_7) = true := bne_iff_ne.mpr c100
                                                                              obtain rfl := Option.some.inj H
                                                                              go_wp2_with (first | (go_at_call 56; (with_reducible refine (laws_hSum.calls k8 _ _ t817 t838 _ ?side1 ?side2 A94.out).mono ?_); (case side1 => repeat (first | exact (Kd.R_reads' HO_18.out).2.2 | (with_reducible refine Kd.C_alloc ?_ _) | (with_reducible refine Kd.C_drewN ?_ _) | (with_reducible refine Kd.C_drew ?_))); (case side2 => exact (Kd.R_reads' HO_18.out).2.1); rintro e w' ⟨rfl, ⟨nd, rfl⟩⟩; (try first | exact ⟨rfl, _, World.drewN_drewN _ _ _⟩ | exact ⟨rfl, _, Eq.trans (World.drewN_drewN _ _ _) (congrArg (World.drewN _) (Nat.add_assoc _ _ _))⟩); obtain ⟨Ao105, co105, eo105⟩ := Kd.R_slice HO_22.out; subst eo105) | (go_at_call 56; (with_reducible refine (laws_hSum.calls k8 _ _ t825 t839 _ ?side1 ?side2 A96.out).mono ?_); (case side1 => repeat (first | exact (Kd.R_reads' HO_22.out).2.2 | (with_reducible refine Kd.C_alloc ?_ _) | (with_reducible refine Kd.C_drewN ?_ _) | (with_reducible refine Kd.C_drew ?_))); (case side2 => exact (Kd.R_reads' HO_22.out).2.1); rintro e w' ⟨rfl, ⟨nd, rfl⟩⟩; (try first | exact ⟨rfl, _, World.drewN_drewN _ _ _⟩ | exact ⟨rfl, _, Eq.trans (World.drewN_drewN _ _ _) (congrArg (World.drewN _) (Nat.add_assoc _ _ _))⟩); have p840 : 0 ≤ (0 : Int) := (by omega); have q840 : 0 < (t817.length : Int) := of_decide_eq_true (by first | (with_reducible assumption) | assumption); obtain ⟨ad840, e840, hx840_0⟩ := Kd.at_int (Kd.R_reads' HO_18.out).2.2 0 p840 q840; cases e840; have qi840 : (0 < t817.length) = True := eq_true (by omega); (try rw [show ((0 : Int)).toNat = 0 from rfl] at hx840_0); (try rw [Addr.add_zero'] at hx840_0); replace p840 := eq_true p840; replace q840 := eq_true q840))
                                                                              repeat (go_quiet (first | (go_at_call 56; (with_reducible refine (laws_hSum.calls k8 _ _ t817 t838 _ ?side1 ?side2 A94.out).mono ?_); (case side1 => repeat (first | exact (Kd.R_reads' HO_18.out).2.2 | (with_reducible refine Kd.C_alloc ?_ _) | (with_reducible refine Kd.C_drewN ?_ _) | (with_reducible refine Kd.C_drew ?_))); (case side2 => exact (Kd.R_reads' HO_18.out).2.1); rintro e w' ⟨rfl, ⟨nd, rfl⟩⟩; (try first | exact ⟨rfl, _, World.drewN_drewN _ _ _⟩ | exact ⟨rfl, _, Eq.trans (World.drewN_drewN _ _ _) (congrArg (World.drewN _) (Nat.add_assoc _ _ _))⟩); obtain ⟨Ao105, co105, eo105⟩ := Kd.R_slice HO_22.out; subst eo105) | (go_at_call 56; (with_reducible refine (laws_hSum.calls k8 _ _ t825 t839 _ ?side1 ?side2 A96.out).mono ?_); (case side1 => repeat (first | exact (Kd.R_reads' HO_22.out).2.2 | (with_reducible refine Kd.C_alloc ?_ _) | (with_reducible refine Kd.C_drewN ?_ _) | (with_reducible refine Kd.C_drew ?_))); (case side2 => exact (Kd.R_reads' HO_22.out).2.1); rintro e w' ⟨rfl, ⟨nd, rfl⟩⟩; (try first | exact ⟨rfl, _, World.drewN_drewN _ _ _⟩ | exact ⟨rfl, _, Eq.trans (World.drewN_drewN _ _ _) (congrArg (World.drewN _) (Nat.add_assoc _ _ _))⟩); have p840 : 0 ≤ (0 : Int) := (by omega); have q840 : 0 < (t817.length : Int) := of_decide_eq_true (by first | (with_reducible assumption) | assumption); obtain ⟨ad840, e840, hx840_0⟩ := Kd.at_int (Kd.R_reads' HO_18.out).2.2 0 p840 q840; cases e840; have qi840 : (0 < t817.length) = True := eq_true (by omega); (try rw [show ((0 : Int)).toNat = 0 from rfl] at hx840_0); (try rw [Addr.add_zero'] at hx840_0); replace p840 := eq_true p840; replace q840 := eq_true q840)); try go_wp2_with (first | (go_at_call 56; (with_reducible refine (laws_hSum.calls k8 _ _ t817 t838 _ ?side1 ?side2 A94.out).mono ?_); (case side1 => repeat (first | exact (Kd.R_reads' HO_18.out).2.2 | (with_reducible refine Kd.C_alloc ?_ _) | (with_reducible refine Kd.C_drewN ?_ _) | (with_reducible refine Kd.C_drew ?_))); (case side2 => exact (Kd.R_reads' HO_18.out).2.1); rintro e w' ⟨rfl, ⟨nd, rfl⟩⟩; (try first | exact ⟨rfl, _, World.drewN_drewN _ _ _⟩ | exact ⟨rfl, _, Eq.trans (World.drewN_drewN _ _ _) (congrArg (World.drewN _) (Nat.add_assoc _ _ _))⟩); obtain ⟨Ao105, co105, eo105⟩ := Kd.R_slice HO_22.out; subst eo105) | (go_at_call 56; (with_reducible refine (laws_hSum.calls k8 _ _ t825 t839 _ ?side1 ?side2 A96.out).mono ?_); (case side1 => repeat (first | exact (Kd.R_reads' HO_22.out).2.2 | (with_reducible refine Kd.C_alloc ?_ _) | (with_reducible refine Kd.C_drewN ?_ _) | (with_reducible refine Kd.C_drew ?_))); (case side2 => exact (Kd.R_reads' HO_22.out).2.1); rintro e w' ⟨rfl, ⟨nd, rfl⟩⟩; (try first | exact ⟨rfl, _, World.drewN_drewN _ _ _⟩ | exact ⟨rfl, _, Eq.trans (World.drewN_drewN _ _ _) (congrArg (World.drewN _) (Nat.add_assoc _ _ _))⟩); have p840 : 0 ≤ (0 : Int) := (by omega); have q840 : 0 < (t817.length : Int) := of_decide_eq_true (by first | (with_reducible assumption) | assumption); obtain ⟨ad840, e840, hx840_0⟩ := Kd.at_int (Kd.R_reads' HO_18.out).2.2 0 p840 q840; cases e840; have qi840 : (0 < t817.length) = True := eq_true (by omega); (try rw [show ((0 : Int)).toNat = 0 from rfl] at hx840_0); (try rw [Addr.add_zero'] at hx840_0); replace p840 := eq_true p840; replace q840 := eq_true q840)))
                                                                              go_ret
                                                                              exact ⟨by first | rfl | (simp [errW_none, errW_some] <;> rfl) | (simp [*, errW_none, errW_some] <;> rfl), by repeat (first | (with_reducible first | exact HB.out | apply below_alloc | apply pw_below_drewN | apply below_drew1) | exact HB.out)⟩
                                                                          · rw [if_neg c99] at H
                                                                            have c99b0 : ((rd t817 0) == x28_6) = false := beq_eq_false_iff_ne.mpr c99
                                                                            have c99b1 : ((rd t817 0) != x28_6) = true := bne_iff_ne.mpr c99
                                                                            obtain rfl := Option.some.inj H
                                                                            go_wp2_with (first | (go_at_call 56; (with_reducible refine (laws_hSum.calls k8 _ _ t817 t838 _ ?side1 ?side2 A94.out).mono ?_); (case side1 => repeat (first | exact (Kd.R_reads' HO_18.out).2.2 | (with_reducible refine Kd.C_alloc ?_ _) | (with_reducible refine Kd.C_drewN ?_ _) | (with_reducible refine Kd.C_drew ?_))); (case side2 => exact (Kd.R_reads' HO_18.out).2.1); rintro e w' ⟨rfl, ⟨nd, rfl⟩⟩; (try first | exact ⟨rfl, _, World.drewN_drewN _ _ _⟩ | exact ⟨rfl, _, Eq.trans (World.drewN_drewN _ _ _) (congrArg (World.drewN _) (Nat.add_assoc _ _ _))⟩); obtain ⟨Ao106, co106, eo106⟩ := Kd.R_slice HO_22.out; subst eo106) | (go_at_call 56; (with_reducible refine (laws_hSum.calls k8 _ _ t825 t839 _ ?side1 ?side2 A96.out).mono ?_); (case side1 => repeat (first | exact (Kd.R_reads' HO_22.out).2.2 | (with_reducible refine Kd.C_alloc ?_ _) | (with_reducible refine Kd.C_drewN ?_ _) | (with_reducible refine Kd.C_drew ?_))); (case side2 => exact (Kd.R_reads' HO_22.out).2.1); rintro e w' ⟨rfl, ⟨nd, rfl⟩⟩; (try first | exact ⟨rfl, _, World.drewN_drewN _ _ _⟩ | exact ⟨rfl, _, Eq.trans (World.drewN_drewN _ _ _) (congrArg (World.drewN _) (Nat.add_assoc _ _ _))⟩); have p840 : 0 ≤ (0 : Int) := (by omega); have q840 : 0 < (t817.length : Int) := of_decide_eq_true (by first | (with_reducible assumption) | assumption); obtain ⟨ad840, e840, hx840_0⟩ := Kd.at_int (Kd.R_reads' HO_18.out).2.2 0 p840 q840; cases e840; have qi840 : (0 < t817.length) = True := eq_true (by omega); (try rw [show ((0 : Int)).toNat = 0 from rfl] at hx840_0); (try rw [Addr.add_zero'] at hx840_0); replace p840 := eq_true p840; replace q840 := eq_true q840))
                                                                            repeat (go_quiet (first | (go_at_call 56; (with_reducible refine (laws_hSum.calls k8 _ _ t817 t838 _ ?side1 ?side2 A94.out).mono ?_); (case side1 => repeat (first | exact (Kd.R_reads' HO_18.out).2.2 | (with_reducible refine Kd.C_alloc ?_ _) | (with_reducible refine Kd.C_drewN ?_ _) | (with_reducible refine Kd.C_drew ?_))); (case side2 => exact (Kd.R_reads' HO_18.out).2.1); rintro e w' ⟨rfl, ⟨nd, rfl⟩⟩; (try first | exact ⟨rfl, _, World.drewN_drewN _ _ _⟩ | exact ⟨rfl, _, Eq.trans (World.drewN_drewN _ _ _) (congrArg (World.drewN _) (Nat.add_assoc _ _ _))⟩); obtain ⟨Ao106, co106, eo106⟩ := Kd.R_slice HO_22.out; subst eo106) | (go_at_call 56; (with_reducible refine (laws_hSum.calls k8 _ _ t825 t839 _ ?side1 ?side2 A96.out).mono ?_); (case side1 => repeat (first | exact (Kd.R_reads' HO_22.out).2.2 | (with_reducible refine Kd.C_alloc ?_ _) | (with_reducible refine Kd.C_drewN ?_ _) | (with_reducible refine Kd.C_drew ?_))); (case side2 => exact (Kd.R_reads' HO_22.out).2.1); rintro e w' ⟨rfl, ⟨nd, rfl⟩⟩; (try first | exact ⟨rfl, _, World.drewN_drewN _ _ _⟩ | exact ⟨rfl, _, Eq.trans (World.drewN_drewN _ _ _) (congrArg (World.drewN _) (Nat.add_assoc _ _ _))⟩); have p840 : 0 ≤ (0 : Int) := (by omega); have q840 : 0 < (t817.length : Int) := of_decide_eq_true (by first | (with_reducible assumption) | assumption); obtain ⟨ad840, e840, hx840_0⟩ := Kd.at_int (Kd.R_reads' HO_18.out).2.2 0 p840 q840; cases e840; have qi840 : (0 < t817.length) = True := eq_true (by omega); (try rw [show ((0 : Int)).toNat = 0 from rfl] at hx840_0); (try rw [Addr.add_zero'] at hx840_0); replace p840 := eq_true p840; replace q840 := eq_true q840)); try go_wp2_with (first | (go_at_call 56; (with_reducible refine (laws_hSum.calls k8 _ _ t817 t838 _ ?side1 ?side2 A94.out).mono ?_); (case side1 => repeat (first | exact (Kd.R_reads' HO_18.out).2.2 | (with_reducible refine Kd.C_alloc ?_ _) | (with_reducible refine Kd.C_drewN ?_ _) | (with_reducible refine Kd.C_drew ?_))); (case side2 => exact (Kd.R_reads' HO_18.out).2.1); rintro e w' ⟨rfl, ⟨nd, rfl⟩⟩; (try first | exact ⟨rfl, _, World.drewN_drewN _ _ _⟩ | exact ⟨rfl, _, Eq.trans (World.drewN_drewN _ _ _) (congrArg (World.drewN _) (Nat.add_assoc _ _ _))⟩); obtain ⟨Ao106, co106, eo106⟩ := Kd.R_slice HO_22.out; subst eo106) | (go_at_call 56; (with_reducible refine (laws_hSum.calls k8 _ _ t825 t839 _ ?side1 ?side2 A96.out).mono ?_); (case side1 => repeat (first | exact (Kd.R_reads' HO_22.out).2.2 | (with_reducible refine Kd.C_alloc ?_ _) | (with_reducible refine Kd.C_drewN ?_ _) | (with_reducible refine Kd.C_drew ?_))); (case side2 => exact (Kd.R_reads' HO_22.out).2.1); rintro e w' ⟨rfl, ⟨nd, rfl⟩⟩; (try first | exact ⟨rfl, _, World.drewN_drewN _ _ _⟩ | exact ⟨rfl, _, Eq.trans (World.drewN_drewN _ _ _) (congrArg (World.drewN _) (Nat.add_assoc _ _ _))⟩); have p840 : 0 ≤ (0 : Int) := (by omega); have q840 : 0 < (t817.length : Int) := of_decide_eq_true (by first | (with_reducible assumption) | assumption); obtain ⟨ad840, e840, hx840_0⟩ := Kd.at_int (Kd.R_reads' HO_18.out).2.2 0 p840 q840; cases e840; have qi840 : (0 < t817.length) = True := eq_true (by omega); (try rw [show ((0 : Int)).toNat = 0 from rfl] at hx840_0); (try rw [Addr.add_zero'] at hx840_0); replace p840 := eq_true p840; replace q840 := eq_true q840)))
                                                                            go_ret
                                                                            exact ⟨by first | rfl | (simp [errW_none, errW_some] <;> rfl) | (simp [*, errW_none, errW_some] <;> rfl), by repeat (first | (with_reducible first | exact HB.out | apply below_alloc | apply pw_below_drewN | apply below_drew1) | exact HB.out)⟩
                                                                        · rw [if_neg c98] at H
                                                                          exact absurd H (by simp)
                                                                      · rw [if_neg c97] at H
                                                                        have c97b0 : (t839 == t835) = false := beq_eq_false_iff_ne.mpr c97
                                                                        have c97b1 : (t839 != t835) = true := bne_iff_ne.mpr c97
                                                                        obtain rfl := Option.some.inj H
                                                                        go_wp2_with (first | (go_at_call 56; (with_reducible refine (laws_hSum.calls k8 _ _ t817 t838 _ ?side1 ?side2 A94.out).mono ?_); (case side1 => repeat (first | exact (Kd.R_reads' HO_18.out).2.2 | (with_reducible refine Kd.C_alloc ?_ _) | (with_reducible refine Kd.C_drewN ?_ _) | (with_reducible refine Kd.C_drew ?_))); (case side2 => exact (Kd.R_reads' HO_18.out).2.1); rintro e w' ⟨rfl, ⟨nd, rfl⟩⟩; (try first | exact ⟨rfl, _, World.drewN_drewN _ _ _⟩ | exact ⟨rfl, _, Eq.trans (World.drewN_drewN _ _ _) (congrArg (World.drewN _) (Nat.add_assoc _ _ _))⟩); obtain ⟨Ao107, co107, eo107⟩ := Kd.R_slice HO_22.out; subst eo107) | (go_at_call 56; (with_reducible refine (laws_hSum.calls k8 _ _ t825 t839 _ ?side1 ?side2 A96.out).mono ?_); (case side1 => repeat (first | exact (Kd.R_reads' HO_22.out).2.2 | (with_reducible refine Kd.C_alloc ?_ _) | (with_reducible refine Kd.C_drewN ?_ _) | (with_reducible refine Kd.C_drew ?_))); (case side2 => exact (Kd.R_reads' HO_22.out).2.1); rintro e w' ⟨rfl, ⟨nd, rfl⟩⟩; (try first | exact ⟨rfl, _, World.drewN_drewN _ _ _⟩ | exact ⟨rfl, _, Eq.trans (World.drewN_drewN _ _ _) (congrArg (World.drewN _) (Nat.add_assoc _ _ _))⟩)))
                                                                        repeat (go_quiet (first | (go_at_call 56; (with_reducible refine (laws_hSum.calls k8 _ _ t817 t838 _ ?side1 ?side2 A94.out).mono ?_); (case side1 => repeat (first | exact (Kd.R_reads' HO_18.out).2.2 | (with_reducible refine Kd.C_alloc ?_ _) | (with_reducible refine Kd.C_drewN ?_ _) | (with_reducible refine Kd.C_drew ?_))); (case side2 => exact (Kd.R_reads' HO_18.out).2.1); rintro e w' ⟨rfl, ⟨nd, rfl⟩⟩; (try first | exact ⟨rfl, _, World.drewN_drewN _ _ _⟩ | exact ⟨rfl, _, Eq.trans (World.drewN_drewN _ _ _) (congrArg (World.drewN _) (Nat.add_assoc _ _ _))⟩); obtain ⟨Ao107, co107, eo107⟩ := Kd.R_slice HO_22.out; subst eo107) | (go_at_call 56; (with_reducible refine (laws_hSum.calls k8 _ _ t825 t839 _ ?side1 ?side2 A96.out).mono ?_); (case side1 => repeat (first | exact (Kd.R_reads' HO_22.out).2.2 | (with_reducible refine Kd.C_alloc ?_ _) | (with_reducible refine Kd.C_drewN ?_ _) | (with_reducible refine Kd.C_drew ?_))); (case side2 => exact (Kd.R_reads' HO_22.out).2.1); rintro e w' ⟨rfl, ⟨nd, rfl⟩⟩; (try first | exact ⟨rfl, _, World.drewN_drewN _ _ _⟩ | exact ⟨rfl, _, Eq.trans (World.drewN_drewN _ _ _) (congrArg (World.drewN _) (Nat.add_assoc _ _ _))⟩))); try go_wp2_with (first | (go_at_call 56; (with_reducible refine (laws_hSum.calls k8 _ _ t817 t838 _ ?side1 ?side2 A94.out).mono ?_); (case side1 => repeat (first | exact (Kd.R_reads' HO_18.out).2.2 | (with_reducible refine Kd.C_alloc ?_ _) | (with_reducible refine Kd.C_drewN ?_ _) | (with_reducible refine Kd.C_drew ?_))); (case side2 => exact (Kd.R_reads' HO_18.out).2.1); rintro e w' ⟨rfl, ⟨nd, rfl⟩⟩; (try first | exact ⟨rfl, _, World.drewN_drewN _ _ _⟩ | exact ⟨rfl, _, Eq.trans (World.drewN_drewN _ _ _) (congrArg (World.drewN _) (Nat.add_assoc _ _ _))⟩); obtain ⟨Ao107, co107, eo107⟩ := Kd.R_slice HO_22.out; subst eo107) | (go_at_call 56; (with_reducible refine (laws_hSum.calls k8 _ _ t825 t839 _ ?side1 ?side2 A96.out).mono ?_); (case side1 => repeat (first | exact (Kd.R_reads' HO_22.out).2.2 | (with_reducible refine Kd.C_alloc ?_ _) | (with_reducible refine Kd.C_drewN ?_ _) | (with_reducible refine Kd.C_drew ?_))); (case side2 => exact (Kd.R_reads' HO_22.out).2.1); rintro e w' ⟨rfl, ⟨nd, rfl⟩⟩; (try first | exact ⟨rfl, _, World.drewN_drewN _ _ _⟩ | exact ⟨rfl, _, Eq.trans (World.drewN_drewN _ _ _) (congrArg (World.drewN _) (Nat.add_assoc _ _ _))⟩))))
                                                                        go_ret
                                                                        exact ⟨by first | rfl | (simp [errW_none, errW_some] <;> rfl) | (simp [*, errW_none, errW_some] <;> rfl), by repeat (first | (with_reducible first | exact HB.out | apply below_alloc | apply pw_below_drewN | apply below_drew1) | exact HB.out)⟩
                                                                    · rw [if_neg c95] at H
                                                                      have c95b0 : (t838 == t835) = false := beq_eq_false_iff_ne.mpr c95
                                                                      have c95b1 : (t838 != t835) = true := bne_iff_ne.mpr c95
                                                                      obtain rfl := Option.some.inj H
                                                                      go_wp2_with (first | (go_at_call 56; (with_reducible refine (laws_hSum.calls k8 _ _ t817 t838 _ ?side1 ?side2 A94.out).mono ?_); (case side1 => repeat (first | exact (Kd.R_reads' HO_18.out).2.2 | (with_reducible refine Kd.C_alloc ?_ _) | (with_reducible refine Kd.C_drewN ?_ _) | (with_reducible refine Kd.C_drew ?_))); (case side2 => exact (Kd.R_reads' HO_18.out).2.1); rintro e w' ⟨rfl, ⟨nd, rfl⟩⟩; (try first | exact ⟨rfl, _, World.drewN_drewN _ _ _⟩ | exact ⟨rfl, _, Eq.trans (World.drewN_drewN _ _ _) (congrArg (World.drewN _) (Nat.add_assoc _ _ _))⟩)))
                                                                      repeat (go_quiet (first | (go_at_call 56; (with_reducible refine (laws_hSum.calls k8 _ _ t817 t838 _ ?side1 ?side2 A94.out).mono ?_); (case side1 => repeat (first | exact (Kd.R_reads' HO_18.out).2.2 | (with_reducible refine Kd.C_alloc ?_ _) | (with_reducible refine Kd.C_drewN ?_ _) | (with_reducible refine Kd.C_drew ?_))); (case side2 => exact (Kd.R_reads' HO_18.out).2.1); rintro e w' ⟨rfl, ⟨nd, rfl⟩⟩; (try first | exact ⟨rfl, _, World.drewN_drewN _ _ _⟩ | exact ⟨rfl, _, Eq.trans (World.drewN_drewN _ _ _) (congrArg (World.drewN _) (Nat.add_assoc _ _ _))⟩))); try go_wp2_with (first | (go_at_call 56; (with_reducible refine (laws_hSum.calls k8 _ _ t817 t838 _ ?side1 ?side2 A94.out).mono ?_); (case side1 => repeat (first | exact (Kd.R_reads' HO_18.out).2.2 | (with_reducible refine Kd.C_alloc ?_ _) | (with_reducible refine Kd.C_drewN ?_ _) | (with_reducible refine Kd.C_drew ?_))); (case side2 => exact (Kd.R_reads' HO_18.out).2.1); rintro e w' ⟨rfl, ⟨nd, rfl⟩⟩; (try first | exact ⟨rfl, _, World.drewN_drewN _ _ _⟩ | exact ⟨rfl, _, Eq.trans (World.drewN_drewN _ _ _) (congrArg (World.drewN _) (Nat.add_assoc _ _ _))⟩))))
                                                                      go_ret
                                                                      exact ⟨by first | rfl | (simp [errW_none, errW_some] <;> rfl) | (simp [*, errW_none, errW_some] <;> rfl), by repeat (first | (with_reducible first | exact HB.out | apply below_alloc | apply pw_below_drewN | apply below_drew1) | exact HB.out)⟩
                                                                  · replace c93 := Bool.eq_false_iff.mpr c93
                                                                    subst c93
                                                                    have H1 : (some false) = some r := by rw [if_neg (show ¬ (false = true) by decide)] at H; exact H
                                                                    clear H
                                                                    have H := H1
                                                                    clear H1
                                                                    obtain rfl := Option.some.inj H
                                                                    go_wp2
                                                                    repeat (go_quiet (fail); try go_wp2)
                                                                    go_ret
                                                                    exact ⟨by first | rfl | (simp [errW_none, errW_some] <;> rfl) | (simp [*, errW_none, errW_some] <;> rfl), by repeat (first | (with_reducible first | exact HB.out | apply below_alloc | apply pw_below_drewN | apply below_drew1) | exact HB.out)⟩
                                        · replace c85 := Bool.eq_false_iff.mpr c85
                                          subst c85
                                          have H1 : (some true) = some r := by rw [if_neg (show ¬ (false = true) by decide)] at H; exact H
                                          clear H
                                          have H := H1
                                          clear H1
                                          obtain rfl := Option.some.inj H
                                          go_wp2
                                          repeat (go_quiet (fail); try go_wp2)
                                          go_ret
                                          exact ⟨by first | rfl | (simp [errW_none, errW_some] <;> rfl) | (simp [*, errW_none, errW_some] <;> rfl), by repeat (first | (with_reducible first | exact HB.out | apply below_alloc | apply pw_below_drewN | apply below_drew1) | exact HB.out)⟩

/-- THE ONE PURE STATEMENT of laws_FnSignsCounted: yours. -/
def laws_FnSignsCounted.Pure : Prop := ∀ (l0 : List Int) (l1 : List Int), l0.length ≤ maxLen → l0.length * 1 ≤ 140737488351232 → (∀ x ∈ l0, (Lit.int .u8 x).wf = true) → l1.length ≤ maxLen → l1.length * 1 ≤ 140737488351232 → (∀ x ∈ l1, (Lit.int .u8 x).wf = true) → ∃ k, laws_FnSignsCounted.f k l0 l1 = some true
theorem laws_FnSignsCounted.walk (P : laws_FnSignsCounted.Pure) (a0 : Option Addr) (len0 cap0 : Nat) (z0 : List Int) (a1 : Option Addr) (len1 cap1 : Nat) (z1 : List Int) (w : World) (w0 : (a0 = none ∧ len0 = 0 ∧ cap0 = 0 ∧ z0 = []) ∨ ∃ x, a0 = some x ∧ len0 ≤ cap0 ∧ cap0 ≤ maxLen ∧ z0.length = cap0 ∧ (∀ i, i < z0.length → w.cell? (x.add i) = some (.int .u8 (z0.getD i 0))) ∧ ∀ n ∈ z0, (Lit.int .u8 n).wf = true) (y0 : len0 * 1 ≤ 140737488351232) (w1 : (a1 = none ∧ len1 = 0 ∧ cap1 = 0 ∧ z1 = []) ∨ ∃ x, a1 = some x ∧ len1 ≤ cap1 ∧ cap1 ≤ maxLen ∧ z1.length = cap1 ∧ (∀ i, i < z1.length → w.cell? (x.add i) = some (.int .u8 (z1.getD i 0))) ∧ ∀ n ∈ z1, (Lit.int .u8 n).wf = true) (y1 : len1 * 1 ≤ 140737488351232) :
    Calls Try.prog 13 #[.slice a0 len0 cap0, .slice a1 len1 cap1] w fun e w' => e = .returned (.bool true) ∧ Below w.heap.size w w' := by
  obtain ⟨l0, rfl, hr0, hm0, hw0, hc0⟩ := ReadsInt.ofRowC w0
  obtain ⟨l1, rfl, hr1, hm1, hw1, hc1⟩ := ReadsInt.ofRowC w1
  obtain ⟨k, h⟩ := P l0 l1 hm0 y0 hw0 hm1 y1 hw1
  refine (laws_FnSignsCounted.calls k _ _ l0 _ _ l1 true w (Kd.C_of_reads (d := (0 : Int)) (h1 := fun _ => rfl) hr0) hc0 (Kd.C_of_reads (d := (0 : Int)) (h1 := fun _ => rfl) hr1) hc1 h).mono ?_
  rintro e w' ⟨rfl, hd⟩
  exact ⟨rfl, hd⟩

end Go.Proofs.Ytadepmjfhcmkoaa.P
