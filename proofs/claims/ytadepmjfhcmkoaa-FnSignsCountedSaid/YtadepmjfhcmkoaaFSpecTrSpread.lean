-- By gp.py (this session's own driver over the kit's print). Not trusted: Lean checks it.
import Derived.Test.YtadepmjfhcmkoaaF0
import Derived.Test.YtadepmjfhcmkoaaB
import Derived.Test.YtadepmjfhcmkoaaFSpecTr
namespace Go.Proofs.Ytadepmjfhcmkoaa.P
open Go.Proofs.Ytadepmjfhcmkoaa.B
open Go.RowKit Go.Proofs.YtadepmjfhcmkoaaW.PrintWords Go.Proofs.YtadepmjfhcmkoaaW.PrintLast Go.Proofs.YtadepmjfhcmkoaaW.PrintMore
attribute [local go_sem] max2_int min2_int max_two min_two max_three min_three max_four min_four   -- for this text's walks alone
set_option linter.unusedVariables false
set_option linter.unusedSimpArgs false

/-! ### spec_trSpread: function 130 -/
mutual
def spec_trSpread.l0 : Nat → List Int → List Int → Int → Int → Bool → List (List Int) → Int → Int → Option (List Int)
  | 0, _, _, _, _, _, _, _, _ => none
  | k + 1, x0, x1, x2, x3, x4, x31, x32, x33 => if x33 < x32 then (if 0 ≤ x33 then (if x33 < (x31.length : Int) then ((spec_trStep.f k x0 (rd_L1 x31 x33) x3).bind fun t432 => (spec_trSpread.l1 k x0 x1 x2 x3 x4 (rd_L1 x31 x33) 0 0 x31 x32 x33 t432 (t432.length : Int) 0)) else (none)) else (none)) else (some x1)
def spec_trSpread.l1 : Nat → List Int → List Int → Int → Int → Bool → List Int → Int → Int → List (List Int) → Int → Int → List Int → Int → Int → Option (List Int)
  | 0, _, _, _, _, _, _, _, _, _, _, _, _, _, _ => none
  | k + 1, x0, x1, x2, x3, x4, x11, x12, x14, x31, x32, x33, x41, x42, x43 => if x43 < x42 then (if 0 ≤ x43 then (if x43 < (x41.length : Int) then (if x4 = true then (spec_trSpread.j2 k x0 x1 x2 x3 x4 x11 x12 x14 x43 (rd x41 x43) x31 x32 x33 x41 x42 x43 false) else (spec_trSpread.j2 k x0 x1 x2 x3 x4 x11 x12 x14 x43 (rd x41 x43) x31 x32 x33 x41 x42 x43 (decide ((rd x41 x43) < 0)))) else (none)) else (none)) else ((spec_trSpread.f k x11 x1 (wrap64 ((wrap64 (x2 + x12)) + x14)) x3 x4).bind fun t435 => (spec_trSpread.l0 k x0 t435 x2 x3 x4 x31 x32 (wrap64 (x33 + 1))))
def spec_trSpread.j2 : Nat → List Int → List Int → Int → Int → Bool → List Int → Int → Int → Int → Int → List (List Int) → Int → Int → List Int → Int → Int → Bool → Option (List Int)
  | 0, _, _, _, _, _, _, _, _, _, _, _, _, _, _, _, _, _ => none
  | k + 1, x0, x1, x2, x3, x4, x11, x12, x14, x15, x16, x31, x32, x33, x41, x42, x43, x53 => if x53 = true then (spec_trSpread.j3 k x0 x1 x2 x3 x4 x11 (wrap64 (x12 + 1)) x14 x15 x16 x31 x32 x33 x41 x42 x43) else (spec_trSpread.j3 k x0 x1 x2 x3 x4 x11 x12 x14 x15 x16 x31 x32 x33 x41 x42 x43)
def spec_trSpread.j3 : Nat → List Int → List Int → Int → Int → Bool → List Int → Int → Int → Int → Int → List (List Int) → Int → Int → List Int → Int → Int → Option (List Int)
  | 0, _, _, _, _, _, _, _, _, _, _, _, _, _, _, _, _ => none
  | k + 1, x0, x1, x2, x3, x4, x11, x12, x14, x15, x16, x31, x32, x33, x41, x42, x43 => if x4 = true then (spec_trSpread.l2 k x0 x1 x2 x3 x4 x11 x12 x14 x15 x16 x31 x32 x33 x41 x42 x43 x0 (x0.length : Int) 0) else (spec_trSpread.l1 k x0 x1 x2 x3 x4 x11 x12 x14 x31 x32 x33 x41 x42 (wrap64 (x43 + 1)))
def spec_trSpread.l2 : Nat → List Int → List Int → Int → Int → Bool → List Int → Int → Int → Int → Int → List (List Int) → Int → Int → List Int → Int → Int → List Int → Int → Int → Option (List Int)
  | 0, _, _, _, _, _, _, _, _, _, _, _, _, _, _, _, _, _, _, _ => none
  | k + 1, x0, x1, x2, x3, x4, x11, x12, x14, x15, x16, x31, x32, x33, x41, x42, x43, x57, x58, x59 => if x59 < x58 then (if 0 ≤ x59 then (if x59 < (x57.length : Int) then (if (rd x57 x59) > x15 then (spec_trSpread.l2 k x0 x1 x2 x3 x4 x11 x12 (wrap64 (x14 + x16)) x15 x16 x31 x32 x33 x41 x42 x43 x57 x58 (wrap64 (x59 + 1))) else (spec_trSpread.l2 k x0 x1 x2 x3 x4 x11 x12 x14 x15 x16 x31 x32 x33 x41 x42 x43 x57 x58 (wrap64 (x59 + 1)))) else (none)) else (none)) else (spec_trSpread.l1 k x0 x1 x2 x3 x4 x11 x12 x14 x31 x32 x33 x41 x42 (wrap64 (x43 + 1)))
def spec_trSpread.f : Nat → List Int → List Int → Int → Int → Bool → Option (List Int)
  | 0, _, _, _, _, _ => none
  | k + 1, l0, l1, a2, a3, a4 => if (l0.length : Int) = a3 then (if 0 ≤ a2 then (if a2 < (l1.length : Int) then (some (l1.set (a2 : Int).toNat (wrap64 ((rd l1 a2) + 1)))) else (none)) else (none)) else ((spec_trBehind.f k l0 ([] : List Int) a3).bind fun t428 => (spec_trSpread.l0 k l0 l1 a2 a3 a4 t428 (t428.length : Int) 0))
end
theorem spec_trSpread.mono_l : ∀ k, (∀ y0 y1 y2 y3 y4, LeO (spec_trSpread.f k y0 y1 y2 y3 y4) (spec_trSpread.f (k + 1) y0 y1 y2 y3 y4)) ∧ (∀ y0 y1 y2 y3 y4 y5 y6 y7, LeO (spec_trSpread.l0 k y0 y1 y2 y3 y4 y5 y6 y7) (spec_trSpread.l0 (k + 1) y0 y1 y2 y3 y4 y5 y6 y7)) ∧ (∀ y0 y1 y2 y3 y4 y5 y6 y7 y8 y9 y10 y11 y12 y13, LeO (spec_trSpread.l1 k y0 y1 y2 y3 y4 y5 y6 y7 y8 y9 y10 y11 y12 y13) (spec_trSpread.l1 (k + 1) y0 y1 y2 y3 y4 y5 y6 y7 y8 y9 y10 y11 y12 y13)) ∧ (∀ y0 y1 y2 y3 y4 y5 y6 y7 y8 y9 y10 y11 y12 y13 y14 y15 y16, LeO (spec_trSpread.j2 k y0 y1 y2 y3 y4 y5 y6 y7 y8 y9 y10 y11 y12 y13 y14 y15 y16) (spec_trSpread.j2 (k + 1) y0 y1 y2 y3 y4 y5 y6 y7 y8 y9 y10 y11 y12 y13 y14 y15 y16)) ∧ (∀ y0 y1 y2 y3 y4 y5 y6 y7 y8 y9 y10 y11 y12 y13 y14 y15, LeO (spec_trSpread.j3 k y0 y1 y2 y3 y4 y5 y6 y7 y8 y9 y10 y11 y12 y13 y14 y15) (spec_trSpread.j3 (k + 1) y0 y1 y2 y3 y4 y5 y6 y7 y8 y9 y10 y11 y12 y13 y14 y15)) ∧ (∀ y0 y1 y2 y3 y4 y5 y6 y7 y8 y9 y10 y11 y12 y13 y14 y15 y16 y17 y18, LeO (spec_trSpread.l2 k y0 y1 y2 y3 y4 y5 y6 y7 y8 y9 y10 y11 y12 y13 y14 y15 y16 y17 y18) (spec_trSpread.l2 (k + 1) y0 y1 y2 y3 y4 y5 y6 y7 y8 y9 y10 y11 y12 y13 y14 y15 y16 y17 y18))
  | 0 => ⟨fun _ _ _ _ _ r h => by simp [spec_trSpread.f] at h, fun _ _ _ _ _ _ _ _ r h => by simp [spec_trSpread.l0] at h, fun _ _ _ _ _ _ _ _ _ _ _ _ _ _ r h => by simp [spec_trSpread.l1] at h, fun _ _ _ _ _ _ _ _ _ _ _ _ _ _ _ _ _ r h => by simp [spec_trSpread.j2] at h, fun _ _ _ _ _ _ _ _ _ _ _ _ _ _ _ _ r h => by simp [spec_trSpread.j3] at h, fun _ _ _ _ _ _ _ _ _ _ _ _ _ _ _ _ _ _ _ r h => by simp [spec_trSpread.l2] at h⟩
  | k + 1 => by
    obtain ⟨ih0, ih1, ih2, ih3, ih4, ih5⟩ := spec_trSpread.mono_l k
    refine ⟨?_, ?_, ?_, ?_, ?_, ?_⟩
    · intro y0 y1 y2 y3 y4
      unfold spec_trSpread.f
      repeat' first
      | (with_reducible exact ih0 _ _ _ _ _)
      | (with_reducible exact ih1 _ _ _ _ _ _ _ _)
      | (with_reducible exact ih2 _ _ _ _ _ _ _ _ _ _ _ _ _ _)
      | (with_reducible exact ih3 _ _ _ _ _ _ _ _ _ _ _ _ _ _ _ _ _)
      | (with_reducible exact ih4 _ _ _ _ _ _ _ _ _ _ _ _ _ _ _ _)
      | (with_reducible exact ih5 _ _ _ _ _ _ _ _ _ _ _ _ _ _ _ _ _ _ _)
      | (with_reducible exact spec_trBehind.mono _ _ _ _)
      | (with_reducible exact spec_trStep.mono _ _ _ _)
      | (with_reducible exact LeO.refl _)
      | (with_reducible exact LeO.none _)
      | (with_reducible refine LeO.ite ?_ ?_)
      | (with_reducible refine LeO.bind ?_ (fun _ => ?_))
      | exact ih0 _ _ _ _ _
      | exact ih1 _ _ _ _ _ _ _ _
      | exact ih2 _ _ _ _ _ _ _ _ _ _ _ _ _ _
      | exact ih3 _ _ _ _ _ _ _ _ _ _ _ _ _ _ _ _ _
      | exact ih4 _ _ _ _ _ _ _ _ _ _ _ _ _ _ _ _
      | exact ih5 _ _ _ _ _ _ _ _ _ _ _ _ _ _ _ _ _ _ _
      | exact spec_trBehind.mono _ _ _ _
      | exact spec_trStep.mono _ _ _ _
      | exact LeO.none _
      | refine LeO.ite ?_ ?_
      | refine LeO.bind ?_ (fun _ => ?_)
    · intro y0 y1 y2 y3 y4 y5 y6 y7
      unfold spec_trSpread.l0
      repeat' first
      | (with_reducible exact ih0 _ _ _ _ _)
      | (with_reducible exact ih1 _ _ _ _ _ _ _ _)
      | (with_reducible exact ih2 _ _ _ _ _ _ _ _ _ _ _ _ _ _)
      | (with_reducible exact ih3 _ _ _ _ _ _ _ _ _ _ _ _ _ _ _ _ _)
      | (with_reducible exact ih4 _ _ _ _ _ _ _ _ _ _ _ _ _ _ _ _)
      | (with_reducible exact ih5 _ _ _ _ _ _ _ _ _ _ _ _ _ _ _ _ _ _ _)
      | (with_reducible exact spec_trBehind.mono _ _ _ _)
      | (with_reducible exact spec_trStep.mono _ _ _ _)
      | (with_reducible exact LeO.refl _)
      | (with_reducible exact LeO.none _)
      | (with_reducible refine LeO.ite ?_ ?_)
      | (with_reducible refine LeO.bind ?_ (fun _ => ?_))
      | exact ih0 _ _ _ _ _
      | exact ih1 _ _ _ _ _ _ _ _
      | exact ih2 _ _ _ _ _ _ _ _ _ _ _ _ _ _
      | exact ih3 _ _ _ _ _ _ _ _ _ _ _ _ _ _ _ _ _
      | exact ih4 _ _ _ _ _ _ _ _ _ _ _ _ _ _ _ _
      | exact ih5 _ _ _ _ _ _ _ _ _ _ _ _ _ _ _ _ _ _ _
      | exact spec_trBehind.mono _ _ _ _
      | exact spec_trStep.mono _ _ _ _
      | exact LeO.none _
      | refine LeO.ite ?_ ?_
      | refine LeO.bind ?_ (fun _ => ?_)
    · intro y0 y1 y2 y3 y4 y5 y6 y7 y8 y9 y10 y11 y12 y13
      unfold spec_trSpread.l1
      repeat' first
      | (with_reducible exact ih0 _ _ _ _ _)
      | (with_reducible exact ih1 _ _ _ _ _ _ _ _)
      | (with_reducible exact ih2 _ _ _ _ _ _ _ _ _ _ _ _ _ _)
      | (with_reducible exact ih3 _ _ _ _ _ _ _ _ _ _ _ _ _ _ _ _ _)
      | (with_reducible exact ih4 _ _ _ _ _ _ _ _ _ _ _ _ _ _ _ _)
      | (with_reducible exact ih5 _ _ _ _ _ _ _ _ _ _ _ _ _ _ _ _ _ _ _)
      | (with_reducible exact spec_trBehind.mono _ _ _ _)
      | (with_reducible exact spec_trStep.mono _ _ _ _)
      | (with_reducible exact LeO.refl _)
      | (with_reducible exact LeO.none _)
      | (with_reducible refine LeO.ite ?_ ?_)
      | (with_reducible refine LeO.bind ?_ (fun _ => ?_))
      | exact ih0 _ _ _ _ _
      | exact ih1 _ _ _ _ _ _ _ _
      | exact ih2 _ _ _ _ _ _ _ _ _ _ _ _ _ _
      | exact ih3 _ _ _ _ _ _ _ _ _ _ _ _ _ _ _ _ _
      | exact ih4 _ _ _ _ _ _ _ _ _ _ _ _ _ _ _ _
      | exact ih5 _ _ _ _ _ _ _ _ _ _ _ _ _ _ _ _ _ _ _
      | exact spec_trBehind.mono _ _ _ _
      | exact spec_trStep.mono _ _ _ _
      | exact LeO.none _
      | refine LeO.ite ?_ ?_
      | refine LeO.bind ?_ (fun _ => ?_)
    · intro y0 y1 y2 y3 y4 y5 y6 y7 y8 y9 y10 y11 y12 y13 y14 y15 y16
      unfold spec_trSpread.j2
      repeat' first
      | (with_reducible exact ih0 _ _ _ _ _)
      | (with_reducible exact ih1 _ _ _ _ _ _ _ _)
      | (with_reducible exact ih2 _ _ _ _ _ _ _ _ _ _ _ _ _ _)
      | (with_reducible exact ih3 _ _ _ _ _ _ _ _ _ _ _ _ _ _ _ _ _)
      | (with_reducible exact ih4 _ _ _ _ _ _ _ _ _ _ _ _ _ _ _ _)
      | (with_reducible exact ih5 _ _ _ _ _ _ _ _ _ _ _ _ _ _ _ _ _ _ _)
      | (with_reducible exact spec_trBehind.mono _ _ _ _)
      | (with_reducible exact spec_trStep.mono _ _ _ _)
      | (with_reducible exact LeO.refl _)
      | (with_reducible exact LeO.none _)
      | (with_reducible refine LeO.ite ?_ ?_)
      | (with_reducible refine LeO.bind ?_ (fun _ => ?_))
      | exact ih0 _ _ _ _ _
      | exact ih1 _ _ _ _ _ _ _ _
      | exact ih2 _ _ _ _ _ _ _ _ _ _ _ _ _ _
      | exact ih3 _ _ _ _ _ _ _ _ _ _ _ _ _ _ _ _ _
      | exact ih4 _ _ _ _ _ _ _ _ _ _ _ _ _ _ _ _
      | exact ih5 _ _ _ _ _ _ _ _ _ _ _ _ _ _ _ _ _ _ _
      | exact spec_trBehind.mono _ _ _ _
      | exact spec_trStep.mono _ _ _ _
      | exact LeO.none _
      | refine LeO.ite ?_ ?_
      | refine LeO.bind ?_ (fun _ => ?_)
    · intro y0 y1 y2 y3 y4 y5 y6 y7 y8 y9 y10 y11 y12 y13 y14 y15
      unfold spec_trSpread.j3
      repeat' first
      | (with_reducible exact ih0 _ _ _ _ _)
      | (with_reducible exact ih1 _ _ _ _ _ _ _ _)
      | (with_reducible exact ih2 _ _ _ _ _ _ _ _ _ _ _ _ _ _)
      | (with_reducible exact ih3 _ _ _ _ _ _ _ _ _ _ _ _ _ _ _ _ _)
      | (with_reducible exact ih4 _ _ _ _ _ _ _ _ _ _ _ _ _ _ _ _)
      | (with_reducible exact ih5 _ _ _ _ _ _ _ _ _ _ _ _ _ _ _ _ _ _ _)
      | (with_reducible exact spec_trBehind.mono _ _ _ _)
      | (with_reducible exact spec_trStep.mono _ _ _ _)
      | (with_reducible exact LeO.refl _)
      | (with_reducible exact LeO.none _)
      | (with_reducible refine LeO.ite ?_ ?_)
      | (with_reducible refine LeO.bind ?_ (fun _ => ?_))
      | exact ih0 _ _ _ _ _
      | exact ih1 _ _ _ _ _ _ _ _
      | exact ih2 _ _ _ _ _ _ _ _ _ _ _ _ _ _
      | exact ih3 _ _ _ _ _ _ _ _ _ _ _ _ _ _ _ _ _
      | exact ih4 _ _ _ _ _ _ _ _ _ _ _ _ _ _ _ _
      | exact ih5 _ _ _ _ _ _ _ _ _ _ _ _ _ _ _ _ _ _ _
      | exact spec_trBehind.mono _ _ _ _
      | exact spec_trStep.mono _ _ _ _
      | exact LeO.none _
      | refine LeO.ite ?_ ?_
      | refine LeO.bind ?_ (fun _ => ?_)
    · intro y0 y1 y2 y3 y4 y5 y6 y7 y8 y9 y10 y11 y12 y13 y14 y15 y16 y17 y18
      unfold spec_trSpread.l2
      repeat' first
      | (with_reducible exact ih0 _ _ _ _ _)
      | (with_reducible exact ih1 _ _ _ _ _ _ _ _)
      | (with_reducible exact ih2 _ _ _ _ _ _ _ _ _ _ _ _ _ _)
      | (with_reducible exact ih3 _ _ _ _ _ _ _ _ _ _ _ _ _ _ _ _ _)
      | (with_reducible exact ih4 _ _ _ _ _ _ _ _ _ _ _ _ _ _ _ _)
      | (with_reducible exact ih5 _ _ _ _ _ _ _ _ _ _ _ _ _ _ _ _ _ _ _)
      | (with_reducible exact spec_trBehind.mono _ _ _ _)
      | (with_reducible exact spec_trStep.mono _ _ _ _)
      | (with_reducible exact LeO.refl _)
      | (with_reducible exact LeO.none _)
      | (with_reducible refine LeO.ite ?_ ?_)
      | (with_reducible refine LeO.bind ?_ (fun _ => ?_))
      | exact ih0 _ _ _ _ _
      | exact ih1 _ _ _ _ _ _ _ _
      | exact ih2 _ _ _ _ _ _ _ _ _ _ _ _ _ _
      | exact ih3 _ _ _ _ _ _ _ _ _ _ _ _ _ _ _ _ _
      | exact ih4 _ _ _ _ _ _ _ _ _ _ _ _ _ _ _ _
      | exact ih5 _ _ _ _ _ _ _ _ _ _ _ _ _ _ _ _ _ _ _
      | exact spec_trBehind.mono _ _ _ _
      | exact spec_trStep.mono _ _ _ _
      | exact LeO.none _
      | refine LeO.ite ?_ ?_
      | refine LeO.bind ?_ (fun _ => ?_)
theorem spec_trSpread.mono : ∀ a0 a1 a2 a3 a4 k, LeO (spec_trSpread.f k a0 a1 a2 a3 a4) (spec_trSpread.f (k + 1) a0 a1 a2 a3 a4) := by
  intro a0 a1 a2 a3 a4 k
  obtain ⟨ih0, ih1, ih2, ih3, ih4, ih5⟩ := spec_trSpread.mono_l k
  exact ih0 a0 a1 a2 a3 a4
set_option maxHeartbeats 8000000 in
set_option maxRecDepth 100000 in
theorem spec_trSpread.calls (k : Nat) : ∀ (A0 : Option Addr) (c0 : Nat) (l0 : List Int) (P1_ : Nat → Prop) (u9000_ : Value) (l1 : List Int) (a2 : Int) (a3 : Int) (a4 : Bool) (r : List Int) (w0 w : World) (hB : Below w0.heap.size w0 w) (hr0 : ∀ W_, Kept w W_ (fun k_ => P1_ k_) → Kd.C (Kd.int .i64) W_ A0 l0.length l0) (hc0 : l0.length ≤ c0) (ho1 : Kd.R (Kd.int .i64) 3 w w0.heap.size P1_ u9000_ l1) (h : spec_trSpread.f k l0 l1 a2 a3 a4 = some r),
    Calls Try.prog 130 #[.slice A0 l0.length c0, u9000_, .int .i64 a2, .int .i64 a3, .bool a4] w fun e w' => e = .returned (.tuple #[]) ∧ Kd.R (Kd.int .i64) 3 w' w0.heap.size (fun k_ => (P1_ k_ ∨ w.heap.size ≤ k_)) u9000_ r ∧ Below w0.heap.size w0 w' ∧ Kept w w' (fun k_ => P1_ k_) := by
  induction k using Nat.strongRecOn with
  | _ k ih =>
  intro A0 c0 l0 P1_ u9000_ l1 a2 a3 a4 r w0 w hB hr0 hc0 ho1 h
  cases k with
  | zero => exact absurd h (by simp [spec_trSpread.f])
  | succ k =>
  simp only [spec_trSpread.f] at h
  have HR0 := Aside0.mk hr0
  have HC0 := Aside0.mk hc0
  clear hr0 hc0
  have HO1 := Aside0.mk (show Kd.R (Kd.int .i64) 3 w w0.heap.size (fun k_ => (P1_ k_ ∨ w.heap.size ≤ k_)) u9000_ l1 from Kd.R_mono ho1 (fun k_ hk => (.inl hk)))
  have HK := Aside0.mk (Kept.refl w (fun k_ => P1_ k_))
  have HW0 := Aside0.mk hB.size
  have HB := Aside0.mk hB
  clear hB
  have H : (if (l0.length : Int) = a3 then (if 0 ≤ a2 then (if a2 < (l1.length : Int) then (some (l1.set (a2 : Int).toNat (wrap64 ((rd l1 a2) + 1)))) else (none)) else (none)) else ((spec_trBehind.f k l0 ([] : List Int) a3).bind fun t428 => (spec_trSpread.l0 k l0 l1 a2 a3 a4 t428 (t428.length : Int) 0))) = some r := h
  clear h
  by_cases c6 : (l0.length : Int) = a3
  · rw [if_pos c6] at H
    have c6b0 : ((l0.length : Int) == a3) = true := beq_iff_eq.mpr c6
    have c6b1 : ((l0.length : Int) != a3) = false := bne_eq_false_iff_eq.mpr c6
    clear c6
    by_cases c7 : 0 ≤ a2
    · rw [if_pos c7] at H
      have c7b0 : decide (0 ≤ a2) = true := decide_eq_true c7
      clear c7
      by_cases c8 : a2 < (l1.length : Int)
      · rw [if_pos c8] at H
        have c8b0 : decide (a2 < (l1.length : Int)) = true := decide_eq_true c8
        clear c8
        obtain ⟨y427, hy427⟩ : ∃ y_ : List Int, y_ = (l1.set (a2 : Int).toNat (wrap64 ((rd l1 a2) + 1))) := ⟨_, rfl⟩
        replace H : (some y427) = some r := by first | (rw [hy427]; with_reducible exact H) | (have H2_ := (Option.bind_some _ _).symm.trans H; rw [hy427]; with_reducible exact H2_) | (have H2_ := (Option.bind_some _ _).symm.trans H; with_reducible exact H2_) | with_reducible exact H | (rw [hy427]; exact H) | exact H
        have Ny427 := Aside0.mk hy427
        clear hy427
        obtain rfl := Option.some.inj H
        obtain ⟨Ao10, co10, eo10⟩ := Kd.R_slice HO1.out
        subst eo10
        have p426 : 0 ≤ (a2 : Int) := of_decide_eq_true (by first | (with_reducible assumption) | assumption)
        have q426 : a2 < (l1.length : Int) := of_decide_eq_true (by first | (with_reducible assumption) | assumption)
        obtain ⟨ad426, e426, hx426_0⟩ := Kd.at_int (Kd.R_reads' HO1.out).2.2 a2 p426 q426
        cases e426
        replace p426 := eq_true p426
        replace q426 := eq_true q426
        have p9 : 0 ≤ (a2 : Int) := of_decide_eq_true (by first | (with_reducible assumption) | assumption)
        have q9 : (a2 : Int) < ((l1.length : Int) : Int) := of_decide_eq_true (by first | (with_reducible assumption) | assumption)
        obtain ⟨go9, co9, eo9, gb9, gl9, cl9, HG9⟩ := Kd.R_form HO1.out (by omega)
        (first | cases eo9 | (injection eo9 with ea_ en_ ec_; (first | subst ea_ | (injection ea_ with ea_; subst ea_)); subst ec_; clear en_))
        have GB9 := Aside0.mk gb9
        have GG9 := Aside0.mk HG9
        clear gb9 gl9 HG9
        have HMgo9 := Aside0.mk (show (P1_ go9 ∨ w.heap.size ≤ go9) from (HO1.out.1 _ rfl))
        (first | simp only [add_plain] at hx426_0 | skip)
        obtain ⟨hx9_0, hf9_0⟩ := Kd.R_celln 0 HO1.out (a2 : Int) p9 q9
        replace p9 := eq_true p9
        replace q9 := eq_true q9
        have HP11 := Kd.R_putg HO1.out (a2 : Int) (wrap64 ((rd l1 a2) + 1))
        go_enter Try.func130, Try.ntmps130
        go_wp2_with (first | ((with_reducible refine gate_store (t := 3) (p := 28) rfl ?_); refine store_event (t := 3) (p := 28) (v := ?vo_w12) (w1 := (w.setCell ⟨go9, (a2 : Int).toNat, none⟩ (.int .i64 (wrap64 ((rd l1 a2) + 1))))) ?hg ?ho ?hn ?hr ?_; (case ho => rfl); (case hg => rfl); (case hn => rfl); (case hr => first | (go_simp; done) | (go_simp; rfl)); intro w12 hw; have hg : w.grownBy w12 (some go9) := (by rw [hw]; exact HP11.2); have hp_ : Kd.R (Kd.int .i64) 3 w12 w0.heap.size (fun k_ => (P1_ k_ ∨ w.heap.size ≤ k_)) (.slice (some ⟨go9, 0, none⟩) l1.length co10) y427 := (by rw [hw, Ny427.out]; exact HP11.1); clear HP11; have n0_ := Aside0.mk (hp_); have n1_ := Aside0.mk ((by rw [hw]; exact below_set (HB.out) GB9.out : Below w0.heap.size w0 w12)); have n2_ := Aside0.mk (Kept.of_grown (S := (fun k_ => P1_ k_)) hg (by repeat (first | (with_reducible first | exact HK.out | apply Kept.alloc | apply Kept.drewN | apply Kept.drew) | exact HK.out)) (fun k_ e_ => (HO1.out.1 k_ e_))); clear HO1; clear HB; clear HK; have HO1 := n0_; have HB := n1_; have HK := n2_; clear n0_ n1_ n2_; clear hg hw hp_))
        first | go_end0 | ((try simp only [Exit.inBlock, Exit.then]); refine bodyPost_ret (results_none rfl _ _ _) rfl ?_)
        exact ⟨by first | rfl | (simp [errW_none, errW_some] <;> rfl) | (simp [*, errW_none, errW_some] <;> rfl), by (with_reducible repeat (first | apply Kd.R_alloc | apply Kd.R_drewN | apply Kd.R_drew)); exact HO1.out, by repeat (first | (with_reducible first | exact HB.out | apply below_alloc | apply pw_below_drewN | apply below_drew1) | exact HB.out), by repeat (first | (with_reducible first | exact HK.out | apply Kept.alloc | apply Kept.drewN | apply Kept.drew) | exact HK.out)⟩
      · rw [if_neg c8] at H
        exact absurd H (by simp)
    · rw [if_neg c7] at H
      exact absurd H (by simp)
  · rw [if_neg c6] at H
    have c6b0 : ((l0.length : Int) == a3) = false := beq_eq_false_iff_ne.mpr c6
    have c6b1 : ((l0.length : Int) != a3) = true := bne_iff_ne.mpr c6
    replace H := Option.bind_eq_some_iff.mp H
    obtain ⟨t428, A130, H⟩ := H
    replace H : (spec_trSpread.l0 k l0 l1 a2 a3 a4 t428 (t428.length : Int) 0) = some r := H
    have A13 := Aside0.mk A130
    clear A130
    have H' := Aside0.mk H
    clear H
    go_enter Try.func130, Try.ntmps130
    go_wp2_with (first | ((with_reducible refine gate_callee (f := 118) rfl ?_); refine goesL_ (some 31) rfl rfl Try.func118 (by kernel_rfl) rfl #[.slice A0 l0.length c0, .slice none 0 0, .int .i64 a3] rfl (by (try simp only [List.map_toArray, List.map_cons, List.map_nil]); first | done | rfl | (simp only [List.length_drop, List.length_take]; rfl)) ?_; (refine (spec_trBehind.calls k _ _ l0 _ _ ([] : List Int) a3 t428 _ ?side1 ?side2 ?side3 ?side4 A13.out).mono ?_); (case side1 => exact Kd.C_kept_now HR0.out (by repeat (first | (with_reducible first | exact HK.out | apply Kept.alloc | apply Kept.drewN | apply Kept.drew) | exact HK.out))); (case side2 => exact HC0.out); (case side3 => exact Kd.C_nil _ _); (case side4 => exact Nat.le_refl _); rintro e w14 ⟨v429, rfl, ho0, hb⟩; refine ⟨_, rfl, ?_⟩; have n0_ := Aside0.mk (Kd.R_below (by (with_reducible repeat (first | apply Kd.R_alloc | apply Kd.R_drewN | apply Kd.R_drew)); exact HO1.out) hb); have n1_ := Aside0.mk (Kd.N_lower (Kd.N_mono (ok' := fun k_ => (P1_ k_ ∨ w.heap.size ≤ k_) ∧ some k_ ≠ (u9000_ : Value).ownBlock) ho0 (fun k_ hk_ => ⟨(.inr (Nat.le_trans (by first | exact HK.out.1 | exact (show Kept w _ (fun k_ => P1_ k_) from by repeat (first | (with_reducible first | exact HK.out | apply Kept.alloc | apply Kept.drewN | apply Kept.drew) | exact HK.out)).1) hk_)), (Kd.fresh' (Kd.R_lt (by (with_reducible repeat (first | apply Kd.R_alloc | apply Kd.R_drewN | apply Kd.R_drew)); exact HO1.out)) k_ hk_)⟩)) (below_size (by repeat (first | (with_reducible first | exact HB.out | apply below_alloc | apply pw_below_drewN | apply below_drew1) | exact HB.out)))); have n2_ := Aside0.mk (Kept.below (S := (fun k_ => P1_ k_)) (by repeat (first | (with_reducible first | exact HK.out | apply Kept.alloc | apply Kept.drewN | apply Kept.drew) | exact HK.out)) hb); have n3_ := Aside0.mk (below_step (by repeat (first | (with_reducible first | exact HB.out | apply below_alloc | apply pw_below_drewN | apply below_drew1) | exact HB.out)) hb); clear HO1; clear HK; clear HB; have HO1 := n0_; have HO430 := n1_; have HK := n2_; have HB := n3_; clear n0_ n1_ n2_ n3_; (try clear hb); (try clear hb2); (try clear hk); (try clear hi); (try clear ho0); obtain ⟨Ao15, co15, eo15⟩ := Kd.N_slice HO430.out; subst eo15))
    go_loopg [33] k (fun kq v33 w' => ∃ (x1_1 : List Int) (x33_1 : Int), v33 = .int .i64 x33_1 ∧ Aside0 (spec_trSpread.l0 kq l0 x1_1 a2 a3 a4 t428 (t428.length : Int) x33_1 = some r) ∧ Aside0 (kq ≤ k) ∧ Aside0 (Kd.R (Kd.int .i64) 3 w' w0.heap.size (fun k_ => (P1_ k_ ∨ w.heap.size ≤ k_)) u9000_ x1_1) ∧ Aside0 (Kd.N (Kd.slice 3 (Kd.int .i64)) 39 w' w0.heap.size (fun k_ => (P1_ k_ ∨ w.heap.size ≤ k_) ∧ some k_ ≠ (u9000_ : Value).ownBlock) (.slice Ao15 t428.length co15) t428) ∧ Aside0 (Kept w w' (fun k_ => P1_ k_)) ∧ Aside0 (Below w0.heap.size w0 w'))
    case atStart => exact ⟨(l1), (0), (by first | rfl | (simp; done) | (simp [*]; done)), H', ⟨Nat.le_refl _⟩, ⟨by (with_reducible repeat (first | apply Kd.R_alloc | apply Kd.R_drewN | apply Kd.R_drew)); exact HO1.out⟩, ⟨by (with_reducible repeat (first | apply Kd.N_alloc | apply Kd.N_drewN | apply Kd.N_drew)); exact HO430.out⟩, ⟨by repeat (first | (with_reducible first | exact HK.out | apply Kept.alloc | apply Kept.drewN | apply Kept.drew) | exact HK.out)⟩, ⟨by repeat (first | (with_reducible first | exact HB.out | apply below_alloc | apply pw_below_drewN | apply below_drew1) | exact HB.out)⟩⟩
    case round =>
      clear H'
      try clear c1
      try clear p2
      try clear p4
      try clear q4
      try clear hx4
      try clear c6
      try clear c6b0
      try clear c6b1
      try clear p6
      try clear c7
      try clear c7b0
      try clear c8
      try clear c8b0
      try clear p9
      try clear q9
      try clear hx9
      try clear hf9
      try clear c11
      try clear c13
      try clear hx426_0
      try clear hx9_0
      try clear p426
      try clear p9
      try clear q426
      try clear q9
      obtain ⟨x1_1, x33_1, rfl, HA, HK1, HO_1, HO_31, HK, HB⟩ := hrel
      cases gk with
      | zero => exact absurd HA.out (by simp [spec_trSpread.l0])
      | succ k1 =>
        have H := HA.out
        clear HA
        simp only [spec_trSpread.l0] at H
        by_cases c16 : x33_1 < (t428.length : Int)
        · rw [if_pos c16] at H
          have c16b0 : decide (x33_1 < (t428.length : Int)) = true := decide_eq_true c16
          clear c16
          by_cases c17 : 0 ≤ x33_1
          · rw [if_pos c17] at H
            have c17b0 : decide (0 ≤ x33_1) = true := decide_eq_true c17
            clear c17
            by_cases c18 : x33_1 < (t428.length : Int)
            · rw [if_pos c18] at H
              have c18b0 : decide (x33_1 < (t428.length : Int)) = true := decide_eq_true c18
              clear c18
              replace H := Option.bind_eq_some_iff.mp H
              obtain ⟨t432, A190, H⟩ := H
              replace H : (spec_trSpread.l1 k1 l0 x1_1 a2 a3 a4 (rd_L1 t428 x33_1) 0 0 t428 (t428.length : Int) x33_1 t432 (t432.length : Int) 0) = some r := H
              have A19 := Aside0.mk A190
              clear A190
              have H' := Aside0.mk H
              clear H
              have p431 : 0 ≤ (x33_1 : Int) := of_decide_eq_true (by first | (with_reducible assumption) | assumption)
              have q431 : x33_1 < (t428.length : Int) := of_decide_eq_true (by first | (with_reducible assumption) | assumption)
              obtain ⟨ad431, A431_0, c431_0, e431, hx431_0, hl431_0, hi431_0⟩ := at_L1 (Kd.N_reads' HO_31.out).2.2 x33_1 p431 q431
              cases e431
              obtain ⟨ce431, hce431, hMe431, hcc431⟩ := Kd.N_get HO_31.out [] x33_1 p431 (by first | exact q431 | exact of_decide_eq_true (by first | (with_reducible assumption) | assumption) | (have e_ := (Kd.N_reads' HO_31.out).1; omega))
              obtain ⟨ua431_0, uc431_0, rfl, ul431_0, ge431_0⟩ := Kd.FK_slice_open hMe431
              have hv431_0 := hcc431 0 _ rfl
              rw [Nat.add_zero, show ((Kd.slice 3 (Kd.int .i64))).sz = 1 from rfl, Nat.mul_one] at hv431_0
              replace hv431_0 := Option.some.inj (hv431_0.symm.trans hx431_0)
              injection hv431_0 with hva_ hvn_ hvc_
              rw [hva_] at ge431_0
              rw [hvc_] at ul431_0
              have HL431_0 := Aside0.mk (show Kd.V (Kd.int .i64) 3 _ w0.heap.size _ _ (rd_L1 t428 x33_1) from Kd.V_mk ul431_0 ge431_0)
              clear hva_ hvn_ hvc_ ge431_0 ul431_0
              clear hcc431 hce431
              have HR431_0 := Aside0.mk hi431_0
              have HC431_0 := Aside0.mk hl431_0
              clear hi431_0 hl431_0
              replace p431 := eq_true p431
              replace q431 := eq_true q431
              go_wp2_with (first | ((with_reducible refine gate_callee (f := 110) rfl ?_); refine goesL_ (some 40) rfl rfl Try.func110 (by kernel_rfl) rfl #[.slice A0 l0.length c0, .slice A431_0 (rd_L1 t428 x33_1).length c431_0, .int .i64 a3] rfl (by (try simp only [List.map_toArray, List.map_cons, List.map_nil]); first | done | rfl | (simp only [List.length_drop, List.length_take]; rfl)) ?_; (with_reducible refine (spec_trStep.calls k1 _ _ l0 _ _ (rd_L1 t428 x33_1) a3 t432 _ ?side1 ?side2 ?side3 ?side4 A19.out).mono ?_); (case side1 => exact Kd.C_kept_now HR0.out (by repeat (first | (with_reducible first | exact HK.out | apply Kept.alloc | apply Kept.drewN | apply Kept.drew) | exact HK.out))); (case side2 => exact HC0.out); (case side3 => repeat (first | exact (by repeat (first | (with_reducible exact HR431_0.out) | (with_reducible refine Kd.C_alloc ?_ _) | (with_reducible refine Kd.C_drewN ?_ _) | (with_reducible refine Kd.C_drew ?_) | exact HR431_0.out)) | (with_reducible refine Kd.C_alloc ?_ _) | (with_reducible refine Kd.C_drewN ?_ _) | (with_reducible refine Kd.C_drew ?_))); (case side4 => exact HC431_0.out); rintro e w20 ⟨v433, rfl, ho0, hb⟩; refine ⟨_, rfl, ?_⟩; have n0_ := Aside0.mk (Kd.R_elder' (by (with_reducible repeat (first | apply Kd.R_alloc | apply Kd.R_drewN | apply Kd.R_drew)); exact HO_1.out) (Kd.R_base ho0) hb); have n1_ := Aside0.mk (Kd.N_elder' (by (with_reducible repeat (first | apply Kd.N_alloc | apply Kd.N_drewN | apply Kd.N_drew)); exact HO_31.out) (Kd.R_base ho0) hb); have n2_ := Aside0.mk (Kd.V_elder' (by (with_reducible repeat (first | apply Kd.V_alloc | apply Kd.V_drewN | apply Kd.V_drew)); exact HL431_0.out) (Kd.R_base ho0) hb); have n3_ := Aside0.mk (Kd.R_lower (Kd.R_new' (Kd.R_newM (M := fun k_ => (P1_ k_ ∨ w.heap.size ≤ k_)) ho0 (by first | exact HK.out.1 | exact (show Kept w _ (fun k_ => P1_ k_) from by repeat (first | (with_reducible first | exact HK.out | apply Kept.alloc | apply Kept.drewN | apply Kept.drew) | exact HK.out)).1) (fun k_ h_ => .inr h_)) (Kd.R_lt (by (with_reducible repeat (first | apply Kd.R_alloc | apply Kd.R_drewN | apply Kd.R_drew)); exact HO_1.out))) (below_size (by repeat (first | (with_reducible first | exact HB.out | apply below_alloc | apply pw_below_drewN | apply below_drew1) | exact HB.out)))); have n4_ := Aside0.mk (Kd.C_below (by repeat (first | (with_reducible exact HR431_0.out) | (with_reducible refine Kd.C_alloc ?_ _) | (with_reducible refine Kd.C_drewN ?_ _) | (with_reducible refine Kd.C_drew ?_) | exact HR431_0.out)) hb); have n5_ := Aside0.mk (Kept.below (S := (fun k_ => P1_ k_)) (by repeat (first | (with_reducible first | exact HK.out | apply Kept.alloc | apply Kept.drewN | apply Kept.drew) | exact HK.out)) hb); have n6_ := Aside0.mk (below_step (by repeat (first | (with_reducible first | exact HB.out | apply below_alloc | apply pw_below_drewN | apply below_drew1) | exact HB.out)) hb); clear HO_1; clear HO_31; clear HL431_0; clear HR431_0; clear HK; clear HB; have HO_1 := n0_; have HO_31 := n1_; have HL431_0 := n2_; have HO434 := n3_; have HR431_0 := n4_; have HK := n5_; have HB := n6_; clear n0_ n1_ n2_ n3_ n4_ n5_ n6_; (try clear hb); (try clear hb2); (try clear hk); (try clear hi); (try clear ho0); obtain ⟨Ao21, co21, eo21⟩ := Kd.R_slice HO434.out; subst eo21))
              have HV431_0 := Aside0.mk (Kd.V_mono (ok' := fun k_ => some k_ ≠ (u9000_ : Value).ownBlock) HL431_0.out (fun k_ hk_ => by first | exact hk_.1.2 | exact hk_.1.1.2 | exact hk_.1.1.1.2 | exact hk_.2.1))
              clear HR431_0
              have HR431_0 := HV431_0
              go_loopg [12, 14, 43] k1 (fun kq v12 v14 v43 w' => ∃ (x12_2 : Int) (x14_2 : Int) (x43_2 : Int), v12 = .int .i64 x12_2 ∧ v14 = .int .i64 x14_2 ∧ v43 = .int .i64 x43_2 ∧ Aside0 (spec_trSpread.l1 kq l0 x1_1 a2 a3 a4 (rd_L1 t428 x33_1) x12_2 x14_2 t428 (t428.length : Int) x33_1 t432 (t432.length : Int) x43_2 = some r) ∧ Aside0 (kq ≤ k1) ∧ Aside0 (Kd.R (Kd.int .i64) 3 w' w0.heap.size (fun k_ => (P1_ k_ ∨ w.heap.size ≤ k_) ∧ some k_ ≠ ((.slice Ao21 t432.length co21) : Value).ownBlock) u9000_ x1_1) ∧ Aside0 (Kd.N (Kd.slice 3 (Kd.int .i64)) 39 w' w0.heap.size (fun k_ => (P1_ k_ ∨ w.heap.size ≤ k_) ∧ some k_ ≠ (u9000_ : Value).ownBlock ∧ some k_ ≠ ((.slice Ao21 t432.length co21) : Value).ownBlock) (.slice (some ad431) t428.length co15) t428) ∧ Aside0 (Kd.R (Kd.int .i64) 3 w' w0.heap.size (fun k_ => (P1_ k_ ∨ w.heap.size ≤ k_) ∧ some k_ ≠ (u9000_ : Value).ownBlock) (.slice Ao21 t432.length co21) t432) ∧ Aside0 (Kd.V (Kd.int .i64) 3 w' w0.heap.size (fun k_ => some k_ ≠ (u9000_ : Value).ownBlock) (.slice A431_0 (rd_L1 t428 x33_1).length c431_0) (rd_L1 t428 x33_1)) ∧ Aside0 (Kept w w' (fun k_ => P1_ k_)) ∧ Aside0 (Below w0.heap.size w0 w'))
              case atStart => exact ⟨(0), (0), (0), (by first | rfl | (simp; done) | (simp [*]; done)), (by first | rfl | (simp; done) | (simp [*]; done)), (by first | rfl | (simp; done) | (simp [*]; done)), H', ⟨Nat.le_refl _⟩, ⟨by (with_reducible repeat (first | apply Kd.R_alloc | apply Kd.R_drewN | apply Kd.R_drew)); exact HO_1.out⟩, ⟨by (with_reducible repeat (first | apply Kd.N_alloc | apply Kd.N_drewN | apply Kd.N_drew)); exact Kd.N_mono HO_31.out (fun _ hk => ⟨hk.1.1, ⟨hk.1.2, hk.2⟩⟩)⟩, ⟨by (with_reducible repeat (first | apply Kd.R_alloc | apply Kd.R_drewN | apply Kd.R_drew)); exact Kd.R_mono HO434.out (fun _ hk => ⟨hk.1.1, hk.2⟩)⟩, ⟨by repeat (first | (with_reducible exact HR431_0.out) | (with_reducible refine Kd.V_alloc ?_ _) | (with_reducible refine Kd.V_drewN ?_ _) | (with_reducible refine Kd.V_drew ?_) | exact HR431_0.out)⟩, ⟨by repeat (first | (with_reducible first | exact HK.out | apply Kept.alloc | apply Kept.drewN | apply Kept.drew) | exact HK.out)⟩, ⟨by repeat (first | (with_reducible first | exact HB.out | apply below_alloc | apply pw_below_drewN | apply below_drew1) | exact HB.out)⟩⟩
              case round =>
                clear H'
                try clear c1
                try clear p2
                try clear c4
                try clear p4
                try clear q4
                try clear hx4
                try clear c6
                try clear c6b0
                try clear c6b1
                try clear p6
                try clear c7
                try clear c7b0
                try clear c8
                try clear c8b0
                try clear p9
                try clear q9
                try clear hx9
                try clear hf9
                try clear c11
                try clear c13
                try clear c16
                try clear c16b0
                try clear c17
                try clear c17b0
                try clear c18
                try clear c18b0
                try clear hx426_0
                try clear hx431_0
                try clear hx9_0
                try clear p2
                try clear p4
                try clear p426
                try clear p431
                try clear p6
                try clear p9
                try clear q4
                try clear q426
                try clear q431
                try clear q9
                obtain ⟨x12_2, x14_2, x43_2, rfl, rfl, rfl, HA, HK2, HO_1, HO_31, HO_41, HR431_0, HK, HB⟩ := hrel
                cases gk with
                | zero => exact absurd HA.out (by simp [spec_trSpread.l1])
                | succ k2 =>
                  have H := HA.out
                  clear HA
                  simp only [spec_trSpread.l1] at H
                  by_cases c22 : x43_2 < (t432.length : Int)
                  · rw [if_pos c22] at H
                    have c22b0 : decide (x43_2 < (t432.length : Int)) = true := decide_eq_true c22
                    clear c22
                    by_cases c23 : 0 ≤ x43_2
                    · rw [if_pos c23] at H
                      have c23b0 : decide (0 ≤ x43_2) = true := decide_eq_true c23
                      clear c23
                      by_cases c24 : x43_2 < (t432.length : Int)
                      · rw [if_pos c24] at H
                        have c24b0 : decide (x43_2 < (t432.length : Int)) = true := decide_eq_true c24
                        clear c24
                        have HC25 := Aside0.mk H
                        clear H
                        have p436 : 0 ≤ (x43_2 : Int) := of_decide_eq_true (by first | (with_reducible assumption) | assumption)
                        have q436 : x43_2 < (t432.length : Int) := of_decide_eq_true (by first | (with_reducible assumption) | assumption)
                        obtain ⟨ad436, e436, hx436_0⟩ := Kd.at_int (Kd.R_reads' HO_41.out).2.2 x43_2 p436 q436
                        cases e436
                        replace p436 := eq_true p436
                        replace q436 := eq_true q436
                        go_upto_region 11 with (fail)
                        go_cut [53] (fun v53 wc => ∃ (kq : Nat) (x53_24 : Bool), v53 = .bool x53_24 ∧ Aside0 (spec_trSpread.j2 kq l0 x1_1 a2 a3 a4 (rd_L1 t428 x33_1) x12_2 x14_2 x43_2 (rd t432 x43_2) t428 (t428.length : Int) x33_1 t432 (t432.length : Int) x43_2 x53_24 = some r) ∧ Aside0 (kq ≤ k2) ∧ Aside0 (Kd.R (Kd.int .i64) 3 wc w0.heap.size (fun k_ => (P1_ k_ ∨ w.heap.size ≤ k_) ∧ some k_ ≠ ((.slice (some ad436) t432.length co21) : Value).ownBlock) u9000_ x1_1) ∧ Aside0 (Kd.N (Kd.slice 3 (Kd.int .i64)) 39 wc w0.heap.size (fun k_ => (P1_ k_ ∨ w.heap.size ≤ k_) ∧ some k_ ≠ (u9000_ : Value).ownBlock ∧ some k_ ≠ ((.slice (some ad436) t432.length co21) : Value).ownBlock) (.slice (some ad431) t428.length co15) t428) ∧ Aside0 (Kd.R (Kd.int .i64) 3 wc w0.heap.size (fun k_ => (P1_ k_ ∨ w.heap.size ≤ k_) ∧ some k_ ≠ (u9000_ : Value).ownBlock) (.slice (some ad436) t432.length co21) t432) ∧ Aside0 (Kd.V (Kd.int .i64) 3 wc w0.heap.size (fun k_ => some k_ ≠ (u9000_ : Value).ownBlock) (.slice A431_0 (rd_L1 t428 x33_1).length c431_0) (rd_L1 t428 x33_1)) ∧ Aside0 (Kept w wc (fun k_ => P1_ k_)) ∧ Aside0 (Below w0.heap.size w0 wc))
                        case first =>
                          have H := HC25.out
                          clear HC25
                          by_cases c26 : a4 = true
                          · subst c26
                            have H1 : (spec_trSpread.j2 k2 l0 x1_1 a2 a3 true (rd_L1 t428 x33_1) x12_2 x14_2 x43_2 (rd t432 x43_2) t428 (t428.length : Int) x33_1 t432 (t432.length : Int) x43_2 false) = some r := by rw [if_pos rfl] at H; exact H
                            clear H
                            have H := H1
                            clear H1
                            have H' := Aside0.mk H
                            clear H
                            go_wp2
                            go_meet
                            case rel => exact ⟨_, (false), (by first | rfl | (simp; done) | (simp [*]; done)), H', ⟨by have := HK1.out; have := HK2.out; first | omega | exact Nat.le_refl _⟩, ⟨by (with_reducible repeat (first | apply Kd.R_alloc | apply Kd.R_drewN | apply Kd.R_drew)); exact HO_1.out⟩, ⟨by (with_reducible repeat (first | apply Kd.N_alloc | apply Kd.N_drewN | apply Kd.N_drew)); exact HO_31.out⟩, ⟨by (with_reducible repeat (first | apply Kd.R_alloc | apply Kd.R_drewN | apply Kd.R_drew)); exact HO_41.out⟩, ⟨by repeat (first | (with_reducible exact HR431_0.out) | (with_reducible refine Kd.V_alloc ?_ _) | (with_reducible refine Kd.V_drewN ?_ _) | (with_reducible refine Kd.V_drew ?_) | exact HR431_0.out)⟩, ⟨by repeat (first | (with_reducible first | exact HK.out | apply Kept.alloc | apply Kept.drewN | apply Kept.drew) | exact HK.out)⟩, ⟨by repeat (first | (with_reducible first | exact HB.out | apply below_alloc | apply pw_below_drewN | apply below_drew1) | exact HB.out)⟩⟩
                          · replace c26 := Bool.eq_false_iff.mpr c26
                            subst c26
                            have H1 : (spec_trSpread.j2 k2 l0 x1_1 a2 a3 false (rd_L1 t428 x33_1) x12_2 x14_2 x43_2 (rd t432 x43_2) t428 (t428.length : Int) x33_1 t432 (t432.length : Int) x43_2 (decide ((rd t432 x43_2) < 0))) = some r := by rw [if_neg (show ¬ (false = true) by decide)] at H; exact H
                            clear H
                            have H := H1
                            clear H1
                            have H' := Aside0.mk H
                            clear H
                            go_wp2
                            go_meet
                            case rel => exact ⟨_, (decide ((rd t432 x43_2) < 0)), (by first | rfl | (simp; done) | (simp [*]; done)), H', ⟨by have := HK1.out; have := HK2.out; first | omega | exact Nat.le_refl _⟩, ⟨by (with_reducible repeat (first | apply Kd.R_alloc | apply Kd.R_drewN | apply Kd.R_drew)); exact HO_1.out⟩, ⟨by (with_reducible repeat (first | apply Kd.N_alloc | apply Kd.N_drewN | apply Kd.N_drew)); exact HO_31.out⟩, ⟨by (with_reducible repeat (first | apply Kd.R_alloc | apply Kd.R_drewN | apply Kd.R_drew)); exact HO_41.out⟩, ⟨by repeat (first | (with_reducible exact HR431_0.out) | (with_reducible refine Kd.V_alloc ?_ _) | (with_reducible refine Kd.V_drewN ?_ _) | (with_reducible refine Kd.V_drew ?_) | exact HR431_0.out)⟩, ⟨by repeat (first | (with_reducible first | exact HK.out | apply Kept.alloc | apply Kept.drewN | apply Kept.drew) | exact HK.out)⟩, ⟨by repeat (first | (with_reducible first | exact HB.out | apply below_alloc | apply pw_below_drewN | apply below_drew1) | exact HB.out)⟩⟩
                        case rest =>
                          clear HC25
                          try clear c1
                          try clear c2
                          try clear p2
                          try clear c4
                          try clear p4
                          try clear q4
                          try clear hx4
                          try clear c6
                          try clear c6b0
                          try clear c6b1
                          try clear p6
                          try clear c7
                          try clear c7b0
                          try clear c8
                          try clear c8b0
                          try clear p9
                          try clear q9
                          try clear hx9
                          try clear hf9
                          try clear c11
                          try clear c13
                          try clear c16
                          try clear c16b0
                          try clear c17
                          try clear c17b0
                          try clear c18
                          try clear c18b0
                          try clear c22
                          try clear c22b0
                          try clear c23
                          try clear c23b0
                          try clear c24
                          try clear c24b0
                          try clear c26
                          try clear hx426_0
                          try clear hx431_0
                          try clear hx436_0
                          try clear hx9_0
                          try clear p2
                          try clear p4
                          try clear p426
                          try clear p431
                          try clear p436
                          try clear p6
                          try clear p9
                          try clear q4
                          try clear q426
                          try clear q431
                          try clear q436
                          try clear q9
                          obtain ⟨kq, x53_24, rfl, HA, HJ24, HO_1, HO_31, HO_41, HR431_0, HK, HB⟩ := hcut
                          cases kq with
                          | zero => exact absurd HA.out (by simp [spec_trSpread.j2])
                          | succ kj24 =>
                            have H := HA.out
                            clear HA
                            simp only [spec_trSpread.j2] at H
                            have HC27 := Aside0.mk H
                            clear H
                            go_upto_if 53 with (fail)
                            go_cut [12] (fun v12 wc => ∃ (kq : Nat) (x12_26 : Int), v12 = .int .i64 x12_26 ∧ Aside0 (spec_trSpread.j3 kq l0 x1_1 a2 a3 a4 (rd_L1 t428 x33_1) x12_26 x14_2 x43_2 (rd t432 x43_2) t428 (t428.length : Int) x33_1 t432 (t432.length : Int) x43_2 = some r) ∧ Aside0 (kq ≤ kj24) ∧ Aside0 (Kd.R (Kd.int .i64) 3 wc w0.heap.size (fun k_ => (P1_ k_ ∨ w.heap.size ≤ k_) ∧ some k_ ≠ ((.slice (some ad436) t432.length co21) : Value).ownBlock) u9000_ x1_1) ∧ Aside0 (Kd.N (Kd.slice 3 (Kd.int .i64)) 39 wc w0.heap.size (fun k_ => (P1_ k_ ∨ w.heap.size ≤ k_) ∧ some k_ ≠ (u9000_ : Value).ownBlock ∧ some k_ ≠ ((.slice (some ad436) t432.length co21) : Value).ownBlock) (.slice (some ad431) t428.length co15) t428) ∧ Aside0 (Kd.R (Kd.int .i64) 3 wc w0.heap.size (fun k_ => (P1_ k_ ∨ w.heap.size ≤ k_) ∧ some k_ ≠ (u9000_ : Value).ownBlock) (.slice (some ad436) t432.length co21) t432) ∧ Aside0 (Kd.V (Kd.int .i64) 3 wc w0.heap.size (fun k_ => some k_ ≠ (u9000_ : Value).ownBlock) (.slice A431_0 (rd_L1 t428 x33_1).length c431_0) (rd_L1 t428 x33_1)) ∧ Aside0 (Kept w wc (fun k_ => P1_ k_)) ∧ Aside0 (Below w0.heap.size w0 wc))
                            case first =>
                              have H := HC27.out
                              clear HC27
                              by_cases c28 : x53_24 = true
                              · subst c28
                                have H1 : (spec_trSpread.j3 kj24 l0 x1_1 a2 a3 a4 (rd_L1 t428 x33_1) (wrap64 (x12_2 + 1)) x14_2 x43_2 (rd t432 x43_2) t428 (t428.length : Int) x33_1 t432 (t432.length : Int) x43_2) = some r := by rw [if_pos rfl] at H; exact H
                                clear H
                                have H := H1
                                clear H1
                                have H' := Aside0.mk H
                                clear H
                                go_wp2
                                go_meet
                                case rel => exact ⟨_, (wrap64 (x12_2 + 1)), (by first | rfl | (simp; done) | (simp [*]; done)), H', ⟨by have := HK1.out; have := HK2.out; have := HJ24.out; first | omega | exact Nat.le_refl _⟩, ⟨by (with_reducible repeat (first | apply Kd.R_alloc | apply Kd.R_drewN | apply Kd.R_drew)); exact HO_1.out⟩, ⟨by (with_reducible repeat (first | apply Kd.N_alloc | apply Kd.N_drewN | apply Kd.N_drew)); exact HO_31.out⟩, ⟨by (with_reducible repeat (first | apply Kd.R_alloc | apply Kd.R_drewN | apply Kd.R_drew)); exact HO_41.out⟩, ⟨by repeat (first | (with_reducible exact HR431_0.out) | (with_reducible refine Kd.V_alloc ?_ _) | (with_reducible refine Kd.V_drewN ?_ _) | (with_reducible refine Kd.V_drew ?_) | exact HR431_0.out)⟩, ⟨by repeat (first | (with_reducible first | exact HK.out | apply Kept.alloc | apply Kept.drewN | apply Kept.drew) | exact HK.out)⟩, ⟨by repeat (first | (with_reducible first | exact HB.out | apply below_alloc | apply pw_below_drewN | apply below_drew1) | exact HB.out)⟩⟩
                              · replace c28 := Bool.eq_false_iff.mpr c28
                                subst c28
                                have H1 : (spec_trSpread.j3 kj24 l0 x1_1 a2 a3 a4 (rd_L1 t428 x33_1) x12_2 x14_2 x43_2 (rd t432 x43_2) t428 (t428.length : Int) x33_1 t432 (t432.length : Int) x43_2) = some r := by rw [if_neg (show ¬ (false = true) by decide)] at H; exact H
                                clear H
                                have H := H1
                                clear H1
                                have H' := Aside0.mk H
                                clear H
                                go_wp2
                                go_meet
                                case rel => exact ⟨_, (x12_2), (by first | rfl | (simp; done) | (simp [*]; done)), H', ⟨by have := HK1.out; have := HK2.out; have := HJ24.out; first | omega | exact Nat.le_refl _⟩, ⟨by (with_reducible repeat (first | apply Kd.R_alloc | apply Kd.R_drewN | apply Kd.R_drew)); exact HO_1.out⟩, ⟨by (with_reducible repeat (first | apply Kd.N_alloc | apply Kd.N_drewN | apply Kd.N_drew)); exact HO_31.out⟩, ⟨by (with_reducible repeat (first | apply Kd.R_alloc | apply Kd.R_drewN | apply Kd.R_drew)); exact HO_41.out⟩, ⟨by repeat (first | (with_reducible exact HR431_0.out) | (with_reducible refine Kd.V_alloc ?_ _) | (with_reducible refine Kd.V_drewN ?_ _) | (with_reducible refine Kd.V_drew ?_) | exact HR431_0.out)⟩, ⟨by repeat (first | (with_reducible first | exact HK.out | apply Kept.alloc | apply Kept.drewN | apply Kept.drew) | exact HK.out)⟩, ⟨by repeat (first | (with_reducible first | exact HB.out | apply below_alloc | apply pw_below_drewN | apply below_drew1) | exact HB.out)⟩⟩
                            case rest =>
                              clear HC27
                              try clear c1
                              try clear c2
                              try clear p2
                              try clear c4
                              try clear p4
                              try clear q4
                              try clear hx4
                              try clear c6
                              try clear c6b0
                              try clear c6b1
                              try clear p6
                              try clear c7
                              try clear c7b0
                              try clear c8
                              try clear c8b0
                              try clear p9
                              try clear q9
                              try clear hx9
                              try clear hf9
                              try clear c11
                              try clear c13
                              try clear c16
                              try clear c16b0
                              try clear c17
                              try clear c17b0
                              try clear c18
                              try clear c18b0
                              try clear c22
                              try clear c22b0
                              try clear c23
                              try clear c23b0
                              try clear c24
                              try clear c24b0
                              try clear c26
                              try clear c28
                              try clear hx426_0
                              try clear hx431_0
                              try clear hx436_0
                              try clear hx9_0
                              try clear p2
                              try clear p4
                              try clear p426
                              try clear p431
                              try clear p436
                              try clear p6
                              try clear p9
                              try clear q4
                              try clear q426
                              try clear q431
                              try clear q436
                              try clear q9
                              obtain ⟨kq, x12_26, rfl, HA, HJ26, HO_1, HO_31, HO_41, HR431_0, HK, HB⟩ := hcut
                              cases kq with
                              | zero => exact absurd HA.out (by simp [spec_trSpread.j3])
                              | succ kj26 =>
                                have H := HA.out
                                clear HA
                                simp only [spec_trSpread.j3] at H
                                by_cases c29 : a4 = true
                                · subst c29
                                  have H1 : (spec_trSpread.l2 kj26 l0 x1_1 a2 a3 true (rd_L1 t428 x33_1) x12_26 x14_2 x43_2 (rd t432 x43_2) t428 (t428.length : Int) x33_1 t432 (t432.length : Int) x43_2 l0 (l0.length : Int) 0) = some r := by rw [if_pos rfl] at H; exact H
                                  clear H
                                  have H := H1
                                  clear H1
                                  have H' := Aside0.mk H
                                  clear H
                                  go_wp2
                                  go_loopg [14, 59] kj26 (fun kq v14 v59 w' => ∃ (x14_5 : Int) (x59_5 : Int), v14 = .int .i64 x14_5 ∧ v59 = .int .i64 x59_5 ∧ Aside0 (spec_trSpread.l2 kq l0 x1_1 a2 a3 true (rd_L1 t428 x33_1) x12_26 x14_5 x43_2 (rd t432 x43_2) t428 (t428.length : Int) x33_1 t432 (t432.length : Int) x43_2 l0 (l0.length : Int) x59_5 = some r) ∧ Aside0 (kq ≤ kj26) ∧ Aside0 (Kd.R (Kd.int .i64) 3 w' w0.heap.size (fun k_ => (P1_ k_ ∨ w.heap.size ≤ k_) ∧ some k_ ≠ ((.slice (some ad436) t432.length co21) : Value).ownBlock) u9000_ x1_1) ∧ Aside0 (Kd.N (Kd.slice 3 (Kd.int .i64)) 39 w' w0.heap.size (fun k_ => (P1_ k_ ∨ w.heap.size ≤ k_) ∧ some k_ ≠ (u9000_ : Value).ownBlock ∧ some k_ ≠ ((.slice (some ad436) t432.length co21) : Value).ownBlock) (.slice (some ad431) t428.length co15) t428) ∧ Aside0 (Kd.R (Kd.int .i64) 3 w' w0.heap.size (fun k_ => (P1_ k_ ∨ w.heap.size ≤ k_) ∧ some k_ ≠ (u9000_ : Value).ownBlock) (.slice (some ad436) t432.length co21) t432) ∧ Aside0 (Kd.V (Kd.int .i64) 3 w' w0.heap.size (fun k_ => some k_ ≠ (u9000_ : Value).ownBlock) (.slice A431_0 (rd_L1 t428 x33_1).length c431_0) (rd_L1 t428 x33_1)) ∧ Aside0 (Kept w w' (fun k_ => P1_ k_)) ∧ Aside0 (Below w0.heap.size w0 w'))
                                  case atStart => exact ⟨(x14_2), (0), (by first | rfl | (simp; done) | (simp [*]; done)), (by first | rfl | (simp; done) | (simp [*]; done)), H', ⟨Nat.le_refl _⟩, ⟨by (with_reducible repeat (first | apply Kd.R_alloc | apply Kd.R_drewN | apply Kd.R_drew)); exact HO_1.out⟩, ⟨by (with_reducible repeat (first | apply Kd.N_alloc | apply Kd.N_drewN | apply Kd.N_drew)); exact HO_31.out⟩, ⟨by (with_reducible repeat (first | apply Kd.R_alloc | apply Kd.R_drewN | apply Kd.R_drew)); exact HO_41.out⟩, ⟨by repeat (first | (with_reducible exact HR431_0.out) | (with_reducible refine Kd.V_alloc ?_ _) | (with_reducible refine Kd.V_drewN ?_ _) | (with_reducible refine Kd.V_drew ?_) | exact HR431_0.out)⟩, ⟨by repeat (first | (with_reducible first | exact HK.out | apply Kept.alloc | apply Kept.drewN | apply Kept.drew) | exact HK.out)⟩, ⟨by repeat (first | (with_reducible first | exact HB.out | apply below_alloc | apply pw_below_drewN | apply below_drew1) | exact HB.out)⟩⟩
                                  case round =>
                                    clear H'
                                    try clear c1
                                    try clear c2
                                    try clear p2
                                    try clear c4
                                    try clear p4
                                    try clear q4
                                    try clear hx4
                                    try clear c6
                                    try clear c6b0
                                    try clear c6b1
                                    try clear p6
                                    try clear c7
                                    try clear c7b0
                                    try clear c8
                                    try clear c8b0
                                    try clear p9
                                    try clear q9
                                    try clear hx9
                                    try clear hf9
                                    try clear c11
                                    try clear c13
                                    try clear c16
                                    try clear c16b0
                                    try clear c17
                                    try clear c17b0
                                    try clear c18
                                    try clear c18b0
                                    try clear c22
                                    try clear c22b0
                                    try clear c23
                                    try clear c23b0
                                    try clear c24
                                    try clear c24b0
                                    try clear c26
                                    try clear c28
                                    try clear c29
                                    try clear hx426_0
                                    try clear hx431_0
                                    try clear hx436_0
                                    try clear hx9_0
                                    try clear p2
                                    try clear p4
                                    try clear p426
                                    try clear p431
                                    try clear p436
                                    try clear p6
                                    try clear p9
                                    try clear q4
                                    try clear q426
                                    try clear q431
                                    try clear q436
                                    try clear q9
                                    obtain ⟨x14_5, x59_5, rfl, rfl, HA, HK5, HO_1, HO_31, HO_41, HR431_0, HK, HB⟩ := hrel
                                    cases gk with
                                    | zero => exact absurd HA.out (by simp [spec_trSpread.l2])
                                    | succ k5 =>
                                      have H := HA.out
                                      clear HA
                                      simp only [spec_trSpread.l2] at H
                                      by_cases c30 : x59_5 < (l0.length : Int)
                                      · rw [if_pos c30] at H
                                        have c30b0 : decide (x59_5 < (l0.length : Int)) = true := decide_eq_true c30
                                        clear c30
                                        by_cases c31 : 0 ≤ x59_5
                                        · rw [if_pos c31] at H
                                          have c31b0 : decide (0 ≤ x59_5) = true := decide_eq_true c31
                                          clear c31
                                          by_cases c32 : x59_5 < (l0.length : Int)
                                          · rw [if_pos c32] at H
                                            have c32b0 : decide (x59_5 < (l0.length : Int)) = true := decide_eq_true c32
                                            clear c32
                                            by_cases c33 : (rd l0 x59_5) > x43_2
                                            · rw [if_pos c33] at H
                                              have c33b0 : decide (x43_2 < (rd l0 x59_5)) = true := decide_eq_true c33
                                              clear c33
                                              have H' := Aside0.mk H
                                              clear H
                                              have p437 : 0 ≤ (x59_5 : Int) := of_decide_eq_true (by first | (with_reducible assumption) | assumption)
                                              have q437 : x59_5 < (l0.length : Int) := of_decide_eq_true (by first | (with_reducible assumption) | assumption)
                                              obtain ⟨ad437, e437, hx437_0⟩ := Kd.at_int (Kd.C_kept_now HR0.out HK.out) x59_5 p437 q437
                                              cases e437
                                              replace p437 := eq_true p437
                                              replace q437 := eq_true q437
                                              go_wp2
                                              go_roundg k5
                                              case measure => have := HK1.out; have := HK2.out; have := HJ24.out; have := HJ26.out; have := HK5.out; omega
                                              case rel => exact ⟨(wrap64 (x14_5 + (rd t432 x43_2))), (wrap64 (x59_5 + 1)), (by first | rfl | (simp; done) | (simp [*]; done)), (by first | rfl | (simp; done) | (simp [*]; done)), H', ⟨by have := HK1.out; have := HK2.out; have := HJ24.out; have := HJ26.out; have := HK5.out; omega⟩, ⟨by (with_reducible repeat (first | apply Kd.R_alloc | apply Kd.R_drewN | apply Kd.R_drew)); exact HO_1.out⟩, ⟨by (with_reducible repeat (first | apply Kd.N_alloc | apply Kd.N_drewN | apply Kd.N_drew)); exact HO_31.out⟩, ⟨by (with_reducible repeat (first | apply Kd.R_alloc | apply Kd.R_drewN | apply Kd.R_drew)); exact HO_41.out⟩, ⟨by repeat (first | (with_reducible exact HR431_0.out) | (with_reducible refine Kd.V_alloc ?_ _) | (with_reducible refine Kd.V_drewN ?_ _) | (with_reducible refine Kd.V_drew ?_) | exact HR431_0.out)⟩, ⟨by repeat (first | (with_reducible first | exact HK.out | apply Kept.alloc | apply Kept.drewN | apply Kept.drew) | exact HK.out)⟩, ⟨by repeat (first | (with_reducible first | exact HB.out | apply below_alloc | apply pw_below_drewN | apply below_drew1) | exact HB.out)⟩⟩
                                            · rw [if_neg c33] at H
                                              have c33b0 : decide (x43_2 < (rd l0 x59_5)) = false := decide_eq_false c33
                                              clear c33
                                              have H' := Aside0.mk H
                                              clear H
                                              have p437 : 0 ≤ (x59_5 : Int) := of_decide_eq_true (by first | (with_reducible assumption) | assumption)
                                              have q437 : x59_5 < (l0.length : Int) := of_decide_eq_true (by first | (with_reducible assumption) | assumption)
                                              obtain ⟨ad437, e437, hx437_0⟩ := Kd.at_int (Kd.C_kept_now HR0.out HK.out) x59_5 p437 q437
                                              cases e437
                                              replace p437 := eq_true p437
                                              replace q437 := eq_true q437
                                              go_wp2
                                              go_roundg k5
                                              case measure => have := HK1.out; have := HK2.out; have := HJ24.out; have := HJ26.out; have := HK5.out; omega
                                              case rel => exact ⟨(x14_5), (wrap64 (x59_5 + 1)), (by first | rfl | (simp; done) | (simp [*]; done)), (by first | rfl | (simp; done) | (simp [*]; done)), H', ⟨by have := HK1.out; have := HK2.out; have := HJ24.out; have := HJ26.out; have := HK5.out; omega⟩, ⟨by (with_reducible repeat (first | apply Kd.R_alloc | apply Kd.R_drewN | apply Kd.R_drew)); exact HO_1.out⟩, ⟨by (with_reducible repeat (first | apply Kd.N_alloc | apply Kd.N_drewN | apply Kd.N_drew)); exact HO_31.out⟩, ⟨by (with_reducible repeat (first | apply Kd.R_alloc | apply Kd.R_drewN | apply Kd.R_drew)); exact HO_41.out⟩, ⟨by repeat (first | (with_reducible exact HR431_0.out) | (with_reducible refine Kd.V_alloc ?_ _) | (with_reducible refine Kd.V_drewN ?_ _) | (with_reducible refine Kd.V_drew ?_) | exact HR431_0.out)⟩, ⟨by repeat (first | (with_reducible first | exact HK.out | apply Kept.alloc | apply Kept.drewN | apply Kept.drew) | exact HK.out)⟩, ⟨by repeat (first | (with_reducible first | exact HB.out | apply below_alloc | apply pw_below_drewN | apply below_drew1) | exact HB.out)⟩⟩
                                          · rw [if_neg c32] at H
                                            exact absurd H (by simp)
                                        · rw [if_neg c31] at H
                                          exact absurd H (by simp)
                                      · rw [if_neg c30] at H
                                        have c30b0 : decide (x59_5 < (l0.length : Int)) = false := decide_eq_false c30
                                        clear c30
                                        have H' := Aside0.mk H
                                        clear H
                                        go_wp2
                                        go_roundg k5
                                        case measure => have := HK1.out; have := HK2.out; have := HJ24.out; have := HJ26.out; have := HK5.out; omega
                                        case rel => exact ⟨(x12_26), (x14_5), (wrap64 (x43_2 + 1)), (by first | rfl | (simp; done) | (simp [*]; done)), (by first | rfl | (simp; done) | (simp [*]; done)), (by first | rfl | (simp; done) | (simp [*]; done)), H', ⟨by have := HK1.out; have := HK2.out; have := HJ24.out; have := HJ26.out; have := HK5.out; omega⟩, ⟨by (with_reducible repeat (first | apply Kd.R_alloc | apply Kd.R_drewN | apply Kd.R_drew)); exact HO_1.out⟩, ⟨by (with_reducible repeat (first | apply Kd.N_alloc | apply Kd.N_drewN | apply Kd.N_drew)); exact HO_31.out⟩, ⟨by (with_reducible repeat (first | apply Kd.R_alloc | apply Kd.R_drewN | apply Kd.R_drew)); exact HO_41.out⟩, ⟨by repeat (first | (with_reducible exact HR431_0.out) | (with_reducible refine Kd.V_alloc ?_ _) | (with_reducible refine Kd.V_drewN ?_ _) | (with_reducible refine Kd.V_drew ?_) | exact HR431_0.out)⟩, ⟨by repeat (first | (with_reducible first | exact HK.out | apply Kept.alloc | apply Kept.drewN | apply Kept.drew) | exact HK.out)⟩, ⟨by repeat (first | (with_reducible first | exact HB.out | apply below_alloc | apply pw_below_drewN | apply below_drew1) | exact HB.out)⟩⟩
                                · replace c29 := Bool.eq_false_iff.mpr c29
                                  subst c29
                                  have H1 : (spec_trSpread.l1 kj26 l0 x1_1 a2 a3 false (rd_L1 t428 x33_1) x12_26 x14_2 t428 (t428.length : Int) x33_1 t432 (t432.length : Int) (wrap64 (x43_2 + 1))) = some r := by rw [if_neg (show ¬ (false = true) by decide)] at H; exact H
                                  clear H
                                  have H := H1
                                  clear H1
                                  have H' := Aside0.mk H
                                  clear H
                                  go_wp2
                                  go_roundg kj26
                                  case measure => have := HK1.out; have := HK2.out; have := HJ24.out; have := HJ26.out; omega
                                  case rel => exact ⟨(x12_26), (x14_2), (wrap64 (x43_2 + 1)), (by first | rfl | (simp; done) | (simp [*]; done)), (by first | rfl | (simp; done) | (simp [*]; done)), (by first | rfl | (simp; done) | (simp [*]; done)), H', ⟨by have := HK1.out; have := HK2.out; have := HJ24.out; have := HJ26.out; omega⟩, ⟨by (with_reducible repeat (first | apply Kd.R_alloc | apply Kd.R_drewN | apply Kd.R_drew)); exact HO_1.out⟩, ⟨by (with_reducible repeat (first | apply Kd.N_alloc | apply Kd.N_drewN | apply Kd.N_drew)); exact HO_31.out⟩, ⟨by (with_reducible repeat (first | apply Kd.R_alloc | apply Kd.R_drewN | apply Kd.R_drew)); exact HO_41.out⟩, ⟨by repeat (first | (with_reducible exact HR431_0.out) | (with_reducible refine Kd.V_alloc ?_ _) | (with_reducible refine Kd.V_drewN ?_ _) | (with_reducible refine Kd.V_drew ?_) | exact HR431_0.out)⟩, ⟨by repeat (first | (with_reducible first | exact HK.out | apply Kept.alloc | apply Kept.drewN | apply Kept.drew) | exact HK.out)⟩, ⟨by repeat (first | (with_reducible first | exact HB.out | apply below_alloc | apply pw_below_drewN | apply below_drew1) | exact HB.out)⟩⟩
                      · rw [if_neg c24] at H
                        exact absurd H (by simp)
                    · rw [if_neg c23] at H
                      exact absurd H (by simp)
                  · rw [if_neg c22] at H
                    have c22b0 : decide (x43_2 < (t432.length : Int)) = false := decide_eq_false c22
                    clear c22
                    replace H := Option.bind_eq_some_iff.mp H
                    obtain ⟨t435, A340, H⟩ := H
                    replace H : (spec_trSpread.l0 k2 l0 t435 a2 a3 a4 t428 (t428.length : Int) (wrap64 (x33_1 + 1))) = some r := H
                    have A34 := Aside0.mk A340
                    clear A340
                    have H' := Aside0.mk H
                    clear H
                    obtain ⟨Ao35, co35, eo35⟩ := Kd.R_slice HO_1.out
                    subst eo35
                    go_wp2_with (first | ((with_reducible refine gate_callee (f := 130) rfl ?_); refine goesL_ (some 80) rfl rfl Try.func130 (by kernel_rfl) rfl #[.slice A431_0 (rd_L1 t428 x33_1).length c431_0, .slice Ao35 x1_1.length co35, .int .i64 (wrap64 ((wrap64 (a2 + x12_2)) + x14_2)), .int .i64 a3, .bool a4] rfl (by (try simp only [List.map_toArray, List.map_cons, List.map_nil]); first | done | rfl | (simp only [List.length_drop, List.length_take]; rfl)) ?_; (with_reducible refine (ih k2 (by have := HK1.out; have := HK2.out; omega) _ _ (rd_L1 t428 x33_1) (fun k_ => some k_ = (.slice Ao35 x1_1.length co35 : Value).ownBlock) (.slice Ao35 x1_1.length co35) x1_1 (wrap64 ((wrap64 (a2 + x12_2)) + x14_2)) a3 a4 t435 w0 _ ?side1 ?side2 ?side3 ?side4 A34.out).mono ?_); (case side1 => repeat (first | (with_reducible first | exact HB.out | apply below_alloc | apply pw_below_drewN | apply below_drew1) | exact HB.out)); (case side2 => exact Kd.C_kept_ownV (HR431_0.out) (fun k_ hk_ hs_ => hk_ hs_)); (case side3 => exact HC431_0.out); (case side4 => exact Kd.R_tight rfl HO_1.out); rintro e w36 ⟨rfl, hy0, hb, hkp⟩; refine ⟨_, rfl, ?_⟩; have n0_ := Aside0.mk (Kd.R_reok rfl hy0 (fun k_ e_ => HO_1.out.1 k_ e_)); have n1_ := Aside0.mk (Kd.N_mono (ok' := fun k_ => (P1_ k_ ∨ w.heap.size ≤ k_) ∧ some k_ ≠ (.slice Ao35 x1_1.length co35 : Value).ownBlock ∧ some k_ ≠ (.slice Ao21 t432.length co21 : Value).ownBlock) (Kd.N_keptB (HO_31.out) hkp (fun k_ hk_ hs_ => (hk_.2.1) hs_)) (fun k_ hk_ => ⟨hk_.1.1, hk_.1.2.1, hk_.1.2.2⟩)); have n2_ := Aside0.mk (Kd.R_mono (ok' := fun k_ => (P1_ k_ ∨ w.heap.size ≤ k_) ∧ some k_ ≠ (.slice Ao35 x1_1.length co35 : Value).ownBlock) (Kd.R_keptB (HO_41.out) hkp (fun k_ hk_ hs_ => (hk_.2) hs_)) (fun k_ hk_ => ⟨hk_.1.1, hk_.1.2⟩)); have n3_ := Aside0.mk (Kept.then_ (S := (fun k_ => P1_ k_)) (by repeat (first | (with_reducible first | exact HK.out | apply Kept.alloc | apply Kept.drewN | apply Kept.drew) | exact HK.out)) hkp (fun k_ hs_ => (fun e_ => (HO_1.out.1 k_ e_.symm).1) hs_)); have n4_ := Aside0.mk (hb); clear HO_1; clear HO_31; clear HO_41; clear HK; clear HB; have HO_1 := n0_; have HO_31 := n1_; have HO_41 := n2_; have HK := n3_; have HB := n4_; clear n0_ n1_ n2_ n3_ n4_; (try clear hb); (try clear hkp); (try clear hy0)))
                    go_roundg k2
                    case measure => have := HK1.out; have := HK2.out; omega
                    case rel => exact ⟨(t435), (wrap64 (x33_1 + 1)), (by first | rfl | (simp; done) | (simp [*]; done)), H', ⟨by have := HK1.out; have := HK2.out; omega⟩, ⟨by (with_reducible repeat (first | apply Kd.R_alloc | apply Kd.R_drewN | apply Kd.R_drew)); exact Kd.R_mono HO_1.out (fun _ hk => hk.1)⟩, ⟨by (with_reducible repeat (first | apply Kd.N_alloc | apply Kd.N_drewN | apply Kd.N_drew)); exact Kd.N_mono HO_31.out (fun _ hk => ⟨hk.1, hk.2.1⟩)⟩, ⟨by repeat (first | (with_reducible first | exact HK.out | apply Kept.alloc | apply Kept.drewN | apply Kept.drew) | exact HK.out)⟩, ⟨by repeat (first | (with_reducible first | exact HB.out | apply below_alloc | apply pw_below_drewN | apply below_drew1) | exact HB.out)⟩⟩
            · rw [if_neg c18] at H
              exact absurd H (by simp)
          · rw [if_neg c17] at H
            exact absurd H (by simp)
        · rw [if_neg c16] at H
          have c16b0 : decide (x33_1 < (t428.length : Int)) = false := decide_eq_false c16
          clear c16
          obtain rfl := Option.some.inj H
          go_wp2
          first | go_end0 | ((try simp only [Exit.inBlock, Exit.then]); refine bodyPost_ret (results_none rfl _ _ _) rfl ?_)
          exact ⟨by first | rfl | (simp [errW_none, errW_some] <;> rfl) | (simp [*, errW_none, errW_some] <;> rfl), by (with_reducible repeat (first | apply Kd.R_alloc | apply Kd.R_drewN | apply Kd.R_drew)); exact HO_1.out, by repeat (first | (with_reducible first | exact HB.out | apply below_alloc | apply pw_below_drewN | apply below_drew1) | exact HB.out), by repeat (first | (with_reducible first | exact HK.out | apply Kept.alloc | apply Kept.drewN | apply Kept.drew) | exact HK.out)⟩

/-! ### spec_trCounts: function 85 -/
def spec_trCounts.l0 : Nat → List Int → Int → List Int → Int → Int → Option (List Int)
  | 0, _, _, _, _, _ => none
  | k + 1, x5, x6, x18, x19, x20 => if x20 < x19 then (if 0 ≤ x20 then (if x20 < (x18.length : Int) then (if (rd x18 x20) > 0 then (spec_trCounts.l0 k x5 x20 x18 x19 (wrap64 (x20 + 1))) else (spec_trCounts.l0 k x5 x6 x18 x19 (wrap64 (x20 + 1)))) else (none)) else (none)) else (if 0 ≤ (wrap64 (x6 + 1)) then (if (wrap64 (x6 + 1)) ≤ (x5.length : Int) then ((spec_l1Own.f (x5.take ((wrap64 (x6 + 1)) : Int).toNat)).bind fun t447 => (some t447)) else (none)) else (none))
def spec_trCounts.f (k : Nat) (a0 : Int) (a1 : Bool) : Option (List Int) := if 0 ≤ (wrap64 ((wrap64 (a0 * a0)) + 1)) then (if (wrap64 ((wrap64 (a0 * a0)) + 1) : Int).toNat ≤ 35184372088832 then ((some (List.replicate (wrap64 ((wrap64 (a0 * a0)) + 1) : Int).toNat 0 : List Int)).bind fun y438 => ((spec_trSpread.f k ([] : List Int) y438 0 a0 a1).bind fun t441 => (spec_trCounts.l0 k t441 0 t441 (y438.length : Int) 0))) else (none)) else (none)
theorem spec_trCounts.mono_l : ∀ k, (∀ y0 y1 y2 y3 y4, LeO (spec_trCounts.l0 k y0 y1 y2 y3 y4) (spec_trCounts.l0 (k + 1) y0 y1 y2 y3 y4))
  | 0 => fun _ _ _ _ _ r h => by simp [spec_trCounts.l0] at h
  | k + 1 => by
    have ih0 := spec_trCounts.mono_l k
    · intro y0 y1 y2 y3 y4
      unfold spec_trCounts.l0
      repeat' first
      | (with_reducible exact ih0 _ _ _ _ _)
      | (with_reducible exact spec_trSpread.mono _ _ _ _ _ _)
      | (with_reducible exact LeO.refl _)
      | (with_reducible exact LeO.none _)
      | (with_reducible refine LeO.ite ?_ ?_)
      | (with_reducible refine LeO.bind ?_ (fun _ => ?_))
      | exact ih0 _ _ _ _ _
      | exact spec_trSpread.mono _ _ _ _ _ _
      | exact LeO.none _
      | refine LeO.ite ?_ ?_
      | refine LeO.bind ?_ (fun _ => ?_)
theorem spec_trCounts.mono : ∀ a0 a1 k, LeO (spec_trCounts.f k a0 a1) (spec_trCounts.f (k + 1) a0 a1) := by
  intro a0 a1 k
  have ih0 := spec_trCounts.mono_l k
  unfold spec_trCounts.f
  repeat' first
      | (with_reducible exact ih0 _ _ _ _ _)
      | (with_reducible exact spec_trSpread.mono _ _ _ _ _ _)
      | (with_reducible exact LeO.refl _)
      | (with_reducible exact LeO.none _)
      | (with_reducible refine LeO.ite ?_ ?_)
      | (with_reducible refine LeO.bind ?_ (fun _ => ?_))
      | exact ih0 _ _ _ _ _
      | exact spec_trSpread.mono _ _ _ _ _ _
      | exact LeO.none _
      | refine LeO.ite ?_ ?_
      | refine LeO.bind ?_ (fun _ => ?_)
set_option maxHeartbeats 8000000 in
set_option maxRecDepth 100000 in
theorem spec_trCounts.calls (k : Nat) (a0 : Int) (a1 : Bool) (r : List Int) (w : World) (h : spec_trCounts.f k a0 a1 = some r) :
    Calls Try.prog 85 #[.int .i64 a0, .bool a1] w fun e w' => ∃ v0_ : Value, e = .returned (v0_) ∧ Kd.R (Kd.int .i64) 3 w' w.heap.size (fun _ => True) v0_ r ∧ Below w.heap.size w w' := by
  have HB := Aside0.mk (Below.refl w.heap.size w)
  have H : (if 0 ≤ (wrap64 ((wrap64 (a0 * a0)) + 1)) then (if (wrap64 ((wrap64 (a0 * a0)) + 1) : Int).toNat ≤ 35184372088832 then ((some (List.replicate (wrap64 ((wrap64 (a0 * a0)) + 1) : Int).toNat 0 : List Int)).bind fun y438 => ((spec_trSpread.f k ([] : List Int) y438 0 a0 a1).bind fun t441 => (spec_trCounts.l0 k t441 0 t441 (y438.length : Int) 0))) else (none)) else (none)) = some r := h
  clear h
  obtain ⟨ji3, hji3⟩ : ∃ j_ : Int, (wrap64 ((wrap64 (a0 * a0)) + 1)) = j_ := ⟨_, rfl⟩
  replace H : (if 0 ≤ (ji3) then (if (ji3 : Int).toNat ≤ 35184372088832 then ((some (List.replicate (ji3 : Int).toNat 0 : List Int)).bind fun y438 => ((spec_trSpread.f k ([] : List Int) y438 0 a0 a1).bind fun t441 => (spec_trCounts.l0 k t441 0 t441 (y438.length : Int) 0))) else (none)) else (none)) = some r := by first | (rw [hji3] at H; exact H) | (simp only [hji3] at H ⊢; exact H)
  have hji3w : (IntKind.i64.wrap ((wrap64 (a0 * a0)) + 1)) = ji3 := (i64_w _).trans hji3
  by_cases c4 : 0 ≤ (ji3)
  · rw [if_pos c4] at H
    have c4b0 := eq_true c4
    have c4b1 : decide (0 ≤ (ji3)) = true := decide_eq_true c4
    clear c4
    by_cases c5 : (ji3 : Int).toNat ≤ 35184372088832
    · rw [if_pos c5] at H
      have c5b0 := eq_true c5
      have c5b1 : decide ((ji3 : Int).toNat ≤ 35184372088832) = true := decide_eq_true c5
      clear c5
      obtain ⟨y438, hy438⟩ : ∃ y_ : List Int, y_ = (List.replicate (ji3 : Int).toNat 0) := ⟨_, rfl⟩
      replace H : ((spec_trSpread.f k ([] : List Int) y438 0 a0 a1).bind fun t441 => (spec_trCounts.l0 k t441 0 t441 (y438.length : Int) 0)) = some r := by first | (rw [hy438]; with_reducible exact H) | (have H2_ := (Option.bind_some _ _).symm.trans H; rw [hy438]; with_reducible exact H2_) | (have H2_ := (Option.bind_some _ _).symm.trans H; with_reducible exact H2_) | with_reducible exact H | (rw [hy438]; exact H) | exact H
      have Ny438 := Aside0.mk hy438
      clear hy438
      replace H := Option.bind_eq_some_iff.mp H
      obtain ⟨t441, A60, H⟩ := H
      replace H : (spec_trCounts.l0 k t441 0 t441 (y438.length : Int) 0) = some r := H
      have A6 := Aside0.mk A60
      clear A60
      have H' := Aside0.mk H
      clear H
      go_enter Try.func85, Try.ntmps85
      go_wp2_with (first | ((with_reducible refine gate_dst (N := 13) rfl ?_); refine Kd.R_make (Kd.int .i64) _ 3 rfl (N := 13) rfl 39 _ _ rfl ji3 rfl rfl Try.underlying39 (.int .i64 0) 8 info3 rfl (by decide) (by omega) 0 (ok := fun _ => True) (okp := fun _ => True) rfl (fun _ hk => hk) trivial (of_decide_eq_true (by first | (with_reducible assumption) | assumption)) (Nat.le_trans (Nat.mul_le_mul_right _ (of_decide_eq_true (by first | (with_reducible assumption) | assumption) : ji3.toNat ≤ 35184372088832)) (by omega)) (Below.refl _ _) (Nat.le_refl _) ?_; intro v439 w7 ho8 hb hg_ hnew_; clear hg_ hnew_; (first | rw [← Ny438.out] at ho8 | (simp only [Int.reduceToNat] at ho8; rw [← Ny438.out] at ho8)); have n0_ := Aside0.mk (Kd.R_lower ho8 (below_size (by repeat (first | (with_reducible first | exact HB.out | apply below_alloc | apply pw_below_drewN | apply below_drew1) | exact HB.out)))); have n1_ := Aside0.mk (below_step (by repeat (first | (with_reducible first | exact HB.out | apply below_alloc | apply pw_below_drewN | apply below_drew1) | exact HB.out)) hb); clear HB; have HO440 := n0_; have HB := n1_; clear n0_ n1_; clear hb ho8; obtain ⟨Ao9, co9, eo9⟩ := Kd.R_slice HO440.out; subst eo9) | ((with_reducible refine gate_callee (f := 130) rfl ?_); refine goesL_ (some 17) rfl rfl Try.func130 (by kernel_rfl) rfl #[.slice none 0 0, .slice Ao9 y438.length co9, .int .i64 0, .int .i64 a0, .bool a1] rfl (by (try simp only [List.map_toArray, List.map_cons, List.map_nil]); first | done | rfl | (simp only [List.length_drop, List.length_take]; rfl)) ?_; (refine (spec_trSpread.calls k _ _ ([] : List Int) (fun k_ => some k_ = (.slice Ao9 y438.length co9 : Value).ownBlock) (.slice Ao9 y438.length co9) y438 0 a0 a1 t441 w _ ?side1 ?side2 ?side3 ?side4 A6.out).mono ?_); (case side1 => repeat (first | (with_reducible first | exact HB.out | apply below_alloc | apply pw_below_drewN | apply below_drew1) | exact HB.out)); (case side2 => exact Kd.C_kept_nil); (case side3 => exact Nat.le_refl _); (case side4 => exact Kd.R_tight rfl HO440.out); rintro e w10 ⟨rfl, hy0, hb, hkp⟩; refine ⟨_, rfl, ?_⟩; have n0_ := Aside0.mk (Kd.R_reok rfl hy0 (fun k_ e_ => HO440.out.1 k_ e_)); have n1_ := Aside0.mk (hb); clear HO440; clear HB; have HO440 := n0_; have HB := n1_; clear n0_ n1_; (try clear hb); (try clear hkp); (try clear hy0)))
      go_loopg [6, 20] k (fun kq v6 v20 w' => ∃ (x6_1 : Int) (x20_1 : Int), v6 = .int .i64 x6_1 ∧ v20 = .int .i64 x20_1 ∧ Aside0 (spec_trCounts.l0 kq t441 x6_1 t441 (y438.length : Int) x20_1 = some r) ∧ Aside0 (kq ≤ k) ∧ Aside0 (Kd.R (Kd.int .i64) 3 w' w.heap.size (fun _ => True) (.slice Ao9 y438.length co9) t441) ∧ Aside0 (Kd.R (Kd.int .i64) 3 w' w.heap.size (fun _ => True) (.slice Ao9 y438.length co9) t441) ∧ Aside0 (Below w.heap.size w w'))
      case atStart => exact ⟨(0), (0), (by first | rfl | (simp; done) | (simp [*]; done)), (by first | rfl | (simp; done) | (simp [*]; done)), H', ⟨Nat.le_refl _⟩, ⟨by (with_reducible repeat (first | apply Kd.R_alloc | apply Kd.R_drewN | apply Kd.R_drew)); exact HO440.out⟩, ⟨by (with_reducible repeat (first | apply Kd.R_alloc | apply Kd.R_drewN | apply Kd.R_drew)); exact HO440.out⟩, ⟨by repeat (first | (with_reducible first | exact HB.out | apply below_alloc | apply pw_below_drewN | apply below_drew1) | exact HB.out)⟩⟩
      case round =>
        clear H'
        try clear c1
        try clear p2
        try clear c4
        try clear c4b0
        try clear c4b1
        try clear c5
        try clear c5b0
        try clear c5b1
        try clear p6
        try clear c8
        obtain ⟨x6_1, x20_1, rfl, rfl, HA, HK1, HO_5, HO_18, HB⟩ := hrel
        have hl5_1 := (Kd.R_reads' HO_5.out).1
        rw [hl5_1] at HO_5
        (try simp only [hl5_1])
        (try simp only [hl5_1] at HO_18)
        have hl18_1 := (Kd.R_reads' HO_18.out).1
        rw [hl18_1] at HO_18
        (try simp only [hl18_1])
        (try simp only [hl18_1] at HO_5)
        cases gk with
        | zero => exact absurd HA.out (by simp [spec_trCounts.l0])
        | succ k1 =>
          have H := HA.out
          clear HA
          simp only [spec_trCounts.l0] at H
          by_cases c11 : x20_1 < (y438.length : Int)
          · rw [if_pos c11] at H
            have c11b0 : decide (x20_1 < (y438.length : Int)) = true := decide_eq_true c11
            (try rw [hl5_1] at c11b0)
            (try rw [hl18_1] at c11b0)
            clear c11
            by_cases c12 : 0 ≤ x20_1
            · rw [if_pos c12] at H
              have c12b0 : decide (0 ≤ x20_1) = true := decide_eq_true c12
              (try rw [hl5_1] at c12b0)
              (try rw [hl18_1] at c12b0)
              clear c12
              by_cases c13 : x20_1 < (t441.length : Int)
              · rw [if_pos c13] at H
                have c13b0 : decide (x20_1 < (t441.length : Int)) = true := decide_eq_true c13
                (try rw [hl5_1] at c13b0)
                (try rw [hl18_1] at c13b0)
                clear c13
                by_cases c14 : (rd t441 x20_1) > 0
                · rw [if_pos c14] at H
                  have c14b0 : decide (0 < (rd t441 x20_1)) = true := decide_eq_true c14
                  (try rw [hl5_1] at c14b0)
                  (try rw [hl18_1] at c14b0)
                  clear c14
                  have H' := Aside0.mk H
                  clear H
                  have p442 : 0 ≤ (x20_1 : Int) := of_decide_eq_true (by first | (with_reducible assumption) | assumption)
                  have q442 : x20_1 < (t441.length : Int) := of_decide_eq_true (by first | (with_reducible assumption) | assumption)
                  obtain ⟨ad442, e442, hx442_0⟩ := Kd.at_int (Kd.R_reads' HO_18.out).2.2 x20_1 p442 q442
                  cases e442
                  replace p442 := eq_true p442
                  replace q442 := eq_true q442
                  go_wp2
                  (try simp only [← hl5_1])
                  go_roundg k1
                  case measure => have := HK1.out; omega
                  case rel => exact ⟨(x20_1), (wrap64 (x20_1 + 1)), (by first | rfl | (simp; done) | (simp [*]; done)), (by first | rfl | (simp; done) | (simp [*]; done)), H', ⟨by have := HK1.out; omega⟩, ⟨by (try simp only [hl5_1]); (try simp only [hl18_1]); (with_reducible repeat (first | apply Kd.R_alloc | apply Kd.R_drewN | apply Kd.R_drew)); exact HO_5.out⟩, ⟨by (try simp only [hl5_1]); (try simp only [hl18_1]); (with_reducible repeat (first | apply Kd.R_alloc | apply Kd.R_drewN | apply Kd.R_drew)); exact HO_18.out⟩, ⟨by repeat (first | (with_reducible first | exact HB.out | apply below_alloc | apply pw_below_drewN | apply below_drew1) | exact HB.out)⟩⟩
                · rw [if_neg c14] at H
                  have c14b0 : decide (0 < (rd t441 x20_1)) = false := decide_eq_false c14
                  (try rw [hl5_1] at c14b0)
                  (try rw [hl18_1] at c14b0)
                  clear c14
                  have H' := Aside0.mk H
                  clear H
                  have p442 : 0 ≤ (x20_1 : Int) := of_decide_eq_true (by first | (with_reducible assumption) | assumption)
                  have q442 : x20_1 < (t441.length : Int) := of_decide_eq_true (by first | (with_reducible assumption) | assumption)
                  obtain ⟨ad442, e442, hx442_0⟩ := Kd.at_int (Kd.R_reads' HO_18.out).2.2 x20_1 p442 q442
                  cases e442
                  replace p442 := eq_true p442
                  replace q442 := eq_true q442
                  go_wp2
                  (try simp only [← hl5_1])
                  go_roundg k1
                  case measure => have := HK1.out; omega
                  case rel => exact ⟨(x6_1), (wrap64 (x20_1 + 1)), (by first | rfl | (simp; done) | (simp [*]; done)), (by first | rfl | (simp; done) | (simp [*]; done)), H', ⟨by have := HK1.out; omega⟩, ⟨by (try simp only [hl5_1]); (try simp only [hl18_1]); (with_reducible repeat (first | apply Kd.R_alloc | apply Kd.R_drewN | apply Kd.R_drew)); exact HO_5.out⟩, ⟨by (try simp only [hl5_1]); (try simp only [hl18_1]); (with_reducible repeat (first | apply Kd.R_alloc | apply Kd.R_drewN | apply Kd.R_drew)); exact HO_18.out⟩, ⟨by repeat (first | (with_reducible first | exact HB.out | apply below_alloc | apply pw_below_drewN | apply below_drew1) | exact HB.out)⟩⟩
              · rw [if_neg c13] at H
                exact absurd H (by simp)
            · rw [if_neg c12] at H
              exact absurd H (by simp)
          · rw [if_neg c11] at H
            have c11b0 : decide (x20_1 < (y438.length : Int)) = false := decide_eq_false c11
            (try rw [hl5_1] at c11b0)
            (try rw [hl18_1] at c11b0)
            clear c11
            obtain ⟨ji15, hji15⟩ : ∃ j_ : Int, (wrap64 (x6_1 + 1)) = j_ := ⟨_, rfl⟩
            replace H : (if 0 ≤ (ji15) then (if (ji15) ≤ (t441.length : Int) then ((spec_l1Own.f (t441.take ((ji15) : Int).toNat)).bind fun t447 => (some t447)) else (none)) else (none)) = some r := by first | (rw [hji15] at H; exact H) | (simp only [hji15] at H ⊢; exact H)
            have hji15w : (IntKind.i64.wrap (x6_1 + 1)) = ji15 := (i64_w _).trans hji15
            by_cases c16 : 0 ≤ (ji15)
            · rw [if_pos c16] at H
              have c16b0 := eq_true c16
              have c16b1 : decide (0 ≤ (ji15)) = true := decide_eq_true c16
              (try rw [hl5_1] at c16b1)
              (try rw [hl18_1] at c16b1)
              clear c16
              by_cases c17 : (ji15) ≤ (t441.length : Int)
              · rw [if_pos c17] at H
                have c17b0 := eq_true c17
                have c17b1 : decide ((ji15) ≤ (t441.length : Int)) = true := decide_eq_true c17
                (try rw [hl5_1] at c17b1)
                (try rw [hl18_1] at c17b1)
                clear c17
                obtain ⟨y443, hy443⟩ : ∃ y_ : List Int, y_ = (t441.take ((ji15) : Int).toNat) := ⟨_, rfl⟩
                replace H : ((spec_l1Own.f y443).bind fun t447 => (some t447)) = some r := by first | (rw [hy443]; with_reducible exact H) | (have H2_ := (Option.bind_some _ _).symm.trans H; rw [hy443]; with_reducible exact H2_) | (have H2_ := (Option.bind_some _ _).symm.trans H; with_reducible exact H2_) | with_reducible exact H | (rw [hy443]; exact H) | exact H
                have Ny443 := Aside0.mk hy443
                clear hy443
                replace H := Option.bind_eq_some_iff.mp H
                obtain ⟨t447, A180, H⟩ := H
                replace H : (some t447) = some r := H
                have A18 := Aside0.mk A180
                clear A180
                obtain rfl := Option.some.inj H
                have q19 : ((ji15) : Int) ≤ ((t441.length : Int) : Int) := of_decide_eq_true (by first | (with_reducible assumption) | assumption)
                obtain ⟨i019, hi019, _, hsz19, _⟩ := info_parts info3
                have hroom19 : t441.length ≤ co9 := (Kd.R_reads' HO_5.out).2.1
                have hC19 : Kd.C (Kd.int .i64) _ Ao9 t441.length t441 := (Kd.R_reads' HO_5.out).2.2
                have hcut19 := cut_to (P := Try.prog) 39 3 .i64 Try.underlying39 hi019 Ao9 t441.length co9 (ji15) (of_decide_eq_true (by first | (with_reducible assumption) | assumption)) q19 hroom19
                have hr19 := Kd.C_take (m := ((ji15) : Int).toNat) hC19 (by omega)
                have hy19 : y443.length = ((ji15) : Int).toNat := (by rw [Ny443.out, List.length_take]; omega)
                rw [← Ny443.out] at hr19
                rw [← hy19] at hcut19
                have HR446 := Aside0.mk hr19
                have HC446 := Aside0.mk (show y443.length ≤ co9 from by omega)
                clear hr19 hC19 hroom19 hi019 hsz19
                have KY19 := Aside0.mk hy19
                clear hy19
                have KL19 := Aside0.mk (show ((ji15) : Int).toNat ≤ t441.length from by omega)
                replace q19 := eq_true q19
                go_wp2_with (first | ((with_reducible refine gate_callee (f := 127) rfl ?_); refine goesL_ (some 33) rfl rfl Try.func127 (by kernel_rfl) rfl #[.slice Ao9 y443.length co9] rfl (by (try simp only [List.map_toArray, List.map_cons, List.map_nil]); first | done | rfl | (simp only [List.length_drop, List.length_take]; rfl)) ?_; (with_reducible refine (spec_l1Own.calls _ _ y443 t447 _ ?side1 ?side2 A18.out).mono ?_); (case side1 => repeat (first | exact (by repeat (first | (with_reducible exact HR446.out) | (with_reducible refine Kd.C_alloc ?_ _) | (with_reducible refine Kd.C_drewN ?_ _) | (with_reducible refine Kd.C_drew ?_) | exact HR446.out)) | (with_reducible refine Kd.C_alloc ?_ _) | (with_reducible refine Kd.C_drewN ?_ _) | (with_reducible refine Kd.C_drew ?_))); (case side2 => exact HC446.out); rintro e w20 ⟨v448, rfl, ho0, hb⟩; refine ⟨_, rfl, ?_⟩; have n0_ := Aside0.mk (Kd.R_elder' (by (with_reducible repeat (first | apply Kd.R_alloc | apply Kd.R_drewN | apply Kd.R_drew)); exact HO_5.out) (Kd.R_base ho0) hb); have n1_ := Aside0.mk (Kd.R_elder' (by (with_reducible repeat (first | apply Kd.R_alloc | apply Kd.R_drewN | apply Kd.R_drew)); exact HO_18.out) (Kd.R_base ho0) hb); have n2_ := Aside0.mk (Kd.R_lower (Kd.R_new' (Kd.R_new' ho0 (Kd.R_lt (by (with_reducible repeat (first | apply Kd.R_alloc | apply Kd.R_drewN | apply Kd.R_drew)); exact HO_5.out))) (Kd.R_lt (by (with_reducible repeat (first | apply Kd.R_alloc | apply Kd.R_drewN | apply Kd.R_drew)); exact HO_18.out))) (below_size (by repeat (first | (with_reducible first | exact HB.out | apply below_alloc | apply pw_below_drewN | apply below_drew1) | exact HB.out)))); have n3_ := Aside0.mk (Kd.C_below (by repeat (first | (with_reducible exact HR446.out) | (with_reducible refine Kd.C_alloc ?_ _) | (with_reducible refine Kd.C_drewN ?_ _) | (with_reducible refine Kd.C_drew ?_) | exact HR446.out)) hb); have n4_ := Aside0.mk (below_step (by repeat (first | (with_reducible first | exact HB.out | apply below_alloc | apply pw_below_drewN | apply below_drew1) | exact HB.out)) hb); clear HO_5; clear HO_18; clear HR446; clear HB; have HO_5 := n0_; have HO_18 := n1_; have HO449 := n2_; have HR446 := n3_; have HB := n4_; clear n0_ n1_ n2_ n3_ n4_; (try clear hb); (try clear hb2); (try clear hk); (try clear hi); (try clear ho0)))
                go_ret
                exact ⟨_, by first | rfl | (simp [errW_none, errW_some] <;> rfl) | (simp only [← hji3, ← hji15]; first | rfl | (simp [errW_none, errW_some] <;> rfl)) | (simp [*, errW_none, errW_some] <;> rfl), by (with_reducible repeat (first | apply Kd.R_alloc | apply Kd.R_drewN | apply Kd.R_drew)); exact Kd.R_mono HO449.out (fun _ hk => trivial), by repeat (first | (with_reducible first | exact HB.out | apply below_alloc | apply pw_below_drewN | apply below_drew1) | exact HB.out)⟩
              · rw [if_neg c17] at H
                exact absurd H (by simp)
            · rw [if_neg c16] at H
              exact absurd H (by simp)
    · rw [if_neg c5] at H
      exact absurd H (by simp)
  · rw [if_neg c4] at H
    exact absurd H (by simp)

end Go.Proofs.Ytadepmjfhcmkoaa.P
