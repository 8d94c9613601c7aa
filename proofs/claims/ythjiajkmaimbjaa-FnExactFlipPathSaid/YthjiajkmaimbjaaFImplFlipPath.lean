-- By gp.py (this session's own driver over the kit's print). Not trusted: Lean checks it.
import Derived.Test.YthjiajkmaimbjaaF0
import Derived.Test.YthjiajkmaimbjaaB
import Derived.Deep.RegionHeld3
import Derived.Laws.EntriesVeiled
import Derived.RangeFuncBox
import Derived.Test.YthjiajkmaimbjaaCells
import Derived.Test.YthjiajkmaimbjaaFlipSt
import Derived.Test.YthjiajkmaimbjaaFImplCmp
import Derived.Test.YthjiajkmaimbjaaFImplCorn
import Derived.Test.YthjiajkmaimbjaaFImplGood
import Derived.Test.YthjiajkmaimbjaaFImplWay
namespace Go.Proofs.Ythjiajkmaimbjaa.P
open Go.Proofs.Ythjiajkmaimbjaa.B
open Go.RowKit Go.Proofs.YthjiajkmaimbjaaW.PrintWords Go.Proofs.YthjiajkmaimbjaaW.PrintLast Go.Proofs.YthjiajkmaimbjaaW.PrintMore
attribute [local go_sem] max2_int min2_int max_two min_two max_three min_three max_four min_four   -- for this text's walks alone
set_option linter.unusedVariables false
set_option linter.unusedSimpArgs false
/-! ### impl_FlipPath: function 43 (given) -/
def fpUp (h g : List (List Int)) (i j : Int) : Bool := decide (rd (rd_L1 h i) j < rd (rd_L1 g i) j) && decide (0 < (impl_way.f h i j).getD 0)
def fpDn (h g : List (List Int)) (i j : Int) : Bool := decide (rd (rd_L1 g i) j < rd (rd_L1 h i) j) && decide ((impl_way.f h i j).getD 0 < 0)
def FpAt (h g : List (List Int)) (i j : Nat) : Prop := 1 ≤ i → 1 ≤ j → i < h.length ∧ j < (rd_L1 h (i : Int)).length ∧ i < g.length ∧ j < (rd_L1 g (i : Int)).length ∧ (impl_way.f h (i : Int) (j : Int)).isSome = true
instance (h g : List (List Int)) (i j : Nat) : Decidable (FpAt h g i j) := by unfold FpAt; infer_instance
def FpOk (n : Nat) (h g : List (List Int)) : Prop := n ≤ 1048576 ∧ ∀ i, i < n → ∀ j, j < n → FpAt h g i j
instance (n : Nat) (h g : List (List Int)) : Decidable (FpOk n h g) := by unfold FpOk; infer_instance
def fpList (k n : Nat) (h g : List (List Int)) : Option (List (List Int)) := (impl_cells.f k (n : Int) (fpUp h g)).bind fun l => if l.length = 0 then impl_cells.f k (n : Int) (fpDn h g) else some l
def fpCell (h l : List (List Int)) : Prop := 0 < l.length ∧ 1 < (rd_L1 l 0).length ∧ 0 ≤ rd (rd_L1 l 0) 0 ∧ rd (rd_L1 l 0) 0 < (h.length : Int) ∧ 0 ≤ rd (rd_L1 l 0) 1 ∧ rd (rd_L1 l 0) 1 < ((rd_L1 h (rd (rd_L1 l 0) 0)).length : Int)
instance (h l : List (List Int)) : Decidable (fpCell h l) := by unfold fpCell; infer_instance
def fpStep (h : List (List Int)) (i j v : Int) : List (List Int) := h.set i.toNat ((rd_L1 h i).set j.toNat (wrap64 (rd (rd_L1 h i) j + v)))
def impl_FlipPath.l0 : Nat → Nat → List (List Int) → List (List Int) → List (List Int) → Option (List (List Int))
 | 0, _, _, _, _ => none
 | k + 1, n, g, h, out => (impl_compareTables.f k h g).bind fun t => if t = 0 then some out else (if FpOk n h g then (fpList k n h g).bind fun l => if fpCell h l ∧ out.length < 5864062014805 then (impl_way.f h (rd (rd_L1 l 0) 0) (rd (rd_L1 l 0) 1)).bind fun v => impl_FlipPath.l0 k n g (fpStep h (rd (rd_L1 l 0) 0) (rd (rd_L1 l 0) 1) v) (out ++ [[rd (rd_L1 l 0) 0, rd (rd_L1 l 0) 1]]) else none else none)
def impl_FlipPath.f (k : Nat) (l0 l1 : List (List Int)) : Option (List (List Int) × Bool) := (impl_arePair.f k l0 l1).bind fun t => if t = true then (impl_heights.f k l0).bind fun h => (impl_heights.f k l1).bind fun g => (impl_FlipPath.l0 k l0.length g h ([] : List (List Int))).bind fun o => some (o, true) else some (([] : List (List Int)), false)
structure FpSt (w W : World) (s0 s1 s2 b6 b7 : Nat) (vh vg v8 : Value) (h g out : List (List Int)) : Prop where
 h : Seg W s0 s1 vh h
 g : Seg W s1 s2 vg g
 out : Kd.S (Kd.slice 3 (Kd.int .i64)) 22 W s2 (fun k => k ≠ b6 ∧ k ≠ b7) v8 out
 x6 : Boxed W b6 23 vh
 x7 : Boxed W b7 23 vg
 below : Below w.heap.size w W
 lo : w.heap.size ≤ s0 ∧ s0 ≤ s1 ∧ s1 ≤ s2 ∧ s2 ≤ b6 ∧ s2 ≤ b7
theorem FpSt.move {w W W' : World} {s0 s1 s2 b6 b7 : Nat} {vh vg v8 : Value} {h g out : List (List Int)} (H : FpSt w W s0 s1 s2 b6 b7 vh vg v8 h g out) (hb : Below W.heap.size W W') : FpSt w W' s0 s1 s2 b6 b7 vh vg v8 h g out where
 h := H.h.below hb
 g := H.g.below hb
 out := Kd.S_below H.out hb
 x6 := (hb.block b6 H.x6.lt).trans H.x6
 x7 := (hb.block b7 H.x7.lt).trans H.x7
 below := below_step H.below hb
 lo := H.lo
theorem FpSt.put {w W W' : World} {s0 s1 s2 b6 b7 g0 : Nat} {vh vg v8 : Value} {h h2 g out : List (List Int)} (H : FpSt w W s0 s1 s2 b6 b7 vh vg v8 h g out) (hg0 : s0 ≤ g0) (hg1 : g0 < s1) (hp : Seg W' s0 s1 vh h2) (hgr : W.grownBy W' (some g0)) (hbl : Below w.heap.size w W') : FpSt w W' s0 s1 s2 b6 b7 vh vg v8 h2 g out where
 h := hp
 g := H.g.move (lo' := s0) (hi' := s1) ⟨hgr.os, hgr.tape, hgr.output, hgr.size, fun k_ hk hn => hgr.block k_ hk (fun he => hn (by injection he with he; subst he; exact ⟨hg0, hg1⟩))⟩ (.inr (Nat.le_refl _))
 out := Kd.S_mono (Kd.S_step (Kd.S_bound H.out) (fun k_ hk hlt => hgr.block k_ hlt (fun he => by injection he with he; have h1 := hk.2.1; have := H.lo; omega))) (fun _ hk => hk.1)
 x6 := H.x6.kept hgr (fun e => by injection e with e; have := H.lo; omega)
 x7 := H.x7.kept hgr (fun e => by injection e with e; have := H.lo; omega)
 below := hbl
 lo := H.lo
theorem FpSt.push {w W w1 : World} {s0 s1 s2 b6 b7 : Nat} {vh vg v8 v1 : Value} {h g out out2 : List (List Int)} (H : FpSt w W s0 s1 s2 b6 b7 vh vg v8 h g out) (ho : Kd.S (Kd.slice 3 (Kd.int .i64)) 22 w1 s2 (fun k => k ≠ b6 ∧ k ≠ b7) v1 out2) (hb : Below s2 W w1) (hg : W.grownBy w1 v8.ownBlock) : FpSt w w1 s0 s1 s2 b6 b7 vh vg v1 h g out2 where
 h := Kd.S_step H.h (fun k_ hk _ => hb.block k_ (by have := H.lo; omega))
 g := Kd.S_step H.g (fun k_ hk _ => hb.block k_ hk)
 out := ho
 x6 := H.x6.kept hg (fun e => ((Kd.S_R H.out).1 b6 e.symm).1 rfl)
 x7 := H.x7.kept hg (fun e => ((Kd.S_R H.out).1 b7 e.symm).2 rfl)
 below := H.below.trans ⟨hb.os, hb.tape, hb.output, hb.size, fun k_ hk => hb.block k_ (by have := H.lo; omega)⟩
 lo := H.lo
set_option maxHeartbeats 8000000 in
set_option maxRecDepth 100000 in
theorem impl_FlipPath.clo1 (h g : List (List Int)) (Ah Ag : Option Addr) (ch cg : Nat) (g1 g2 : Addr) (w : World) (hr : Kd.C (Kd.slice 3 (Kd.int .i64)) w Ah h.length h) (hc : h.length ≤ ch) (hrg : Kd.C (Kd.slice 3 (Kd.int .i64)) w Ag g.length g) (hcg : g.length ≤ cg) (h1 : w.cell? g1 = some (.slice Ah h.length ch)) (h2 : w.cell? g2 = some (.slice Ag g.length cg)) (i j : Nat) (v : Int) (hi : i < h.length) (hj : j < (rd_L1 h (i : Int)).length) (hi2 : i < g.length) (hj2 : j < (rd_L1 g (i : Int)).length) (hv : impl_way.f h (i : Int) (j : Int) = some v) :
  Calls Try.prog 94 #[.int .i64 (i : Int), .int .i64 (j : Int), .pointer (some g1), .pointer (some g2)] w fun e w' => e = .returned (.bool (fpUp h g (i : Int) (j : Int))) ∧ Below w.heap.size w w' := by
 obtain ⟨ah, A0, rch, rfl, hrow1, hl0, hC0⟩ := at_row hr i hi; obtain ⟨rh, rfl, hnum1⟩ := at_num hC0 j (by simpa [rd_L1] using hj); obtain ⟨ag, A1, rcg, rfl, hrow2, hl1, hC1⟩ := at_row hrg i hi2; obtain ⟨rg, rfl, hnum2⟩ := at_num hC1 j (by simpa [rd_L1] using hj2)
 have e1 : h.getD i [] = rd_L1 h (i : Int) := by simp [rd_L1]
 have e2 : g.getD i [] = rd_L1 g (i : Int) := by simp [rd_L1]
 rw [e1] at hrow1 hnum1; rw [e2] at hrow2 hnum2
 obtain ⟨x, hx⟩ : ∃ x, x = rd (rd_L1 h (i : Int)) (j : Int) := ⟨_, rfl⟩
 obtain ⟨y, hy⟩ : ∃ y, y = rd (rd_L1 g (i : Int)) (j : Int) := ⟨_, rfl⟩
 have hP : fpUp h g (i : Int) (j : Int) = (decide (x < y) && decide (0 < v)) := by
  unfold fpUp; rw [hv, hx, hy]; rfl
 rw [hP]
 have ex : (rd_L1 h (i : Int)).getD j 0 = x := by rw [hx]; unfold rd; rw [Int.toNat_natCast]
 have ey : (rd_L1 g (i : Int)).getD j 0 = y := by rw [hy]; unfold rd; rw [Int.toNat_natCast]
 rw [ex] at hnum1; rw [ey] at hnum2
 obtain ⟨nh, hnh⟩ : ∃ n, n = (rd_L1 h (i : Int)).length := ⟨_, rfl⟩
 obtain ⟨ng, hng⟩ : ∃ n, n = (rd_L1 g (i : Int)).length := ⟨_, rfl⟩
 rw [← hnh] at hrow1 hj; rw [← hng] at hrow2 hj2; have bi : decide (i < h.length) = true := decide_eq_true hi; have bj : decide (j < nh) = true := decide_eq_true hj; have bi2 : decide (i < g.length) = true := decide_eq_true hi2; have bj2 : decide (j < ng) = true := decide_eq_true hj2; have HR := Aside0.mk hr; have HC := Aside0.mk hc; have HV := Aside0.mk hv; clear hP hr hc hv hrg hcg hl0 hl1 hC0 hC1 e1 e2 ex ey hx hy hnh hng
 by_cases c1 : x < y
 ·have d0 : decide (x < y) = true := decide_eq_true c1
  rw [d0, Bool.true_and]; clear c1; go_enter Try.func94, Try.ntmps94; go_wp2; refine start_ (n := 23) (S := fun w' => Below w.heap.size w w' ∧ w'.cell? g1 = some (.slice (some ah) h.length ch) ∧ w'.cell? g2 = some (.slice (some ag) g.length cg) ∧ w'.cell? (ah.add i) = some (.slice (some rh) nh rch) ∧ w'.cell? (rh.add j) = some (.int .i64 x) ∧ w'.cell? (ag.add i) = some (.slice (some rg) ng rcg) ∧ w'.cell? (rg.add j) = some (.int .i64 y)) (ds := []) #[fF, fF, fF, fF, fF, fF, fF, fF, fF, fF, fF, fF, fF, fF, fF, fF, fF, fF, fF, fF, fF, fF, fF] (by kernel_rfl) rfl rfl ⟨(below_drew (Below.refl _ _)), h1, h2, hrow1, hnum1, hrow2, hnum2⟩ (fun hHeld => ?_); refine pure_ (i := 1) (N := some 8) (v := ?_) (a' := ?_) #[fF, tT, fF, fF, fF, fF, fF, fF, fF, fF, fF, fF, fF, fF, fF, fF, fF, fF, fF, fF, fF, fF, fF] rfl rfl (by kernel_rfl) (fun _ _ _ h => h) (Or.inl ⟨by rfl, ?_⟩) ?_ ?_; rotate_left
  ·intro w'; go_simp; with_reducible rfl
  rotate_left
  ·simp only [Act.put, List.setIfInBounds_toArray, List.set_cons_zero, List.set_cons_succ, i64_w, i32_w]; rfl
  refine pure_ (i := 4) (N := some 11) (v := ?_) (a' := ?_) #[fF, tT, fF, fF, tT, fF, fF, fF, fF, fF, fF, fF, fF, fF, fF, fF, fF, fF, fF, fF, fF, fF, fF] rfl rfl (by kernel_rfl) (fun _ _ _ h => h) (Or.inl ⟨by rfl, ?_⟩) ?_ ?_; rotate_left
  ·intro w'; go_simp; with_reducible rfl
  rotate_left
  ·simp only [Act.put, List.setIfInBounds_toArray, List.set_cons_zero, List.set_cons_succ, i64_w, i32_w]; rfl
  refine pure_ (i := 8) (N := some 15) (v := ?_) (a' := ?_) #[fF, tT, fF, fF, tT, fF, fF, fF, tT, fF, fF, fF, fF, fF, fF, fF, fF, fF, fF, fF, fF, fF, fF] rfl rfl (by kernel_rfl) (fun _ _ _ h => h) (Or.inl ⟨by rfl, ?_⟩) ?_ ?_; rotate_left
  ·intro w'; go_simp; with_reducible rfl
  rotate_left
  ·simp only [Act.put, List.setIfInBounds_toArray, List.set_cons_zero, List.set_cons_succ, i64_w, i32_w]; rfl
  refine pure_ (i := 11) (N := some 18) (v := ?_) (a' := ?_) #[fF, tT, fF, fF, tT, fF, fF, fF, tT, fF, fF, tT, fF, fF, fF, fF, fF, fF, fF, fF, fF, fF, fF] rfl rfl (by kernel_rfl) (fun _ _ _ h => h) (Or.inl ⟨by rfl, ?_⟩) ?_ ?_; rotate_left
  ·intro w'; go_simp; with_reducible rfl
  rotate_left
  ·simp only [Act.put, List.setIfInBounds_toArray, List.set_cons_zero, List.set_cons_succ, i64_w, i32_w]; rfl
  refine take_ (i := 0) (N := some 7) (v := ?_) (a' := ?_) #[tT, tT, fF, fF, tT, fF, fF, fF, tT, fF, fF, tT, fF, fF, fF, fF, fF, fF, fF, fF, fF, fF, fF] rfl rfl (by kernel_rfl) (fun _ _ _ h => h) (Or.inl ⟨by rfl, ?_⟩) hHeld ?_ ?_; rotate_left
  ·rintro w' ⟨s0, s1, s2, s3, s4, s5, s6⟩; go_simp; with_reducible rfl
  rotate_left
  ·simp only [Act.put, List.setIfInBounds_toArray, List.set_cons_zero, List.set_cons_succ, i64_w, i32_w]; rfl
  refine pure_ (i := 2) (N := some 9) (v := ?_) (a' := ?_) #[tT, tT, tT, fF, tT, fF, fF, fF, tT, fF, fF, tT, fF, fF, fF, fF, fF, fF, fF, fF, fF, fF, fF] rfl rfl (by kernel_rfl) (fun _ _ _ h => h) (Or.inl ⟨by rfl, ?_⟩) ?_ ?_; rotate_left
  ·intro w'; go_simp; with_reducible rfl
  rotate_left
  ·simp only [Act.put, List.setIfInBounds_toArray, List.set_cons_zero, List.set_cons_succ, i64_w, i32_w]; rfl
  refine take_ (i := 3) (N := some 10) (v := ?_) (a' := ?_) #[tT, tT, tT, tT, tT, fF, fF, fF, tT, fF, fF, tT, fF, fF, fF, fF, fF, fF, fF, fF, fF, fF, fF] rfl rfl (by kernel_rfl) (fun _ _ _ h => h) (Or.inl ⟨by rfl, ?_⟩) hHeld ?_ ?_; rotate_left
  ·rintro w' ⟨s0, s1, s2, s3, s4, s5, s6⟩; go_simp; with_reducible rfl
  rotate_left
  ·simp only [Act.put, List.setIfInBounds_toArray, List.set_cons_zero, List.set_cons_succ, i64_w, i32_w]; rfl
  refine pure_ (i := 5) (N := some 12) (v := ?_) (a' := ?_) #[tT, tT, tT, tT, tT, tT, fF, fF, tT, fF, fF, tT, fF, fF, fF, fF, fF, fF, fF, fF, fF, fF, fF] rfl rfl (by kernel_rfl) (fun _ _ _ h => h) (Or.inl ⟨by rfl, ?_⟩) ?_ ?_; rotate_left
  ·intro w'; go_simp; with_reducible rfl
  rotate_left
  ·simp only [Act.put, List.setIfInBounds_toArray, List.set_cons_zero, List.set_cons_succ, i64_w, i32_w]; rfl
  refine take_ (i := 6) (N := some 13) (v := ?_) (a' := ?_) #[tT, tT, tT, tT, tT, tT, tT, fF, tT, fF, fF, tT, fF, fF, fF, fF, fF, fF, fF, fF, fF, fF, fF] rfl rfl (by kernel_rfl) (fun _ _ _ h => h) (Or.inl ⟨by rfl, ?_⟩) hHeld ?_ ?_; rotate_left
  ·rintro w' ⟨s0, s1, s2, s3, s4, s5, s6⟩; go_simp; with_reducible rfl
  rotate_left
  ·simp only [Act.put, List.setIfInBounds_toArray, List.set_cons_zero, List.set_cons_succ, i64_w, i32_w]; rfl
  refine take_ (i := 7) (N := some 14) (v := ?_) (a' := ?_) #[tT, tT, tT, tT, tT, tT, tT, tT, tT, fF, fF, tT, fF, fF, fF, fF, fF, fF, fF, fF, fF, fF, fF] rfl rfl (by kernel_rfl) (fun _ _ _ h => h) (Or.inl ⟨by rfl, ?_⟩) hHeld ?_ ?_; rotate_left
  ·rintro w' ⟨s0, s1, s2, s3, s4, s5, s6⟩; go_simp; with_reducible rfl
  rotate_left
  ·simp only [Act.put, List.setIfInBounds_toArray, List.set_cons_zero, List.set_cons_succ, i64_w, i32_w]; rfl
  refine pure_ (i := 9) (N := some 16) (v := ?_) (a' := ?_) #[tT, tT, tT, tT, tT, tT, tT, tT, tT, tT, fF, tT, fF, fF, fF, fF, fF, fF, fF, fF, fF, fF, fF] rfl rfl (by kernel_rfl) (fun _ _ _ h => h) (Or.inl ⟨by rfl, ?_⟩) ?_ ?_; rotate_left
  ·intro w'; go_simp; with_reducible rfl
  rotate_left
  ·simp only [Act.put, List.setIfInBounds_toArray, List.set_cons_zero, List.set_cons_succ, i64_w, i32_w]; rfl
  refine take_ (i := 10) (N := some 17) (v := ?_) (a' := ?_) #[tT, tT, tT, tT, tT, tT, tT, tT, tT, tT, tT, tT, fF, fF, fF, fF, fF, fF, fF, fF, fF, fF, fF] rfl rfl (by kernel_rfl) (fun _ _ _ h => h) (Or.inl ⟨by rfl, ?_⟩) hHeld ?_ ?_; rotate_left
  ·rintro w' ⟨s0, s1, s2, s3, s4, s5, s6⟩; go_simp; with_reducible rfl
  rotate_left
  ·simp only [Act.put, List.setIfInBounds_toArray, List.set_cons_zero, List.set_cons_succ, i64_w, i32_w]; rfl
  refine pure_ (i := 12) (N := some 19) (v := ?_) (a' := ?_) #[tT, tT, tT, tT, tT, tT, tT, tT, tT, tT, tT, tT, tT, fF, fF, fF, fF, fF, fF, fF, fF, fF, fF] rfl rfl (by kernel_rfl) (fun _ _ _ h => h) (Or.inl ⟨by rfl, ?_⟩) ?_ ?_; rotate_left
  ·intro w'; go_simp; with_reducible rfl
  rotate_left
  ·simp only [Act.put, List.setIfInBounds_toArray, List.set_cons_zero, List.set_cons_succ, i64_w, i32_w]; rfl
  refine take_ (i := 13) (N := some 20) (v := ?_) (a' := ?_) #[tT, tT, tT, tT, tT, tT, tT, tT, tT, tT, tT, tT, tT, tT, fF, fF, fF, fF, fF, fF, fF, fF, fF] rfl rfl (by kernel_rfl) (fun _ _ _ h => h) (Or.inl ⟨by rfl, ?_⟩) hHeld ?_ ?_; rotate_left
  ·rintro w' ⟨s0, s1, s2, s3, s4, s5, s6⟩; go_simp; with_reducible rfl
  rotate_left
  ·simp only [Act.put, List.setIfInBounds_toArray, List.set_cons_zero, List.set_cons_succ, i64_w, i32_w]; rfl
  refine pure_ (i := 14) (N := some 21) (v := ?_) (a' := ?_) #[tT, tT, tT, tT, tT, tT, tT, tT, tT, tT, tT, tT, tT, tT, tT, fF, fF, fF, fF, fF, fF, fF, fF] rfl rfl (by kernel_rfl) (fun _ _ _ h => h) (Or.inl ⟨by rfl, ?_⟩) ?_ ?_; rotate_left
  ·intro w'; go_simp; with_reducible rfl
  rotate_left
  ·simp only [Act.put, List.setIfInBounds_toArray, List.set_cons_zero, List.set_cons_succ, i64_w, i32_w]; rfl
  refine pure_ (i := 15) (N := some 22) (v := ?_) (a' := ?_) #[tT, tT, tT, tT, tT, tT, tT, tT, tT, tT, tT, tT, tT, tT, tT, tT, fF, fF, fF, fF, fF, fF, fF] rfl rfl (by kernel_rfl) (fun _ _ _ h => h) (Or.inl ⟨by rfl, ?_⟩) ?_ ?_; rotate_left
  ·intro w'; go_simp; with_reducible rfl
  rotate_left
  ·simp only [Act.put, List.setIfInBounds_toArray, List.set_cons_zero, List.set_cons_succ, i64_w, i32_w]; rfl
  refine pure_ (i := 17) (N := some 24) (v := ?_) (a' := ?_) #[tT, tT, tT, tT, tT, tT, tT, tT, tT, tT, tT, tT, tT, tT, tT, tT, fF, tT, fF, fF, fF, fF, fF] rfl rfl (by kernel_rfl) (fun _ _ _ h => h) (Or.inl ⟨by rfl, ?_⟩) ?_ ?_; rotate_left
  ·intro w'; go_simp; with_reducible rfl
  rotate_left
  ·simp only [Act.put, List.setIfInBounds_toArray, List.set_cons_zero, List.set_cons_succ, i64_w, i32_w]; rfl
  refine pure_ (i := 18) (N := some 25) (v := ?_) (a' := ?_) #[tT, tT, tT, tT, tT, tT, tT, tT, tT, tT, tT, tT, tT, tT, tT, tT, fF, tT, tT, fF, fF, fF, fF] rfl rfl (by kernel_rfl) (fun _ _ _ h => h) (Or.inl ⟨by rfl, ?_⟩) ?_ ?_; rotate_left
  ·intro w'; go_simp; with_reducible rfl
  rotate_left
  ·simp only [Act.put, List.setIfInBounds_toArray, List.set_cons_zero, List.set_cons_succ, i64_w, i32_w]; rfl
  refine take_ (i := 16) (N := some 23) (v := ?_) (a' := ?_) #[tT, tT, tT, tT, tT, tT, tT, tT, tT, tT, tT, tT, tT, tT, tT, tT, tT, tT, tT, fF, fF, fF, fF] rfl rfl (by kernel_rfl) (fun _ _ _ h => h) (Or.inl ⟨by rfl, ?_⟩) hHeld ?_ ?_; rotate_left
  ·rintro w' ⟨s0, s1, s2, s3, s4, s5, s6⟩; go_simp; with_reducible rfl
  rotate_left
  ·simp only [Act.put, List.setIfInBounds_toArray, List.set_cons_zero, List.set_cons_succ, i64_w, i32_w]; rfl
  refine one_ (i := 19) (N := some 26) #[tT, tT, tT, tT, tT, tT, tT, tT, tT, tT, tT, tT, tT, tT, tT, tT, tT, tT, tT, tT, fF, fF, fF] rfl rfl (by kernel_rfl) (by decide) (fun K hK => ?_); refine goes_ Try.func95 (by kernel_rfl) rfl #[.slice (some ah) h.length ch, .int .i64 (i : Int), .int .i64 (j : Int)] (by rfl) rfl rfl (by simp only [List.map_toArray, List.map_cons, List.map_nil]; rfl) ?_
  with_reducible refine (impl_way.calls _ _ h (i : Int) (j : Int) v _ (Kd.C_below HR.out hHeld.1) HC.out HV.out).mono ?_
  rintro e w3 ⟨rfl, hb⟩; refine ⟨_, rfl, ?_⟩; have HB3 := Aside0.mk (below_step hHeld.1 hb); refine hK.out _ _ ⟨below_step hHeld.1 hb, pw_cell_below hb hHeld.2.1, pw_cell_below hb hHeld.2.2.1, pw_cell_below hb hHeld.2.2.2.1, pw_cell_below hb hHeld.2.2.2.2.1, pw_cell_below hb hHeld.2.2.2.2.2.1, pw_cell_below hb hHeld.2.2.2.2.2.2⟩ (fun hHeld => ?_); clear hK K; refine norm_ (a' := ?_) ?_ ?_; rotate_left
  ·show Act.put _ (some 26) _ = _; simp only [Act.put, List.setIfInBounds_toArray, List.set_cons_zero, List.set_cons_succ, i64_w, i32_w]; rfl
  refine pure_ (i := 20) (N := some 27) (v := ?_) (a' := ?_) #[tT, tT, tT, tT, tT, tT, tT, tT, tT, tT, tT, tT, tT, tT, tT, tT, tT, tT, tT, tT, tT, fF, fF] rfl rfl (by kernel_rfl) (fun _ _ _ h => h) (Or.inl ⟨by rfl, ?_⟩) ?_ ?_; rotate_left
  ·intro w'; go_simp; with_reducible rfl
  rotate_left
  ·simp only [Act.put, List.setIfInBounds_toArray, List.set_cons_zero, List.set_cons_succ, i64_w, i32_w]; rfl
  refine pure_ (i := 21) (N := some 28) (v := ?_) (a' := ?_) #[tT, tT, tT, tT, tT, tT, tT, tT, tT, tT, tT, tT, tT, tT, tT, tT, tT, tT, tT, tT, tT, tT, fF] rfl rfl (by kernel_rfl) (fun _ _ _ h => h) (Or.inl ⟨by rfl, ?_⟩) ?_ ?_; rotate_left
  ·intro w'; go_simp; with_reducible rfl
  rotate_left
  ·simp only [Act.put, List.setIfInBounds_toArray, List.set_cons_zero, List.set_cons_succ, i64_w, i32_w]; rfl
  refine pure_ (i := 22) (N := some 6) (v := ?_) (a' := ?_) #[tT, tT, tT, tT, tT, tT, tT, tT, tT, tT, tT, tT, tT, tT, tT, tT, tT, tT, tT, tT, tT, tT, tT] rfl rfl (by kernel_rfl) (fun _ _ _ h => h) (Or.inl ⟨by rfl, ?_⟩) ?_ ?_; rotate_left
  ·intro w'; go_simp; with_reducible rfl
  rotate_left
  ·simp only [Act.put, List.setIfInBounds_toArray, List.set_cons_zero, List.set_cons_succ, i64_w, i32_w]; rfl
  refine done_ (by kernel_rfl) ?_; go_wp2; go_ret; exact ⟨by first | rfl | (simp; done), HB3.out⟩
 ·have d0 : decide (x < y) = false := decide_eq_false c1
  rw [d0, Bool.false_and]; clear c1; go_enter Try.func94, Try.ntmps94; go_wp2; refine start_ (n := 23) (S := fun w' => Below w.heap.size w w' ∧ w'.cell? g1 = some (.slice (some ah) h.length ch) ∧ w'.cell? g2 = some (.slice (some ag) g.length cg) ∧ w'.cell? (ah.add i) = some (.slice (some rh) nh rch) ∧ w'.cell? (rh.add j) = some (.int .i64 x) ∧ w'.cell? (ag.add i) = some (.slice (some rg) ng rcg) ∧ w'.cell? (rg.add j) = some (.int .i64 y)) (ds := []) #[fF, fF, fF, fF, fF, fF, fF, fF, fF, fF, fF, fF, fF, fF, fF, fF, fF, fF, fF, fF, fF, fF, fF] (by kernel_rfl) rfl rfl ⟨(below_drew (Below.refl _ _)), h1, h2, hrow1, hnum1, hrow2, hnum2⟩ (fun hHeld => ?_); refine pure_ (i := 1) (N := some 8) (v := ?_) (a' := ?_) #[fF, tT, fF, fF, fF, fF, fF, fF, fF, fF, fF, fF, fF, fF, fF, fF, fF, fF, fF, fF, fF, fF, fF] rfl rfl (by kernel_rfl) (fun _ _ _ h => h) (Or.inl ⟨by rfl, ?_⟩) ?_ ?_; rotate_left
  ·intro w'; go_simp; with_reducible rfl
  rotate_left
  ·simp only [Act.put, List.setIfInBounds_toArray, List.set_cons_zero, List.set_cons_succ, i64_w, i32_w]; rfl
  refine pure_ (i := 4) (N := some 11) (v := ?_) (a' := ?_) #[fF, tT, fF, fF, tT, fF, fF, fF, fF, fF, fF, fF, fF, fF, fF, fF, fF, fF, fF, fF, fF, fF, fF] rfl rfl (by kernel_rfl) (fun _ _ _ h => h) (Or.inl ⟨by rfl, ?_⟩) ?_ ?_; rotate_left
  ·intro w'; go_simp; with_reducible rfl
  rotate_left
  ·simp only [Act.put, List.setIfInBounds_toArray, List.set_cons_zero, List.set_cons_succ, i64_w, i32_w]; rfl
  refine pure_ (i := 8) (N := some 15) (v := ?_) (a' := ?_) #[fF, tT, fF, fF, tT, fF, fF, fF, tT, fF, fF, fF, fF, fF, fF, fF, fF, fF, fF, fF, fF, fF, fF] rfl rfl (by kernel_rfl) (fun _ _ _ h => h) (Or.inl ⟨by rfl, ?_⟩) ?_ ?_; rotate_left
  ·intro w'; go_simp; with_reducible rfl
  rotate_left
  ·simp only [Act.put, List.setIfInBounds_toArray, List.set_cons_zero, List.set_cons_succ, i64_w, i32_w]; rfl
  refine pure_ (i := 11) (N := some 18) (v := ?_) (a' := ?_) #[fF, tT, fF, fF, tT, fF, fF, fF, tT, fF, fF, tT, fF, fF, fF, fF, fF, fF, fF, fF, fF, fF, fF] rfl rfl (by kernel_rfl) (fun _ _ _ h => h) (Or.inl ⟨by rfl, ?_⟩) ?_ ?_; rotate_left
  ·intro w'; go_simp; with_reducible rfl
  rotate_left
  ·simp only [Act.put, List.setIfInBounds_toArray, List.set_cons_zero, List.set_cons_succ, i64_w, i32_w]; rfl
  refine take_ (i := 0) (N := some 7) (v := ?_) (a' := ?_) #[tT, tT, fF, fF, tT, fF, fF, fF, tT, fF, fF, tT, fF, fF, fF, fF, fF, fF, fF, fF, fF, fF, fF] rfl rfl (by kernel_rfl) (fun _ _ _ h => h) (Or.inl ⟨by rfl, ?_⟩) hHeld ?_ ?_; rotate_left
  ·rintro w' ⟨s0, s1, s2, s3, s4, s5, s6⟩; go_simp; with_reducible rfl
  rotate_left
  ·simp only [Act.put, List.setIfInBounds_toArray, List.set_cons_zero, List.set_cons_succ, i64_w, i32_w]; rfl
  refine pure_ (i := 2) (N := some 9) (v := ?_) (a' := ?_) #[tT, tT, tT, fF, tT, fF, fF, fF, tT, fF, fF, tT, fF, fF, fF, fF, fF, fF, fF, fF, fF, fF, fF] rfl rfl (by kernel_rfl) (fun _ _ _ h => h) (Or.inl ⟨by rfl, ?_⟩) ?_ ?_; rotate_left
  ·intro w'; go_simp; with_reducible rfl
  rotate_left
  ·simp only [Act.put, List.setIfInBounds_toArray, List.set_cons_zero, List.set_cons_succ, i64_w, i32_w]; rfl
  refine take_ (i := 3) (N := some 10) (v := ?_) (a' := ?_) #[tT, tT, tT, tT, tT, fF, fF, fF, tT, fF, fF, tT, fF, fF, fF, fF, fF, fF, fF, fF, fF, fF, fF] rfl rfl (by kernel_rfl) (fun _ _ _ h => h) (Or.inl ⟨by rfl, ?_⟩) hHeld ?_ ?_; rotate_left
  ·rintro w' ⟨s0, s1, s2, s3, s4, s5, s6⟩; go_simp; with_reducible rfl
  rotate_left
  ·simp only [Act.put, List.setIfInBounds_toArray, List.set_cons_zero, List.set_cons_succ, i64_w, i32_w]; rfl
  refine pure_ (i := 5) (N := some 12) (v := ?_) (a' := ?_) #[tT, tT, tT, tT, tT, tT, fF, fF, tT, fF, fF, tT, fF, fF, fF, fF, fF, fF, fF, fF, fF, fF, fF] rfl rfl (by kernel_rfl) (fun _ _ _ h => h) (Or.inl ⟨by rfl, ?_⟩) ?_ ?_; rotate_left
  ·intro w'; go_simp; with_reducible rfl
  rotate_left
  ·simp only [Act.put, List.setIfInBounds_toArray, List.set_cons_zero, List.set_cons_succ, i64_w, i32_w]; rfl
  refine take_ (i := 6) (N := some 13) (v := ?_) (a' := ?_) #[tT, tT, tT, tT, tT, tT, tT, fF, tT, fF, fF, tT, fF, fF, fF, fF, fF, fF, fF, fF, fF, fF, fF] rfl rfl (by kernel_rfl) (fun _ _ _ h => h) (Or.inl ⟨by rfl, ?_⟩) hHeld ?_ ?_; rotate_left
  ·rintro w' ⟨s0, s1, s2, s3, s4, s5, s6⟩; go_simp; with_reducible rfl
  rotate_left
  ·simp only [Act.put, List.setIfInBounds_toArray, List.set_cons_zero, List.set_cons_succ, i64_w, i32_w]; rfl
  refine take_ (i := 7) (N := some 14) (v := ?_) (a' := ?_) #[tT, tT, tT, tT, tT, tT, tT, tT, tT, fF, fF, tT, fF, fF, fF, fF, fF, fF, fF, fF, fF, fF, fF] rfl rfl (by kernel_rfl) (fun _ _ _ h => h) (Or.inl ⟨by rfl, ?_⟩) hHeld ?_ ?_; rotate_left
  ·rintro w' ⟨s0, s1, s2, s3, s4, s5, s6⟩; go_simp; with_reducible rfl
  rotate_left
  ·simp only [Act.put, List.setIfInBounds_toArray, List.set_cons_zero, List.set_cons_succ, i64_w, i32_w]; rfl
  refine pure_ (i := 9) (N := some 16) (v := ?_) (a' := ?_) #[tT, tT, tT, tT, tT, tT, tT, tT, tT, tT, fF, tT, fF, fF, fF, fF, fF, fF, fF, fF, fF, fF, fF] rfl rfl (by kernel_rfl) (fun _ _ _ h => h) (Or.inl ⟨by rfl, ?_⟩) ?_ ?_; rotate_left
  ·intro w'; go_simp; with_reducible rfl
  rotate_left
  ·simp only [Act.put, List.setIfInBounds_toArray, List.set_cons_zero, List.set_cons_succ, i64_w, i32_w]; rfl
  refine take_ (i := 10) (N := some 17) (v := ?_) (a' := ?_) #[tT, tT, tT, tT, tT, tT, tT, tT, tT, tT, tT, tT, fF, fF, fF, fF, fF, fF, fF, fF, fF, fF, fF] rfl rfl (by kernel_rfl) (fun _ _ _ h => h) (Or.inl ⟨by rfl, ?_⟩) hHeld ?_ ?_; rotate_left
  ·rintro w' ⟨s0, s1, s2, s3, s4, s5, s6⟩; go_simp; with_reducible rfl
  rotate_left
  ·simp only [Act.put, List.setIfInBounds_toArray, List.set_cons_zero, List.set_cons_succ, i64_w, i32_w]; rfl
  refine pure_ (i := 12) (N := some 19) (v := ?_) (a' := ?_) #[tT, tT, tT, tT, tT, tT, tT, tT, tT, tT, tT, tT, tT, fF, fF, fF, fF, fF, fF, fF, fF, fF, fF] rfl rfl (by kernel_rfl) (fun _ _ _ h => h) (Or.inl ⟨by rfl, ?_⟩) ?_ ?_; rotate_left
  ·intro w'; go_simp; with_reducible rfl
  rotate_left
  ·simp only [Act.put, List.setIfInBounds_toArray, List.set_cons_zero, List.set_cons_succ, i64_w, i32_w]; rfl
  refine take_ (i := 13) (N := some 20) (v := ?_) (a' := ?_) #[tT, tT, tT, tT, tT, tT, tT, tT, tT, tT, tT, tT, tT, tT, fF, fF, fF, fF, fF, fF, fF, fF, fF] rfl rfl (by kernel_rfl) (fun _ _ _ h => h) (Or.inl ⟨by rfl, ?_⟩) hHeld ?_ ?_; rotate_left
  ·rintro w' ⟨s0, s1, s2, s3, s4, s5, s6⟩; go_simp; with_reducible rfl
  rotate_left
  ·simp only [Act.put, List.setIfInBounds_toArray, List.set_cons_zero, List.set_cons_succ, i64_w, i32_w]; rfl
  refine pure_ (i := 14) (N := some 21) (v := ?_) (a' := ?_) #[tT, tT, tT, tT, tT, tT, tT, tT, tT, tT, tT, tT, tT, tT, tT, fF, fF, fF, fF, fF, fF, fF, fF] rfl rfl (by kernel_rfl) (fun _ _ _ h => h) (Or.inl ⟨by rfl, ?_⟩) ?_ ?_; rotate_left
  ·intro w'; go_simp; with_reducible rfl
  rotate_left
  ·simp only [Act.put, List.setIfInBounds_toArray, List.set_cons_zero, List.set_cons_succ, i64_w, i32_w]; rfl
  refine pure_ (i := 15) (N := some 22) (v := ?_) (a' := ?_) #[tT, tT, tT, tT, tT, tT, tT, tT, tT, tT, tT, tT, tT, tT, tT, tT, fF, fF, fF, fF, fF, fF, fF] rfl rfl (by kernel_rfl) (fun _ _ _ h => h) (Or.inl ⟨by rfl, ?_⟩) ?_ ?_; rotate_left
  ·intro w'; go_simp; with_reducible rfl
  rotate_left
  ·simp only [Act.put, List.setIfInBounds_toArray, List.set_cons_zero, List.set_cons_succ, i64_w, i32_w]; rfl
  refine pure_ (i := 16) (N := some 23) (v := undef) (a' := ?_) #[tT, tT, tT, tT, tT, tT, tT, tT, tT, tT, tT, tT, tT, tT, tT, tT, tT, fF, fF, fF, fF, fF, fF] rfl rfl (by kernel_rfl) (fun _ _ _ h => h) (Or.inr ⟨by rfl, rfl⟩) ?_ ?_; rotate_left
  ·simp only [Act.put, List.setIfInBounds_toArray, List.set_cons_zero, List.set_cons_succ, i64_w, i32_w]; rfl
  refine pure_ (i := 17) (N := some 24) (v := undef) (a' := ?_) #[tT, tT, tT, tT, tT, tT, tT, tT, tT, tT, tT, tT, tT, tT, tT, tT, tT, tT, fF, fF, fF, fF, fF] rfl rfl (by kernel_rfl) (fun _ _ _ h => h) (Or.inr ⟨by rfl, rfl⟩) ?_ ?_; rotate_left
  ·simp only [Act.put, List.setIfInBounds_toArray, List.set_cons_zero, List.set_cons_succ, i64_w, i32_w]; rfl
  refine pure_ (i := 18) (N := some 25) (v := undef) (a' := ?_) #[tT, tT, tT, tT, tT, tT, tT, tT, tT, tT, tT, tT, tT, tT, tT, tT, tT, tT, tT, fF, fF, fF, fF] rfl rfl (by kernel_rfl) (fun _ _ _ h => h) (Or.inr ⟨by rfl, rfl⟩) ?_ ?_; rotate_left
  ·simp only [Act.put, List.setIfInBounds_toArray, List.set_cons_zero, List.set_cons_succ, i64_w, i32_w]; rfl
  refine pure_ (i := 19) (N := some 26) (v := undef) (a' := ?_) #[tT, tT, tT, tT, tT, tT, tT, tT, tT, tT, tT, tT, tT, tT, tT, tT, tT, tT, tT, tT, fF, fF, fF] rfl rfl (by kernel_rfl) (fun _ _ _ h => h) (Or.inr ⟨by rfl, rfl⟩) ?_ ?_; rotate_left
  ·simp only [Act.put, List.setIfInBounds_toArray, List.set_cons_zero, List.set_cons_succ, i64_w, i32_w]; rfl
  refine pure_ (i := 20) (N := some 27) (v := undef) (a' := ?_) #[tT, tT, tT, tT, tT, tT, tT, tT, tT, tT, tT, tT, tT, tT, tT, tT, tT, tT, tT, tT, tT, fF, fF] rfl rfl (by kernel_rfl) (fun _ _ _ h => h) (Or.inr ⟨by rfl, rfl⟩) ?_ ?_; rotate_left
  ·simp only [Act.put, List.setIfInBounds_toArray, List.set_cons_zero, List.set_cons_succ, i64_w, i32_w]; rfl
  refine pure_ (i := 21) (N := some 28) (v := ?_) (a' := ?_) #[tT, tT, tT, tT, tT, tT, tT, tT, tT, tT, tT, tT, tT, tT, tT, tT, tT, tT, tT, tT, tT, tT, fF] rfl rfl (by kernel_rfl) (fun _ _ _ h => h) (Or.inl ⟨by rfl, ?_⟩) ?_ ?_; rotate_left
  ·intro w'; go_simp; with_reducible rfl
  rotate_left
  ·simp only [Act.put, List.setIfInBounds_toArray, List.set_cons_zero, List.set_cons_succ, i64_w, i32_w]; rfl
  refine pure_ (i := 22) (N := some 6) (v := ?_) (a' := ?_) #[tT, tT, tT, tT, tT, tT, tT, tT, tT, tT, tT, tT, tT, tT, tT, tT, tT, tT, tT, tT, tT, tT, tT] rfl rfl (by kernel_rfl) (fun _ _ _ h => h) (Or.inl ⟨by rfl, ?_⟩) ?_ ?_; rotate_left
  ·intro w'; go_simp; with_reducible rfl
  rotate_left
  ·simp only [Act.put, List.setIfInBounds_toArray, List.set_cons_zero, List.set_cons_succ, i64_w, i32_w]; rfl
  refine done_ (by kernel_rfl) ?_; go_wp2; go_ret; exact ⟨by first | rfl | (simp; done), below_drew (Below.refl _ _)⟩
set_option maxHeartbeats 8000000 in
set_option maxRecDepth 100000 in
theorem impl_FlipPath.clo2 (h g : List (List Int)) (Ah Ag : Option Addr) (ch cg : Nat) (g1 g2 : Addr) (w : World) (hr : Kd.C (Kd.slice 3 (Kd.int .i64)) w Ah h.length h) (hc : h.length ≤ ch) (hrg : Kd.C (Kd.slice 3 (Kd.int .i64)) w Ag g.length g) (hcg : g.length ≤ cg) (h1 : w.cell? g1 = some (.slice Ah h.length ch)) (h2 : w.cell? g2 = some (.slice Ag g.length cg)) (i j : Nat) (v : Int) (hi : i < h.length) (hj : j < (rd_L1 h (i : Int)).length) (hi2 : i < g.length) (hj2 : j < (rd_L1 g (i : Int)).length) (hv : impl_way.f h (i : Int) (j : Int) = some v) :
  Calls Try.prog 96 #[.int .i64 (i : Int), .int .i64 (j : Int), .pointer (some g1), .pointer (some g2)] w fun e w' => e = .returned (.bool (fpDn h g (i : Int) (j : Int))) ∧ Below w.heap.size w w' := by
 obtain ⟨ah, A0, rch, rfl, hrow1, hl0, hC0⟩ := at_row hr i hi; obtain ⟨rh, rfl, hnum1⟩ := at_num hC0 j (by simpa [rd_L1] using hj); obtain ⟨ag, A1, rcg, rfl, hrow2, hl1, hC1⟩ := at_row hrg i hi2; obtain ⟨rg, rfl, hnum2⟩ := at_num hC1 j (by simpa [rd_L1] using hj2)
 have e1 : h.getD i [] = rd_L1 h (i : Int) := by simp [rd_L1]
 have e2 : g.getD i [] = rd_L1 g (i : Int) := by simp [rd_L1]
 rw [e1] at hrow1 hnum1; rw [e2] at hrow2 hnum2
 obtain ⟨x, hx⟩ : ∃ x, x = rd (rd_L1 h (i : Int)) (j : Int) := ⟨_, rfl⟩
 obtain ⟨y, hy⟩ : ∃ y, y = rd (rd_L1 g (i : Int)) (j : Int) := ⟨_, rfl⟩
 have hP : fpDn h g (i : Int) (j : Int) = (decide (y < x) && decide (v < 0)) := by
  unfold fpDn; rw [hv, hx, hy]; rfl
 rw [hP]
 have ex : (rd_L1 h (i : Int)).getD j 0 = x := by rw [hx]; unfold rd; rw [Int.toNat_natCast]
 have ey : (rd_L1 g (i : Int)).getD j 0 = y := by rw [hy]; unfold rd; rw [Int.toNat_natCast]
 rw [ex] at hnum1; rw [ey] at hnum2
 obtain ⟨nh, hnh⟩ : ∃ n, n = (rd_L1 h (i : Int)).length := ⟨_, rfl⟩
 obtain ⟨ng, hng⟩ : ∃ n, n = (rd_L1 g (i : Int)).length := ⟨_, rfl⟩
 rw [← hnh] at hrow1 hj; rw [← hng] at hrow2 hj2; have bi : decide (i < h.length) = true := decide_eq_true hi; have bj : decide (j < nh) = true := decide_eq_true hj; have bi2 : decide (i < g.length) = true := decide_eq_true hi2; have bj2 : decide (j < ng) = true := decide_eq_true hj2; have HR := Aside0.mk hr; have HC := Aside0.mk hc; have HV := Aside0.mk hv; clear hP hr hc hv hrg hcg hl0 hl1 hC0 hC1 e1 e2 ex ey hx hy hnh hng
 by_cases c1 : y < x
 ·have d0 : decide (y < x) = true := decide_eq_true c1
  rw [d0, Bool.true_and]; clear c1; go_enter Try.func96, Try.ntmps96; go_wp2; refine start_ (n := 23) (S := fun w' => Below w.heap.size w w' ∧ w'.cell? g1 = some (.slice (some ah) h.length ch) ∧ w'.cell? g2 = some (.slice (some ag) g.length cg) ∧ w'.cell? (ah.add i) = some (.slice (some rh) nh rch) ∧ w'.cell? (rh.add j) = some (.int .i64 x) ∧ w'.cell? (ag.add i) = some (.slice (some rg) ng rcg) ∧ w'.cell? (rg.add j) = some (.int .i64 y)) (ds := []) #[fF, fF, fF, fF, fF, fF, fF, fF, fF, fF, fF, fF, fF, fF, fF, fF, fF, fF, fF, fF, fF, fF, fF] (by kernel_rfl) rfl rfl ⟨(below_drew (Below.refl _ _)), h1, h2, hrow1, hnum1, hrow2, hnum2⟩ (fun hHeld => ?_); refine pure_ (i := 1) (N := some 8) (v := ?_) (a' := ?_) #[fF, tT, fF, fF, fF, fF, fF, fF, fF, fF, fF, fF, fF, fF, fF, fF, fF, fF, fF, fF, fF, fF, fF] rfl rfl (by kernel_rfl) (fun _ _ _ h => h) (Or.inl ⟨by rfl, ?_⟩) ?_ ?_; rotate_left
  ·intro w'; go_simp; with_reducible rfl
  rotate_left
  ·simp only [Act.put, List.setIfInBounds_toArray, List.set_cons_zero, List.set_cons_succ, i64_w, i32_w]; rfl
  refine pure_ (i := 4) (N := some 11) (v := ?_) (a' := ?_) #[fF, tT, fF, fF, tT, fF, fF, fF, fF, fF, fF, fF, fF, fF, fF, fF, fF, fF, fF, fF, fF, fF, fF] rfl rfl (by kernel_rfl) (fun _ _ _ h => h) (Or.inl ⟨by rfl, ?_⟩) ?_ ?_; rotate_left
  ·intro w'; go_simp; with_reducible rfl
  rotate_left
  ·simp only [Act.put, List.setIfInBounds_toArray, List.set_cons_zero, List.set_cons_succ, i64_w, i32_w]; rfl
  refine pure_ (i := 8) (N := some 15) (v := ?_) (a' := ?_) #[fF, tT, fF, fF, tT, fF, fF, fF, tT, fF, fF, fF, fF, fF, fF, fF, fF, fF, fF, fF, fF, fF, fF] rfl rfl (by kernel_rfl) (fun _ _ _ h => h) (Or.inl ⟨by rfl, ?_⟩) ?_ ?_; rotate_left
  ·intro w'; go_simp; with_reducible rfl
  rotate_left
  ·simp only [Act.put, List.setIfInBounds_toArray, List.set_cons_zero, List.set_cons_succ, i64_w, i32_w]; rfl
  refine pure_ (i := 11) (N := some 18) (v := ?_) (a' := ?_) #[fF, tT, fF, fF, tT, fF, fF, fF, tT, fF, fF, tT, fF, fF, fF, fF, fF, fF, fF, fF, fF, fF, fF] rfl rfl (by kernel_rfl) (fun _ _ _ h => h) (Or.inl ⟨by rfl, ?_⟩) ?_ ?_; rotate_left
  ·intro w'; go_simp; with_reducible rfl
  rotate_left
  ·simp only [Act.put, List.setIfInBounds_toArray, List.set_cons_zero, List.set_cons_succ, i64_w, i32_w]; rfl
  refine take_ (i := 0) (N := some 7) (v := ?_) (a' := ?_) #[tT, tT, fF, fF, tT, fF, fF, fF, tT, fF, fF, tT, fF, fF, fF, fF, fF, fF, fF, fF, fF, fF, fF] rfl rfl (by kernel_rfl) (fun _ _ _ h => h) (Or.inl ⟨by rfl, ?_⟩) hHeld ?_ ?_; rotate_left
  ·rintro w' ⟨s0, s1, s2, s3, s4, s5, s6⟩; go_simp; with_reducible rfl
  rotate_left
  ·simp only [Act.put, List.setIfInBounds_toArray, List.set_cons_zero, List.set_cons_succ, i64_w, i32_w]; rfl
  refine pure_ (i := 2) (N := some 9) (v := ?_) (a' := ?_) #[tT, tT, tT, fF, tT, fF, fF, fF, tT, fF, fF, tT, fF, fF, fF, fF, fF, fF, fF, fF, fF, fF, fF] rfl rfl (by kernel_rfl) (fun _ _ _ h => h) (Or.inl ⟨by rfl, ?_⟩) ?_ ?_; rotate_left
  ·intro w'; go_simp; with_reducible rfl
  rotate_left
  ·simp only [Act.put, List.setIfInBounds_toArray, List.set_cons_zero, List.set_cons_succ, i64_w, i32_w]; rfl
  refine take_ (i := 3) (N := some 10) (v := ?_) (a' := ?_) #[tT, tT, tT, tT, tT, fF, fF, fF, tT, fF, fF, tT, fF, fF, fF, fF, fF, fF, fF, fF, fF, fF, fF] rfl rfl (by kernel_rfl) (fun _ _ _ h => h) (Or.inl ⟨by rfl, ?_⟩) hHeld ?_ ?_; rotate_left
  ·rintro w' ⟨s0, s1, s2, s3, s4, s5, s6⟩; go_simp; with_reducible rfl
  rotate_left
  ·simp only [Act.put, List.setIfInBounds_toArray, List.set_cons_zero, List.set_cons_succ, i64_w, i32_w]; rfl
  refine pure_ (i := 5) (N := some 12) (v := ?_) (a' := ?_) #[tT, tT, tT, tT, tT, tT, fF, fF, tT, fF, fF, tT, fF, fF, fF, fF, fF, fF, fF, fF, fF, fF, fF] rfl rfl (by kernel_rfl) (fun _ _ _ h => h) (Or.inl ⟨by rfl, ?_⟩) ?_ ?_; rotate_left
  ·intro w'; go_simp; with_reducible rfl
  rotate_left
  ·simp only [Act.put, List.setIfInBounds_toArray, List.set_cons_zero, List.set_cons_succ, i64_w, i32_w]; rfl
  refine take_ (i := 6) (N := some 13) (v := ?_) (a' := ?_) #[tT, tT, tT, tT, tT, tT, tT, fF, tT, fF, fF, tT, fF, fF, fF, fF, fF, fF, fF, fF, fF, fF, fF] rfl rfl (by kernel_rfl) (fun _ _ _ h => h) (Or.inl ⟨by rfl, ?_⟩) hHeld ?_ ?_; rotate_left
  ·rintro w' ⟨s0, s1, s2, s3, s4, s5, s6⟩; go_simp; with_reducible rfl
  rotate_left
  ·simp only [Act.put, List.setIfInBounds_toArray, List.set_cons_zero, List.set_cons_succ, i64_w, i32_w]; rfl
  refine take_ (i := 7) (N := some 14) (v := ?_) (a' := ?_) #[tT, tT, tT, tT, tT, tT, tT, tT, tT, fF, fF, tT, fF, fF, fF, fF, fF, fF, fF, fF, fF, fF, fF] rfl rfl (by kernel_rfl) (fun _ _ _ h => h) (Or.inl ⟨by rfl, ?_⟩) hHeld ?_ ?_; rotate_left
  ·rintro w' ⟨s0, s1, s2, s3, s4, s5, s6⟩; go_simp; with_reducible rfl
  rotate_left
  ·simp only [Act.put, List.setIfInBounds_toArray, List.set_cons_zero, List.set_cons_succ, i64_w, i32_w]; rfl
  refine pure_ (i := 9) (N := some 16) (v := ?_) (a' := ?_) #[tT, tT, tT, tT, tT, tT, tT, tT, tT, tT, fF, tT, fF, fF, fF, fF, fF, fF, fF, fF, fF, fF, fF] rfl rfl (by kernel_rfl) (fun _ _ _ h => h) (Or.inl ⟨by rfl, ?_⟩) ?_ ?_; rotate_left
  ·intro w'; go_simp; with_reducible rfl
  rotate_left
  ·simp only [Act.put, List.setIfInBounds_toArray, List.set_cons_zero, List.set_cons_succ, i64_w, i32_w]; rfl
  refine take_ (i := 10) (N := some 17) (v := ?_) (a' := ?_) #[tT, tT, tT, tT, tT, tT, tT, tT, tT, tT, tT, tT, fF, fF, fF, fF, fF, fF, fF, fF, fF, fF, fF] rfl rfl (by kernel_rfl) (fun _ _ _ h => h) (Or.inl ⟨by rfl, ?_⟩) hHeld ?_ ?_; rotate_left
  ·rintro w' ⟨s0, s1, s2, s3, s4, s5, s6⟩; go_simp; with_reducible rfl
  rotate_left
  ·simp only [Act.put, List.setIfInBounds_toArray, List.set_cons_zero, List.set_cons_succ, i64_w, i32_w]; rfl
  refine pure_ (i := 12) (N := some 19) (v := ?_) (a' := ?_) #[tT, tT, tT, tT, tT, tT, tT, tT, tT, tT, tT, tT, tT, fF, fF, fF, fF, fF, fF, fF, fF, fF, fF] rfl rfl (by kernel_rfl) (fun _ _ _ h => h) (Or.inl ⟨by rfl, ?_⟩) ?_ ?_; rotate_left
  ·intro w'; go_simp; with_reducible rfl
  rotate_left
  ·simp only [Act.put, List.setIfInBounds_toArray, List.set_cons_zero, List.set_cons_succ, i64_w, i32_w]; rfl
  refine take_ (i := 13) (N := some 20) (v := ?_) (a' := ?_) #[tT, tT, tT, tT, tT, tT, tT, tT, tT, tT, tT, tT, tT, tT, fF, fF, fF, fF, fF, fF, fF, fF, fF] rfl rfl (by kernel_rfl) (fun _ _ _ h => h) (Or.inl ⟨by rfl, ?_⟩) hHeld ?_ ?_; rotate_left
  ·rintro w' ⟨s0, s1, s2, s3, s4, s5, s6⟩; go_simp; with_reducible rfl
  rotate_left
  ·simp only [Act.put, List.setIfInBounds_toArray, List.set_cons_zero, List.set_cons_succ, i64_w, i32_w]; rfl
  refine pure_ (i := 14) (N := some 21) (v := ?_) (a' := ?_) #[tT, tT, tT, tT, tT, tT, tT, tT, tT, tT, tT, tT, tT, tT, tT, fF, fF, fF, fF, fF, fF, fF, fF] rfl rfl (by kernel_rfl) (fun _ _ _ h => h) (Or.inl ⟨by rfl, ?_⟩) ?_ ?_; rotate_left
  ·intro w'; go_simp; with_reducible rfl
  rotate_left
  ·simp only [Act.put, List.setIfInBounds_toArray, List.set_cons_zero, List.set_cons_succ, i64_w, i32_w]; rfl
  refine pure_ (i := 15) (N := some 22) (v := ?_) (a' := ?_) #[tT, tT, tT, tT, tT, tT, tT, tT, tT, tT, tT, tT, tT, tT, tT, tT, fF, fF, fF, fF, fF, fF, fF] rfl rfl (by kernel_rfl) (fun _ _ _ h => h) (Or.inl ⟨by rfl, ?_⟩) ?_ ?_; rotate_left
  ·intro w'; go_simp; with_reducible rfl
  rotate_left
  ·simp only [Act.put, List.setIfInBounds_toArray, List.set_cons_zero, List.set_cons_succ, i64_w, i32_w]; rfl
  refine pure_ (i := 17) (N := some 24) (v := ?_) (a' := ?_) #[tT, tT, tT, tT, tT, tT, tT, tT, tT, tT, tT, tT, tT, tT, tT, tT, fF, tT, fF, fF, fF, fF, fF] rfl rfl (by kernel_rfl) (fun _ _ _ h => h) (Or.inl ⟨by rfl, ?_⟩) ?_ ?_; rotate_left
  ·intro w'; go_simp; with_reducible rfl
  rotate_left
  ·simp only [Act.put, List.setIfInBounds_toArray, List.set_cons_zero, List.set_cons_succ, i64_w, i32_w]; rfl
  refine pure_ (i := 18) (N := some 25) (v := ?_) (a' := ?_) #[tT, tT, tT, tT, tT, tT, tT, tT, tT, tT, tT, tT, tT, tT, tT, tT, fF, tT, tT, fF, fF, fF, fF] rfl rfl (by kernel_rfl) (fun _ _ _ h => h) (Or.inl ⟨by rfl, ?_⟩) ?_ ?_; rotate_left
  ·intro w'; go_simp; with_reducible rfl
  rotate_left
  ·simp only [Act.put, List.setIfInBounds_toArray, List.set_cons_zero, List.set_cons_succ, i64_w, i32_w]; rfl
  refine take_ (i := 16) (N := some 23) (v := ?_) (a' := ?_) #[tT, tT, tT, tT, tT, tT, tT, tT, tT, tT, tT, tT, tT, tT, tT, tT, tT, tT, tT, fF, fF, fF, fF] rfl rfl (by kernel_rfl) (fun _ _ _ h => h) (Or.inl ⟨by rfl, ?_⟩) hHeld ?_ ?_; rotate_left
  ·rintro w' ⟨s0, s1, s2, s3, s4, s5, s6⟩; go_simp; with_reducible rfl
  rotate_left
  ·simp only [Act.put, List.setIfInBounds_toArray, List.set_cons_zero, List.set_cons_succ, i64_w, i32_w]; rfl
  refine one_ (i := 19) (N := some 26) #[tT, tT, tT, tT, tT, tT, tT, tT, tT, tT, tT, tT, tT, tT, tT, tT, tT, tT, tT, tT, fF, fF, fF] rfl rfl (by kernel_rfl) (by decide) (fun K hK => ?_); refine goes_ Try.func95 (by kernel_rfl) rfl #[.slice (some ah) h.length ch, .int .i64 (i : Int), .int .i64 (j : Int)] (by rfl) rfl rfl (by simp only [List.map_toArray, List.map_cons, List.map_nil]; rfl) ?_
  with_reducible refine (impl_way.calls _ _ h (i : Int) (j : Int) v _ (Kd.C_below HR.out hHeld.1) HC.out HV.out).mono ?_
  rintro e w3 ⟨rfl, hb⟩; refine ⟨_, rfl, ?_⟩; have HB3 := Aside0.mk (below_step hHeld.1 hb); refine hK.out _ _ ⟨below_step hHeld.1 hb, pw_cell_below hb hHeld.2.1, pw_cell_below hb hHeld.2.2.1, pw_cell_below hb hHeld.2.2.2.1, pw_cell_below hb hHeld.2.2.2.2.1, pw_cell_below hb hHeld.2.2.2.2.2.1, pw_cell_below hb hHeld.2.2.2.2.2.2⟩ (fun hHeld => ?_); clear hK K; refine norm_ (a' := ?_) ?_ ?_; rotate_left
  ·show Act.put _ (some 26) _ = _; simp only [Act.put, List.setIfInBounds_toArray, List.set_cons_zero, List.set_cons_succ, i64_w, i32_w]; rfl
  refine pure_ (i := 20) (N := some 27) (v := ?_) (a' := ?_) #[tT, tT, tT, tT, tT, tT, tT, tT, tT, tT, tT, tT, tT, tT, tT, tT, tT, tT, tT, tT, tT, fF, fF] rfl rfl (by kernel_rfl) (fun _ _ _ h => h) (Or.inl ⟨by rfl, ?_⟩) ?_ ?_; rotate_left
  ·intro w'; go_simp; with_reducible rfl
  rotate_left
  ·simp only [Act.put, List.setIfInBounds_toArray, List.set_cons_zero, List.set_cons_succ, i64_w, i32_w]; rfl
  refine pure_ (i := 21) (N := some 28) (v := ?_) (a' := ?_) #[tT, tT, tT, tT, tT, tT, tT, tT, tT, tT, tT, tT, tT, tT, tT, tT, tT, tT, tT, tT, tT, tT, fF] rfl rfl (by kernel_rfl) (fun _ _ _ h => h) (Or.inl ⟨by rfl, ?_⟩) ?_ ?_; rotate_left
  ·intro w'; go_simp; with_reducible rfl
  rotate_left
  ·simp only [Act.put, List.setIfInBounds_toArray, List.set_cons_zero, List.set_cons_succ, i64_w, i32_w]; rfl
  refine pure_ (i := 22) (N := some 6) (v := ?_) (a' := ?_) #[tT, tT, tT, tT, tT, tT, tT, tT, tT, tT, tT, tT, tT, tT, tT, tT, tT, tT, tT, tT, tT, tT, tT] rfl rfl (by kernel_rfl) (fun _ _ _ h => h) (Or.inl ⟨by rfl, ?_⟩) ?_ ?_; rotate_left
  ·intro w'; go_simp; with_reducible rfl
  rotate_left
  ·simp only [Act.put, List.setIfInBounds_toArray, List.set_cons_zero, List.set_cons_succ, i64_w, i32_w]; rfl
  refine done_ (by kernel_rfl) ?_; go_wp2; go_ret; exact ⟨by first | rfl | (simp; done), HB3.out⟩
 ·have d0 : decide (y < x) = false := decide_eq_false c1
  rw [d0, Bool.false_and]; clear c1; go_enter Try.func96, Try.ntmps96; go_wp2; refine start_ (n := 23) (S := fun w' => Below w.heap.size w w' ∧ w'.cell? g1 = some (.slice (some ah) h.length ch) ∧ w'.cell? g2 = some (.slice (some ag) g.length cg) ∧ w'.cell? (ah.add i) = some (.slice (some rh) nh rch) ∧ w'.cell? (rh.add j) = some (.int .i64 x) ∧ w'.cell? (ag.add i) = some (.slice (some rg) ng rcg) ∧ w'.cell? (rg.add j) = some (.int .i64 y)) (ds := []) #[fF, fF, fF, fF, fF, fF, fF, fF, fF, fF, fF, fF, fF, fF, fF, fF, fF, fF, fF, fF, fF, fF, fF] (by kernel_rfl) rfl rfl ⟨(below_drew (Below.refl _ _)), h1, h2, hrow1, hnum1, hrow2, hnum2⟩ (fun hHeld => ?_); refine pure_ (i := 1) (N := some 8) (v := ?_) (a' := ?_) #[fF, tT, fF, fF, fF, fF, fF, fF, fF, fF, fF, fF, fF, fF, fF, fF, fF, fF, fF, fF, fF, fF, fF] rfl rfl (by kernel_rfl) (fun _ _ _ h => h) (Or.inl ⟨by rfl, ?_⟩) ?_ ?_; rotate_left
  ·intro w'; go_simp; with_reducible rfl
  rotate_left
  ·simp only [Act.put, List.setIfInBounds_toArray, List.set_cons_zero, List.set_cons_succ, i64_w, i32_w]; rfl
  refine pure_ (i := 4) (N := some 11) (v := ?_) (a' := ?_) #[fF, tT, fF, fF, tT, fF, fF, fF, fF, fF, fF, fF, fF, fF, fF, fF, fF, fF, fF, fF, fF, fF, fF] rfl rfl (by kernel_rfl) (fun _ _ _ h => h) (Or.inl ⟨by rfl, ?_⟩) ?_ ?_; rotate_left
  ·intro w'; go_simp; with_reducible rfl
  rotate_left
  ·simp only [Act.put, List.setIfInBounds_toArray, List.set_cons_zero, List.set_cons_succ, i64_w, i32_w]; rfl
  refine pure_ (i := 8) (N := some 15) (v := ?_) (a' := ?_) #[fF, tT, fF, fF, tT, fF, fF, fF, tT, fF, fF, fF, fF, fF, fF, fF, fF, fF, fF, fF, fF, fF, fF] rfl rfl (by kernel_rfl) (fun _ _ _ h => h) (Or.inl ⟨by rfl, ?_⟩) ?_ ?_; rotate_left
  ·intro w'; go_simp; with_reducible rfl
  rotate_left
  ·simp only [Act.put, List.setIfInBounds_toArray, List.set_cons_zero, List.set_cons_succ, i64_w, i32_w]; rfl
  refine pure_ (i := 11) (N := some 18) (v := ?_) (a' := ?_) #[fF, tT, fF, fF, tT, fF, fF, fF, tT, fF, fF, tT, fF, fF, fF, fF, fF, fF, fF, fF, fF, fF, fF] rfl rfl (by kernel_rfl) (fun _ _ _ h => h) (Or.inl ⟨by rfl, ?_⟩) ?_ ?_; rotate_left
  ·intro w'; go_simp; with_reducible rfl
  rotate_left
  ·simp only [Act.put, List.setIfInBounds_toArray, List.set_cons_zero, List.set_cons_succ, i64_w, i32_w]; rfl
  refine take_ (i := 0) (N := some 7) (v := ?_) (a' := ?_) #[tT, tT, fF, fF, tT, fF, fF, fF, tT, fF, fF, tT, fF, fF, fF, fF, fF, fF, fF, fF, fF, fF, fF] rfl rfl (by kernel_rfl) (fun _ _ _ h => h) (Or.inl ⟨by rfl, ?_⟩) hHeld ?_ ?_; rotate_left
  ·rintro w' ⟨s0, s1, s2, s3, s4, s5, s6⟩; go_simp; with_reducible rfl
  rotate_left
  ·simp only [Act.put, List.setIfInBounds_toArray, List.set_cons_zero, List.set_cons_succ, i64_w, i32_w]; rfl
  refine pure_ (i := 2) (N := some 9) (v := ?_) (a' := ?_) #[tT, tT, tT, fF, tT, fF, fF, fF, tT, fF, fF, tT, fF, fF, fF, fF, fF, fF, fF, fF, fF, fF, fF] rfl rfl (by kernel_rfl) (fun _ _ _ h => h) (Or.inl ⟨by rfl, ?_⟩) ?_ ?_; rotate_left
  ·intro w'; go_simp; with_reducible rfl
  rotate_left
  ·simp only [Act.put, List.setIfInBounds_toArray, List.set_cons_zero, List.set_cons_succ, i64_w, i32_w]; rfl
  refine take_ (i := 3) (N := some 10) (v := ?_) (a' := ?_) #[tT, tT, tT, tT, tT, fF, fF, fF, tT, fF, fF, tT, fF, fF, fF, fF, fF, fF, fF, fF, fF, fF, fF] rfl rfl (by kernel_rfl) (fun _ _ _ h => h) (Or.inl ⟨by rfl, ?_⟩) hHeld ?_ ?_; rotate_left
  ·rintro w' ⟨s0, s1, s2, s3, s4, s5, s6⟩; go_simp; with_reducible rfl
  rotate_left
  ·simp only [Act.put, List.setIfInBounds_toArray, List.set_cons_zero, List.set_cons_succ, i64_w, i32_w]; rfl
  refine pure_ (i := 5) (N := some 12) (v := ?_) (a' := ?_) #[tT, tT, tT, tT, tT, tT, fF, fF, tT, fF, fF, tT, fF, fF, fF, fF, fF, fF, fF, fF, fF, fF, fF] rfl rfl (by kernel_rfl) (fun _ _ _ h => h) (Or.inl ⟨by rfl, ?_⟩) ?_ ?_; rotate_left
  ·intro w'; go_simp; with_reducible rfl
  rotate_left
  ·simp only [Act.put, List.setIfInBounds_toArray, List.set_cons_zero, List.set_cons_succ, i64_w, i32_w]; rfl
  refine take_ (i := 6) (N := some 13) (v := ?_) (a' := ?_) #[tT, tT, tT, tT, tT, tT, tT, fF, tT, fF, fF, tT, fF, fF, fF, fF, fF, fF, fF, fF, fF, fF, fF] rfl rfl (by kernel_rfl) (fun _ _ _ h => h) (Or.inl ⟨by rfl, ?_⟩) hHeld ?_ ?_; rotate_left
  ·rintro w' ⟨s0, s1, s2, s3, s4, s5, s6⟩; go_simp; with_reducible rfl
  rotate_left
  ·simp only [Act.put, List.setIfInBounds_toArray, List.set_cons_zero, List.set_cons_succ, i64_w, i32_w]; rfl
  refine take_ (i := 7) (N := some 14) (v := ?_) (a' := ?_) #[tT, tT, tT, tT, tT, tT, tT, tT, tT, fF, fF, tT, fF, fF, fF, fF, fF, fF, fF, fF, fF, fF, fF] rfl rfl (by kernel_rfl) (fun _ _ _ h => h) (Or.inl ⟨by rfl, ?_⟩) hHeld ?_ ?_; rotate_left
  ·rintro w' ⟨s0, s1, s2, s3, s4, s5, s6⟩; go_simp; with_reducible rfl
  rotate_left
  ·simp only [Act.put, List.setIfInBounds_toArray, List.set_cons_zero, List.set_cons_succ, i64_w, i32_w]; rfl
  refine pure_ (i := 9) (N := some 16) (v := ?_) (a' := ?_) #[tT, tT, tT, tT, tT, tT, tT, tT, tT, tT, fF, tT, fF, fF, fF, fF, fF, fF, fF, fF, fF, fF, fF] rfl rfl (by kernel_rfl) (fun _ _ _ h => h) (Or.inl ⟨by rfl, ?_⟩) ?_ ?_; rotate_left
  ·intro w'; go_simp; with_reducible rfl
  rotate_left
  ·simp only [Act.put, List.setIfInBounds_toArray, List.set_cons_zero, List.set_cons_succ, i64_w, i32_w]; rfl
  refine take_ (i := 10) (N := some 17) (v := ?_) (a' := ?_) #[tT, tT, tT, tT, tT, tT, tT, tT, tT, tT, tT, tT, fF, fF, fF, fF, fF, fF, fF, fF, fF, fF, fF] rfl rfl (by kernel_rfl) (fun _ _ _ h => h) (Or.inl ⟨by rfl, ?_⟩) hHeld ?_ ?_; rotate_left
  ·rintro w' ⟨s0, s1, s2, s3, s4, s5, s6⟩; go_simp; with_reducible rfl
  rotate_left
  ·simp only [Act.put, List.setIfInBounds_toArray, List.set_cons_zero, List.set_cons_succ, i64_w, i32_w]; rfl
  refine pure_ (i := 12) (N := some 19) (v := ?_) (a' := ?_) #[tT, tT, tT, tT, tT, tT, tT, tT, tT, tT, tT, tT, tT, fF, fF, fF, fF, fF, fF, fF, fF, fF, fF] rfl rfl (by kernel_rfl) (fun _ _ _ h => h) (Or.inl ⟨by rfl, ?_⟩) ?_ ?_; rotate_left
  ·intro w'; go_simp; with_reducible rfl
  rotate_left
  ·simp only [Act.put, List.setIfInBounds_toArray, List.set_cons_zero, List.set_cons_succ, i64_w, i32_w]; rfl
  refine take_ (i := 13) (N := some 20) (v := ?_) (a' := ?_) #[tT, tT, tT, tT, tT, tT, tT, tT, tT, tT, tT, tT, tT, tT, fF, fF, fF, fF, fF, fF, fF, fF, fF] rfl rfl (by kernel_rfl) (fun _ _ _ h => h) (Or.inl ⟨by rfl, ?_⟩) hHeld ?_ ?_; rotate_left
  ·rintro w' ⟨s0, s1, s2, s3, s4, s5, s6⟩; go_simp; with_reducible rfl
  rotate_left
  ·simp only [Act.put, List.setIfInBounds_toArray, List.set_cons_zero, List.set_cons_succ, i64_w, i32_w]; rfl
  refine pure_ (i := 14) (N := some 21) (v := ?_) (a' := ?_) #[tT, tT, tT, tT, tT, tT, tT, tT, tT, tT, tT, tT, tT, tT, tT, fF, fF, fF, fF, fF, fF, fF, fF] rfl rfl (by kernel_rfl) (fun _ _ _ h => h) (Or.inl ⟨by rfl, ?_⟩) ?_ ?_; rotate_left
  ·intro w'; go_simp; with_reducible rfl
  rotate_left
  ·simp only [Act.put, List.setIfInBounds_toArray, List.set_cons_zero, List.set_cons_succ, i64_w, i32_w]; rfl
  refine pure_ (i := 15) (N := some 22) (v := ?_) (a' := ?_) #[tT, tT, tT, tT, tT, tT, tT, tT, tT, tT, tT, tT, tT, tT, tT, tT, fF, fF, fF, fF, fF, fF, fF] rfl rfl (by kernel_rfl) (fun _ _ _ h => h) (Or.inl ⟨by rfl, ?_⟩) ?_ ?_; rotate_left
  ·intro w'; go_simp; with_reducible rfl
  rotate_left
  ·simp only [Act.put, List.setIfInBounds_toArray, List.set_cons_zero, List.set_cons_succ, i64_w, i32_w]; rfl
  refine pure_ (i := 16) (N := some 23) (v := undef) (a' := ?_) #[tT, tT, tT, tT, tT, tT, tT, tT, tT, tT, tT, tT, tT, tT, tT, tT, tT, fF, fF, fF, fF, fF, fF] rfl rfl (by kernel_rfl) (fun _ _ _ h => h) (Or.inr ⟨by rfl, rfl⟩) ?_ ?_; rotate_left
  ·simp only [Act.put, List.setIfInBounds_toArray, List.set_cons_zero, List.set_cons_succ, i64_w, i32_w]; rfl
  refine pure_ (i := 17) (N := some 24) (v := undef) (a' := ?_) #[tT, tT, tT, tT, tT, tT, tT, tT, tT, tT, tT, tT, tT, tT, tT, tT, tT, tT, fF, fF, fF, fF, fF] rfl rfl (by kernel_rfl) (fun _ _ _ h => h) (Or.inr ⟨by rfl, rfl⟩) ?_ ?_; rotate_left
  ·simp only [Act.put, List.setIfInBounds_toArray, List.set_cons_zero, List.set_cons_succ, i64_w, i32_w]; rfl
  refine pure_ (i := 18) (N := some 25) (v := undef) (a' := ?_) #[tT, tT, tT, tT, tT, tT, tT, tT, tT, tT, tT, tT, tT, tT, tT, tT, tT, tT, tT, fF, fF, fF, fF] rfl rfl (by kernel_rfl) (fun _ _ _ h => h) (Or.inr ⟨by rfl, rfl⟩) ?_ ?_; rotate_left
  ·simp only [Act.put, List.setIfInBounds_toArray, List.set_cons_zero, List.set_cons_succ, i64_w, i32_w]; rfl
  refine pure_ (i := 19) (N := some 26) (v := undef) (a' := ?_) #[tT, tT, tT, tT, tT, tT, tT, tT, tT, tT, tT, tT, tT, tT, tT, tT, tT, tT, tT, tT, fF, fF, fF] rfl rfl (by kernel_rfl) (fun _ _ _ h => h) (Or.inr ⟨by rfl, rfl⟩) ?_ ?_; rotate_left
  ·simp only [Act.put, List.setIfInBounds_toArray, List.set_cons_zero, List.set_cons_succ, i64_w, i32_w]; rfl
  refine pure_ (i := 20) (N := some 27) (v := undef) (a' := ?_) #[tT, tT, tT, tT, tT, tT, tT, tT, tT, tT, tT, tT, tT, tT, tT, tT, tT, tT, tT, tT, tT, fF, fF] rfl rfl (by kernel_rfl) (fun _ _ _ h => h) (Or.inr ⟨by rfl, rfl⟩) ?_ ?_; rotate_left
  ·simp only [Act.put, List.setIfInBounds_toArray, List.set_cons_zero, List.set_cons_succ, i64_w, i32_w]; rfl
  refine pure_ (i := 21) (N := some 28) (v := ?_) (a' := ?_) #[tT, tT, tT, tT, tT, tT, tT, tT, tT, tT, tT, tT, tT, tT, tT, tT, tT, tT, tT, tT, tT, tT, fF] rfl rfl (by kernel_rfl) (fun _ _ _ h => h) (Or.inl ⟨by rfl, ?_⟩) ?_ ?_; rotate_left
  ·intro w'; go_simp; with_reducible rfl
  rotate_left
  ·simp only [Act.put, List.setIfInBounds_toArray, List.set_cons_zero, List.set_cons_succ, i64_w, i32_w]; rfl
  refine pure_ (i := 22) (N := some 6) (v := ?_) (a' := ?_) #[tT, tT, tT, tT, tT, tT, tT, tT, tT, tT, tT, tT, tT, tT, tT, tT, tT, tT, tT, tT, tT, tT, tT] rfl rfl (by kernel_rfl) (fun _ _ _ h => h) (Or.inl ⟨by rfl, ?_⟩) ?_ ?_; rotate_left
  ·intro w'; go_simp; with_reducible rfl
  rotate_left
  ·simp only [Act.put, List.setIfInBounds_toArray, List.set_cons_zero, List.set_cons_succ, i64_w, i32_w]; rfl
  refine done_ (by kernel_rfl) ?_; go_wp2; go_ret; exact ⟨by first | rfl | (simp; done), below_drew (Below.refl _ _)⟩
set_option maxHeartbeats 8000000 in
set_option maxRecDepth 100000 in
theorem impl_FlipPath.calls (k : Nat) (A0 : Option Addr) (c0 : Nat) (l0 : List (List Int)) (A1 : Option Addr) (c1 : Nat) (l1 : List (List Int)) (r1 : List (List Int)) (r2 : Bool) (w : World) (hr0 : Kd.C (Kd.slice 3 (Kd.int .i64)) w A0 l0.length l0) (hc0 : l0.length ≤ c0) (hr1 : Kd.C (Kd.slice 3 (Kd.int .i64)) w A1 l1.length l1) (hc1 : l1.length ≤ c1) (h : impl_FlipPath.f k l0 l1 = some (r1, r2)) :
  Calls Try.prog 43 #[.slice A0 l0.length c0, .slice A1 l1.length c1] w fun e w' => ∃ v0_ : Value, e = .returned (.tuple #[v0_, .bool r2]) ∧ Kd.S (Kd.slice 3 (Kd.int .i64)) 22 w' w.heap.size (fun _ => True) v0_ r1 ∧ Below w.heap.size w w' := by
 have HR0 := Aside0.mk hr0; have HC0 := Aside0.mk hc0; have HR1 := Aside0.mk hr1; have HC1 := Aside0.mk hc1
 have hmf : ∀ (fn : Fn) (first cap : Array Value) (w : World), (Instr.makeFunc fn first cap).run Try.prog w = .ok (.func fn first cap) w := fun _ _ _ _ => rfl
 have HB0 := Aside0.mk (Below.refl w.heap.size w); obtain ⟨b, hb, h⟩ := Option.bind_eq_some_iff.mp h; have HP := Aside0.mk hb; clear hr0 hc0 hr1 hc1 hb
 cases b with
 | false =>
  rw [if_neg (by decide)] at h; simp only [Option.some.injEq, Prod.mk.injEq] at h; obtain ⟨rfl, rfl⟩ := h; go_enter Try.func43, Try.ntmps43
  go_wp2_with (go_at_call 91; (with_reducible refine (impl_arePair.calls k _ _ l0 _ _ l1 false _ HR0.out HC0.out HR1.out HC1.out HP.out).mono ?_); rintro e w5 ⟨rfl, hb⟩; have HB := Aside0.mk (below_step HB0.out hb); clear hb)
  go_ret2; exact ⟨_, rfl, Kd.S_nil _ _ _ _ _, HB.out⟩
 | true =>
  rw [if_pos rfl] at h; obtain ⟨hh, eh, h⟩ := Option.bind_eq_some_iff.mp h; obtain ⟨gg, eg, h⟩ := Option.bind_eq_some_iff.mp h; obtain ⟨oo, eo, h⟩ := Option.bind_eq_some_iff.mp h; simp only [Option.some.injEq, Prod.mk.injEq] at h; obtain ⟨rfl, rfl⟩ := h; have HH := Aside0.mk eh; have HG := Aside0.mk eg; have HO := Aside0.mk eo; have HE1 := Aside0.mk (enters_of Try.func94 (by kernel_rfl) rfl); have HE2 := Aside0.mk (enters_of Try.func96 (by kernel_rfl) rfl); clear eh eg eo; go_enter Try.func43, Try.ntmps43
  go_wp2_with fail
  (with_reducible refine (impl_arePair.calls k _ _ l0 _ _ l1 true _ HR0.out HC0.out HR1.out HC1.out HP.out).mono ?_)
  rintro e w5 ⟨rfl, hb⟩; have HB5 := Aside0.mk (below_step HB0.out hb); clear hb HP
  go_wp2_with fail
  (with_reducible refine (impl_heights.calls k _ _ l0 hh _ (Kd.C_below HR0.out HB5.out) HC0.out HH.out).mono ?_)
  rintro e w6 ⟨vh, rfl, hS, hb⟩; have HB6 := Aside0.mk (below_step HB5.out hb); have HS6 := Aside0.mk (Seg.of_S hS); have HZ5 := Aside0.mk HB5.out.size; have hs6 := hb.size; clear hb hS HB5 HH
  go_wp2_with fail
  (with_reducible refine (impl_heights.calls k _ _ l1 gg _ (Kd.C_below HR1.out HB6.out) HC1.out HG.out).mono ?_)
  rintro e w7 ⟨vg, rfl, hS, hb⟩; have HB7 := Aside0.mk (below_step HB6.out hb); have HS7 := Aside0.mk (HS6.out.below hb); have HG7 := Aside0.mk (Seg.of_S hS); have hs7 := hb.size; obtain ⟨Ah, ch, hvh⟩ := HS7.out.slice; subst hvh; obtain ⟨Ag, cg, hvg⟩ := HG7.out.slice; subst hvg
  obtain ⟨s0, hs0⟩ : ∃ s, s = w5.heap.size := ⟨_, rfl⟩
  obtain ⟨s1, hs1⟩ : ∃ s, s = w6.heap.size := ⟨_, rfl⟩
  rw [← hs0, ← hs1] at HS7; rw [← hs1] at HG7; rw [← hs0] at HZ5; rw [← hs1] at hs7; rw [← hs0, ← hs1] at hs6; clear hb hS HS6 HG hs0 hs1 HB6
  go_wp2_with ((with_reducible refine gate_dst (N := 20) rfl ?_); refine Kd.S_lit (Kd.slice 3 (Kd.int .i64)) (w0 := w7) w7.heap.size 22 ?hg (N := 20) ?hd (xs := ([] : List (List Int))) (inner := []) (ok := fun _ => True) (okp := fun _ => True) ?hr ?hp (fun _ hk => hk) trivial (Below.refl _ _) (Nat.le_refl _) (by simp) ?_; (case hd => rfl); (case hg => rfl); (case hr => first | (go_simp; done) | (go_simp; rfl)); (case hp => exact Reps.none _ _); intro v8 w8 ho hb hg_ hnew_; clear hg_ hnew_; have HO8 := Aside0.mk ho; have HB8 := Aside0.mk hb; clear ho hb)
  obtain ⟨wb, hwb⟩ : ∃ wb, wb = (w8.alloc (.cells #[.slice Ah hh.length ch] 23)).alloc (.cells #[.slice Ag gg.length cg] 23) := ⟨_, rfl⟩
  obtain ⟨b6, hb6⟩ : ∃ b, b = w8.heap.size := ⟨_, rfl⟩
  have HST0 := Aside0.mk (show FpSt w wb s0 s1 w7.heap.size b6 (b6 + 1) (.slice Ah hh.length ch) (.slice Ag gg.length cg) v8 hh gg [] by
   have hbb : Below w8.heap.size w8 wb := by rw [hwb]; exact below_alloc (below_alloc (Below.refl _ _) _) _
   have x7 := Boxed.new (w8.alloc (.cells #[.slice Ah hh.length ch] 23)) 23 (.slice Ag gg.length cg); rw [← hwb, show (w8.alloc (.cells #[.slice Ah hh.length ch] 23)).heap.size = b6 + 1 by rw [hb6]; simp] at x7
   exact { h := (HS7.out.below HB8.out).below hbb, g := (HG7.out.below HB8.out).below hbb, out := Kd.S_mono (Kd.S_below (Kd.S_bound HO8.out) hbb) (fun k hk => by have := hk.2.2.1; omega), x6 := by rw [hwb, hb6]; exact (Boxed.new w8 23 (.slice Ah hh.length ch)).alloc _, x7 := x7, below := below_step (below_step HB7.out HB8.out) hbb, lo := by have := HZ5.out; have := HB8.out.size; have := HS7.out; omega })
  rw [← hwb, ← hb6]
  obtain ⟨s2, hs2⟩ : ∃ s, s = w7.heap.size := ⟨_, rfl⟩
  rw [← hs2] at HST0; have H0 := HO; clear HO h hwb hb6 hs2 HS7 HG7 HB7 HB8 HO8 hs6 hs7 HZ5
  go_wp2_with fail
  go_loopg [8] k (fun kq v8 w' => ∃ (h' out : List (List Int)), Aside0 (impl_FlipPath.l0 kq l0.length gg h' out = some oo) ∧ Aside0 (FpSt w w' s0 s1 s2 b6 (b6 + 1) (.slice Ah hh.length ch) (.slice Ag gg.length cg) v8 h' gg out))
  case atStart => exact ⟨hh, [], H0, HST0⟩
  case round =>
   clear H0 HST0; obtain ⟨h', out, HA, HST⟩ := hrel
   cases gk with
   | zero => exact absurd HA.out (by simp [impl_FlipPath.l0])
   | succ k2 =>
    have H := HA.out; clear HA; simp only [impl_FlipPath.l0] at H; obtain ⟨t, ht, H⟩ := Option.bind_eq_some_iff.mp H; have HT := Aside0.mk ht; have HH := Aside0.mk H; clear ht H
    obtain ⟨nh, hnh⟩ : ∃ n, n = hh.length := ⟨_, rfl⟩
    rw [← hnh] at HST ⊢; have hlh := (HST.out.h.reads).1; subst hlh; have HNH := Aside0.mk hnh; clear hnh; have hx6 := HST.out.x6.cell; have hx7 := HST.out.x7.cell
    go_wp2_with fail
    (with_reducible refine (impl_compareTables.calls k2 _ _ h' _ _ gg t _ (HST.out.h.reads).2.2 (HST.out.h.reads).2.1 (HST.out.g.reads).2.2 (HST.out.g.reads).2.1 HT.out).mono ?_)
    rintro e w8 ⟨rfl, ⟨n8, rfl⟩⟩; clear hx6 hx7
    by_cases c0 : t = 0
    ·subst c0
     have b1 : ((0 : Int) != 0) = false := by decide
     have b2 : ((0 : Int) == 0) = true := by decide
     have hoo : oo = out := by have := HH.out; rw [if_pos rfl] at this; exact (Option.some.inj this).symm
     subst hoo; go_wp2; go_ret2; exact ⟨_, rfl, Kd.S_lower (Kd.S_mono (Kd.S_drewN HST.out.out _) (fun _ _ => trivial)) (by have := HST.out.lo; omega), below_drewN HST.out.below _⟩
    ·have b1 : (t != 0) = true := by simpa using c0
     have b2 : (t == 0) = false := by simpa using c0
     have H := HH.out; rw [if_neg c0] at H; clear HH HT c0
     by_cases hok : FpOk l0.length h' gg
     case neg =>
      rw [if_neg hok] at H
      cases H
     rw [if_pos hok] at H; obtain ⟨l, hl, H⟩ := Option.bind_eq_some_iff.mp H; have HH := Aside0.mk H; clear H; unfold fpList at hl; obtain ⟨lf, hlf, hl⟩ := Option.bind_eq_some_iff.mp hl; have HLF := Aside0.mk hlf; have HL := Aside0.mk hl; have HOK := Aside0.mk hok; clear hok hl hlf
     obtain ⟨W, hW⟩ : ∃ W, W = wr.drewN n8 := ⟨_, rfl⟩
     have HSTW := Aside0.mk (show FpSt w W s0 s1 s2 b6 (b6 + 1) (.slice Ah h'.length ch) (.slice Ag gg.length cg) u8 h' gg out by rw [hW]; exact HST.out.move (pw_below_drewN (Below.refl _ _) n8)); rw [← hW]; clear hW HST
     go_wp2_with fail
     (refine (cells_any 94 #[.pointer (some ⟨b6, 0, none⟩), .pointer (some ⟨b6 + 1, 0, none⟩)] HE1.out k2 (l0.length : Int) (fpUp h' gg) lf W (by have := HOK.out.1; omega) (fun W' hb' i j a1' a2' a3' a4' => ?cf) HLF.out).mono ?_)
     case cf =>
      obtain ⟨i, rfl⟩ := Int.eq_ofNat_of_zero_le (show 0 ≤ i by omega); obtain ⟨j, rfl⟩ := Int.eq_ofNat_of_zero_le (show 0 ≤ j by omega); obtain ⟨q1, q2, q3, q4, q5⟩ := HOK.out.2 i (by omega) j (by omega) (by omega) (by omega); obtain ⟨v, hv⟩ := Option.isSome_iff_exists.mp q5; have hm := HSTW.out.move hb'; exact impl_FlipPath.clo1 h' gg Ah Ag ch cg ⟨b6, 0, none⟩ ⟨b6 + 1, 0, none⟩ W' (hm.h.reads).2.2 (hm.h.reads).2.1 (hm.g.reads).2.2 (hm.g.reads).2.1 hm.x6.cell hm.x7.cell i j v q1 q2 q3 q4 hv
     rintro e w9 ⟨v9, rfl, hS, hb⟩; have HST9 := Aside0.mk (HSTW.out.move hb); obtain ⟨A9, c9, rfl⟩ := Kd.S_slice hS; have HL9 := Aside0.mk (show Kd.C (Kd.slice 3 (Kd.int .i64)) w9 A9 lf.length lf ∧ lf.length ≤ c9 from ⟨(Kd.S_reads' hS).2.2, (Kd.S_reads' hS).2.1⟩); clear hS hb HSTW
     go_upto_if 31 with (fail)
     go_cut [9] (fun v9 wc => ∃ (A9 : Option Addr) (c9 : Nat), v9 = .slice A9 l.length c9 ∧ Aside0 (Kd.C (Kd.slice 3 (Kd.int .i64)) wc A9 l.length l ∧ l.length ≤ c9) ∧ Aside0 (FpSt w wc s0 s1 s2 b6 (b6 + 1) (.slice Ah h'.length ch) (.slice Ag gg.length cg) u8 h' gg out))
     case first =>
      by_cases hc0 : lf.length = 0
      ·have d1 : ((lf.length : Int) == 0) = true := by rw [hc0]; rfl
       have d2 : decide ((lf.length : Int) = 0) = true := decide_eq_true (by omega); have d3 : decide (lf.length = 0) = true := decide_eq_true hc0
       have d4 : (lf.length == 0) = true := by rw [hc0]; rfl
       have hp := HL.out; rw [if_pos hc0] at hp; have HD := Aside0.mk hp; clear hp hc0
       go_wp2_with fail
       (refine (cells_any 96 #[.pointer (some ⟨b6, 0, none⟩), .pointer (some ⟨b6 + 1, 0, none⟩)] HE2.out k2 (l0.length : Int) (fpDn h' gg) l w9 (by have := HOK.out.1; omega) (fun W' hb' i j a1' a2' a3' a4' => ?cf) HD.out).mono ?_)
       case cf =>
        obtain ⟨i, rfl⟩ := Int.eq_ofNat_of_zero_le (show 0 ≤ i by omega); obtain ⟨j, rfl⟩ := Int.eq_ofNat_of_zero_le (show 0 ≤ j by omega); obtain ⟨q1, q2, q3, q4, q5⟩ := HOK.out.2 i (by omega) j (by omega) (by omega) (by omega); obtain ⟨v, hv⟩ := Option.isSome_iff_exists.mp q5; have hm := HST9.out.move hb'; exact impl_FlipPath.clo2 h' gg Ah Ag ch cg ⟨b6, 0, none⟩ ⟨b6 + 1, 0, none⟩ W' (hm.h.reads).2.2 (hm.h.reads).2.1 (hm.g.reads).2.2 (hm.g.reads).2.1 hm.x6.cell hm.x7.cell i j v q1 q2 q3 q4 hv
       rintro e w10 ⟨v10, rfl, hS, hb⟩; have HST10 := Aside0.mk (HST9.out.move hb); obtain ⟨A10, c10, rfl⟩ := Kd.S_slice hS; have HL10 := Aside0.mk (show Kd.C (Kd.slice 3 (Kd.int .i64)) w10 A10 l.length l ∧ l.length ≤ c10 from ⟨(Kd.S_reads' hS).2.2, (Kd.S_reads' hS).2.1⟩); clear hS hb; go_wp2; go_meet
       case rel => exact ⟨_, _, rfl, HL10, HST10⟩
      ·have d1 : ((lf.length : Int) == 0) = false := beq_false_of_ne (by omega)
       have d2 : decide ((lf.length : Int) = 0) = false := decide_eq_false (by omega); have d3 : decide (lf.length = 0) = false := decide_eq_false hc0; have d4 : (lf.length == 0) = false := beq_false_of_ne hc0; have hp := HL.out; rw [if_neg hc0] at hp; obtain rfl := Option.some.inj hp; clear hp hc0; go_wp2; go_meet
       case rel => exact ⟨_, _, rfl, HL9, HST9⟩
     case rest =>
      clear HL9 HST9 HL HLF b1 b2; obtain ⟨A9, c9, rfl, HL9, HST9⟩ := hcut; have hh := HH.out
      by_cases hin : fpCell h' l ∧ out.length < 5864062014805
      case neg =>
       rw [if_neg hin] at hh
       cases hh
      rw [if_pos hin] at hh; obtain ⟨v, hv, hh⟩ := Option.bind_eq_some_iff.mp hh; obtain ⟨⟨hl0, hl, i0, i1, j0, j1⟩, hol⟩ := hin; obtain ⟨la, Ac, cc_, rfl, hlx, hcl, hCC⟩ := at_row HL9.out.1 0 hl0
      have ecc : l.getD 0 [] = rd_L1 l 0 := by simp [rd_L1]
      rw [ecc] at hlx hcl hCC; rw [Addr.add_zero'] at hlx
      obtain ⟨cc, hcc⟩ : ∃ cc, cc = rd_L1 l 0 := ⟨_, rfl⟩
      rw [← hcc] at hl i0 i1 j0 j1 hv hh hlx hcl hCC; obtain ⟨i, hi⟩ := Int.eq_ofNat_of_zero_le i0; obtain ⟨j, hj⟩ := Int.eq_ofNat_of_zero_le j0; rw [hi] at i1 j1 hv hh; rw [hj] at j1 hv hh; obtain ⟨cd, e2, hx0⟩ := Kd.at_int hCC 0 (by omega) (by omega); obtain ⟨cd2, e3, hx1⟩ := Kd.at_int hCC 1 (by omega) (by omega); rw [e2] at e3; injection e3 with e3; subst e3; subst e2; rw [show (0 : Int).toNat = 0 from rfl, Addr.add_zero', hi] at hx0; rw [show (1 : Int).toNat = 1 from rfl, Addr.add_succ' cd 0, hj] at hx1; replace hx1 : wc.cell? ⟨cd.block, cd.off + 1, none⟩ = some (.int .i64 (j : Int)) := hx1
      have hil : i < h'.length := by omega
      have hjl : j < (rd_L1 h' (i : Int)).length := by omega
      obtain ⟨ad, g, cr, e4, hg1, hg0, hgl, hput⟩ := S_putB HST9.out.h i j hil hjl; subst e4; have bl : decide (0 < l.length) = true := decide_eq_true hl0
      have q0 : 0 < cc.length := by omega
      have q1 : (1 : Int) < (cc.length : Int) := by omega
      have b0 : decide (0 < cc.length) = true := decide_eq_true q0; have b1 : decide (1 < cc.length) = true := decide_eq_true hl; have HH' := Aside0.mk hh; have HPUT := Aside0.mk hput; have HGF := Aside0.mk (And.intro hg1 (And.intro hg0 hgl)); have HOL := Aside0.mk hol; have HV := Aside0.mk hv; have HIJ := Aside0.mk (And.intro hil hjl); clear hput hg1 hg0 hgl hi hj hol hh HH hCC i0 i1 j0 j1 hv hcl hcc ecc hil hjl HL9
      go_upto_region 8 with fail
      refine start_ (n := 12) (S := fun w' => w'.cell? la = some (.slice (some cd) cc.length cc_) ∧ w'.cell? cd = some (.int .i64 (i : Int)) ∧ w'.cell? ⟨cd.block, cd.off + 1, none⟩ = some (.int .i64 (j : Int))) (ds := []) #[fF, fF, fF, fF, fF, fF, fF, fF, fF, fF, fF, fF] (by kernel_rfl) rfl rfl ⟨hlx, hx0, hx1⟩ (fun hHeld => ?_); refine pure_ (i := 0) (N := some 36) (v := ?_) (a' := ?_) #[tT, fF, fF, fF, fF, fF, fF, fF, fF, fF, fF, fF] rfl rfl (by kernel_rfl) (fun _ _ _ h => h) (Or.inl ⟨by rfl, ?_⟩) ?_ ?_; rotate_left
      ·intro w'; go_simp; with_reducible rfl
      rotate_left
      ·simp only [Act.put, List.setIfInBounds_toArray, List.set_cons_zero, List.set_cons_succ, i64_w, i32_w]; rfl
      refine pure_ (i := 1) (N := some 37) (v := ?_) (a' := ?_) #[tT, tT, fF, fF, fF, fF, fF, fF, fF, fF, fF, fF] rfl rfl (by kernel_rfl) (fun _ _ _ h => h) (Or.inl ⟨by rfl, ?_⟩) ?_ ?_; rotate_left
      ·intro w'; go_simp; with_reducible rfl
      rotate_left
      ·simp only [Act.put, List.setIfInBounds_toArray, List.set_cons_zero, List.set_cons_succ, i64_w, i32_w]; rfl
      refine pure_ (i := 5) (N := some 41) (v := ?_) (a' := ?_) #[tT, tT, fF, fF, fF, tT, fF, fF, fF, fF, fF, fF] rfl rfl (by kernel_rfl) (fun _ _ _ h => h) (Or.inl ⟨by rfl, ?_⟩) ?_ ?_; rotate_left
      ·intro w'; go_simp; with_reducible rfl
      rotate_left
      ·simp only [Act.put, List.setIfInBounds_toArray, List.set_cons_zero, List.set_cons_succ, i64_w, i32_w]; rfl
      refine pure_ (i := 6) (N := some 42) (v := ?_) (a' := ?_) #[tT, tT, fF, fF, fF, tT, tT, fF, fF, fF, fF, fF] rfl rfl (by kernel_rfl) (fun _ _ _ h => h) (Or.inl ⟨by rfl, ?_⟩) ?_ ?_; rotate_left
      ·intro w'; go_simp; with_reducible rfl
      rotate_left
      ·simp only [Act.put, List.setIfInBounds_toArray, List.set_cons_zero, List.set_cons_succ, i64_w, i32_w]; rfl
      refine take_ (i := 2) (N := some 38) (v := ?_) (a' := ?_) #[tT, tT, tT, fF, fF, tT, tT, fF, fF, fF, fF, fF] rfl rfl (by kernel_rfl) (fun _ _ _ h => h) (Or.inl ⟨by rfl, ?_⟩) hHeld ?_ ?_; rotate_left
      ·rintro w' ⟨s0, s1, s2⟩; go_simp; with_reducible rfl
      rotate_left
      ·simp only [Act.put, List.setIfInBounds_toArray, List.set_cons_zero, List.set_cons_succ, i64_w, i32_w]; rfl
      refine pure_ (i := 3) (N := some 39) (v := ?_) (a' := ?_) #[tT, tT, tT, tT, fF, tT, tT, fF, fF, fF, fF, fF] rfl rfl (by kernel_rfl) (fun _ _ _ h => h) (Or.inl ⟨by rfl, ?_⟩) ?_ ?_; rotate_left
      ·intro w'; go_simp; with_reducible rfl
      rotate_left
      ·simp only [Act.put, List.setIfInBounds_toArray, List.set_cons_zero, List.set_cons_succ, i64_w, i32_w]; rfl
      refine take_ (i := 4) (N := some 40) (v := ?_) (a' := ?_) #[tT, tT, tT, tT, tT, tT, tT, fF, fF, fF, fF, fF] rfl rfl (by kernel_rfl) (fun _ _ _ h => h) (Or.inl ⟨by rfl, ?_⟩) hHeld ?_ ?_; rotate_left
      ·rintro w' ⟨s0, s1, s2⟩; go_simp; with_reducible rfl
      rotate_left
      ·simp only [Act.put, List.setIfInBounds_toArray, List.set_cons_zero, List.set_cons_succ, i64_w, i32_w]; rfl
      refine pure_ (i := 10) (N := some 10) (v := ?_) (a' := ?_) #[tT, tT, tT, tT, tT, tT, tT, fF, fF, fF, tT, fF] rfl rfl (by kernel_rfl) (fun _ _ _ h => h) (Or.inl ⟨by rfl, ?_⟩) ?_ ?_; rotate_left
      ·intro w'; go_simp; with_reducible rfl
      rotate_left
      ·simp only [Act.put, List.setIfInBounds_toArray, List.set_cons_zero, List.set_cons_succ, i64_w, i32_w]; rfl
      refine take_ (i := 7) (N := some 43) (v := ?_) (a' := ?_) #[tT, tT, tT, tT, tT, tT, tT, tT, fF, fF, tT, fF] rfl rfl (by kernel_rfl) (fun _ _ _ h => h) (Or.inl ⟨by rfl, ?_⟩) hHeld ?_ ?_; rotate_left
      ·rintro w' ⟨s0, s1, s2⟩; go_simp; with_reducible rfl
      rotate_left
      ·simp only [Act.put, List.setIfInBounds_toArray, List.set_cons_zero, List.set_cons_succ, i64_w, i32_w]; rfl
      refine pure_ (i := 8) (N := some 44) (v := ?_) (a' := ?_) #[tT, tT, tT, tT, tT, tT, tT, tT, tT, fF, tT, fF] rfl rfl (by kernel_rfl) (fun _ _ _ h => h) (Or.inl ⟨by rfl, ?_⟩) ?_ ?_; rotate_left
      ·intro w'; go_simp; with_reducible rfl
      rotate_left
      ·simp only [Act.put, List.setIfInBounds_toArray, List.set_cons_zero, List.set_cons_succ, i64_w, i32_w]; rfl
      refine take_ (i := 9) (N := some 45) (v := ?_) (a' := ?_) #[tT, tT, tT, tT, tT, tT, tT, tT, tT, tT, tT, fF] rfl rfl (by kernel_rfl) (fun _ _ _ h => h) (Or.inl ⟨by rfl, ?_⟩) hHeld ?_ ?_; rotate_left
      ·rintro w' ⟨s0, s1, s2⟩; go_simp; with_reducible rfl
      rotate_left
      ·simp only [Act.put, List.setIfInBounds_toArray, List.set_cons_zero, List.set_cons_succ, i64_w, i32_w]; rfl
      refine pure_ (i := 11) (N := some 11) (v := ?_) (a' := ?_) #[tT, tT, tT, tT, tT, tT, tT, tT, tT, tT, tT, tT] rfl rfl (by kernel_rfl) (fun _ _ _ h => h) (Or.inl ⟨by rfl, ?_⟩) ?_ ?_; rotate_left
      ·intro w'; go_simp; with_reducible rfl
      rotate_left
      ·simp only [Act.put, List.setIfInBounds_toArray, List.set_cons_zero, List.set_cons_succ, i64_w, i32_w]; rfl
      refine done_ (by kernel_rfl) ?_
      obtain ⟨wd, hwd⟩ : ∃ wd, wd = wc.drew := ⟨_, rfl⟩
      have HBD := Aside0.mk (show Below wc.heap.size wc wd by rw [hwd]; exact below_drew (Below.refl _ _)); rw [← hwd]; clear hwd hHeld; have HSTD := Aside0.mk (HST9.out.move HBD.out)
      have hput := fun (W : World) (hb : Below wd.heap.size wd W) => HPUT.out W (below_step HBD.out hb)
      obtain ⟨hrow, hnum, _, _⟩ := hput wd (Below.refl _ _); have HPUT2 := Aside0.mk hput; clear hput HPUT; have hil := HIJ.out.1; have hjl := HIJ.out.2; have bi : decide (i < h'.length) = true := decide_eq_true hil; have bj : decide (j < (rd_L1 h' (i : Int)).length) = true := decide_eq_true hjl
      obtain ⟨x, hx⟩ : ∃ x, x = rd (rd_L1 h' (i : Int)) (j : Int) := ⟨_, rfl⟩
      rw [← hx] at hnum; have HX := Aside0.mk hx
      obtain ⟨rl, hrl⟩ : ∃ rl, rl = (rd_L1 h' (i : Int)).length := ⟨_, rfl⟩
      rw [← hrl] at hrow hjl bj; have hx6 := HSTD.out.x6.cell; have HCd := Aside0.mk ((HSTD.out.h.reads).2.2); have HCl := Aside0.mk ((HSTD.out.h.reads).2.1); clear hx hrl HST9
      go_upto_region 9 with fail
      refine start_ (n := 14) (S := fun w' => Below wd.heap.size wd w' ∧ w'.cell? ⟨b6, 0, none⟩ = some (.slice (some ad) h'.length ch) ∧ w'.cell? (ad.add i) = some (.slice (some ⟨g, 0, none⟩) rl cr) ∧ w'.cell? ⟨g, j, none⟩ = some (.int .i64 x)) (ds := [13]) #[fF, fF, fF, fF, fF, fF, fF, fF, fF, fF, fF, fF, fF, fF] (by kernel_rfl) rfl rfl ⟨(below_drew (Below.refl _ _)), hx6, hrow, hnum⟩ (fun hHeld => ?_); refine pure_ (i := 1) (N := some 47) (v := ?_) (a' := ?_) #[fF, tT, fF, fF, fF, fF, fF, fF, fF, fF, fF, fF, fF, fF] rfl rfl (by kernel_rfl) (fun _ _ _ h => h) (Or.inl ⟨by rfl, ?_⟩) ?_ ?_; rotate_left
      ·intro w'; go_simp; with_reducible rfl
      rotate_left
      ·simp only [Act.put, List.setIfInBounds_toArray, List.set_cons_zero, List.set_cons_succ, i64_w, i32_w]; rfl
      refine pure_ (i := 4) (N := some 50) (v := ?_) (a' := ?_) #[fF, tT, fF, fF, tT, fF, fF, fF, fF, fF, fF, fF, fF, fF] rfl rfl (by kernel_rfl) (fun _ _ _ h => h) (Or.inl ⟨by rfl, ?_⟩) ?_ ?_; rotate_left
      ·intro w'; go_simp; with_reducible rfl
      rotate_left
      ·simp only [Act.put, List.setIfInBounds_toArray, List.set_cons_zero, List.set_cons_succ, i64_w, i32_w]; rfl
      refine pure_ (i := 8) (N := some 54) (v := ?_) (a' := ?_) #[fF, tT, fF, fF, tT, fF, fF, fF, tT, fF, fF, fF, fF, fF] rfl rfl (by kernel_rfl) (fun _ _ _ h => h) (Or.inl ⟨by rfl, ?_⟩) ?_ ?_; rotate_left
      ·intro w'; go_simp; with_reducible rfl
      rotate_left
      ·simp only [Act.put, List.setIfInBounds_toArray, List.set_cons_zero, List.set_cons_succ, i64_w, i32_w]; rfl
      refine pure_ (i := 9) (N := some 55) (v := ?_) (a' := ?_) #[fF, tT, fF, fF, tT, fF, fF, fF, tT, tT, fF, fF, fF, fF] rfl rfl (by kernel_rfl) (fun _ _ _ h => h) (Or.inl ⟨by rfl, ?_⟩) ?_ ?_; rotate_left
      ·intro w'; go_simp; with_reducible rfl
      rotate_left
      ·simp only [Act.put, List.setIfInBounds_toArray, List.set_cons_zero, List.set_cons_succ, i64_w, i32_w]; rfl
      refine take_ (i := 0) (N := some 46) (v := ?_) (a' := ?_) #[tT, tT, fF, fF, tT, fF, fF, fF, tT, tT, fF, fF, fF, fF] rfl rfl (by kernel_rfl) (fun _ _ _ h => h) (Or.inl ⟨by rfl, ?_⟩) hHeld ?_ ?_; rotate_left
      ·rintro w' ⟨s0, s1, s2, s3⟩; go_simp; with_reducible rfl
      rotate_left
      ·simp only [Act.put, List.setIfInBounds_toArray, List.set_cons_zero, List.set_cons_succ, i64_w, i32_w]; rfl
      refine pure_ (i := 2) (N := some 48) (v := ?_) (a' := ?_) #[tT, tT, tT, fF, tT, fF, fF, fF, tT, tT, fF, fF, fF, fF] rfl rfl (by kernel_rfl) (fun _ _ _ h => h) (Or.inl ⟨by rfl, ?_⟩) ?_ ?_; rotate_left
      ·intro w'; go_simp; with_reducible rfl
      rotate_left
      ·simp only [Act.put, List.setIfInBounds_toArray, List.set_cons_zero, List.set_cons_succ, i64_w, i32_w]; rfl
      refine take_ (i := 3) (N := some 49) (v := ?_) (a' := ?_) #[tT, tT, tT, tT, tT, fF, fF, fF, tT, tT, fF, fF, fF, fF] rfl rfl (by kernel_rfl) (fun _ _ _ h => h) (Or.inl ⟨by rfl, ?_⟩) hHeld ?_ ?_; rotate_left
      ·rintro w' ⟨s0, s1, s2, s3⟩; go_simp; with_reducible rfl
      rotate_left
      ·simp only [Act.put, List.setIfInBounds_toArray, List.set_cons_zero, List.set_cons_succ, i64_w, i32_w]; rfl
      refine pure_ (i := 5) (N := some 51) (v := ?_) (a' := ?_) #[tT, tT, tT, tT, tT, tT, fF, fF, tT, tT, fF, fF, fF, fF] rfl rfl (by kernel_rfl) (fun _ _ _ h => h) (Or.inl ⟨by rfl, ?_⟩) ?_ ?_; rotate_left
      ·intro w'; go_simp; with_reducible rfl
      rotate_left
      ·simp only [Act.put, List.setIfInBounds_toArray, List.set_cons_zero, List.set_cons_succ, i64_w, i32_w]; rfl
      refine take_ (i := 6) (N := some 52) (v := ?_) (a' := ?_) #[tT, tT, tT, tT, tT, tT, tT, fF, tT, tT, fF, fF, fF, fF] rfl rfl (by kernel_rfl) (fun _ _ _ h => h) (Or.inl ⟨by rfl, ?_⟩) hHeld ?_ ?_; rotate_left
      ·rintro w' ⟨s0, s1, s2, s3⟩; go_simp; with_reducible rfl
      rotate_left
      ·simp only [Act.put, List.setIfInBounds_toArray, List.set_cons_zero, List.set_cons_succ, i64_w, i32_w]; rfl
      refine take_ (i := 7) (N := some 53) (v := ?_) (a' := ?_) #[tT, tT, tT, tT, tT, tT, tT, tT, tT, tT, fF, fF, fF, fF] rfl rfl (by kernel_rfl) (fun _ _ _ h => h) (Or.inl ⟨by rfl, ?_⟩) hHeld ?_ ?_; rotate_left
      ·rintro w' ⟨s0, s1, s2, s3⟩; go_simp; with_reducible rfl
      rotate_left
      ·simp only [Act.put, List.setIfInBounds_toArray, List.set_cons_zero, List.set_cons_succ, i64_w, i32_w]; rfl
      refine one_ (i := 10) (N := some 56) #[tT, tT, tT, tT, tT, tT, tT, tT, tT, tT, tT, fF, fF, fF] rfl rfl (by kernel_rfl) (by decide) (fun K hK => ?_); refine goes_ Try.func95 (by kernel_rfl) rfl #[.slice (some ad) h'.length ch, .int .i64 (i : Int), .int .i64 (j : Int)] (by rfl) rfl rfl (by simp only [List.map_toArray, List.map_cons, List.map_nil]; rfl) ?_
      with_reducible refine (impl_way.calls _ _ h' (i : Int) (j : Int) v _ (Kd.C_below HCd.out hHeld.1) HCl.out HV.out).mono ?_
      rintro e w3 ⟨rfl, hb⟩; refine ⟨_, rfl, ?_⟩; refine hK.out _ _ ⟨below_step hHeld.1 hb, pw_cell_below hb hHeld.2.1, pw_cell_below hb hHeld.2.2.1, pw_cell_below hb hHeld.2.2.2⟩ (fun hHeld => ?_); clear hK K; refine norm_ (a' := ?_) ?_ ?_; rotate_left
      ·show Act.put _ (some 56) _ = _; simp only [Act.put, List.setIfInBounds_toArray, List.set_cons_zero, List.set_cons_succ, i64_w, i32_w]; rfl
      refine pure_ (i := 11) (N := some 57) (v := ?_) (a' := ?_) #[tT, tT, tT, tT, tT, tT, tT, tT, tT, tT, tT, tT, fF, fF] rfl rfl (by kernel_rfl) (fun _ _ _ h => h) (Or.inl ⟨by rfl, ?_⟩) ?_ ?_; rotate_left
      ·intro w'; go_simp; with_reducible rfl
      rotate_left
      ·simp only [Act.put, List.setIfInBounds_toArray, List.set_cons_zero, List.set_cons_succ, i64_w, i32_w]; rfl
      refine pure_ (i := 12) (N := some 58) (v := ?_) (a' := ?_) #[tT, tT, tT, tT, tT, tT, tT, tT, tT, tT, tT, tT, tT, fF] rfl rfl (by kernel_rfl) (fun _ _ _ h => h) (Or.inl ⟨by rfl, ?_⟩) ?_ ?_; rotate_left
      ·intro w'; go_simp; with_reducible rfl
      rotate_left
      ·simp only [Act.put, List.setIfInBounds_toArray, List.set_cons_zero, List.set_cons_succ, i64_w, i32_w]; rfl
      refine last_ (i := 13) (N := none) #[tT, tT, tT, tT, tT, tT, tT, tT, tT, tT, tT, tT, tT, tT] rfl rfl (by kernel_rfl) (by decide) (fun K hK => ?_); have HWD := Aside0.mk hHeld.1; have hx7 := hHeld.2.2.1; have hx8 := hHeld.2.2.2; have hx9 := (HPUT2.out _ hHeld.1).2.2.1; refine skip_ (w1 := ?_) (by rfl) rfl ?_ ?_; rotate_left
      ·go_simp; rfl
      refine hK.out _ _ ?_; clear hK K; refine done_ (by kernel_rfl) ?_
      obtain ⟨w4, hw4⟩ : ∃ w4, w4 = w3.setCell ⟨g, j, none⟩ (.int .i64 (wrap64 (x + v))) := ⟨_, rfl⟩
      have hp := (HPUT2.out w3 HWD.out).2.2.2 (wrap64 (x + v)); rw [← hw4] at hp ⊢
      have HST4 := Aside0.mk ((HSTD.out.move HWD.out).put (W' := w4) (h2 := fpStep h' (i : Int) (j : Int) v) HGF.out.2.1 HGF.out.1 (by
       unfold fpStep; rw [Int.toNat_natCast, Int.toNat_natCast, ← HX.out]
       exact hp.1) hp.2 (by rw [hw4]; exact (HSTD.out.move HWD.out).below.setCell (p := ⟨g, j, none⟩) (by have := HGF.out.2.1; have := HSTD.out.lo; show w.heap.size ≤ g; omega) _))
      obtain ⟨y, hy⟩ : ∃ y : List Int, y = ([(i : Int), (j : Int)] : List Int) := ⟨_, rfl⟩
      have NY := Aside0.mk hy; clear hp hw4 hx7 hx8 hx9 hx6 HWD hHeld hrow hnum hb HSTD HPUT2 HCd HCl hlx hx0 hx1 hy
      go_wp2_with (first | ((with_reducible refine gate_dst (N := 62) rfl ?_); refine Kd.R_lit (Kd.int .i64) (w0 := w4) w4.heap.size 3 ?hg (N := 62) ?hd (xs := ([(i : Int), (j : Int)] : List Int)) (inner := [.int .i64 (i : Int), .int .i64 (j : Int)]) (ok := fun _ => True) (okp := fun _ => True) ?hr ?hp (fun _ hk => hk) trivial (Below.refl _ _) (Nat.le_refl _) (by simp) ?_; (case hd => rfl); (case hg => rfl); (case hr => first | (go_simp; done) | (go_simp; rfl)); (case hp => exact (Reps.one (show Kd.M (Kd.int .i64) _ _ _ (i : Int) [.int .i64 (i : Int)] from rfl) (Reps.one (show Kd.M (Kd.int .i64) _ _ _ (j : Int) [.int .i64 (j : Int)] from rfl) (Reps.none _ _)))); intro v62 w5 ho hb hg_ hnew_; clear hg_ hnew_; (first | rw [← NY.out] at ho | (simp only [Int.reduceToNat] at ho; rw [← NY.out] at ho)); have HY5 := Aside0.mk ho; have HB5 := Aside0.mk hb; have HST5 := Aside0.mk (HST4.out.move hb); clear ho hb; obtain ⟨Ay, cy, ey⟩ := Kd.R_slice HY5.out; subst ey) | ((with_reducible refine gate_builtin (b := .append) (xs := #[.tmp 59, .tmp 63]) rfl ?_); at_builtin; refine Kd.S_append (Kd.slice 3 (Kd.int .i64)) (w0 := w5) s2 rfl (.tmp 59) (.tmp 63) 23 22 (.slice none 0 0) 24 rfl Try.underlying23 info22 rfl (by decide) (by omega) u8 out y [.slice Ay y.length cy] (fun k => k ≠ b6 ∧ k ≠ b6 + 1) (fun k_ => some k_ = (.slice Ay y.length cy : Value).ownBlock) rfl rfl ?aP ?aQ ?aF ?aO ?aB ?aS ?aL ?_; (case aP => exact Kd.M_row (Kd.R_lower (Kd.R_tight rfl HY5.out) (by have := HST4.out.x6.lt; have := HST4.out.lo; omega))); (case aQ => exact (fun k_ hk_ => by have h1 := Kd.R_base HY5.out k_ hk_.symm; have h2 := HST4.out.x6.lt; have h3 := HST4.out.x7.lt; exact ⟨⟨by omega, by omega⟩, fun e_ => by have := Kd.S_lt HST4.out.out k_ e_.symm; omega⟩)); (case aF => exact (fun k_ hk_ => by have h2 := HST5.out.x6.lt; have h3 := HST5.out.x7.lt; exact ⟨by omega, by omega⟩)); (case aO => exact Kd.S_mono (Kd.S_old HST4.out.out HB5.out) (fun k_ hk_ => ⟨hk_.1, fun e_ => by have := Kd.R_base HY5.out k_ e_.symm; have := hk_.2; omega⟩)); (case aB => exact Below.refl _ _); (case aS => have := HST5.out.x6.lt; have := HST5.out.lo; omega); (case aL => have := HOL.out; omega); intro v1 w6 ho hb hg hat; have HST6 := Aside0.mk (HST5.out.push ho hb hg); clear ho hb hg hat))
      rw [HNH.out]
      go_roundg k2
      case measure => omega
      case rel =>
       rw [← HNH.out]; exact ⟨_, _, ⟨by rw [NY.out]; exact HH'.out⟩, HST6⟩
end Go.Proofs.Ythjiajkmaimbjaa.P
