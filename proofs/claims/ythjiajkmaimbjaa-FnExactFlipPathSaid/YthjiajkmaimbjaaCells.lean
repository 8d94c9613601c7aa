/- impl.cells for any predicate's closure that only reads. -/
import Derived.Test.YthjiajkmaimbjaaTab
namespace Go.Proofs.Ythjiajkmaimbjaa.P
open Go.Proofs.Ythjiajkmaimbjaa.B
open Go.RowKit Go.Proofs.YthjiajkmaimbjaaW.PrintWords Go.Proofs.YthjiajkmaimbjaaW.PrintLast Go.Proofs.YthjiajkmaimbjaaW.PrintMore
set_option linter.unusedVariables false
set_option linter.unusedSimpArgs false
mutual
def impl_cells.l0 : Nat → Int → (Int → Int → Bool) → List (List Int) → Int → Option (List (List Int))
 | 0, _, _, _, _ => none
 | k + 1, n, P, x5, x6 => if x6 < n then (impl_cells.l1 k n P x5 x6 1) else (some x5)
def impl_cells.l1 : Nat → Int → (Int → Int → Bool) → List (List Int) → Int → Int → Option (List (List Int))
 | 0, _, _, _, _, _ => none
 | k + 1, n, P, x5, x6, x7 => if x7 < n then (if P x6 x7 = true then (if x5.length < 5864062014805 then (impl_cells.l1 k n P (x5 ++ [(([x6, x7] : List Int))]) x6 (wrap64 (x7 + 1))) else (none)) else (impl_cells.l1 k n P x5 x6 (wrap64 (x7 + 1)))) else (impl_cells.l0 k n P x5 (wrap64 (x6 + 1)))
end
def impl_cells.f (k : Nat) (n : Int) (P : Int → Int → Bool) : Option (List (List Int)) := impl_cells.l0 k n P ([] : List (List Int)) 1
attribute [local go_sem] max2_int min2_int max_two min_two
set_option maxHeartbeats 8000000 in
set_option maxRecDepth 100000 in
theorem cells_any (F : Nat) (caps : Array Value) (hE : Enters Try.prog F) (k : Nat) (n : Int) (P : Int → Int → Bool) (r : List (List Int)) (w : World) (hn : n ≤ 1048576)
  (hF : ∀ (W : World), Below w.heap.size w W → ∀ i j : Int, 1 ≤ i → i < n → 1 ≤ j → j < n → Calls Try.prog F (#[.int .i64 i, .int .i64 j] ++ caps) W fun e w' => e = .returned (.bool (P i j)) ∧ Below W.heap.size W w') (h : impl_cells.f k n P = some r) :
  Calls Try.prog 93 #[.int .i64 n, .func (.func F) #[] caps] w fun e w' => ∃ v0_ : Value, e = .returned (v0_) ∧ Kd.S (Kd.slice 3 (Kd.int .i64)) 22 w' w.heap.size (fun _ => True) v0_ r ∧ Below w.heap.size w w' := by
 have HF := Aside0.mk hF; have HN := Aside0.mk hn; have hE1 := hE; unfold Enters at hE1; clear hF hn; have HB := Aside0.mk (Below.refl w.heap.size w); have H : (impl_cells.l0 k n P ([] : List (List Int)) 1) = some r := h; clear h; have H' := Aside0.mk H; clear H; go_enter Try.func93, Try.ntmps93
 go_wp2_with ((with_reducible refine gate_dst (N := 8) rfl ?_); refine Kd.S_lit (Kd.slice 3 (Kd.int .i64)) _ 22 ?hg (N := 8) ?hd (xs := ([] : List (List Int))) (inner := []) (ok := fun _ => True) (okp := fun _ => True) ?hr ?hp (fun _ hk => hk) trivial (Below.refl _ _) (Nat.le_refl _) (by simp) ?_; (case hd => rfl); (case hg => rfl); (case hr => first | (go_simp; done) | (go_simp; rfl)); (case hp => exact Reps.none _ _); intro v8 w1 ho hb hg_ hnew_; clear hg_ hnew_; have HO8 := Aside0.mk ho; clear HB; have HB := Aside0.mk hb; clear ho hb)
 go_loopg [5, 6] k (fun kq v5 v6 w' => ∃ (x5_1 : List (List Int)) (x6_1 : Int), v6 = .int .i64 x6_1 ∧ Aside0 (impl_cells.l0 kq n P x5_1 x6_1 = some r) ∧ Aside0 (kq ≤ k ∧ 1 ≤ x6_1) ∧ Aside0 (Kd.S (Kd.slice 3 (Kd.int .i64)) 22 w' w.heap.size (fun _ => True) v5 x5_1) ∧ Aside0 (Below w.heap.size w w'))
 case atStart => exact ⟨(([] : List (List Int))), (1), (by first | rfl | (simp; done) | (simp [*]; done)), H', ⟨Nat.le_refl _, by omega⟩, ⟨by (with_reducible repeat (first | apply Kd.S_alloc | apply Kd.S_drewN | apply Kd.S_drew)); exact HO8.out⟩, ⟨by repeat (first | (with_reducible first | exact HB.out | apply below_alloc | apply pw_below_drewN | apply below_drew1) | exact HB.out)⟩⟩
 case round =>
  clear H'
  try clear p2
  obtain ⟨x5_1, x6_1, rfl, HA, HK1, HO_5, HB⟩ := hrel
  cases gk with
  | zero => exact absurd HA.out (by simp [impl_cells.l0])
  | succ k1 =>
   have H := HA.out; clear HA; simp only [impl_cells.l0] at H
   by_cases c3 : x6_1 < n
   ·rw [if_pos c3] at H
    have c3b0 : decide (x6_1 < n) = true := decide_eq_true c3; have C3 := Aside0.mk c3; clear c3; have H' := Aside0.mk H; clear H; go_wp2
    go_loopg [5, 7] k1 (fun kq v5 v7 w' => ∃ (x5_2 : List (List Int)) (x7_2 : Int), v7 = .int .i64 x7_2 ∧ Aside0 (impl_cells.l1 kq n P x5_2 x6_1 x7_2 = some r) ∧ Aside0 (kq ≤ k1 ∧ 1 ≤ x7_2) ∧ Aside0 (Kd.S (Kd.slice 3 (Kd.int .i64)) 22 w' w.heap.size (fun _ => True) v5 x5_2) ∧ Aside0 (Below w.heap.size w w'))
    case atStart => exact ⟨(x5_1), (1), (by first | rfl | (simp; done) | (simp [*]; done)), H', ⟨Nat.le_refl _, by omega⟩, ⟨by (with_reducible repeat (first | apply Kd.S_alloc | apply Kd.S_drewN | apply Kd.S_drew)); exact HO_5.out⟩, ⟨by repeat (first | (with_reducible first | exact HB.out | apply below_alloc | apply pw_below_drewN | apply below_drew1) | exact HB.out)⟩⟩
    case round =>
     clear H'
     try clear p2
     try clear c3
     try clear c3b0
     try clear p2
     obtain ⟨x5_2, x7_2, rfl, HA, HK2, HO_5, HB⟩ := hrel
     cases gk with
     | zero => exact absurd HA.out (by simp [impl_cells.l1])
     | succ k2 =>
      have H := HA.out; clear HA; simp only [impl_cells.l1] at H
      by_cases c4 : x7_2 < n
      ·rw [if_pos c4] at H
       have c4b0 : decide (x7_2 < n) = true := decide_eq_true c4; clear c4
       have hin : 1 ≤ x6_1 ∧ x6_1 < n ∧ 1 ≤ x7_2 ∧ x7_2 < n := ⟨HK1.out.2, C3.out, HK2.out.2, of_decide_eq_true c4b0⟩
       have hcall := fun (W : World) (hb : Below w.heap.size w W) => HF.out W hb x6_1 x7_2 hin.1 hin.2.1 hin.2.2.1 hin.2.2.2
       have HC := Aside0.mk hcall; have HIN := Aside0.mk hin; clear hcall hin
       by_cases c6 : P x6_1 x7_2 = true
       ·rw [if_pos c6] at H
        rw [c6] at HC; clear c6
        obtain ⟨y391, hy391⟩ : ∃ y_ : List Int, y_ = (([x6_1, x7_2] : List Int)) := ⟨_, rfl⟩
        replace H : (if x5_2.length < 5864062014805 then (impl_cells.l1 k2 n P (x5_2 ++ [y391]) x6_1 (wrap64 (x7_2 + 1))) else (none)) = some r := by first | (rw [hy391]; with_reducible exact H) | (have H2_ := (Option.bind_some _ _).symm.trans H; rw [hy391]; with_reducible exact H2_) | (have H2_ := (Option.bind_some _ _).symm.trans H; with_reducible exact H2_) | with_reducible exact H | (rw [hy391]; exact H) | exact H
        have Ny391 := Aside0.mk hy391; clear hy391
        by_cases c7 : x5_2.length < 5864062014805
        ·rw [if_pos c7] at H
         have LMc7 := Aside0.mk c7; clear c7
         obtain ⟨y394, hy394⟩ : ∃ y_ : List (List Int), y_ = (x5_2 ++ [y391]) := ⟨_, rfl⟩
         replace H : (impl_cells.l1 k2 n P y394 x6_1 (wrap64 (x7_2 + 1))) = some r := by first | (rw [hy394]; with_reducible exact H) | (have H2_ := (Option.bind_some _ _).symm.trans H; rw [hy394]; with_reducible exact H2_) | (have H2_ := (Option.bind_some _ _).symm.trans H; with_reducible exact H2_) | with_reducible exact H | (rw [hy394]; exact H) | exact H
         have Ny394 := Aside0.mk hy394; clear hy394; have H' := Aside0.mk H; clear H
         go_wp2_with (first | (go_at_fn F; (refine (HC.out _ (by repeat (first | (with_reducible first | exact HB.out | apply below_alloc | apply pw_below_drewN | apply below_drew1) | exact HB.out))).mono ?_); rintro e w8 ⟨rfl, hb⟩; have n0_ := Aside0.mk (Kd.S_below (by (with_reducible repeat (first | apply Kd.S_alloc | apply Kd.S_drewN | apply Kd.S_drew)); exact HO_5.out) hb); have n1_ := Aside0.mk (below_step (by repeat (first | (with_reducible first | exact HB.out | apply below_alloc | apply pw_below_drewN | apply below_drew1) | exact HB.out)) hb); clear HO_5; clear HB; have HO_5 := n0_; have HB := n1_; clear n0_ n1_; (try clear hb); (try clear hb2); (try clear hk); (try clear hi)) | ((with_reducible refine gate_dst (N := 26) rfl ?_); refine Kd.R_lit (Kd.int .i64) _ 3 ?hg (N := 26) ?hd (xs := ([x6_1, x7_2] : List Int)) (inner := [.int .i64 x6_1, .int .i64 x7_2]) (ok := fun _ => True) (okp := fun _ => True) ?hr ?hp (fun _ hk => hk) trivial (Below.refl _ _) (Nat.le_refl _) (by simp) ?_; (case hd => rfl); (case hg => rfl); (case hr => first | (go_simp; done) | (go_simp; rfl)); (case hp => exact (Reps.one (show Kd.M (Kd.int .i64) _ _ _ x6_1 [.int .i64 x6_1] from rfl) (Reps.one (show Kd.M (Kd.int .i64) _ _ _ x7_2 [.int .i64 x7_2] from rfl) (Reps.none _ _)))); intro v392 w9 ho10 hb hg_ hnew_; clear hg_ hnew_; (first | rw [← Ny391.out] at ho10 | (simp only [Int.reduceToNat] at ho10; rw [← Ny391.out] at ho10)); have n0_ := Aside0.mk (Kd.S_elder' (by (with_reducible repeat (first | apply Kd.S_alloc | apply Kd.S_drewN | apply Kd.S_drew)); exact HO_5.out) (Kd.R_base ho10) hb); have n1_ := Aside0.mk (Kd.R_lower ho10 (below_size (by repeat (first | (with_reducible first | exact HB.out | apply below_alloc | apply pw_below_drewN | apply below_drew1) | exact HB.out)))); have n2_ := Aside0.mk (below_step (by repeat (first | (with_reducible first | exact HB.out | apply below_alloc | apply pw_below_drewN | apply below_drew1) | exact HB.out)) hb); clear HO_5; clear HB; have HO_5 := n0_; have HO393 := n1_; have HB := n2_; clear n0_ n1_ n2_; clear hb ho10; obtain ⟨Ao12, co12, eo12⟩ := Kd.R_slice HO393.out; subst eo12) | ((with_reducible refine gate_builtin (b := .append) (xs := #[.tmp 23, .tmp 27]) rfl ?_); at_builtin; refine Kd.S_append (Kd.slice 3 (Kd.int .i64)) (w0 := w) w.heap.size rfl (.tmp 23) (.tmp 27) 23 22 (.slice none 0 0) 24 rfl Try.underlying23 info22 rfl (by decide) (by omega) u5 x5_2 y391 [.slice Ao12 y391.length co12] (fun _ => True) (fun k_ => some k_ = (.slice Ao12 y391.length co12 : Value).ownBlock) rfl rfl ?aP (fun k_ hk_ => ((Kd.R_mono (ok' := fun k_ => ((fun _ => True)) k_ ∧ some k_ ≠ (u5 : Value).ownBlock) (Kd.R_apart' (HO393.out) (Kd.S_typed HO_5.out) (by decide)) (fun k_ hk => ⟨trivial, hk.2⟩))).1 k_ hk_.symm) ?aF ?aO ?aB ?aS ?aL ?_; (case aP => exact Kd.M_row (Kd.R_mono (Kd.R_tight rfl (Kd.R_mono (ok' := fun k_ => ((fun _ => True)) k_ ∧ some k_ ≠ (u5 : Value).ownBlock) (Kd.R_apart' (HO393.out) (Kd.S_typed HO_5.out) (by decide)) (fun k_ hk => ⟨trivial, hk.2⟩))) (fun _ h_ => h_))); (case aB => exact (by repeat (first | (with_reducible first | exact HB.out | apply below_alloc | apply pw_below_drewN | apply below_drew1) | exact HB.out))); (case aF => exact (fun _ _ => trivial)); (case aO => exact (by (with_reducible repeat (first | apply Kd.S_alloc | apply Kd.S_drewN | apply Kd.S_drew)); exact Kd.S_mono HO_5.out (fun k_ hk => ⟨trivial, fun e_ => hk.2 e_⟩))); (case aS => exact (below_size (by repeat (first | (with_reducible first | exact HB.out | apply below_alloc | apply pw_below_drewN | apply below_drew1) | exact HB.out)))); (case aL => have := LMc7.out; omega); intro v395 w11 ho hb hg hat; rw [← Ny394.out] at ho; have n0_ := Aside0.mk (hb); have n1_ := Aside0.mk (ho); clear HB; clear HO_5; clear HO393; have HB := n0_; have HO396 := n1_; clear n0_ n1_; clear ho hb hg hat))
         go_roundg k2
         case measure => have := HK1.out; have := HK2.out; omega
         case rel => exact ⟨(y394), (wrap64 (x7_2 + 1)), (by first | rfl | (simp; done) | (simp [*]; done)), H', ⟨by have := HK1.out; have := HK2.out; omega, by rw [wrapE _ (by have := HK1.out; have := HK2.out; have := HN.out; omega) (by have := C3.out; have := c4b0; first | (have := of_decide_eq_true c4b0; have := HN.out; omega) | (have := HN.out; omega))]; have := HK1.out; have := HK2.out; omega⟩, ⟨by (with_reducible repeat (first | apply Kd.S_alloc | apply Kd.S_drewN | apply Kd.S_drew)); exact HO396.out⟩, ⟨by repeat (first | (with_reducible first | exact HB.out | apply below_alloc | apply pw_below_drewN | apply below_drew1) | exact HB.out)⟩⟩
        ·rw [if_neg c7] at H; exact absurd H (by simp)
       ·rw [if_neg c6] at H
        rw [Bool.eq_false_iff.mpr c6] at HC; clear c6; have H' := Aside0.mk H; clear H
        go_wp2_with (first | (go_at_fn F; (refine (HC.out _ (by repeat (first | (with_reducible first | exact HB.out | apply below_alloc | apply pw_below_drewN | apply below_drew1) | exact HB.out))).mono ?_); rintro e w13 ⟨rfl, hb⟩; have n0_ := Aside0.mk (Kd.S_below (by (with_reducible repeat (first | apply Kd.S_alloc | apply Kd.S_drewN | apply Kd.S_drew)); exact HO_5.out) hb); have n1_ := Aside0.mk (below_step (by repeat (first | (with_reducible first | exact HB.out | apply below_alloc | apply pw_below_drewN | apply below_drew1) | exact HB.out)) hb); clear HO_5; clear HB; have HO_5 := n0_; have HB := n1_; clear n0_ n1_; (try clear hb); (try clear hb2); (try clear hk); (try clear hi)))
        go_roundg k2
        case measure => have := HK1.out; have := HK2.out; omega
        case rel => exact ⟨(x5_2), (wrap64 (x7_2 + 1)), (by first | rfl | (simp; done) | (simp [*]; done)), H', ⟨by have := HK1.out; have := HK2.out; omega, by rw [wrapE _ (by have := HK1.out; have := HK2.out; have := HN.out; omega) (by have := C3.out; have := c4b0; first | (have := of_decide_eq_true c4b0; have := HN.out; omega) | (have := HN.out; omega))]; have := HK1.out; have := HK2.out; omega⟩, ⟨by (with_reducible repeat (first | apply Kd.S_alloc | apply Kd.S_drewN | apply Kd.S_drew)); exact HO_5.out⟩, ⟨by repeat (first | (with_reducible first | exact HB.out | apply below_alloc | apply pw_below_drewN | apply below_drew1) | exact HB.out)⟩⟩
      ·rw [if_neg c4] at H
       have c4b0 : decide (x7_2 < n) = false := decide_eq_false c4; clear c4; have H' := Aside0.mk H; clear H; go_wp2
       go_roundg k2
       case measure => have := HK1.out; have := HK2.out; omega
       case rel => exact ⟨(x5_2), (wrap64 (x6_1 + 1)), (by first | rfl | (simp; done) | (simp [*]; done)), H', ⟨by have := HK1.out; have := HK2.out; omega, by rw [wrapE _ (by have := HK1.out; have := HK2.out; have := HN.out; omega) (by have := C3.out; have := c4b0; first | (have := of_decide_eq_true c4b0; have := HN.out; omega) | (have := HN.out; omega))]; have := HK1.out; have := HK2.out; omega⟩, ⟨by (with_reducible repeat (first | apply Kd.S_alloc | apply Kd.S_drewN | apply Kd.S_drew)); exact HO_5.out⟩, ⟨by repeat (first | (with_reducible first | exact HB.out | apply below_alloc | apply pw_below_drewN | apply below_drew1) | exact HB.out)⟩⟩
   ·rw [if_neg c3] at H; have c3b0 : decide (x6_1 < n) = false := decide_eq_false c3; clear c3; obtain rfl := Option.some.inj H; go_wp2; go_ret; exact ⟨_, by first | rfl | (simp [errW_none, errW_some] <;> rfl) | (simp [*, errW_none, errW_some] <;> rfl), by (with_reducible repeat (first | apply Kd.S_alloc | apply Kd.S_drewN | apply Kd.S_drew)); exact HO_5.out, by repeat (first | (with_reducible first | exact HB.out | apply below_alloc | apply pw_below_drewN | apply below_drew1) | exact HB.out)⟩
end Go.Proofs.Ythjiajkmaimbjaa.P
