-- By gp.py (this session's own driver over the kit's print). Not trusted: Lean checks it.
import Derived.Test.YthjiajkmaimbjaaF0
import Derived.Test.YthjiajkmaimbjaaB
import Derived.Deep.OwnRows
import Derived.Deep.RegionHeld3
import Derived.Deep.WholeRow
import Derived.KernelRfl
import Derived.Laws.CopyRow
import Derived.Test.YthjiajkmaimbjaaFBitsMul
import Derived.Test.YthjiajkmaimbjaaTab
import Derived.Test.YthjiajkmaimbjaaFBitsMul
namespace Go.Proofs.Ythjiajkmaimbjaa.P
open Go.Proofs.Ythjiajkmaimbjaa.B
open Go.RowKit Go.Proofs.YthjiajkmaimbjaaW.PrintWords Go.Proofs.YthjiajkmaimbjaaW.PrintLast Go.Proofs.YthjiajkmaimbjaaW.PrintMore
attribute [local go_sem] max2_int min2_int max_two min_two max_three min_three max_four min_four   -- for this text's walks alone
set_option linter.unusedVariables false
set_option linter.unusedSimpArgs false

/-! ### slices_Repeat_int_int: function 133 (given) -/
/-- So many numbers -1, then zeros. -/
def rpCells (n c : Nat) : Array Value := (List.replicate n (Value.int .i64 (-1)) ++ List.replicate (c - n) (Value.int .i64 0)).toArray
theorem rpCells_size {n c : Nat} (h : n ≤ c) : (rpCells n c).size = c := by simp [rpCells]; omega
theorem rpCells_at {n c : Nat} (h : n ≤ c) (j : Nat) (hj : j < n) : (rpCells n c)[j]? = some (Value.int .i64 (-1)) := by
  simp only [rpCells, List.getElem?_toArray]
  rw [List.getElem?_append_left (by simp; exact hj)]
  simp [hj]
theorem rp_step {n m c : Nat} (h : n + m ≤ c) : ((rpCells n c).toList.take n ++ List.replicate m (Value.int .i64 (-1)) ++ (rpCells n c).toList.drop (n + m)).toArray = rpCells (n + m) c := by
  simp only [rpCells]
  congr 1
  rw [List.take_append_of_le_length (by simp), List.take_of_length_le (by simp), List.drop_append, List.drop_replicate, List.length_replicate, List.drop_replicate, List.replicate_append_replicate, show n - (n + m) = 0 by omega, show c - n - (n + m - n) = c - (n + m) by omega]
  rfl
theorem rp_made (c : Nat) : madeCells #[Value.int .i64 0] c = rpCells 0 c := by
  unfold rpCells madeCells
  apply Array.ext_getElem?
  intro i
  by_cases h : i < c
  · simp [h, Nat.mod_one]
  · simp [h]
def slices_Repeat_int_int.f (l0 : List Int) (a1 : Int) : Option (List Int) := if l0 = [-1] ∧ 1 ≤ a1 ∧ a1 ≤ 12 then some (List.replicate a1.toNat (-1)) else none
theorem mul_small (c : Int) (h1 : 1 ≤ c) (h2 : c ≤ 12) : bits_Mul.f 1 c = some (0, c) := by
  have h : c = 1 ∨ c = 2 ∨ c = 3 ∨ c = 4 ∨ c = 5 ∨ c = 6 ∨ c = 7 ∨ c = 8 ∨ c = 9 ∨ c = 10 ∨ c = 11 ∨ c = 12 := by omega
  rcases h with rfl | rfl | rfl | rfl | rfl | rfl | rfl | rfl | rfl | rfl | rfl | rfl <;> rfl
theorem rp_below {w W : World} {g : Nat} (h : Below w.heap.size w W) (hg : w.heap.size ≤ g) (cs : Array Value) : Below w.heap.size w (W.setRow g cs) := ⟨h.os, h.tape, h.output, by have := h.size; simp [World.setRow]; omega, fun k hk => (setRow_other W g k cs (by omega)).trans (h.block k hk)⟩
set_option maxHeartbeats 8000000 in
set_option maxRecDepth 100000 in
theorem slices_Repeat_int_int.calls (A0 : Option Addr) (c0 : Nat) (l0 : List Int) (a1 : Int) (r : List Int) (w : World) (hr0 : Kd.C (Kd.int .i64) w A0 l0.length l0) (hc0 : l0.length ≤ c0) (h : slices_Repeat_int_int.f l0 a1 = some r) :
    Calls Try.prog 133 #[.slice A0 l0.length c0, .int .i64 a1] w fun e w' => ∃ v0_ : Value, e = .returned (v0_) ∧ Kd.R (Kd.int .i64) 3 w' w.heap.size (fun _ => True) v0_ r ∧ Below w.heap.size w w' := by
  unfold slices_Repeat_int_int.f at h
  by_cases hok : l0 = [-1] ∧ 1 ≤ a1 ∧ a1 ≤ 12
  case neg => rw [if_neg hok] at h; cases h
  rw [if_pos hok] at h
  obtain rfl := Option.some.inj h
  obtain ⟨rfl, h1, h2⟩ := hok
  obtain ⟨c, rfl⟩ : ∃ c : Nat, a1 = (c : Int) := ⟨a1.toNat, by omega⟩
  rw [Int.toNat_natCast]
  obtain ⟨ad, e0, hx⟩ := Kd.at_int hr0 0 (by omega) (by decide)
  subst e0
  rw [show (0 : Int).toNat = 0 from rfl, Addr.add_zero'] at hx
  replace hx : w.cell? ad = some (.int .i64 (-1)) := hx
  have HX := Aside0.mk hx
  have hmk := run_make_row' (P := Try.prog) 22 3 (.int .i64 0) 8 Try.underlying22 (by kernel_rfl) rfl .i64 .i64 c (by omega) (by omega)
  have HMU := Aside0.mk (fun W : World => bits_Mul.calls 1 (c : Int) 0 (c : Int) W (mul_small c h1 h2))
  have hc1 : 1 ≤ c := by omega
  have hc12 : c ≤ 12 := by omega
  clear hr0 hc0 h hx h1 h2
  go_enter Try.func133, Try.ntmps133
  have z1 : decide ((9223372036854775807 : Int) < (c : Int)) = false := decide_eq_false (by omega)
  have z2 : decide ((c : Int) < 0) = false := decide_eq_false (by omega)
  have z3 : decide (9223372036854775807 < c) = false := decide_eq_false (by omega)
  go_wp2_with (first | (go_at_call 150; (refine (HMU.out _).mono ?_); rintro e w1 ⟨rfl, ⟨m1, rfl⟩⟩) | fail)
  obtain ⟨g, hg⟩ : ∃ g, g = w.heap.size := ⟨_, rfl⟩
  obtain ⟨W1, hW1⟩ : ∃ W1 : World, W1 = ((w.drewN m1).alloc (Obj.cells (madeCells #[Value.int IntKind.i64 0] c) 3)) := ⟨_, rfl⟩
  have hb1 : Below w.heap.size w W1 := by rw [hW1]; exact below_alloc (pw_below_drewN (Below.refl _ _) _) _
  have hh1 : W1.heap[g]? = some (.cells (rpCells 0 c) 3 (0, 0)) := by rw [hW1, rp_made, hg]; exact heap_alloc_new (w.drewN m1) _
  have hx1 : W1.cell? ad = some (.int .i64 (-1)) := pw_cell_below hb1 HX.out
  have hcp := run_copy_row (P := Try.prog) W1 22 22 3 3 g 0 c c ad 1 c0 (rpCells 0 c) 3 [.int .i64 (-1)] Try.underlying22 (by kernel_rfl) hh1 (Nat.min_eq_left hc1).symm (fun j v hj => by
    cases j with
    | zero => rw [Addr.add_zero', hx1]; simpa using hj
    | succ j => simp at hj) (by rw [rpCells_size (Nat.zero_le _)]; simp; omega) (by intro v hv; rw [List.mem_singleton.mp hv]; rfl)
  rw [show ((rpCells 0 c).toList.take 0 ++ [Value.int IntKind.i64 (-1)] ++ (rpCells 0 c).toList.drop (0 + [Value.int IntKind.i64 (-1)].length)).toArray = rpCells 1 c from rp_step (n := 0) (m := 1) (by omega)] at hcp
  obtain ⟨W2, hW2⟩ : ∃ W2 : World, W2 = W1.setRow g (rpCells 1 c) := ⟨_, rfl⟩
  rw [← hW2] at hcp
  have hh2 : W2.heap[g]? = some (.cells (rpCells 1 c) 3 (0, 0)) := by rw [hW2]; exact setRow_heap _ _ _ _ _ _ hh1
  have hb2 : Below w.heap.size w W2 := by rw [hW2]; exact rp_below hb1 (by omega) _
  have H2 := Aside0.mk (And.intro hh2 hb2)
  have HGW := Aside0.mk hg
  rw [← hW1, ← hg, hcp]
  clear hcp hW1 hW2 hh1 hh2 hb1 hb2 hx1 z1 z2 z3 hmk hg
  go_wp2
  go_loopg [8] c (fun kq v8 w' => ∃ (n : Nat), v8 = .int .i64 (n : Int) ∧ Aside0 (1 ≤ n ∧ n ≤ c ∧ kq = c + 1 - n) ∧ Aside0 (w'.heap[g]? = some (.cells (rpCells n c) 3 (0, 0)) ∧ Below w.heap.size w w'))
  case atStart => exact ⟨1, rfl, ⟨by omega, by omega, by omega⟩, H2⟩
  case round =>
    clear H2
    obtain ⟨n, rfl, HN, H2⟩ := hrel
    have hn1 := HN.out.1
    have hnc := HN.out.2.1
    by_cases cn : n < c
    · have bn : decide ((n : Int) < (c : Int)) = true := decide_eq_true (by omega)
      have bn2 : decide (n < c) = true := decide_eq_true cn
      have bn3 : decide (n ≤ c) = true := decide_eq_true hnc
      have bn4 : decide ((n : Int) ≤ (c : Int)) = true := decide_eq_true (by omega)
      obtain ⟨m, hm⟩ : ∃ m, m = Nat.min n (c - n) := ⟨_, rfl⟩
      have hm1 : 1 ≤ m := by rw [hm]; exact Nat.le_min.mpr ⟨hn1, by omega⟩
      have hm2 : n + m ≤ c := by have h1 : m ≤ c - n := (by rw [hm]; exact Nat.min_le_right _ _); omega
      have hm3 : m ≤ n := by rw [hm]; exact Nat.min_le_left _ _
      have HCP : Aside0 (∀ W : World, W.heap[g]? = some (.cells (rpCells n c) 3 (0, 0)) → (Builtin.copy_ #[22, 22] 3 #[Value.slice (some ⟨g, n, none⟩) (c - n) (c - n), Value.slice (some ⟨g, 0, none⟩) n c]).run Try.prog W = .ok (goInt m) (W.setRow g (rpCells (n + m) c))) := ⟨fun W hW => by
        have h1 := run_copy_row (P := Try.prog) W 22 22 3 3 g n (c - n) (c - n) ⟨g, 0, none⟩ n c (rpCells n c) 3 (List.replicate m (.int .i64 (-1))) Try.underlying22 (by kernel_rfl) hW (by rw [List.length_replicate]; exact hm) (fun j v hj => by
          have hj2 : j < m := by have := (List.getElem?_eq_some_iff.mp hj).1; rwa [List.length_replicate] at this
          rw [List.getElem?_replicate, if_pos hj2] at hj
          injection hj with hj
          subst hj
          rw [add_plain]
          simp only [World.cell?, hW]
          exact rpCells_at hnc j (by omega)) (by rw [rpCells_size hnc, List.length_replicate]; exact hm2) (fun v hv => by rw [List.eq_of_mem_replicate hv]; rfl)
        rw [List.length_replicate, rp_step hm2] at h1
        exact h1⟩
      have cne : ¬ c = n := by omega
      have cnf : (c = n) = False := eq_false cne
      clear hm
      go_wp2
      refine start_ (n := 10) (S := fun w' => w'.heap[g]? = some (.cells (rpCells n c) 3 (0, 0)) ∧ Below wr.heap.size wr w') (ds := [7]) #[false, false, false, false, false, false, false, false, false, false] (by kernel_rfl) rfl rfl ⟨H2.out.1, (below_drew (Below.refl _ _))⟩ (fun hHeld => ?_)
      refine pure_ (i := 0) (N := some 38) (v := ?_) (a' := ?_) #[true, false, false, false, false, false, false, false, false, false] rfl rfl (by kernel_rfl) (fun _ _ _ h => h) (Or.inl ⟨by rfl, ?_⟩) ?_ ?_
      rotate_left
      · intro w'
        go_simp
        with_reducible rfl
      rotate_left
      · simp only [Act.put, List.setIfInBounds_toArray, List.set_cons_zero, List.set_cons_succ, i64_w, i32_w]
        rfl
      refine pure_ (i := 1) (N := some 39) (v := ?_) (a' := ?_) #[true, true, false, false, false, false, false, false, false, false] rfl rfl (by kernel_rfl) (fun _ _ _ h => h) (Or.inl ⟨by rfl, ?_⟩) ?_ ?_
      rotate_left
      · intro w'
        go_simp
        with_reducible rfl
      rotate_left
      · simp only [Act.put, List.setIfInBounds_toArray, List.set_cons_zero, List.set_cons_succ, i64_w, i32_w]
        rfl
      refine pure_ (i := 2) (N := some 40) (v := ?_) (a' := ?_) #[true, true, true, false, false, false, false, false, false, false] rfl rfl (by kernel_rfl) (fun _ _ _ h => h) (Or.inl ⟨by rfl, ?_⟩) ?_ ?_
      rotate_left
      · intro w'
        go_simp
        with_reducible rfl
      rotate_left
      · simp only [Act.put, List.setIfInBounds_toArray, List.set_cons_zero, List.set_cons_succ, i64_w, i32_w]
        rfl
      refine pure_ (i := 3) (N := some 41) (v := ?_) (a' := ?_) #[true, true, true, true, false, false, false, false, false, false] rfl rfl (by kernel_rfl) (fun _ _ _ h => h) (Or.inl ⟨by rfl, ?_⟩) ?_ ?_
      rotate_left
      · intro w'
        go_simp
        with_reducible rfl
      rotate_left
      · simp only [Act.put, List.setIfInBounds_toArray, List.set_cons_zero, List.set_cons_succ, i64_w, i32_w]
        rfl
      refine pure_ (i := 4) (N := some 42) (v := ?_) (a' := ?_) #[true, true, true, true, true, false, false, false, false, false] rfl rfl (by kernel_rfl) (fun _ _ _ h => h) (Or.inl ⟨by rfl, ?_⟩) ?_ ?_
      rotate_left
      · intro w'
        go_simp
        with_reducible rfl
      rotate_left
      · simp only [Act.put, List.setIfInBounds_toArray, List.set_cons_zero, List.set_cons_succ, i64_w, i32_w]
        rfl
      refine pure_ (i := 5) (N := some 43) (v := ?_) (a' := ?_) #[true, true, true, true, true, true, false, false, false, false] rfl rfl (by kernel_rfl) (fun _ _ _ h => h) (Or.inl ⟨by rfl, ?_⟩) ?_ ?_
      rotate_left
      · intro w'
        go_simp
        with_reducible rfl
      rotate_left
      · simp only [Act.put, List.setIfInBounds_toArray, List.set_cons_zero, List.set_cons_succ, i64_w, i32_w]
        rfl
      refine pure_ (i := 6) (N := some 44) (v := ?_) (a' := ?_) #[true, true, true, true, true, true, true, false, false, false] rfl rfl (by kernel_rfl) (fun _ _ _ h => h) (Or.inl ⟨by rfl, ?_⟩) ?_ ?_
      rotate_left
      · intro w'
        go_simp
        with_reducible rfl
      rotate_left
      · simp only [Act.put, List.setIfInBounds_toArray, List.set_cons_zero, List.set_cons_succ, i64_w, i32_w]
        rfl
      refine last_ (i := 7) (N := some 45) #[true, true, true, true, true, true, true, true, false, false] rfl rfl (by kernel_rfl) (by decide) (fun K hK => ?_)
      have hcp := HCP.out _ hHeld.1
      have HB9 := Aside0.mk (rp_below (g := g) (below_step H2.out.2 hHeld.2) (by rw [HGW.out]; exact Nat.le_refl _) (rpCells (n + m) c))
      have HH9 := Aside0.mk (setRow_heap _ g _ (rpCells (n + m) c) 3 (0, 0) hHeld.1)
      refine value_ (w1 := ?_) (v := ?_) (by rfl) rfl ?_ ?_
      rotate_left 2
      · go_simp
        constructor
        · rfl
        · rfl
      refine hK.out _ _ ?_
      clear hK K
      refine norm_ (a' := ?_) ?_ ?_
      rotate_left
      · show Act.put _ (some 45) _ = _
        simp only [Act.put, List.setIfInBounds_toArray, List.set_cons_zero, List.set_cons_succ, i64_w, i32_w]
        rfl
      refine pure_ (i := 8) (N := some 46) (v := ?_) (a' := ?_) #[true, true, true, true, true, true, true, true, true, false] rfl rfl (by kernel_rfl) (fun _ _ _ h => h) (Or.inl ⟨by rfl, ?_⟩) ?_ ?_
      rotate_left
      · intro w'
        go_simp
        with_reducible rfl
      rotate_left
      · simp only [Act.put, List.setIfInBounds_toArray, List.set_cons_zero, List.set_cons_succ, i64_w, i32_w]
        rfl
      refine pure_ (i := 9) (N := some 8) (v := ?_) (a' := ?_) #[true, true, true, true, true, true, true, true, true, true] rfl rfl (by kernel_rfl) (fun _ _ _ h => h) (Or.inl ⟨by rfl, ?_⟩) ?_ ?_
      rotate_left
      · intro w'
        go_simp
        with_reducible rfl
      rotate_left
      · simp only [Act.put, List.setIfInBounds_toArray, List.set_cons_zero, List.set_cons_succ, i64_w, i32_w]
        rfl
      refine done_ (by kernel_rfl) ?_
      go_wp2
      go_roundg (c + 1 - (n + m))
      case measure => have := HN.out; omega
      case rel => exact ⟨n + m, by rw [show wrap64 ((n : Int) + (m : Int)) = ((n + m : Nat) : Int) by rw [wrapE _ (by omega) (by omega)]; omega], ⟨by omega, by omega, by omega⟩, ⟨HH9.out, HB9.out⟩⟩
    · have hnm : n = c := by omega
      subst hnm
      have bn : decide ((n : Int) < (n : Int)) = false := decide_eq_false (by omega)
      have bn2 : decide (n < n) = false := decide_eq_false (by omega)
      go_wp2
      go_ret
      have hown : wr.ownsRow w.heap.size 3 1 (.slice (some ⟨g, 0, none⟩) n n) n (List.replicate n (Value.int .i64 (-1))) := ⟨by simp, .inr ⟨g, n, rpCells n n, rfl, by rw [HGW.out]; exact Nat.le_refl _, H2.out.1, Nat.le_refl _, by unfold maxLen; omega, by rw [rpCells_size (Nat.le_refl _), Nat.mul_one], by simp [rpCells]⟩⟩
      exact ⟨_, rfl, Kd.R_mono (int_R (x := List.replicate n (-1)) (by unfold nums; rw [List.map_replicate, List.length_replicate]; exact hown)) (fun _ _ => trivial), H2.out.2⟩

end Go.Proofs.Ythjiajkmaimbjaa.P
