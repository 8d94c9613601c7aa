-- By gp.py (this session's own driver over the kit's print). Not trusted: Lean checks it.
import Derived.Test.YthjiajkmaimbjaaDoorF0
import Derived.Test.YthjiajkmaimbjaaDoorB
import Derived.Test.YthjiajkmaimbjaaDoorShelf
namespace Go.Proofs.YthjiajkmaimbjaaDoor.P
open Go.Proofs.YthjiajkmaimbjaaDoor.B
open Go.RowKit Go.Proofs.YthjiajkmaimbjaaDoorW.PrintWords Go.Proofs.YthjiajkmaimbjaaDoorW.PrintLast Go.Proofs.YthjiajkmaimbjaaDoorW.PrintMore
attribute [local go_sem] max2_int min2_int max_two min_two max_three min_three max_four min_four   -- for this text's walks alone
set_option linter.unusedVariables false
set_option linter.unusedSimpArgs false

/-! ### strings_Split: function 10 (given) -/
/-- The library's one variable holds a number. -/
def ML (w : World) : Prop := ∃ m, w.cell? ⟨0, 0, none⟩ = some (.int .i64 m)
theorem ML.below {w w' : World} (h : ML w) (hb : Below w.heap.size w w') : ML w' := by
  obtain ⟨m, hm⟩ := h
  exact ⟨m, (hb.cell (World.block_lt_of_cell? w _ hm)).trans hm⟩
theorem ML.aside {w w' : World} (h : ML w) (hb : Aside0 (Below w.heap.size w w')) : ML w' := h.below hb.out
theorem ML.drewN {w : World} (h : ML w) (n : Nat) : ML (w.drewN n) := h
theorem ML.alloc {w : World} (h : ML w) (o : Obj) : ML (w.alloc o) := h.below (below_alloc (Below.refl _ _) _)
def strings_Split.f (s0 s1 : ByteArray) : Option (List ByteArray) := if s0.size < 4294967281 ∧ 1 ≤ s1.size then some (Lib.splitB s1 0 (Lib.countB s0 s1) s0) else none
set_option maxHeartbeats 8000000 in
set_option maxRecDepth 100000 in
theorem strings_Split.calls (s0 s1 : ByteArray) (r : List ByteArray) (w : World) (h : strings_Split.f s0 s1 = some r) (hm : ML w := by first | assumption | exact ML.aside (by assumption) (by assumption) | exact ML.drewN (by first | assumption | exact ML.aside (by assumption) (by assumption)) _) :
    Calls Tryd.prog 10 #[.string s0, .string s1] w fun e w' => ∃ v0_ : Value, e = .returned v0_ ∧ Kd.R Kd.string 9 w' w.heap.size (fun _ => True) v0_ r ∧ Below w.heap.size w w' := by
  unfold strings_Split.f at h
  by_cases hc : s0.size < 4294967281 ∧ 1 ≤ s1.size
  · rw [if_pos hc] at h
    obtain rfl := Option.some.inj h
    obtain ⟨m, hm⟩ := hm
    refine (Tryd.strings_Split s0 s1 m w hc.1 hm hc.2).mono ?_
    rintro e w' ⟨rfl, rfl⟩
    have hl : (Lib.splitB s1 0 (Lib.countB s0 s1) s0).length = Lib.countB s0 s1 + 1 := Lib.splitB_all s1 hc.2 0 _ s0 rfl
    refine ⟨_, rfl, ⟨fun k hk => trivial, (Lib.splitB s1 0 (Lib.countB s0 s1) s0).map Value.string, ?_, ?_⟩, below_alloc (Below.refl _ _) _⟩
    · have h2 := World.ownsRow_lit (base := w.heap.size) (e := 9) (size := 1) w ((Lib.splitB s1 0 (Lib.countB s0 s1) s0).map Value.string).toArray (Lib.countB s0 s1 + 1) (Nat.le_refl _) (by have := Lib.countB_le s1 hc.2 _ s0 (Nat.le_refl _); unfold maxLen; omega) (by simp [hl])
      rw [hl]
      show World.ownsRow _ _ _ 1 _ _ _
      simpa using h2
    · show Reps _ 1 _ _
      refine ⟨by rw [List.length_map, Nat.mul_one], fun j p hp => ?_⟩
      have hj := (List.getElem?_eq_some_iff.mp hp).1
      have e : (((Lib.splitB s1 0 (Lib.countB s0 s1) s0).map Value.string).drop (j * 1)).take 1 = [Value.string p] := by
        have hj2 : j < ((Lib.splitB s1 0 (Lib.countB s0 s1) s0).map Value.string).length := by rw [List.length_map]; exact hj
        rw [Nat.mul_one, List.drop_eq_getElem_cons hj2, List.getElem_map, (List.getElem?_eq_some_iff.mp hp).2]
        rfl
      rw [e]
      exact rfl
  · rw [if_neg hc] at h
    cases h

end Go.Proofs.YthjiajkmaimbjaaDoor.P
