/- slices.Reverse on [][]int: a table of one's own behind it is the table reversed. -/
import Derived.Test.YthjiajkmaimbjaaRev
import Derived.Test.YthjiajkmaimbjaaTab
import Derived.Lib.OwnBridge
namespace Go.Proofs.Ythjiajkmaimbjaa.P
open Go.Proofs.Ythjiajkmaimbjaa.B
open Go.RowKit Go.Proofs.YthjiajkmaimbjaaW.PrintWords Go.Proofs.YthjiajkmaimbjaaW.PrintLast Go.Proofs.YthjiajkmaimbjaaW.PrintMore
set_option linter.unusedVariables false
set_option linter.unusedSimpArgs false
/-- A value of one cell. -/
structure One where
  val : Value
  one : val.oneCell' = true
instance : Inhabited One := ⟨⟨.bool false, rfl⟩⟩
theorem ones : ∀ l : List Value, (∀ u ∈ l, u.oneCell' = true) → ∃ zs : List One, zs.map One.val = l
  | [], _ => ⟨[], rfl⟩
  | u :: l, h => by
    obtain ⟨zs, hz⟩ := ones l (fun x hx => h x (by simp [hx]))
    exact ⟨(⟨u, h u (by simp)⟩ : One) :: zs, by rw [List.map_cons, hz]⟩
theorem S_reverse (base : Nat) (ok : Nat → Prop) (v : Value) (xs : List (List Int)) (w : World) (h : Kd.S (Kd.slice 3 (Kd.int .i64)) 22 w base ok v xs) (hn : xs.length ≤ 9223372036854775807) :
    Calls Try.prog 51 #[v] w fun e w' => e = .returned (.tuple #[]) ∧ Kd.S (Kd.slice 3 (Kd.int .i64)) 22 w' base ok v xs.reverse ∧ Below base w w' := by
  obtain ⟨f, h0, inner, ho, hr⟩ := h
  have hsz : (Kd.tag f (Kd.slice 3 (Kd.int .i64))).sz = 1 := rfl
  rw [hsz] at ho hr
  have hl : xs.zipIdx.length = xs.length := List.length_zipIdx
  rw [hl] at ho
  have hil : inner.length = xs.length := by have := hr.1; rw [hl] at this; omega
  have hat : ∀ j x, xs[j]? = some x → ∃ u, inner[j]? = some u ∧ (inner.drop (j * 1)).take 1 = [u] := by
    intro j x hx
    have hj : j < xs.length := (List.getElem?_eq_some_iff.mp hx).1
    have hj2 : j < inner.length := by omega
    refine ⟨inner[j], List.getElem?_eq_getElem hj2, ?_⟩
    rw [Nat.mul_one, List.drop_eq_getElem_cons hj2]
    rfl
  have hone : ∀ u ∈ inner, u.oneCell' = true := by
    intro u hu
    obtain ⟨j, hj, rfl⟩ := List.getElem_of_mem hu
    have hx : xs[j]? = some xs[j] := List.getElem?_eq_getElem (by omega)
    obtain ⟨u2, e1, e2⟩ := hat j _ hx
    have hm := hr.2 j _ (Kd.zip_at hx)
    rw [e2] at hm
    have := (Kd.tag f (Kd.slice 3 (Kd.int .i64))).K_one ((Kd.tag f (Kd.slice 3 (Kd.int .i64))).K_of_M hm) u2 (by simp)
    rw [List.getElem?_eq_getElem hj] at e1
    rw [Option.some.inj e1]
    exact this
  obtain ⟨zs, hz⟩ := ones inner hone
  by_cases hv : v = .slice none 0 0
  · subst hv
    have hx : xs = [] := by
      rcases ho.2 with ⟨_, e2⟩ | ⟨g, cap, cur, e, _⟩
      · have := ho.1; first | (cases xs with | nil => rfl | cons _ _ => simp_all) | simp_all
      · cases e
    subst hx
    refine (Try.slices_Reverse_empty (α := One) none 0 w).mono ?_
    rintro e w' ⟨rfl, rfl⟩
    exact ⟨rfl, Kd.S_nil _ _ _ _ _, Below.refl _ _⟩
  · rw [← hz] at ho
    obtain ⟨g, cap, rfl, hb, hg, hn2, hcap, hlen, hH⟩ := Go.Lib.holds_of_ownsRow ho hv
    rw [← hlen]
    refine (Try.slices_Reverse One.val (fun u => u.one) g 0 cap zs w hH (by omega)).mono ?_
    rintro e w' ⟨rfl, q, rfl⟩
    have hown := Go.Lib.ownsRow_putRow (q := q) (k := xs.length) ho (ys := zs.reverse) (by rw [List.length_reverse]; exact hlen) (Nat.le_refl _)
    have e1 : (zs.reverse.take xs.length).map One.val = inner.reverse := by
      rw [List.take_of_length_le (by rw [List.length_reverse]; omega), List.map_reverse, hz]
    rw [e1] at hown
    refine ⟨rfl, ⟨fun k => xs.length - 1 - f k, ?_, inner.reverse, ?_, ?_⟩, Go.Lib.below_putRow (Below.refl _ _) hb⟩
    · rw [hlen]; exact h0
    · show World.ownsRow _ _ _ 1 _ _ _
      rw [List.length_zipIdx, List.length_reverse, hlen]
      exact hown
    · show Reps _ 1 _ _
      refine ⟨by rw [List.length_reverse, List.length_zipIdx, List.length_reverse]; omega, fun j p hp => ?_⟩
      have hpj : ∃ x, xs.reverse[j]? = some x ∧ p = (x, j) := by
        rw [List.getElem?_zipIdx] at hp
        cases hx : xs.reverse[j]? with
        | none => rw [hx] at hp; cases hp
        | some x => rw [hx] at hp; refine ⟨x, rfl, ?_⟩; simpa using hp.symm
      obtain ⟨x, hx, rfl⟩ := hpj
      have hj : j < xs.length := by have := (List.getElem?_eq_some_iff.mp hx).1; simpa using this
      have hx2 : xs[xs.length - 1 - j]? = some x := by rw [← hx, List.getElem?_reverse hj]
      obtain ⟨u, e2, e3⟩ := hat _ _ hx2
      have hm := hr.2 _ _ (Kd.zip_at hx2)
      rw [e3] at hm
      have e4 : (inner.reverse.drop (j * 1)).take 1 = [u] := by
        have hj2 : j < inner.reverse.length := by rw [List.length_reverse]; omega
        rw [Nat.mul_one, List.drop_eq_getElem_cons hj2]
        show [inner.reverse[j]] = [u]
        congr 1
        have e5 : inner.reverse[j]? = some u := by rw [List.getElem?_reverse (by omega), hil]; exact e2
        rw [List.getElem?_eq_getElem hj2] at e5
        exact Option.some.inj e5
      rw [e4]
      have hm2 := (Kd.tag f (Kd.slice 3 (Kd.int .i64))).M_move (w1 := Go.Sort.putRow One.val (Sort.ahead w q) g 0 zs.reverse.toArray) (fun k hk => by
        have hkg : g ≠ k := by
          intro e
          subst e
          exact hk.2 rfl
        simp [Go.Sort.putRow, Go.Sort.mapBlock, Go.Sort.ahead, Array.getElem?_modify, hkg]) hm
      show Kd.M (Kd.slice 3 (Kd.int .i64)) _ base (fun k => (ok k ∧ some k ≠ (Value.slice (some ⟨g, 0, none⟩) zs.length cap).ownBlock) ∧ (xs.length - 1 - f k) = j) x [u]
      refine Kd.M_mono (Kd.slice 3 (Kd.int .i64)) (fun k hk => ⟨⟨hk.1.1, by rw [hlen]; exact hk.1.2⟩, ?_⟩) hm2
      have h9 : f k = xs.length - 1 - j := hk.2
      omega
end Go.Proofs.Ythjiajkmaimbjaa.P
