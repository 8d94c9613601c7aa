-- By gp.py (this session's own driver over the kit's print). Not trusted: Lean checks it.
import Derived.Test.YthjiajkmaimbjaaF0
import Derived.Test.YthjiajkmaimbjaaB
import Derived.Test.YthjiajkmaimbjaaJoin
namespace Go.Proofs.Ythjiajkmaimbjaa.P
open Go.Proofs.Ythjiajkmaimbjaa.B
open Go.RowKit Go.Proofs.YthjiajkmaimbjaaW.PrintWords Go.Proofs.YthjiajkmaimbjaaW.PrintLast Go.Proofs.YthjiajkmaimbjaaW.PrintMore
attribute [local go_sem] max2_int min2_int max_two min_two max_three min_three max_four min_four   -- for this text's walks alone
set_option linter.unusedVariables false
set_option linter.unusedSimpArgs false

/-! ### strings_Join: function 112 (given) -/
def strings_Join.f (l0 : List ByteArray) (s1 : ByteArray) : Option ByteArray := if l0.length ≤ 140737488355328 ∧ (Lib.join (l0.map (·.data.toList)) s1.data.toList).length ≤ 140737488355328 then some ⟨(Lib.join (l0.map (·.data.toList)) s1.data.toList).toArray⟩ else none
set_option maxHeartbeats 8000000 in
set_option maxRecDepth 100000 in
theorem strings_Join.calls (A0 : Option Addr) (c0 : Nat) (l0 : List ByteArray) (s1 : ByteArray) (r : ByteArray) (w : World) (hr0 : Kd.C Kd.string w A0 l0.length l0) (hc0 : l0.length ≤ c0) (h : strings_Join.f l0 s1 = some r) :
    Calls Try.prog 112 #[.slice A0 l0.length c0, .string s1] w fun e w' => e = .returned (.string r) ∧ Below w.heap.size w w' := by
  unfold strings_Join.f at h
  by_cases hc : l0.length ≤ 140737488355328 ∧ (Lib.join (l0.map (·.data.toList)) s1.data.toList).length ≤ 140737488355328
  · rw [if_pos hc] at h
    obtain rfl := Option.some.inj h
    cases l0 with
    | nil =>
      refine (Try.strings_Join_none A0 c0 s1 w).mono ?_
      rintro e w' ⟨rfl, rfl⟩
      exact ⟨rfl, Below.refl _ _⟩
    | cons x xs =>
      obtain ⟨ad, e0, hx0⟩ := Kd.at_string hr0 0 (by omega) (by simp)
      subst e0
      have hsp : ad.spot = none := by
        have h1 := hx0
        rw [show (0 : Int).toNat = 0 from rfl, Addr.add_zero'] at h1
        unfold World.cell? at h1
        cases hs : ad.spot with
        | none => rfl
        | some q =>
          rw [hs] at h1
          split at h1 <;> simp at h1
      have hblk : ad.block < w.heap.size := by
        have h1 := hx0
        rw [show (0 : Int).toNat = 0 from rfl, Addr.add_zero'] at h1
        exact World.block_lt_of_cell? w _ h1
      obtain ⟨b, o, sp⟩ := ad
      simp only at hsp
      subst hsp
      refine Try.strings_Join b o c0 (x :: xs) s1 w (fun j y hj => ?_) hblk hc.1 hc0 hc.2
      have hjl : j < (x :: xs).length := (List.getElem?_eq_some_iff.mp hj).1
      obtain ⟨ad2, e2, hx2⟩ := Kd.at_string hr0 (j : Int) (by omega) (by omega)
      cases e2
      have e3 : rdOf ByteArray.empty (x :: xs) (j : Int) = y := by
        unfold rdOf
        rw [Int.toNat_natCast, List.getD_eq_getElem?_getD, hj]
        rfl
      rw [e3, Int.toNat_natCast] at hx2
      unfold Addr.add at hx2
      by_cases hz : j = 0
      · subst hz
        rw [if_pos rfl] at hx2
        exact hx2
      · rw [if_neg hz] at hx2
        exact hx2
  · rw [if_neg hc] at h
    cases h

end Go.Proofs.Ythjiajkmaimbjaa.P
