/- Plain lemmas on lists and numbers that the hand-written contracts of this seat share. -/
import Derived.Test.YtbfgcpjkagbmdaaWWords
import Derived.Test.YtbfgcpjkagbmdaaWLast
import Derived.Test.YtbfgcpjkagbmdaaWMore
namespace Go.Proofs.Ytbfgcpjkagbmdaa.B
open Go.RowKit Go.Proofs.YtbfgcpjkagbmdaaW.PrintWords
theorem rd_get (l : List Int) (j : Nat) (h : j < l.length) : rd l (j : Int) = l[j] := by
  unfold rd
  rw [List.getD_eq_getElem?_getD, Int.toNat_natCast, List.getElem?_eq_getElem h]
  rfl
theorem rd_mem (l : List Int) (j : Nat) (h : j < l.length) : rd l (j : Int) ∈ l := by
  rw [rd_get l j h]
  exact List.getElem_mem _
/-- The first place at which p holds, -1 if there is none. -/
def findF {α : Type} (p : α → Bool) (l : List α) : Int := match l.findIdx? p with | some i => (i : Int) | none => -1
theorem findF_none {α : Type} {p : α → Bool} {l : List α} (h : ∀ x ∈ l, p x = false) : findF p l = -1 := by
  have : l.findIdx? p = none := List.findIdx?_eq_none_iff.mpr h
  unfold findF
  rw [this]
theorem findF_some {α : Type} {p : α → Bool} {l : List α} (j : Nat) (hj : j < l.length) (h : ∀ x ∈ l.take j, p x = false) (hp : p l[j] = true) : findF p l = j := by
  have : l.findIdx? p = some j := by
    rw [List.findIdx?_eq_some_iff_getElem]
    refine ⟨hj, hp, fun i hi => ?_⟩
    have h1 := h l[i] (by rw [List.mem_iff_getElem]; exact ⟨i, by rw [List.length_take]; omega, by simp⟩)
    simp [h1]
  unfold findF
  rw [this]
theorem findF_any {α : Type} (p : α → Bool) (l : List α) : decide (0 ≤ findF p l) = l.any p := by
  unfold findF
  cases h : l.findIdx? p with
  | none =>
    have h1 := List.findIdx?_eq_none_iff.mp h
    have h2 : l.any p = false := by rw [List.any_eq_false]; intro x hx; simp [h1 x hx]
    rw [h2]; rfl
  | some i =>
    obtain ⟨hi, hp, _⟩ := List.findIdx?_eq_some_iff_getElem.mp h
    have h2 : l.any p = true := List.any_eq_true.mpr ⟨l[i], List.getElem_mem _, hp⟩
    rw [h2]
    simp
theorem take_all {α : Type} {p : α → Bool} {l : List α} {j : Nat} (hj : j < l.length) (h : ∀ x ∈ l.take j, p x = false) (hp : p l[j] = false) : ∀ x ∈ l.take (j + 1), p x = false := by
  intro x hx
  rw [List.take_succ_eq_append_getElem hj] at hx
  rcases List.mem_append.1 hx with hx | hx
  · exact h x hx
  · rw [List.mem_singleton.1 hx]
    exact hp
/-- The number in the row i and the column j of a table. -/
def gd (l : List (List Int)) (i j : Nat) : Int := (l.getD i []).getD j 0
theorem at_row {e : Nat} {w : World} {A : Option Addr} {n : Nat} {l : List (List Int)} (h : Kd.C (Kd.slice e (Kd.int .i64)) w A n l) (i : Nat) (hi : i < n) : ∃ ad A0 c0, A = some ad ∧ w.cell? (ad.add i) = some (.slice A0 (l.getD i []).length c0) ∧ (l.getD i []).length ≤ c0 ∧ (Kd.int .i64).C w A0 (l.getD i []).length (l.getD i []) := by
  obtain ⟨ad, c, e1, _, hK, hc0⟩ := Kd.C_get h ([] : List Int) (i : Int) (by omega) (by omega)
  rw [Int.toNat_natCast] at hK hc0
  have hc : ∀ j u, c[j]? = some u → w.cell? (ad.add (i * 1 + j)) = some u := hc0
  obtain ⟨A0, c0, rfl, l0, g0⟩ := hK
  exact ⟨ad, A0, c0, e1, by have hq := hc 0 _ rfl; rwa [Nat.mul_one, Nat.add_zero] at hq, l0, g0⟩
theorem at_num {w : World} {A : Option Addr} {n : Nat} {x : List Int} (h : Kd.C (Kd.int .i64) w A n x) (i : Nat) (hi : i < n) : ∃ ad, A = some ad ∧ w.cell? (ad.add i) = some (.int .i64 (x.getD i 0)) := by
  obtain ⟨ad, e, hc⟩ := Kd.at_int h (i : Int) (by omega) (by omega)
  rw [Int.toNat_natCast] at hc
  refine ⟨ad, e, ?_⟩
  unfold rd at hc
  rwa [Int.toNat_natCast] at hc
theorem getD_row {l : List (List Int)} {n : Nat} (h : ∀ x ∈ l, x.length = n) {i : Nat} (hi : i < l.length) : (l.getD i []).length = n := by
  rw [List.getD_eq_getElem?_getD, List.getElem?_eq_getElem hi]
  exact h _ (List.getElem_mem _)
end Go.Proofs.Ytbfgcpjkagbmdaa.B
