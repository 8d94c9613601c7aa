/- The mask of a row tells the row; the rows above a row are rows. -/
import Derived.Test.YthjiajkmaimbjaaQAbove
import Derived.Test.YthjiajkmaimbjaaFSpecTr
import Derived.Laws.BitsLemmas
namespace Go.Proofs.Ythjiajkmaimbjaa.Pure
open Go.Proofs.Ythjiajkmaimbjaa.B Go.Proofs.Ythjiajkmaimbjaa.P
open Go.RowKit Go.Proofs.YthjiajkmaimbjaaW.PrintWords Go.Proofs.YthjiajkmaimbjaaW.PrintLast Go.Proofs.YthjiajkmaimbjaaW.PrintMore
set_option linter.unusedVariables false
set_option linter.unusedSimpArgs false
def mkO (a : Nat) (l : List Int) : Nat := l.foldl (fun a x => a ||| 2 ^ x.toNat) a
theorem mkO_snoc (a : Nat) (l : List Int) (x : Int) : mkO a (l ++ [x]) = mkO a l ||| 2 ^ x.toNat := by unfold mkO; rw [List.foldl_append]; rfl
theorem mkO_lt (a : Nat) (l : List Int) (ha : a < 65536) (h : ∀ x ∈ l, 0 ≤ x ∧ x ≤ 15) : mkO a l < 65536 := by
  induction l generalizing a with
  | nil => exact ha
  | cons x l ih =>
    refine ih (a ||| 2 ^ x.toNat) ?_ (fun y hy => h y (by simp [hy]))
    have h1 := h x (by simp)
    have h2 : 2 ^ x.toNat < 2 ^ 16 := Nat.pow_lt_pow_right (by decide) (by omega)
    exact Nat.or_lt_two_pow (n := 16) ha h2
theorem mkO_bit (l : List Int) (h : ∀ x ∈ l, 0 ≤ x) (a j : Nat) : (mkO a l).testBit j = (a.testBit j || decide ((j : Int) ∈ l)) := by
  induction l generalizing a with
  | nil => simp [mkO]
  | cons x l ih =>
    have e : mkO a (x :: l) = mkO (a ||| 2 ^ x.toNat) l := rfl
    rw [e, ih (fun y hy => h y (by simp [hy])), Nat.testBit_or, Nat.testBit_two_pow, Bool.or_assoc]
    congr 1
    have hx := h x (by simp)
    have e2 : decide (x.toNat = j) = decide ((j : Int) = x) := by
      by_cases c : (j : Int) = x
      · rw [decide_eq_true c, decide_eq_true (by omega)]
      · rw [decide_eq_false c, decide_eq_false (by omega)]
    rw [e2]
    simp only [List.mem_cons, Bool.decide_or]
theorem or_step (a : Nat) (x : Int) (ha : a < 65536) (h0 : 0 ≤ x) (h1 : x ≤ 15) : Go.bits .or .i64 (a : Int) (shl .i64 1 x) = ((a ||| 2 ^ x.toNat : Nat) : Int) := by
  obtain ⟨n, rfl⟩ : ∃ n : Nat, x = (n : Int) := ⟨x.toNat, by omega⟩
  have hs : shl .i64 1 (n : Int) = ((2 ^ n : Nat) : Int) := by
    have hn : n ≤ 15 := by omega
    match n, hn with
    | 0, _ | 1, _ | 2, _ | 3, _ | 4, _ | 5, _ | 6, _ | 7, _ | 8, _ | 9, _ | 10, _ | 11, _ | 12, _ | 13, _ | 14, _ | 15, _ => rfl
    | n + 16, h => omega
  rw [hs, Int.toNat_natCast]
  have h2 : 2 ^ n < 2 ^ 16 := Nat.pow_lt_pow_right (by decide) (by omega)
  exact (bits_nat .i64 16 (by decide) (fun m hm hm2 => by rw [IntKind.wrap_i64]; omega) a (2 ^ n) ha h2).2
theorem ev_mask {row : List Int} (hl : row.length ≤ 1048576) (h : ∀ x ∈ row, 0 ≤ x ∧ x ≤ 15) : Ev (fun k => spec_trMask.f k row) (mkO 0 row : Int) := by
  unfold spec_trMask.f
  suffices hs : ∀ (m i : Nat), i + m = row.length → Ev (fun k => spec_trMask.l0 k (mkO 0 (row.take i) : Int) row (row.length : Int) (i : Int)) (mkO 0 row : Int) from hs row.length 0 (by omega)
  intro m
  induction m with
  | zero =>
    intro i hi
    refine Ev.succ ?_
    simp only [spec_trMask.l0]
    rw [List.take_of_length_le (by omega)]
    exact Ev.neg (by omega) (Ev.now _)
  | succ m ih =>
    intro i hi
    have hil : i < row.length := by omega
    refine Ev.succ ?_
    simp only [spec_trMask.l0]
    have hx := h _ (List.getElem_mem hil)
    have e1 := rd_get row i hil
    refine Ev.pos (by omega) (Ev.pos (by omega) (Ev.pos (by omega) (Ev.pos (by rw [e1]; exact hx.1) ?_)))
    rw [e1, or_step _ _ (mkO_lt 0 _ (by decide) (fun x hx => h x (List.mem_of_mem_take hx))) hx.1 hx.2, wrapN i (by omega), ← mkO_snoc, ← List.take_succ_eq_append_getElem hil]
    exact ih (i + 1) (by omega)
theorem Rises.lt {l : List Int} (h : Rises l 0) (i m : Nat) (hm : i + m + 1 < l.length) : rd l (i : Int) < rd l ((i + m + 1 : Nat) : Int) := by
  induction m with
  | zero =>
    have := h (i + 1) (by omega) (by omega) (by omega)
    rwa [show ((i + 1 : Nat) : Int) - 1 = (i : Int) by omega] at this
  | succ m ih =>
    have h1 := ih (by omega)
    have h2 := h (i + (m + 1) + 1) (by omega) hm (by omega)
    rw [show ((i + (m + 1) + 1 : Nat) : Int) - 1 = ((i + m + 1 : Nat) : Int) by omega] at h2
    omega
theorem Rises.pairs {l : List Int} (h : Rises l 0) : l.Pairwise (· < ·) := by
  rw [List.pairwise_iff_getElem]
  intro i j hi hj hij
  have := h.lt i (j - i - 1) (by omega)
  rw [show i + (j - i - 1) + 1 = j by omega, rd_get l i hi, rd_get l j hj] at this
  exact this
theorem sorted_ext : ∀ {a b : List Int}, a.Pairwise (· < ·) → b.Pairwise (· < ·) → (∀ x, x ∈ a ↔ x ∈ b) → a = b
  | [], [], _, _, _ => rfl
  | [], y :: b, _, _, h => by have := (h y).mpr (by simp); simp at this
  | x :: a, [], _, _, h => by have := (h x).mp (by simp); simp at this
  | x :: a, y :: b, ha, hb, h => by
    rw [List.pairwise_cons] at ha hb
    have e : x = y := by
      have h1 := (h x).mp (by simp)
      have h2 := (h y).mpr (by simp)
      rcases List.mem_cons.mp h1 with e | m1
      · exact e
      · rcases List.mem_cons.mp h2 with e | m2
        · exact e.symm
        · have := ha.1 y m2
          have := hb.1 x m1
          omega
    subst e
    rw [sorted_ext ha.2 hb.2 (fun z => ?_)]
    constructor
    · intro hz
      have h1 := (h z).mp (by simp [hz])
      rcases List.mem_cons.mp h1 with e | m1
      · have := ha.1 z hz; omega
      · exact m1
    · intro hz
      have h1 := (h z).mpr (by simp [hz])
      rcases List.mem_cons.mp h1 with e | m1
      · have := hb.1 z hz; omega
      · exact m1
theorem Row.mem {l : List Int} (h : Row l) : ∀ x ∈ l, 0 ≤ x ∧ x ≤ 15 := by
  intro x hx
  obtain ⟨j, hj, rfl⟩ := List.getElem_of_mem hx
  have := h.2.2 j (Nat.zero_le _) hj
  rw [rd_get l j hj] at this
  exact this
theorem mask_inj {a b : List Int} (ha : Row a) (hb : Row b) (h : mkO 0 a = mkO 0 b) : a = b := by
  refine sorted_ext ha.2.1.pairs hb.2.1.pairs (fun x => ?_)
  have key : ∀ n : Nat, ((n : Int) ∈ a ↔ (n : Int) ∈ b) := fun n => by
    have h1 := mkO_bit a (fun y hy => (ha.mem y hy).1) 0 n
    have h2 := mkO_bit b (fun y hy => (hb.mem y hy).1) 0 n
    rw [h] at h1
    rw [h1] at h2
    simp at h2
    exact h2
  constructor
  · intro hx
    have := (ha.mem x hx).1
    obtain ⟨n, rfl⟩ : ∃ n : Nat, x = (n : Int) := ⟨x.toNat, by omega⟩
    exact (key n).mp hx
  · intro hx
    have := (hb.mem x hx).1
    obtain ⟨n, rfl⟩ : ∃ n : Nat, x = (n : Int) := ⟨x.toNat, by omega⟩
    exact (key n).mpr hx
theorem rises_snoc {ys : List Int} {x : Int} (h : Rises ys 0) (hx : ys.length ≠ 0 → rd ys ((ys.length : Int) - 1) < x) : Rises (ys ++ [x]) 0 := by
  intro j h0 hj hj0
  have e : ((j : Int) - 1) = ((j - 1 : Nat) : Int) := by omega
  rw [e, rd_get _ j hj, rd_get _ (j - 1) (by omega)]
  rw [List.length_append, List.length_singleton] at hj
  by_cases c : j < ys.length
  · rw [List.getElem_append_left c, List.getElem_append_left (by omega)]
    have := h j h0 c hj0
    rw [e, rd_get _ j c, rd_get _ (j - 1) (by omega)] at this
    exact this
  · have hjl : j = ys.length := by omega
    have h2 := hx (by omega)
    rw [show (ys.length : Int) - 1 = ((j - 1 : Nat) : Int) by omega, rd_get _ (j - 1) (by omega)] at h2
    rw [List.getElem_append_left (by omega), List.getElem_append_right (by omega)]
    simpa using h2
theorem abvL_rises {row : List Int} : ∀ (d : Nat) (ys : List Int), Rises ys 0 → ∀ own ∈ abvL row d ys, Rises own 0 := by
  intro d
  induction d with
  | zero =>
    intro ys hy own ho
    simp only [abvL, List.mem_singleton] at ho
    subst ho
    exact hy
  | succ d ih =>
    intro ys hy own ho
    simp only [abvL, List.mem_flatMap, List.mem_range] at ho
    obtain ⟨j, hj, ho⟩ := ho
    refine ih _ (rises_snoc hy (fun h0 => ?_)) own ho
    unfold abvLow mx
    rw [if_neg h0]
    split <;> omega
end Go.Proofs.Ythjiajkmaimbjaa.Pure
