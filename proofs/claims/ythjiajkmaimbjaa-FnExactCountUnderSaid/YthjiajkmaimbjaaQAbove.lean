/- The rows under which a row fits: program and reference list them alike. -/
import Derived.Test.YthjiajkmaimbjaaQTri
import Derived.Test.YthjiajkmaimbjaaFSpecTrRow
import Derived.Test.YthjiajkmaimbjaaFSpecTrAbove
import Derived.Test.YthjiajkmaimbjaaFImplIsRow
import Derived.Test.YthjiajkmaimbjaaFImplAbove
namespace Go.Proofs.Ythjiajkmaimbjaa.Pure
open Go.Proofs.Ythjiajkmaimbjaa.B Go.Proofs.Ythjiajkmaimbjaa.P
open Go.RowKit Go.Proofs.YthjiajkmaimbjaaW.PrintWords Go.Proofs.YthjiajkmaimbjaaW.PrintLast Go.Proofs.YthjiajkmaimbjaaW.PrintMore
set_option linter.unusedVariables false
set_option linter.unusedSimpArgs false
/-- A row: 1 to 6 numbers of 0 to 15, each greater than that before it. -/
def Row (l : List Int) : Prop := (1 ≤ l.length ∧ l.length ≤ 6) ∧ Rises l 0 ∧ Between l 0 15 0
theorem Row.ok {l : List Int} (h : Row l) : AbvOk l := ⟨h.1.1, h.1.2, fun j hj => h.2.2 j (Nat.zero_le _) hj⟩
theorem trRow_tells (l : List Int) (hl : l.length ≤ 1048576) : EvB (fun k => spec_trRow.f k l) (Row l) := by
  unfold spec_trRow.f
  rw [l1In_eq]
  simp only [Option.bind_some]
  refine EvB.test (fun h => ?_) (fun h => EvB.no (fun g => h ((inB_iff _ _ _).mpr (by have := g.1; omega))))
  have h1 := (inB_iff _ _ _).mp h
  obtain ⟨b, hb, hb2⟩ := l1Rising_tells l 0 15 hl
  exact ⟨b, hb.trans ⟨fun g => ⟨by omega, g⟩, fun g => g.2⟩, Ev.bind hb2 (Ev.now b)⟩
theorem row_both (l : List Int) (hl : l.length ≤ 1048576) : ∃ b : Bool, (b = true ↔ Row l) ∧ Ev (fun k => spec_trRow.f k l) b ∧ Ev (fun k => impl_isRow.f k l) b := EvB.same (trRow_tells l hl) (isRow_tells l hl)
theorem l1Own_eq (l : List Int) (h : l.length ≤ 1048576) : spec_l1Own.f l = some l := by
  unfold spec_l1Own.f
  simp only [Option.bind_some]
  rw [if_pos (by simp; omega)]
  rfl
theorem abvLow_ge (row ys : List Int) : rd row (ys.length : Int) ≤ abvLow row ys := by
  unfold abvLow
  split
  · rename_i h; rw [h]; exact Int.le_refl _
  · unfold mx; split <;> omega
theorem abvL_rows (row : List Int) (d : Nat) (ys : List Int) : ∀ x ∈ abvL row d ys, x.length = ys.length + d := by
  induction d generalizing ys with
  | zero => intro x hx; simp [abvL] at hx; rw [hx]; rfl
  | succ d ih =>
    intro x hx
    simp only [abvL] at hx
    obtain ⟨j, _, hj⟩ := List.mem_flatMap.mp hx
    have := ih _ x hj
    simp at this
    omega
theorem abvL_few {row : List Int} (h : Row row) (d : Nat) (ys : List Int) (hd : ys.length + d + 1 = row.length) : (abvL row d ys).length ≤ 2 ^ (rd row ((row.length : Int) - 1) - rd row (ys.length : Int)).toNat := by
  induction d generalizing ys with
  | zero =>
    simp only [abvL, List.length_cons, List.length_nil]
    exact Nat.one_le_two_pow
  | succ d ih =>
    simp only [abvL]
    have h1 := h.2.1 (ys.length + 1) (by omega) (by omega) (by omega)
    rw [show ((ys.length + 1 : Nat) : Int) - 1 = (ys.length : Int) by omega, show ((ys.length + 1 : Nat) : Int) = (ys.length : Int) + 1 by omega] at h1
    have h2 := abvLow_ge row ys
    have h9 : rd row ((ys.length : Int) + 1) ≤ rd row ((row.length : Int) - 1) := by
      have key : ∀ m : Nat, ys.length + 1 + m < row.length → rd row ((ys.length : Int) + 1) ≤ rd row ((ys.length + 1 + m : Nat) : Int) := by
        intro m
        induction m with
        | zero => intro _; rw [show ((ys.length + 1 + 0 : Nat) : Int) = (ys.length : Int) + 1 by omega]; exact Int.le_refl _
        | succ m ihm =>
          intro hm
          have a := ihm (by omega)
          have b := h.2.1 (ys.length + 1 + (m + 1)) (by omega) hm (by omega)
          rw [show ((ys.length + 1 + (m + 1) : Nat) : Int) - 1 = ((ys.length + 1 + m : Nat) : Int) by omega] at b
          omega
      have := key d (by omega)
      rwa [show ((ys.length + 1 + d : Nat) : Int) = (row.length : Int) - 1 by omega] at this
    obtain ⟨g, hg⟩ : ∃ g : Nat, rd row ((ys.length : Int) + 1) - rd row (ys.length : Int) = (g : Int) := ⟨(rd row ((ys.length : Int) + 1) - rd row (ys.length : Int)).toNat, by omega⟩
    obtain ⟨r, hr⟩ : ∃ r : Nat, rd row ((row.length : Int) - 1) - rd row ((ys.length : Int) + 1) = (r : Int) := ⟨(rd row ((row.length : Int) - 1) - rd row ((ys.length : Int) + 1)).toNat, by omega⟩
    have h4 : ∀ n : Nat, ((List.range n).flatMap fun (j : Nat) => abvL row d (ys ++ [abvLow row ys + (j : Int)])).length ≤ n * 2 ^ r := by
      intro n
      induction n with
      | zero => simp
      | succ n ihn =>
        rw [List.range_succ, List.flatMap_append, List.length_append, Nat.succ_mul]
        have := ih (ys ++ [abvLow row ys + (n : Int)]) (by simp; omega)
        rw [show ((ys ++ [abvLow row ys + (n : Int)]).length : Int) = (ys.length : Int) + 1 by simp, hr, Int.toNat_natCast] at this
        simp only [List.flatMap_cons, List.flatMap_nil, List.append_nil]
        omega
    have h5 := h4 (rd row ((ys.length : Int) + 1) + 1 - abvLow row ys).toNat
    have h6 : (rd row ((ys.length : Int) + 1) + 1 - abvLow row ys).toNat ≤ 2 ^ g := by
      have : g + 1 ≤ 2 ^ g := Nat.lt_two_pow_self
      omega
    have h7 := Nat.mul_le_mul_right (2 ^ r) h6
    rw [← Nat.pow_add] at h7
    rw [show rd row ((row.length : Int) - 1) - rd row (ys.length : Int) = ((g + r : Nat) : Int) by omega, Int.toNat_natCast]
    omega
theorem total_rows (l : List (List Int)) (c : Nat) (h : ∀ x ∈ l, x.length ≤ c) : total l ≤ l.length * c := by
  induction l with
  | nil => simp [total]
  | cons x xs ih =>
    rw [total_cons, List.length_cons, Nat.succ_mul]
    have h1 := ih (fun y hy => h y (List.mem_cons_of_mem _ hy))
    have h2 := h x List.mem_cons_self
    omega
theorem abvL_small {row : List Int} (h : Row row) : (abvL row (row.length - 1) []).length ≤ 32768 ∧ total (abvL row (row.length - 1) []) ≤ 1048576 := by
  have h1 := abvL_few h (row.length - 1) [] (by have := h.1; simp; omega)
  have hb := h.2.2 (row.length - 1) (Nat.zero_le _) (by have := h.1; omega)
  have hb0 := h.2.2 0 (Nat.zero_le _) (by have := h.1; omega)
  rw [show ((row.length - 1 : Nat) : Int) = (row.length : Int) - 1 by have := h.1; omega] at hb
  have h2 : 2 ^ (rd row ((row.length : Int) - 1) - rd row ((([] : List Int).length : Nat) : Int)).toNat ≤ 2 ^ 15 := Nat.pow_le_pow_right (by decide) (by simp at hb0 ⊢; omega)
  have h3 := total_rows (abvL row (row.length - 1) []) 6 (fun x hx => by have := abvL_rows row _ _ x hx; simp at this; have := h.1; omega)
  omega
theorem ev_trAbove {row : List Int} (h : Row row) : ∀ (d : Nat) (ys : List Int), ys.length + d + 1 = row.length → Ev (fun k => spec_trAbove.f k row ys) (abvL row d ys) := by
  have h6 := h.1.2
  intro d
  induction d with
  | zero =>
    intro ys hd
    refine Ev.succ ?_
    simp only [spec_trAbove.f]
    rw [wrapE ((row.length : Int) - 1) (by omega) (by omega)]
    exact Ev.pos (by omega) (Ev.bind0 (l1Own_eq ys (by omega)) (Ev.now _))
  | succ d ih =>
    intro ys hd
    refine Ev.succ ?_
    simp only [spec_trAbove.f]
    rw [wrapE ((row.length : Int) - 1) (by omega) (by omega)]
    refine Ev.neg (by omega) (Ev.pos (by omega) (Ev.pos (by omega) ?_))
    have hr1 := h.2.1 (ys.length + 1) (by omega) (by omega) (by omega)
    rw [show ((ys.length + 1 : Nat) : Int) - 1 = (ys.length : Int) by omega, show ((ys.length + 1 : Nat) : Int) = (ys.length : Int) + 1 by omega] at hr1
    have hb1 := h.2.2 (ys.length + 1) (by omega) (by omega)
    rw [show ((ys.length + 1 : Nat) : Int) = (ys.length : Int) + 1 by omega] at hb1
    have hb0 := h.2.2 ys.length (by omega) (by omega)
    have hge := abvLow_ge row ys
    have hlow : abvLow row ys = if ys.length = 0 then rd row 0 else mx (rd row (ys.length : Int)) (rd ys ((ys.length : Int) - 1) + 1) := rfl
    obtain ⟨lo, hlo⟩ : ∃ lo, lo = abvLow row ys := ⟨_, rfl⟩
    obtain ⟨hi, hhi⟩ : ∃ hi, hi = rd row ((ys.length : Int) + 1) := ⟨_, rfl⟩
    obtain ⟨x0, hx0⟩ : ∃ x0, x0 = rd row (ys.length : Int) := ⟨_, rfl⟩
    have hres : abvL row (d + 1) ys = (List.range (hi + 1 - lo).toNat).flatMap fun (j : Nat) => abvL row d (ys ++ [lo + (j : Int)]) := by
      simp only [abvL]
      rw [← hlo, ← hhi]
    rw [hres, ← hx0]
    rw [← hhi] at hr1 hb1
    rw [← hlo, ← hx0] at hge
    rw [← hx0] at hr1 hb0
    rw [← hlo, ← hx0] at hlow
    suffices hs : ∀ (m : Nat) (x : Int), x0 ≤ x → x ≤ hi + 1 → x + (m : Int) = hi + 1 → Ev (fun k => spec_trAbove.l0 k row ys (ys.length : Int) ((List.range (x - lo).toNat).flatMap fun (j : Nat) => abvL row d (ys ++ [lo + (j : Int)])) x) ((List.range (hi + 1 - lo).toNat).flatMap fun (j : Nat) => abvL row d (ys ++ [lo + (j : Int)])) by
      have := hs (hi + 1 - x0).toNat x0 (Int.le_refl _) (by omega) (by omega)
      rw [show (x0 - lo).toNat = 0 by omega] at this
      exact this
    intro m
    induction m with
    | zero =>
      intro x h0 h1 h2
      refine Ev.succ ?_
      simp only [spec_trAbove.l0]
      rw [wrapE ((ys.length : Int) + 1) (by omega) (by omega), ← hhi]
      rw [show x = hi + 1 by omega]
      exact Ev.pos (by omega) (Ev.pos (by omega) (Ev.neg (by omega) (Ev.now _)))
    | succ m ihm =>
      intro x h0 h1 h2
      refine Ev.succ ?_
      simp only [spec_trAbove.l0]
      rw [wrapE ((ys.length : Int) + 1) (by omega) (by omega), wrapE ((ys.length : Int) - 1) (by omega) (by omega), ← hhi]
      refine Ev.pos (by omega) (Ev.pos (by omega) (Ev.pos (by omega) ?_))
      have hn := ihm (x + 1) (by omega) (by omega) (by omega)
      have yes : lo ≤ x → Ev (fun k => spec_trAbove.j1 k row ys (ys.length : Int) ((List.range (x - lo).toNat).flatMap fun (j : Nat) => abvL row d (ys ++ [lo + (j : Int)])) x true) ((List.range (hi + 1 - lo).toNat).flatMap fun (j : Nat) => abvL row d (ys ++ [lo + (j : Int)])) := by
        intro hl
        refine Ev.succ ?_
        simp only [spec_trAbove.j1]
        obtain ⟨j, hj⟩ : ∃ j : Nat, x = lo + (j : Int) := ⟨(x - lo).toNat, by omega⟩
        have e1 : (x - lo).toNat = j := by omega
        have e2 : (x + 1 - lo).toNat = j + 1 := by omega
        rw [e2, List.range_succ, List.flatMap_append, List.flatMap_singleton, ← hj] at hn
        rw [e1]
        have hok := h.ok
        have hlen : ((List.range j).flatMap fun (j : Nat) => abvL row d (ys ++ [lo + (j : Int)])).length ≤ 16 * 1048576 := by
          have : ∀ n : Nat, ((List.range n).flatMap fun (j : Nat) => abvL row d (ys ++ [lo + (j : Int)])).length ≤ n * 1048576 := by
            intro n
            induction n with
            | zero => simp
            | succ n ihn =>
              rw [List.range_succ, List.flatMap_append, List.length_append, Nat.succ_mul]
              have h7 := abvL_len hok d (ys ++ [lo + (n : Int)]) (by simp; omega)
              have h8 : 16 ^ d ≤ 1048576 := Nat.le_trans (Nat.pow_le_pow_right (by decide) (show d ≤ 5 by omega)) (by decide)
              simp only [List.flatMap_cons, List.flatMap_nil, List.append_nil]
              omega
          have h9 := this j
          have h10 : j ≤ 16 := by omega
          exact Nat.le_trans h9 (Nat.mul_le_mul_right _ h10)
        have h7 := abvL_len hok d (ys ++ [x]) (by simp; omega)
        have h8 : 16 ^ d ≤ 1048576 := Nat.le_trans (Nat.pow_le_pow_right (by decide) (show d ≤ 5 by omega)) (by decide)
        refine Ev.pos trivial (Ev.bind0 (l1Own_eq ys (by omega)) (Ev.pos (by omega) (Ev.bind (ih (ys ++ [x]) (by simp; omega)) (Ev.pos (by omega) ?_))))
        rw [wrapE (x + 1) (by omega) (by omega)]
        exact hn
      by_cases c : ys.length = 0
      · refine Ev.pos (by omega) (yes ?_)
        rw [hlow, if_pos c]
        rw [hx0, c] at h0
        exact h0
      · rw [if_neg c] at hlow
        refine Ev.neg (by omega) (Ev.pos (by omega) (Ev.pos (by omega) ?_))
        by_cases e : x > rd ys ((ys.length : Int) - 1)
        · rw [decide_eq_true e]
          refine yes ?_
          rw [hlow]
          unfold mx
          split <;> omega
        · rw [decide_eq_false e]
          refine Ev.succ ?_
          simp only [spec_trAbove.j1]
          rw [wrapE (x + 1) (by omega) (by omega)]
          refine Ev.neg (by decide) ?_
          have : rd ys ((ys.length : Int) - 1) + 1 ≤ lo := by
            rw [hlow]
            unfold mx
            split <;> omega
          rw [show (x + 1 - lo).toNat = 0 by omega] at hn
          rw [show (x - lo).toNat = 0 by omega]
          exact hn
end Go.Proofs.Ythjiajkmaimbjaa.Pure
