/- FnExactFromTriangle returns true for every table: program and reference answer alike, in memory of their own. No conditions. -/
import Derived.Test.YthjiajkmaimbjaaFLawsFnExactFromTriangle
import Derived.Test.YthjiajkmaimbjaaQSign
import Derived.Test.YthjiajkmaimbjaaQIndex
import Derived.Test.YthjiajkmaimbjaaQTri
namespace Go.Proofs.Ythjiajkmaimbjaa.Pure
open Go.Proofs.Ythjiajkmaimbjaa.B Go.Proofs.Ythjiajkmaimbjaa.P
open Go.RowKit Go.Proofs.YthjiajkmaimbjaaW.PrintWords Go.Proofs.YthjiajkmaimbjaaW.PrintLast Go.Proofs.YthjiajkmaimbjaaW.PrintMore
set_option linter.unusedVariables false
set_option linter.unusedSimpArgs false
/-- How often a number stands in a list. -/
def cN (l : List Int) (b : Nat) : Int := (l.count (b : Int) : Int)
theorem cN_push (l : List Int) (x : Int) (b : Nat) : cN (l ++ [x]) b = cN l b + if x = (b : Int) then 1 else 0 := by
  unfold cN
  rw [List.count_append]
  by_cases h : x = (b : Int)
  · rw [if_pos h, h]; simp
  · rw [if_neg h]
    have : [x].count (b : Int) = 0 := List.count_eq_zero.mpr (by simp; exact fun e => h e.symm)
    rw [this]; simp
theorem cN_nil (b : Nat) : cN [] b = 0 := rfl
theorem cN_bound (l : List Int) (b : Nat) : 0 ≤ cN l b ∧ cN l b ≤ l.length := by
  unfold cN
  have : l.count (b : Int) ≤ l.length := List.count_le_length
  omega
theorem rises_lt {l : List Int} (h : Rises l 0) (i : Nat) : ∀ d, i + d + 1 < l.length → rd l (i : Int) < rd l ((i + d + 1 : Nat) : Int) := by
  intro d
  induction d with
  | zero =>
    intro hd
    have := h (i + 1) (by omega) (by omega) (by omega)
    rw [show ((i + 1 : Nat) : Int) - 1 = (i : Int) by omega] at this
    exact this
  | succ d ih =>
    intro hd
    have h1 := ih (by omega)
    have h2 := h (i + (d + 1) + 1) (by omega) (by omega) (by omega)
    rw [show ((i + (d + 1) + 1 : Nat) : Int) - 1 = ((i + d + 1 : Nat) : Int) by omega] at h2
    omega
theorem rises_nodup {l : List Int} (h : Rises l 0) : l.Nodup := by
  refine List.pairwise_iff_getElem.mpr (fun i j hi hj hij e => ?_)
  obtain ⟨d, rfl⟩ : ∃ d, j = i + d + 1 := ⟨j - i - 1, by omega⟩
  have := rises_lt h i d hj
  rw [rd_get l i hi, rd_get l _ hj, e] at this
  omega
theorem cN_mem {l : List Int} (h : Rises l 0) (b : Nat) : cN l b = if (b : Int) ∈ l then 1 else 0 := by
  unfold cN
  rw [(rises_nodup h).count]
  split <;> rfl
/-- What a triangle with the last number n - 1 holds. -/
theorem tri_top {t : List (List Int)} (h : Tri t) (ht : gd t (t.length - 1) (t.length - 1) = (t.length : Int) - 1) : ∀ (d i : Nat), i + d + 1 = t.length → (row t i).length = i + 1 ∧ Rises (row t i) 0 ∧ ∀ j, j ≤ i → 0 ≤ gd t i j ∧ gd t i j ≤ (t.length : Int) - 1 := by
  have rowi : ∀ i, i < t.length → ∃ h : i < t.length, row t i = t[i] := fun i hi => ⟨hi, by unfold row; rw [List.getD_eq_getElem?_getD, List.getElem?_eq_getElem hi]; rfl⟩
  intro d
  induction d with
  | zero =>
    intro i hi
    obtain ⟨hlt, e⟩ := rowi i (by omega)
    obtain ⟨_, h1, h2, h3, h4, h5⟩ := h.2.2 i (by omega) hlt
    rw [← e] at h1 h3 h4
    refine ⟨h1, h3, fun j hj => ?_⟩
    have hb := h4 j (by omega) (by omega)
    rw [rd_row] at hb
    refine ⟨hb.1, ?_⟩
    by_cases c : j = i
    · subst c
      rw [show t.length - 1 = j by omega] at ht
      omega
    · obtain ⟨d, hd⟩ : ∃ d, i = j + d + 1 := ⟨i - j - 1, by omega⟩
      have h6 := rises_lt h3 j d (by omega)
      rw [← hd, rd_row, rd_row] at h6
      rw [show t.length - 1 = i by omega] at ht
      omega
  | succ d ih =>
    intro i hi
    obtain ⟨_, _, ht3⟩ := ih (i + 1) (by omega)
    obtain ⟨hlt, e⟩ := rowi i (by omega)
    obtain ⟨hlt2, e2⟩ := rowi (i + 1) (by omega)
    obtain ⟨_, h1, h2, h3, h4, _⟩ := h.2.2 i (by omega) hlt
    obtain ⟨_, _, _, _, _, h5⟩ := h.2.2 (i + 1) (by omega) hlt2
    have h6 := h5 (by omega)
    rw [← e2] at h6
    have e3 : t[i + 1 - 1]'(by omega) = row t i := by rw [e]; rfl
    rw [e3] at h6
    rw [← e] at h1 h3 h4
    refine ⟨h1, h3, fun j hj => ?_⟩
    have hb := h4 j (by omega) (by omega)
    rw [rd_row] at hb
    have h7 := (h6 j (by omega) (by omega)).2
    rw [show (j : Int) + 1 = ((j + 1 : Nat) : Int) by omega, rd_row, rd_row] at h7
    have h8 := (ht3 (j + 1) (by omega)).2
    omega
/-- The numbers of the matrix. -/
def triV (t : List (List Int)) (a b : Nat) : Int := if 0 < a then cN (row t a) b - cN (row t (a - 1)) b else cN (row t a) b
def tst1 (t : List (List Int)) (i j a b : Nat) : Int := if a < i then triV t a b else if a = i then cN ((row t i).take j) b else 0
def tst2 (t : List (List Int)) (i j a b : Nat) : Int := if a < i then triV t a b else if a = i then cN (row t i) b - cN ((row t (i - 1)).take j) b else 0
theorem take_push (l : List Int) (j : Nat) (h : j < l.length) : l.take (j + 1) = l.take j ++ [rd l (j : Int)] := by
  rw [List.take_succ_eq_append_getElem h, rd_get l j h]
theorem ev_fromTriS {t : List (List Int)} (h : Tri t) (ht : gd t (t.length - 1) (t.length - 1) = (t.length : Int) - 1) : Ev (fun k => spec_FromTriangle.j0 k t false) (tabOf t.length t.length (triV t), true) := by
  have h6 := h.2.1
  have R := fun (i : Nat) (hi : i < t.length) => tri_top h ht (t.length - 1 - i) i (by omega)
  refine Ev.succ ?_
  simp only [spec_FromTriangle.j0]
  refine Ev.neg (by decide) (Ev.bind (ev_sgZero t.length (by omega)) ?_)
  have ez : (tabOf t.length t.length fun _ _ => 0) = tabOf t.length t.length (tst1 t 0 0) := tabOf_congr (fun a _ b _ => by
    unfold tst1
    rw [if_neg (by omega), List.take_zero, cN_nil, ite_self])
  rw [ez]
  refine Ev.thru (fun i k => spec_FromTriangle.l0 k t (tabOf t.length t.length (tst1 t i 0)) t (t.length : Int) (i : Int)) t.length (fun i hi ih => ?_) ?_
  · refine Ev.succ ?_
    obtain ⟨hri, hrise, hnum⟩ := R i hi
    simp only [spec_FromTriangle.l0]
    rw [row_eq, hri]
    refine Ev.pos (by omega) (Ev.pos (by omega) (Ev.pos (by omega) ?_))
    refine Ev.thru (fun j k => spec_FromTriangle.l1 k t (tabOf t.length t.length (tst1 t i j)) (i : Int) t (t.length : Int) (i : Int) (row t i) ((i + 1 : Nat) : Int) (j : Int)) (i + 1) (fun j hj ihj => ?_) ?_
    · refine Ev.succ ?_
      have hrt : (row (tabOf t.length t.length (tst1 t i j)) i).length = t.length := row_tab_length _ _ _ _ (by omega)
      have hn := hnum j (by omega)
      obtain ⟨x, hx⟩ := Int.eq_ofNat_of_zero_le hn.1
      simp only [spec_FromTriangle.l1]
      rw [row_eq, hrt, hri, tabOf_length, wrapN j (by omega), rd_row, hx, Int.toNat_natCast, Int.toNat_natCast, rd_row, tab_gd _ _ _ _ _ (by omega) (by omega)]
      refine Ev.pos (by omega) (Ev.pos (by omega) (Ev.pos (by omega) (Ev.pos (by omega) (Ev.pos (by omega) (Ev.pos (by omega) (Ev.pos (by omega) ?_))))))
      rw [tab_set _ _ _ _ _ (by omega) (by omega)]
      have e3 : (tabOf t.length t.length fun a b => if a = i ∧ b = x then wrap64 (tst1 t i j i x + 1) else tst1 t i j a b) = tabOf t.length t.length (tst1 t i (j + 1)) := by
        refine tabOf_congr (fun a _ b _ => ?_)
        have e4 : tst1 t i j i x = cN ((row t i).take j) x := by unfold tst1; rw [if_neg (by omega), if_pos rfl]
        have hb := cN_bound ((row t i).take j) x
        have hlt : ((row t i).take j).length ≤ j := by rw [List.length_take]; omega
        rw [e4, wrapE _ (by omega) (by omega)]
        unfold tst1
        by_cases c : a = i
        · subst c
          rw [if_neg (Nat.lt_irrefl a), if_neg (Nat.lt_irrefl a), if_pos rfl, if_pos rfl, take_push _ _ (by omega), cN_push, rd_row, hx]
          by_cases d : b = x
          · subst d
            rw [if_pos ⟨rfl, rfl⟩, if_pos rfl]
          · rw [if_neg (fun y => d y.2), if_neg (by omega)]
            omega
        · rw [if_neg (fun y => c y.1), if_neg c, if_neg c]
      rw [e3]
      exact ihj
    · refine Ev.succ ?_
      simp only [spec_FromTriangle.l1]
      refine Ev.neg (by omega) ?_
      by_cases c : i = 0
      · subst c
        refine Ev.neg (by omega) ?_
        rw [wrapN 0 (by omega)]
        have e3 : tabOf t.length t.length (tst1 t 0 (0 + 1)) = tabOf t.length t.length (tst1 t (0 + 1) 0) := by
          refine tabOf_congr (fun a _ b _ => ?_)
          unfold tst1
          rw [if_neg (by omega)]
          by_cases d : a = 0
          · subst d
            rw [if_pos rfl, if_pos (by omega), List.take_of_length_le (by omega)]
            unfold triV
            rw [if_neg (by omega)]
          · rw [if_neg d, if_neg (by omega), List.take_zero, cN_nil, ite_self]
        rw [e3]
        exact ih
      · obtain ⟨p, rfl⟩ : ∃ p, i = p + 1 := ⟨i - 1, by omega⟩
        obtain ⟨hrp, hrisep, hnump⟩ := R p (by omega)
        have ew : wrap64 (((p + 1 : Nat) : Int) - 1) = (p : Int) := by rw [wrapE _ (by omega) (by omega)]; omega
        rw [ew, row_eq, hrp]
        refine Ev.pos (by omega) (Ev.pos (by omega) (Ev.pos (by omega) ?_))
        have e0 : tabOf t.length t.length (tst1 t (p + 1) (p + 1 + 1)) = tabOf t.length t.length (tst2 t (p + 1) 0) := by
          refine tabOf_congr (fun a _ b _ => ?_)
          unfold tst1 tst2
          rw [List.take_of_length_le (by omega), List.take_zero, cN_nil, Int.sub_zero]
        rw [e0]
        refine Ev.thru (fun j k => spec_FromTriangle.l2 k t (tabOf t.length t.length (tst2 t (p + 1) j)) ((p + 1 : Nat) : Int) t (t.length : Int) ((p + 1 : Nat) : Int) (row t p) ((p + 1 : Nat) : Int) (j : Int)) (p + 1) (fun j hj ihj => ?_) ?_
        · refine Ev.succ ?_
          have hrt : (row (tabOf t.length t.length (tst2 t (p + 1) j)) (p + 1)).length = t.length := row_tab_length _ _ _ _ (by omega)
          have hn := hnump j (by omega)
          obtain ⟨x, hx⟩ := Int.eq_ofNat_of_zero_le hn.1
          simp only [spec_FromTriangle.l2]
          rw [row_eq, hrt, hrp, tabOf_length, wrapN j (by omega), rd_row, hx, Int.toNat_natCast, Int.toNat_natCast, rd_row, tab_gd _ _ _ _ _ (by omega) (by omega)]
          refine Ev.pos (by omega) (Ev.pos (by omega) (Ev.pos (by omega) (Ev.pos (by omega) (Ev.pos (by omega) (Ev.pos (by omega) (Ev.pos (by omega) ?_))))))
          rw [tab_set _ _ _ _ _ (by omega) (by omega)]
          have e3 : (tabOf t.length t.length fun a b => if a = p + 1 ∧ b = x then wrap64 (tst2 t (p + 1) j (p + 1) x - 1) else tst2 t (p + 1) j a b) = tabOf t.length t.length (tst2 t (p + 1) (j + 1)) := by
            refine tabOf_congr (fun a _ b _ => ?_)
            have e4 : tst2 t (p + 1) j (p + 1) x = cN (row t (p + 1)) x - cN ((row t p).take j) x := by unfold tst2; rw [if_neg (by omega), if_pos rfl, Nat.add_sub_cancel]
            have hb := cN_bound ((row t p).take j) x
            have hb2 := cN_bound (row t (p + 1)) x
            have hlt : ((row t p).take j).length ≤ j := by rw [List.length_take]; omega
            rw [e4, wrapE _ (by omega) (by omega)]
            unfold tst2
            rw [Nat.add_sub_cancel]
            by_cases c : a = p + 1
            · subst c
              rw [if_neg (Nat.lt_irrefl _), if_neg (Nat.lt_irrefl _), if_pos rfl, if_pos rfl, take_push _ _ (by omega), cN_push, rd_row, hx]
              by_cases d : b = x
              · subst d
                rw [if_pos ⟨rfl, rfl⟩, if_pos rfl]
                omega
              · rw [if_neg (fun y => d y.2), if_neg (by omega)]
                omega
            · rw [if_neg (fun y => c y.1), if_neg c, if_neg c]
          rw [e3]
          exact ihj
        · refine Ev.succ ?_
          simp only [spec_FromTriangle.l2]
          rw [wrapN (p + 1) (by omega)]
          refine Ev.neg (by omega) ?_
          have e3 : tabOf t.length t.length (tst2 t (p + 1) (p + 1)) = tabOf t.length t.length (tst1 t (p + 1 + 1) 0) := by
            refine tabOf_congr (fun a _ b _ => ?_)
            unfold tst1 tst2
            by_cases c : a < p + 1
            · rw [if_pos c, if_pos (by omega)]
            · rw [if_neg c]
              by_cases d : a = p + 1
              · subst d
                rw [if_pos rfl, if_pos (by omega), Nat.add_sub_cancel, List.take_of_length_le (by omega)]
                unfold triV
                rw [if_pos (by omega), Nat.add_sub_cancel]
              · rw [if_neg d, if_neg (by omega), List.take_zero, cN_nil, ite_self]
          rw [e3]
          exact ih
  · refine Ev.succ ?_
    simp only [spec_FromTriangle.l0]
    refine Ev.neg (by omega) ?_
    have e3 : tabOf t.length t.length (tst1 t t.length 0) = tabOf t.length t.length (triV t) := tabOf_congr (fun a ha b _ => by unfold tst1; rw [if_pos ha])
    rw [e3]
    exact Ev.now _
theorem bit_eq (p : Prop) [Decidable p] : impl_bit.f (decide p) = some (if p then 1 else 0) := by
  unfold impl_bit.f
  by_cases h : p <;> simp [h]
theorem ev_triO {t : List (List Int)} (h : Tri t) (ht : gd t (t.length - 1) (t.length - 1) = (t.length : Int) - 1) (i j : Nat) (hi : i < t.length) : Ev (fun k => triO k t i j) (triV t i j) := by
  have h6 := h.2.1
  have R := fun (i : Nat) (hi : i < t.length) => tri_top h ht (t.length - 1 - i) i (by omega)
  obtain ⟨hri, hrise, _⟩ := R i hi
  unfold triO triV
  have e1 : t.getD i [] = row t i := rfl
  have e2 : t.getD (i - 1) [] = row t (i - 1) := rfl
  rw [e1, e2, cN_mem hrise]
  refine Ev.bind (ev_contains (row t i) (j : Int) (by omega)) ?_
  rw [bit_eq]
  refine Ev.bind0 rfl ?_
  by_cases c : 0 < i
  · obtain ⟨hrp, hrisep, _⟩ := R (i - 1) (by omega)
    rw [if_pos c, cN_mem hrisep]
    refine Ev.pos c (Ev.bind (ev_contains (row t (i - 1)) (j : Int) (by omega)) ?_)
    rw [bit_eq]
    refine Ev.bind0 rfl ?_
    rw [wrapE _ (by split <;> split <;> omega) (by split <;> split <;> omega)]
    exact Ev.now _
  · rw [if_neg c]
    exact Ev.neg c (Ev.now _)
theorem FnExactFromTriangle : laws_FnExactFromTriangle.Pure := by
  intro t hl htot _
  have hr : ∀ x ∈ t, x.length ≤ 1048576 := fun x hx => Nat.le_trans (row_le_total t x hx) htot
  obtain ⟨b, hb, e1, e2⟩ := EvB.same (trGood_tells t hl hr) (isTriangle_tells t hl hr)
  have sbad : ∀ x, x = true → Ev (fun k => spec_FromTriangle.j0 k t x) (([] : List (List Int)), false) := by
    intro x hx
    refine Ev.succ ?_
    simp only [spec_FromTriangle.j0]
    exact Ev.pos hx (Ev.now _)
  have key : ∃ r : List (List Int) × Bool, Ev (fun k => spec_FromTriangle.f k t) r ∧ Ev (fun k => impl_FromTriangle.f k t) r ∧ total r.1 ≤ 1048576 ∧ r.1.length ≤ 1048576 := by
    unfold spec_FromTriangle.f impl_FromTriangle.f
    cases b with
    | false => exact ⟨([], false), Ev.bind e1 (Ev.neg (by decide) (sbad _ rfl)), Ev.bind e2 (Ev.neg (by decide) (Ev.now _)), by simp [total], by simp⟩
    | true =>
      have h := hb.mp rfl
      have h1 := h.1
      have h6 := h.2.1
      have hlast : (row t (t.length - 1)).length = t.length := by
        obtain ⟨hlt, h2, _⟩ := h.2.2 (t.length - 1) (by omega) (by omega)
        unfold row
        rw [List.getD_eq_getElem?_getD, List.getElem?_eq_getElem hlt]
        show (t[t.length - 1]).length = _
        omega
      have ew : wrap64 ((t.length : Int) - 1) = ((t.length - 1 : Nat) : Int) := by rw [wrapE _ (by omega) (by omega)]; omega
      have eg : (t.getD (t.length - 1) []).length = t.length := hlast
      rw [ew, row_eq, hlast, rd_row, eg]
      by_cases ht : gd t (t.length - 1) (t.length - 1) = (t.length : Int) - 1
      · have ed : (gd t (t.length - 1) (t.length - 1) != ((t.length - 1 : Nat) : Int)) = false := by simp; omega
        rw [ed]
        refine ⟨(tabOf t.length t.length (triV t), true), Ev.bind e1 (Ev.pos rfl (Ev.pos (by omega) (Ev.pos (by omega) (Ev.pos (by omega) (ev_fromTriS h ht))))), Ev.bind e2 (Ev.pos rfl (Ev.pos ⟨h1, by omega, rfl⟩ (Ev.pos ht ?_))), tab_small _ _ h6⟩
        exact Ev.bind (ev_tabR (fun i hi j _ => ev_triO h ht i j hi)) (Ev.now _)
      · have ed : (gd t (t.length - 1) (t.length - 1) != ((t.length - 1 : Nat) : Int)) = true := by simp; omega
        rw [ed]
        exact ⟨([], false), Ev.bind e1 (Ev.pos rfl (Ev.pos (by omega) (Ev.pos (by omega) (Ev.pos (by omega) (sbad _ rfl))))), Ev.bind e2 (Ev.pos rfl (Ev.pos ⟨h1, by omega, rfl⟩ (Ev.neg ht (Ev.now _)))), by simp [total], by simp⟩
  obtain ⟨r, h1, h2, h3, h4⟩ := key
  exact ⟨r.1, r.2, h1.rounds, h2.rounds, h3, h4⟩
end Go.Proofs.Ythjiajkmaimbjaa.Pure
