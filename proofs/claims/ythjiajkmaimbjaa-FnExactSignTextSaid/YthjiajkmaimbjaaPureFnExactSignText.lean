/- FnExactSignText returns true for every table: program and reference write the same text of a sign matrix, and the argument stays as it is. No conditions. -/
import Derived.Test.YthjiajkmaimbjaaFLawsFnExactSignText
import Derived.Test.YthjiajkmaimbjaaQSign
import Derived.Test.YthjiajkmaimbjaaQIn
namespace Go.Proofs.Ythjiajkmaimbjaa.Pure
open Go.Proofs.Ythjiajkmaimbjaa.B Go.Proofs.Ythjiajkmaimbjaa.P
open Go.RowKit Go.Proofs.YthjiajkmaimbjaaW.PrintWords Go.Proofs.YthjiajkmaimbjaaW.PrintLast Go.Proofs.YthjiajkmaimbjaaW.PrintMore
set_option linter.unusedVariables false
set_option linter.unusedSimpArgs false
/-- The byte of one entry. -/
def chr (x : Int) : Int := bt (⟨#[45, 48, 43]⟩ : ByteArray) (x + 1)
theorem chr_1 : chr 1 = 43 := by decide
theorem chr_0 : chr 0 = 48 := by decide
theorem chr_m : chr (-1) = 45 := by decide
/-- The text of the first i rows. -/
def accN (m : List (List Int)) : Nat → List Int
  | 0 => []
  | i + 1 => accN m i ++ (if i = 0 then [] else [47]) ++ (row m i).map chr
theorem strOfNums_snoc (xs : List Int) (c : Int) (d : UInt8) (h : UInt8.ofNat c.toNat = d) : strOfNums (xs ++ [c]) = strOfNums xs ++ (⟨#[d]⟩ : ByteArray) := by
  apply ByteArray.ext
  rw [ByteArray.data_append]
  simp [strOfNums, h]
theorem tail_snoc (sep y : List UInt8) : ∀ r : List (List UInt8), Lib.joinTail sep (r ++ [y]) = Lib.joinTail sep r ++ sep ++ y
  | [] => by simp [Lib.joinTail]
  | z :: r => by simp [Lib.joinTail, tail_snoc sep y r]
theorem join_snoc (sep y : List UInt8) (xs : List (List UInt8)) : Lib.join (xs ++ [y]) sep = Lib.join xs sep ++ (if xs = [] then [] else sep) ++ y := by
  cases xs with
  | nil => simp [Lib.join_one, Lib.join_nil]
  | cons x r => rw [List.cons_append, Lib.join_cons, Lib.join_cons, tail_snoc]; simp
def rowsT (m : List (List Int)) (i : Nat) : List ByteArray := (m.take i).map fun r => strOfNums (r.map chr)
theorem rowsT_succ (m : List (List Int)) (i : Nat) (hi : i < m.length) : rowsT m (i + 1) = rowsT m i ++ [strOfNums ((row m i).map chr)] := by
  unfold rowsT
  rw [List.take_succ_eq_append_getElem hi, List.map_append]
  have : row m i = m[i] := by unfold row; rw [List.getD_eq_getElem?_getD, List.getElem?_eq_getElem hi]; rfl
  rw [this]
  rfl
theorem rowsT_len (m : List (List Int)) (i : Nat) : (rowsT m i).length ≤ i := by
  unfold rowsT
  rw [List.length_map]
  exact List.length_take_le _ _
theorem join_acc (m : List (List Int)) : ∀ i, i ≤ m.length → Lib.join ((rowsT m i).map (·.data.toList)) [47] = (strOfNums (accN m i)).data.toList
  | 0, _ => rfl
  | i + 1, h => by
    rw [rowsT_succ m i (by omega), List.map_append, List.map_singleton, join_snoc, join_acc m i (by omega)]
    have hl : (rowsT m i).length = i := by unfold rowsT; rw [List.length_map, List.length_take]; omega
    have he : ((rowsT m i).map (·.data.toList) = []) ↔ i = 0 := by
      rw [← List.length_eq_zero_iff, List.length_map, hl]
    rw [ite_iff he]
    simp only [accN]
    rw [strOfNums_data, strOfNums_data, strOfNums_data]
    by_cases c : i = 0
    · subst c; simp
    · rw [if_neg c, if_neg c]
      simp
theorem acc_len (m : List (List Int)) (h : Sq m) : ∀ i, i ≤ m.length → (accN m i).length ≤ i * 7
  | 0, _ => by simp [accN]
  | i + 1, hi => by
    have := acc_len m h i (by omega)
    have hr := h.row (i := i) (by omega)
    have h6 := h.2.1
    simp only [accN, List.length_append, List.length_map]
    have : (if i = 0 then ([] : List Int) else [47]).length ≤ 1 := by split <;> simp
    omega
theorem val3 {l : List Int} (h : Alt l) (j : Nat) (hj : j < l.length) : rd l (j : Int) = -1 ∨ rd l (j : Int) = 0 ∨ rd l (j : Int) = 1 := by
  have h1 := (h.1 j hj).1
  unfold inB at h1
  simp at h1
  omega
theorem take_chr (l : List Int) (j : Nat) (hj : j < l.length) : (l.take (j + 1)).map chr = (l.take j).map chr ++ [chr (rd l (j : Int))] := by
  rw [List.take_succ_eq_append_getElem hj, List.map_append, rd_get _ _ hj]
  rfl
theorem ev_sgText (m : List (List Int)) (g : Good m) : Ev (fun k => spec_sgText.f k m) (strOfNums (accN m m.length)) := by
  have h6 := g.1.2.1
  unfold spec_sgText.f
  have := Ev.thru (r := strOfNums (accN m m.length)) (fun i k => spec_sgText.l0 k (strOfNums (accN m i)) m (m.length : Int) (i : Int)) m.length (fun i hi ih => ?_) ?_
  · exact this
  · have hr := g.1.row hi
    have ha := g.2.1 i hi
    have hlen := acc_len m g.1 i (by omega)
    have hrow : ∀ pre : List Int, pre = accN m i ++ (if i = 0 then [] else [47]) → Ev (fun k => spec_sgText.j1 k (strOfNums pre) (row m i) m (m.length : Int) (i : Int)) (strOfNums (accN m m.length)) := by
      intro pre hpre
      have hpl : pre.length ≤ 100 := by
        rw [hpre, List.length_append]
        have : (if i = 0 then ([] : List Int) else [47]).length ≤ 1 := by split <;> simp
        omega
      refine Ev.succ ?_
      simp only [spec_sgText.j1]
      have := Ev.thru (r := strOfNums (accN m m.length)) (fun j k => spec_sgText.l1 k (strOfNums (pre ++ ((row m i).take j).map chr)) m (m.length : Int) (i : Int) (row m i) ((row m i).length : Int) (j : Int)) (row m i).length (fun j hj ihj => ?_) ?_
      · simpa using this
      · refine Ev.succ ?_
        simp only [spec_sgText.l1]
        have hsz : (strOfNums (pre ++ ((row m i).take j).map chr)).size + 1 ≤ 9223372036854775807 := by
          rw [strOfNums_size, List.length_append, List.length_map]
          have := List.length_take_le j (row m i)
          omega
        rw [wrapN j (by omega)]
        rw [take_chr _ _ hj, ← List.append_assoc] at ihj
        refine Ev.pos (by omega) (Ev.pos (by omega) (Ev.pos (by omega) ?_))
        rcases val3 ha j hj with e | e | e
        · rw [e, chr_m, strOfNums_snoc _ _ 45 (by decide)] at ihj
          rw [e]
          exact Ev.neg (by decide) (Ev.pos rfl (Ev.pos hsz ihj))
        · rw [e, chr_0, strOfNums_snoc _ _ 48 (by decide)] at ihj
          rw [e]
          exact Ev.neg (by decide) (Ev.neg (by decide) (Ev.pos hsz ihj))
        · rw [e, chr_1, strOfNums_snoc _ _ 43 (by decide)] at ihj
          rw [e]
          exact Ev.pos rfl (Ev.pos hsz ihj)
      · refine Ev.succ ?_
        simp only [spec_sgText.l1]
        rw [wrapN i (by omega), List.take_length, hpre]
        exact Ev.neg (by omega) ih
    refine Ev.succ ?_
    simp only [spec_sgText.l0]
    rw [row_eq]
    refine Ev.pos (by omega) (Ev.pos (by omega) (Ev.pos (by omega) ?_))
    by_cases c : i = 0
    · refine Ev.neg (by omega) (hrow (accN m i) ?_)
      rw [if_pos c, List.append_nil]
    · have h2 := hrow (accN m i ++ [47]) (by rw [if_neg c])
      rw [strOfNums_snoc _ _ 47 (by decide)] at h2
      exact Ev.pos (by omega) (Ev.pos (by rw [strOfNums_size]; omega) h2)
  · refine Ev.succ ?_
    simp only [spec_sgText.l0]
    exact Ev.neg (by omega) (Ev.now _)
theorem ev_signText (m : List (List Int)) (g : Good m) : Ev (fun k => impl_signText.f k m) (strOfNums (accN m m.length)) := by
  have h6 := g.1.2.1
  unfold impl_signText.f
  have := Ev.thru (r := strOfNums (accN m m.length)) (fun i k => impl_signText.l0 k (rowsT m i) m (m.length : Int) (i : Int)) m.length (fun i hi ih => ?_) ?_
  · exact this
  · have hr := g.1.row hi
    have ha := g.2.1 i hi
    refine Ev.succ ?_
    simp only [impl_signText.l0]
    rw [row_eq]
    refine Ev.pos (by omega) (Ev.pos (by omega) (Ev.pos (by omega) ?_))
    have := Ev.thru (r := strOfNums (accN m m.length)) (fun j k => impl_signText.l1 k (rowsT m i) (((row m i).take j).map chr) m (m.length : Int) (i : Int) (row m i) ((row m i).length : Int) (j : Int)) (row m i).length (fun j hj ihj => ?_) ?_
    · exact this
    · refine Ev.succ ?_
      simp only [impl_signText.l1]
      have hv := val3 ha j hj
      have hw : wrap64 (rd (row m i) (j : Int) + 1) = rd (row m i) (j : Int) + 1 := wrapE _ (by omega) (by omega)
      rw [wrapN j (by omega), hw]
      rw [take_chr _ _ hj] at ihj
      have hl : (((row m i).take j).map chr).length < 140737488355328 := by
        rw [List.length_map]
        have := List.length_take_le j (row m i)
        omega
      exact Ev.pos (by omega) (Ev.pos (by omega) (Ev.pos (by omega) (Ev.pos (by omega) (Ev.pos (by omega) (Ev.pos hl ihj)))))
    · refine Ev.succ ?_
      simp only [impl_signText.l1]
      have := rowsT_len m i
      rw [wrapN i (by omega), List.take_length, ← rowsT_succ m i hi]
      exact Ev.neg (by omega) (Ev.pos (by omega) ih)
  · refine Ev.succ ?_
    simp only [impl_signText.l0]
    have hj := join_acc m m.length (Nat.le_refl _)
    have e : strings_Join.f (rowsT m m.length) (⟨#[47]⟩ : ByteArray) = some (strOfNums (accN m m.length)) := by
      unfold strings_Join.f
      have hjj : Lib.join ((rowsT m m.length).map (·.data.toList)) (⟨#[47]⟩ : ByteArray).data.toList = (strOfNums (accN m m.length)).data.toList := hj
      rw [hjj]
      have h1 := rowsT_len m m.length
      have h2 := acc_len m g.1 m.length (Nat.le_refl _)
      rw [if_pos ⟨by omega, by rw [strOfNums_data, List.length_map]; omega⟩]
    exact Ev.neg (by omega) (Ev.bind0 e (Ev.now _))
theorem FnExactSignText : laws_FnExactSignText.Pure := by
  intro m hl _ _
  have h : EvP (fun _ => True) (fun k => spec_SignText.f k m) (fun k => impl_SignText.f k m) := by
    refine good_start m hl _ trivial (fun g => ?_)
    exact ⟨(strOfNums (accN m m.length), true), trivial, Ev.bind (ev_sgText m g) (Ev.now _), Ev.bind (ev_signText m g) (Ev.now _)⟩
  obtain ⟨b, hb, e1, e2⟩ := h
  exact ⟨b.1, b.2, e1.rounds, e2.rounds⟩
end Go.Proofs.Ythjiajkmaimbjaa.Pure
