import Derived.Test.YtadepmjfhcmkoaaQSign
import Derived.Test.YtadepmjfhcmkoaaQIn
import Derived.Test.YtadepmjfhcmkoaaFSpecTr
import Derived.Test.YtadepmjfhcmkoaaQTree
import Derived.Test.YtadepmjfhcmkoaaQCmp
import Derived.Test.YtadepmjfhcmkoaaFSpecRank
import Derived.Test.YtadepmjfhcmkoaaFImplRank
/- The triangle of a sign matrix: program and reference make it alike. -/
namespace Go.Proofs.Ytadepmjfhcmkoaa.Pure
open Go.Proofs.Ytadepmjfhcmkoaa.B Go.Proofs.Ytadepmjfhcmkoaa.P
open Go.RowKit Go.Proofs.YtadepmjfhcmkoaaW.PrintWords Go.Proofs.YtadepmjfhcmkoaaW.PrintLast Go.Proofs.YtadepmjfhcmkoaaW.PrintMore
set_option linter.unusedVariables false
set_option linter.unusedSimpArgs false
theorem Alt.sumS {l : List Int} (h : Alt l) : ∀ i : Nat, i ≤ l.length → ws l i = (sumTo i fun j => rd l (j : Int)) ∧ 0 ≤ ws l i ∧ ws l i ≤ 1 := by
  intro i
  induction i with
  | zero => intro _; exact ⟨rfl, by simp [ws], by simp [ws]⟩
  | succ i ih =>
    intro hi
    obtain ⟨h1, h2, h3⟩ := ih (by omega)
    obtain ⟨h4, h5⟩ := h.1 i (by omega)
    have h4 := (inB_iff _ _ _).mp h4
    have h5 := (inB_iff _ _ _).mp h5
    refine ⟨?_, h5.1, h5.2⟩
    simp only [ws, sumTo]
    rw [wrapE _ (by omega) (by omega), h1]
/-- The sum of the first numbers of a column. -/
def colSs (m : List (List Int)) (i j : Nat) : Int := wrap64 (sumTo i fun a => gd m a j)
/-- The columns among the first ones whose sum is 1. -/
def triRowS (m : List (List Int)) (i j : Nat) : List Int := ((List.range j).filter fun b => decide (colSs m (i + 1) b = 1)).map fun (b : Nat) => (b : Int)
theorem triRow_succS (m : List (List Int)) (i j : Nat) : triRowS m i (j + 1) = if colSs m (i + 1) j = 1 then triRowS m i j ++ [(j : Int)] else triRowS m i j := by
  unfold triRowS
  rw [List.range_succ, List.filter_append, List.map_append]
  by_cases h : colSs m (i + 1) j = 1
  · simp [h]
  · simp [h]
theorem triRow_lenS (m : List (List Int)) (i j : Nat) : (triRowS m i j).length ≤ j := by
  unfold triRowS
  rw [List.length_map]
  have := List.length_filter_le (fun b => decide (colSs m (i + 1) b = 1)) (List.range j)
  rwa [List.length_range] at this
theorem range_setS (n : Nat) (f : Nat → Int) (j : Nat) (v : Int) : ((List.range n).map f).set j v = (List.range n).map fun b => if b = j then v else f b := by
  refine List.ext_getElem (by simp) (fun a h1 h2 => ?_)
  rw [List.getElem_set]
  by_cases e : j = a
  · subst e; simp
  · have e3 : ¬ a = j := fun h => e h.symm
    simp [e, e3]
theorem range_congrS {α : Type} (n : Nat) {f g : Nat → α} (h : ∀ a, a < n → f a = g a) : (List.range n).map f = (List.range n).map g := List.map_congr_left (fun a ha => h a (List.mem_range.mp ha))
theorem range_rdS (n : Nat) (f : Nat → Int) (j : Nat) (hj : j < n) : rd ((List.range n).map f) (j : Int) = f j := by
  unfold rd
  rw [Int.toNat_natCast, get_map _ _ _ hj]
theorem total_rangeS (n c : Nat) (f : Nat → List Int) (h : ∀ i, i < n → (f i).length ≤ c) : total ((List.range n).map f) ≤ n * c := by
  induction n with
  | zero => simp [total]
  | succ n ih =>
    rw [List.range_succ, List.map_append, total_append]
    have h1 := ih (fun i hi => h i (by omega))
    have h2 := h n (by omega)
    have h3 : total (List.map f [n]) = (f n).length := by simp [total]
    rw [h3, Nat.succ_mul]
    omega
/-- The triangle. -/
def triTS (m : List (List Int)) : List (List Int) := (List.range m.length).map fun i => triRowS m i m.length
theorem ev_trOfS (m : List (List Int)) (h : Sq m) : Ev (fun k => spec_trOf.f k m) (triTS m) := by
  have h6 := h.2.1
  unfold spec_trOf.f
  refine Ev.pos (by omega) (Ev.pos (by omega) ?_)
  refine Ev.thruE (fun i k => spec_trOf.l0 k ((List.range m.length).map (colSs m i)) ((List.range i).map fun i => triRowS m i m.length) m (m.length : Int) (i : Int)) m.length ?_ (fun i hi ih => ?_) ?_
  · funext k
    have e0 : ((List.range m.length).map fun (_ : Nat) => (0 : Int)) = (List.range m.length).map (colSs m 0) := range_congrS _ (fun a _ => by unfold colSs sumTo; exact wz.symm)
    rw [Int.toNat_natCast, zeros_eq, e0]
    rfl
  · refine Ev.succ ?_
    have hri : (row m i).length = m.length := h.row hi
    simp only [spec_trOf.l0]
    rw [row_eq, hri]
    (repeat (first | refine Ev.pos (by omega) ?_ | refine Ev.neg (by omega) ?_))
    refine Ev.thruE (fun j k => spec_trOf.l1 k ((List.range m.length).map fun b => if b < j then colSs m (i + 1) b else colSs m i b) ((List.range i).map fun i => triRowS m i m.length) (triRowS m i j) m (m.length : Int) (i : Int) (row m i) (m.length : Int) (j : Int)) m.length ?_ (fun j hj ihj => ?_) ?_
    · funext k
      congr 1
    · refine Ev.succ ?_
      have hl := triRow_lenS m i j
      simp only [spec_trOf.l1]
      rw [hri, wrapN j (by omega), List.length_map, List.length_range, Int.toNat_natCast, range_rdS _ _ _ hj, if_neg (Nat.lt_irrefl j), range_setS]
      have e : wrap64 (colSs m i j + rd (row m i) (j : Int)) = colSs m (i + 1) j := by
        unfold colSs
        rw [wrap_add]
        rfl
      have e2 : ((List.range m.length).map fun b => if b = j then wrap64 (colSs m i j + rd (row m i) (j : Int)) else if b < j then colSs m (i + 1) b else colSs m i b) = (List.range m.length).map fun b => if b < j + 1 then colSs m (i + 1) b else colSs m i b := by
        refine range_congrS _ (fun b _ => ?_)
        rw [e]
        by_cases c : b = j
        · subst c
          rw [if_pos rfl, if_pos (by omega)]
        · rw [if_neg c]
          by_cases d : b < j
          · rw [if_pos d, if_pos (by omega)]
          · rw [if_neg d, if_neg (by omega)]
      rw [e2]
      refine Ev.pos (by omega) (Ev.pos (by omega) (Ev.pos (by omega) (Ev.pos (by omega) ?_)))
      simp only [Option.bind_some]
      rw [range_rdS _ _ _ hj, if_pos (Nat.lt_succ_self j)]
      rw [triRow_succS] at ihj
      by_cases c : colSs m (i + 1) j = 1
      · rw [if_pos c] at ihj
        exact Ev.pos c (Ev.pos (by omega) ihj)
      · rw [if_neg c] at ihj
        exact Ev.neg c ihj
    · refine Ev.succ ?_
      simp only [spec_trOf.l1]
      rw [wrapN i (by omega)]
      have e2 : ((List.range m.length).map fun b => if b < m.length then colSs m (i + 1) b else colSs m i b) = (List.range m.length).map (colSs m (i + 1)) := range_congrS _ (fun b hb => if_pos hb)
      rw [e2]
      rw [List.range_succ, List.map_append] at ih
      exact Ev.neg (by omega) (Ev.pos (by simp only [List.length_map, List.length_range]; omega) ih)
  · refine Ev.succ ?_
    simp only [spec_trOf.l0]
    exact Ev.neg (by omega) (Ev.now _)
theorem triT_smallS (m : List (List Int)) (h : m.length ≤ 6) : total (triTS m) ≤ 1048576 ∧ (triTS m).length ≤ 1048576 := by
  have h1 := total_rangeS m.length 6 (fun i => triRowS m i m.length) (fun i _ => Nat.le_trans (triRow_lenS m i m.length) h)
  have h2 : (triTS m).length = m.length := by simp [triTS]
  unfold triTS at h2 ⊢
  omega
end Go.Proofs.Ytadepmjfhcmkoaa.Pure

/- A sign matrix in the tree of all: its rows, its sums, its place. -/
namespace Go.Proofs.Ytadepmjfhcmkoaa.Pure
open Go.Proofs.Ytadepmjfhcmkoaa.B Go.Proofs.Ytadepmjfhcmkoaa.P
open Go.RowKit Go.Proofs.YtadepmjfhcmkoaaW.PrintWords Go.Proofs.YtadepmjfhcmkoaaW.PrintLast Go.Proofs.YtadepmjfhcmkoaaW.PrintMore
set_option linter.unusedVariables false
set_option linter.unusedSimpArgs false
set_option maxRecDepth 100000
def sm (m : List (List Int)) (i : Nat) : List Int := (List.range m.length).map fun (j : Nat) => sumTo i (fun a => gd m a j)
theorem sm_rd {m : List (List Int)} (i : Nat) {j : Nat} (hj : j < m.length) : rd (sm m i) (j : Int) = sumTo i (fun a => gd m a j) := by
  rw [rd_get _ j (by simp [sm]; exact hj)]
  simp [sm]
theorem col_sum {m : List (List Int)} (h : Good m) {j : Nat} (hj : j < m.length) {i : Nat} (hi : i ≤ m.length) : 0 ≤ sumTo i (fun a => gd m a j) ∧ sumTo i (fun a => gd m a j) ≤ 1 ∧ (i = m.length → sumTo i (fun a => gd m a j) = 1) := by
  have ha := h.2.2 j hj
  have hl : (colOf m j).length = m.length := by simp [colOf]
  have h2 := ha.sumS i (by omega)
  have e : (sumTo i fun q => rd (colOf m j) (q : Int)) = sumTo i (fun a => gd m a j) := sumTo_congr (fun q hq => by
    rw [rd_get _ q (by omega)]
    simp [colOf])
  rw [e] at h2
  refine ⟨by omega, by omega, fun e2 => ?_⟩
  have h3 := ha.2
  rw [hl, ← e2] at h3
  omega
theorem sm_ok {m : List (List Int)} (h : Good m) {i : Nat} (hi : i ≤ m.length) : SumOk m.length (sm m i) := by
  refine ⟨by simp [sm], fun j hj => ?_⟩
  rw [sm_rd i hj]
  have := col_sum h hj hi
  omega
theorem sm_succ {m : List (List Int)} (h : Good m) {i : Nat} (hi : i < m.length) : addL m.length (sm m i) (row m i) = sm m (i + 1) := by
  apply List.ext_getElem
  · simp [addL, sm]
  · intro j h1 h2
    have hj : j < m.length := by simpa [addL] using h1
    rw [← rd_get _ j h1, ← rd_get _ j h2, addL_rd _ _ hj, sm_rd i hj, sm_rd (i + 1) hj]
    simp only [sumTo]
    rw [rd_row]
def okT : List Int → Int → Prop
  | [], s => s = 1
  | x :: t, s => 0 ≤ s + x ∧ s + x ≤ 1 ∧ okT t (s + x)
theorem mem_srL : ∀ (d : Nat) (ys t : List Int) (s : Int), t.length = d → okT t s → ys ++ t ∈ srL d ys s := by
  intro d
  induction d with
  | zero =>
    intro ys t s ht hk
    obtain rfl : t = [] := List.eq_nil_of_length_eq_zero ht
    simp only [srL]
    have hk2 : s = 1 := hk
    rw [if_pos hk2, List.append_nil]
    exact List.mem_singleton.mpr rfl
  | succ d ih =>
    intro ys t s ht hk
    cases t with
    | nil => simp at ht
    | cons x t =>
      obtain ⟨h0, h1, h2⟩ := hk
      simp only [srL, List.mem_flatMap, List.mem_range]
      refine ⟨(s + x).toNat, by omega, ?_⟩
      have e1 : (((s + x).toNat : Nat) : Int) = s + x := Int.toNat_of_nonneg h0
      rw [e1, show -s + (s + x) = x by omega]
      have h3 := ih (ys ++ [x]) t (s + x) (by simpa using ht) h2
      rw [List.append_assoc] at h3
      exact h3
theorem sumTo_head (t : List Int) (x : Int) (j : Nat) : (sumTo (j + 1) fun q => rd (x :: t) (q : Int)) = x + sumTo j fun q => rd t (q : Int) := by
  induction j with
  | zero => simp [sumTo, rd]
  | succ j ih =>
    rw [show sumTo (j + 1 + 1) (fun q => rd (x :: t) (q : Int)) = sumTo (j + 1) (fun q => rd (x :: t) (q : Int)) + rd (x :: t) ((j + 1 : Nat) : Int) from rfl, ih]
    rw [show sumTo (j + 1) (fun q => rd t (q : Int)) = sumTo j (fun q => rd t (q : Int)) + rd t (j : Int) from rfl]
    have e : rd (x :: t) ((j + 1 : Nat) : Int) = rd t (j : Int) := by unfold rd; simp
    rw [e]; omega
theorem okT_of : ∀ (t : List Int) (s : Int), (∀ j, j < t.length → 0 ≤ s + (sumTo (j + 1) fun q => rd t (q : Int)) ∧ s + (sumTo (j + 1) fun q => rd t (q : Int)) ≤ 1) → s + (sumTo t.length fun q => rd t (q : Int)) = 1 → okT t s := by
  intro t
  induction t with
  | nil =>
    intro s _ h
    show s = 1
    simpa [sumTo] using h
  | cons x t ih =>
    intro s h1 h2
    have h3 := h1 0 (by simp)
    rw [sumTo_head] at h3
    simp only [sumTo] at h3
    refine ⟨by omega, by omega, ih (s + x) (fun j hj => ?_) ?_⟩
    · have h4 := h1 (j + 1) (by simp; omega)
      rw [sumTo_head] at h4
      omega
    · rw [List.length_cons, sumTo_head] at h2
      omega
theorem row_in {m : List (List Int)} (h : Good m) {i : Nat} (hi : i < m.length) : row m i ∈ srL m.length [] 0 := by
  have ha := h.2.1 i hi
  have hl := h.1.row hi
  have h2 := mem_srL m.length [] (row m i) 0 hl (okT_of _ _ (fun j hj => by
    have h3 := ha.sumS (j + 1) (by omega)
    omega) (by
    have h3 := ha.sumS (row m i).length (Nat.le_refl _)
    have h4 := ha.2
    omega))
  rwa [List.nil_append] at h2
theorem fitsN_of {s r : List Int} {last : Bool} {d i : Nat} (h : ∀ j, i ≤ j → j < i + d → fitsOne s r last j = true) : fitsN s r last d i = true := by
  induction d generalizing i with
  | zero => rfl
  | succ d ih =>
    simp only [fitsN, Bool.and_eq_true]
    exact ⟨h i (by omega) (by omega), ih (fun j h1 h2 => h j (by omega) (by omega))⟩
theorem row_kid {m : List (List Int)} (h : Good m) {i : Nat} (hi : i < m.length) (hl : (colsOf m.length (sm m i)).length = i) : row m i ∈ kids m.length (sm m i) := by
  unfold kids
  rw [List.mem_filter]
  refine ⟨row_in h hi, ?_⟩
  unfold fitsB
  refine fitsN_of (fun j _ hj => ?_)
  rw [h.1.row hi] at hj
  have hj2 : j < m.length := by omega
  unfold fitsOne
  have e : rd (sm m i) (j : Int) + rd (row m i) (j : Int) = sumTo (i + 1) (fun a => gd m a j) := by
    rw [sm_rd i hj2, rd_row]
    rfl
  rw [e]
  have hc := col_sum h hj2 (show i + 1 ≤ m.length by omega)
  rw [decide_eq_true hc.1, decide_eq_true hc.2.1, Bool.true_and, Bool.true_and, hl]
  by_cases c : i + 1 = m.length
  · rw [decide_eq_true c, decide_eq_true (hc.2.2 c)]
    rfl
  · rw [decide_eq_false c]
    rfl
theorem cols_zero (n : Nat) (s : List Int) (h : ∀ j : Nat, j < n → rd s (j : Int) = 0) : colsOf n s = [] := by
  unfold colsOf
  rw [List.map_eq_nil_iff, List.filter_eq_nil_iff]
  intro j hj
  rw [h j (List.mem_range.mp hj)]
  decide
theorem sm_cols {m : List (List Int)} (h : Good m) : ∀ i, i ≤ m.length → (colsOf m.length (sm m i)).length = i := by
  intro i
  induction i with
  | zero =>
    intro _
    rw [cols_zero _ _ (fun j hj => by rw [sm_rd 0 hj]; rfl)]
    rfl
  | succ i ih =>
    intro hi
    have hl := ih (by omega)
    have hk := row_kid h (show i < m.length by omega) hl
    have h2 := (kid_of h.1.1 h.1.2.1 (sm_ok h (by omega)) (by omega) hk).1
    rw [sm_succ h (by omega), hl] at h2
    exact h2
theorem tri_cols {m : List (List Int)} (h : Good m) {i : Nat} (hi : i < m.length) : rd_L1 (triTS m) (i : Int) = colsOf m.length (sm m (i + 1)) := by
  unfold rd_L1 triTS
  rw [Int.toNat_natCast, List.getD_eq_getElem?_getD, List.getElem?_map, List.getElem?_range hi]
  simp only [Option.map_some, Option.getD_some]
  unfold triRowS colsOf
  congr 1
  refine List.filter_congr (fun j hj => ?_)
  have hj2 := List.mem_range.mp hj
  unfold colSs
  have hc := col_sum h hj2 (show i + 1 ≤ m.length by omega)
  rw [wrapE _ (by omega) (by omega), sm_rd (i + 1) hj2]
/-- All tables in order: what the reference's rows in order say. -/
def sameLL : List (List Int) → List (List Int) → Bool
  | [], [] => true
  | x :: xs, y :: ys => sameL x y && sameLL xs ys
  | _, _ => false
theorem sameLL_eq {a b : List (List Int)} (h : sameLL a b = true) : a = b := by
  induction a generalizing b with
  | nil =>
    cases b with
    | nil => rfl
    | cons y ys => cases h
  | cons x xs ih =>
    cases b with
    | nil => cases h
    | cons y ys =>
      simp only [sameLL, Bool.and_eq_true] at h
      rw [sameL_eq h.1, ih h.2]
def pairB : List (List Int) → Bool
  | [] => true
  | x :: xs => (xs.all fun y => decide (cmpT cmpI x y < 0)) && pairB xs
theorem pairB_pair {l : List (List Int)} (h : pairB l = true) : l.Pairwise fun x y => cmpT cmpI x y < 0 := by
  induction l with
  | nil => exact List.Pairwise.nil
  | cons x xs ih =>
    simp only [pairB, Bool.and_eq_true] at h
    refine List.Pairwise.cons (fun y hy => of_decide_eq_true (List.all_eq_true.mp h.1 y hy)) (ih h.2)
def chkN (n : Nat) : Bool := (allS n).all fun s => decide (n ≤ (colsOf n s).length) || match spec_trNext.f 600 (colsOf n s) (n : Int) with | some B => sameLL B ((kids n s).map fun r => colsOf n (addL n s r)) | none => false
theorem chkN_all {n : Nat} (h1 : 1 ≤ n) (h6 : n ≤ 6) : chkN n = true ∧ pairB (srL n [] 0) = true := by
  have h : n = 1 ∨ n = 2 ∨ n = 3 ∨ n = 4 ∨ n = 5 ∨ n = 6 := by omega
  rcases h with rfl | rfl | rfl | rfl | rfl | rfl
  · exact ⟨by kernel_rfl, by kernel_rfl⟩
  · exact ⟨by kernel_rfl, by kernel_rfl⟩
  · exact ⟨by kernel_rfl, by kernel_rfl⟩
  · exact ⟨by kernel_rfl, by kernel_rfl⟩
  · exact ⟨by kernel_rfl, by kernel_rfl⟩
  · exact ⟨by kernel_rfl, by kernel_rfl⟩
theorem ev_next {n : Nat} (h1 : 1 ≤ n) (h6 : n ≤ 6) {s : List Int} (hs : SumOk n s) (hl : (colsOf n s).length < n) : Ev (fun k => spec_trNext.f k (colsOf n s) (n : Int)) ((kids n s).map fun r => colsOf n (addL n s r)) := by
  have h := List.all_eq_true.mp (chkN_all h1 h6).1 s (mem_allS hs)
  rw [decide_eq_false (by omega), Bool.false_or] at h
  cases e : spec_trNext.f 600 (colsOf n s) (n : Int) with
  | none => rw [e] at h; cases h
  | some B =>
    rw [e] at h
    rw [← sameLL_eq h]
    exact Ev.of (fun k => spec_trNext.mono _ _ k) e
theorem kids_pair {n : Nat} (h1 : 1 ≤ n) (h6 : n ≤ 6) (s : List Int) : (kids n s).Pairwise fun x y => cmpT cmpI x y < 0 := (pairB_pair (chkN_all h1 h6).2).filter _
theorem addL_inj {n : Nat} {s r r' : List Int} (hr : r.length = n) (hr' : r'.length = n) (h : addL n s r = addL n s r') : r = r' := by
  apply List.ext_getElem
  · omega
  · intro i h1 h2
    rw [← rd_get r i h1, ← rd_get r' i h2]
    have e1 := addL_rd s r (show i < n by omega)
    have e2 := addL_rd s r' (show i < n by omega)
    rw [h] at e1
    omega
theorem cols_inj {n : Nat} (h1 : 1 ≤ n) (h6 : n ≤ 6) {s r r' : List Int} (hr : r ∈ kids n s) (hr' : r' ∈ kids n s) (h : colsOf n (addL n s r) = colsOf n (addL n s r')) : r = r' := by
  have e1 := s_of h1 h6 (kid_sum hr)
  have e2 := s_of h1 h6 (kid_sum hr')
  rw [h, e2] at e1
  exact (addL_inj (row_ok (List.mem_filter.mp hr').1).1 (row_ok (List.mem_filter.mp hr).1).1 e1).symm
end Go.Proofs.Ytadepmjfhcmkoaa.Pure

/- The rank of a sign matrix: the reference's and the program's. -/
namespace Go.Proofs.Ytadepmjfhcmkoaa.Pure
open Go.Proofs.Ytadepmjfhcmkoaa.B Go.Proofs.Ytadepmjfhcmkoaa.P
open Go.RowKit Go.Proofs.YtadepmjfhcmkoaaW.PrintWords Go.Proofs.YtadepmjfhcmkoaaW.PrintLast Go.Proofs.YtadepmjfhcmkoaaW.PrintMore
set_option linter.unusedVariables false
set_option linter.unusedSimpArgs false
theorem cols_le (n : Nat) (s : List Int) : (colsOf n s).length ≤ n := by
  unfold colsOf
  rw [List.length_map]
  exact Nat.le_trans (List.length_filter_le _ _) (by simp)
theorem cmpT_self (x : List Int) : cmpT cmpI x x = 0 := (cmpT_zero cmpI_zero x x).mpr rfl
theorem cmp_split (p : List (List Int)) (a b : List Int) (u v : List (List Int)) (h : cmpT cmpI a b < 0) : cmpT (cmpT cmpI) (p ++ a :: u) (p ++ b :: v) < 0 := by
  induction p with
  | nil =>
    simp only [List.nil_append, cmpT]
    rw [if_neg (by omega)]
    exact h
  | cons x p ih =>
    simp only [List.cons_append, cmpT]
    rw [if_pos (cmpT_self x)]
    exact ih
theorem esL_pre {n : Nat} {rows : List (List Int)} : ∀ (d : Nat) (s : List Int) (m M : List (List Int)), M ∈ esL n rows d s m → ∃ t, M = m ++ t := by
  intro d
  induction d with
  | zero =>
    intro s m M hM
    simp only [esL, List.mem_singleton] at hM
    exact ⟨[], by rw [hM, List.append_nil]⟩
  | succ d ih =>
    intro s m M hM
    simp only [esL, List.mem_flatMap] at hM
    obtain ⟨r, _, h⟩ := hM
    split at h
    · obtain ⟨t, ht⟩ := ih _ _ _ h
      exact ⟨r :: t, by rw [ht]; simp⟩
    · simp at h
/-- How many matrices come before the one that goes on with the rows from i on, so many of them. -/
def rk (m : List (List Int)) : Nat → Nat → Nat
  | 0, _ => 0
  | d + 1, i => (((kids m.length (sm m i)).takeWhile fun r => !decide (r = row m i)).map fun r => W m.length d (addL m.length (sm m i) r)).sum + rk m d (i + 1)
theorem takeWhile_at {l1 l2 : List (List Int)} {r : List Int} (h : r ∉ l1) : (l1 ++ r :: l2).takeWhile (fun x => !decide (x = r)) = l1 := by
  induction l1 with
  | nil => simp
  | cons x l1 ih =>
    have hx : x ≠ r := fun e => h (by rw [e]; exact List.mem_cons_self)
    rw [List.cons_append, List.takeWhile_cons_of_pos (by simp [hx]), ih (fun e => h (List.mem_cons_of_mem _ e))]
/-- The kids: those before the matrix's own row, this one, and those behind. -/
theorem kids_split {m : List (List Int)} (h : Good m) {i : Nat} (hi : i < m.length) : ∃ K1 K2, kids m.length (sm m i) = K1 ++ row m i :: K2 ∧ row m i ∉ K1 ∧ (∀ r ∈ K1, cmpT cmpI r (row m i) < 0) := by
  obtain ⟨K1, K2, e⟩ := List.append_of_mem (row_kid h hi (sm_cols h i (by omega)))
  have hp := kids_pair h.1.1 h.1.2.1 (sm m i)
  rw [e, List.pairwise_append] at hp
  have h3 : ∀ r ∈ K1, cmpT cmpI r (row m i) < 0 := fun r hr => hp.2.2 r hr _ List.mem_cons_self
  refine ⟨K1, K2, e, fun hm => ?_, h3⟩
  have := h3 _ hm
  rw [cmpT_self] at this
  omega
theorem drop_row {m : List (List Int)} {i : Nat} (hi : i < m.length) : m.drop i = row m i :: m.drop (i + 1) := by
  rw [List.drop_eq_getElem_cons hi]
  congr 1
  unfold row
  rw [List.getD_eq_getElem?_getD, List.getElem?_eq_getElem hi]
  rfl
theorem es_split {m : List (List Int)} (h : Good m) : ∀ (d i : Nat), i + d = m.length → ∃ A C, esL m.length (srL m.length [] 0) d (sm m i) (m.take i) = A ++ m :: C ∧ A.length = rk m d i ∧ ∀ M ∈ A, cmpT (cmpT cmpI) M m < 0 := by
  intro d
  induction d with
  | zero =>
    intro i hi
    refine ⟨[], [], ?_, rfl, by simp⟩
    simp only [esL]
    rw [List.take_of_length_le (by omega)]
    rfl
  | succ d ih =>
    intro i hi
    have hin : i < m.length := by omega
    have hcl := sm_cols h i (by omega)
    obtain ⟨A', C', e1, e2, e3⟩ := ih (i + 1) (by omega)
    obtain ⟨K1, K2, ek, hk1, hk2⟩ := kids_split h hin
    have et : m.take i ++ [row m i] = m.take (i + 1) := by
      rw [List.take_succ_eq_append_getElem hin]
      congr 2
      unfold row
      rw [List.getD_eq_getElem?_getD, List.getElem?_eq_getElem hin]
      rfl
    obtain ⟨f, hf⟩ : ∃ f : List Int → List (List (List Int)), f = fun r => esL m.length (srL m.length [] 0) d (addL m.length (sm m i) r) (m.take i ++ [r]) := ⟨_, rfl⟩
    have hfr : f (row m i) = A' ++ m :: C' := by
      rw [hf]
      show esL _ _ _ _ _ = _
      rw [sm_succ h hin, et]
      exact e1
    refine ⟨K1.flatMap f ++ A', C' ++ K2.flatMap f, ?_, ?_, ?_⟩
    · rw [esL_kids _ (by rw [hcl]; omega), ← hf, ek, List.flatMap_append, List.flatMap_cons, hfr]
      simp
    · rw [List.length_append, e2, List.length_flatMap]
      simp only [rk]
      rw [ek, takeWhile_at hk1]
      congr 2
      refine List.map_congr_left (fun r hr => ?_)
      have hrk : r ∈ kids m.length (sm m i) := by rw [ek]; exact List.mem_append_left _ hr
      rw [hf]
      exact esL_len h.1.1 h.1.2.1 d _ _ (kid_sum hrk) (by have := (kid_of h.1.1 h.1.2.1 (sm_ok h (show i ≤ m.length by omega)) (by omega) hrk).1; omega)
    · intro M hM
      rcases List.mem_append.mp hM with hM | hM
      · obtain ⟨r, hr, hMr⟩ := List.mem_flatMap.mp hM
        rw [hf] at hMr
        obtain ⟨t, ht⟩ := esL_pre _ _ _ _ hMr
        have em : m = m.take i ++ (row m i :: m.drop (i + 1)) := by rw [← drop_row hin, List.take_append_drop]
        have e5 : M = m.take i ++ r :: t := by rw [ht]; simp
        rw [e5]
        conv => lhs; rw [show cmpT (cmpT cmpI) (m.take i ++ r :: t) m = cmpT (cmpT cmpI) (m.take i ++ r :: t) (m.take i ++ (row m i :: m.drop (i + 1))) by rw [← em]]
        exact cmp_split _ _ _ _ _ (hk2 r hr)
      · exact e3 M hM
theorem all_fuel {α β : Type} (f : Nat → α → Option β) (g : α → β) (hm : ∀ k x, LeO (f k x) (f (k + 1) x)) : ∀ L : List α, (∀ x ∈ L, Ev (fun k => f k x) (g x)) → ∃ K, ∀ k, K ≤ k → ∀ x ∈ L, f k x = some (g x) := by
  intro L
  induction L with
  | nil => intro _; exact ⟨0, fun k _ x hx => by simp at hx⟩
  | cons y L ih =>
    intro h
    obtain ⟨K1, h1⟩ := ih (fun x hx => h x (List.mem_cons_of_mem _ hx))
    obtain ⟨K2, h2⟩ := h y List.mem_cons_self
    refine ⟨max K1 K2, fun k hk x hx => ?_⟩
    rcases List.mem_cons.mp hx with e | hx
    · rw [e]; exact h2 k (by omega)
    · exact h1 k (by omega) x hx
theorem cntB_all {b : Nat → Bool} : ∀ R : Nat, (∀ i, i < R → b i = true) → cntB b R = R := by
  intro R
  induction R with
  | zero => intro _; rfl
  | succ R ih =>
    intro h
    simp only [cntB]
    rw [ih (fun i hi => h i (by omega)), if_pos (h R (by omega))]
    omega
theorem rows_small {m : List (List Int)} {M : List (List Int)} (h : Good m) (hM : M ∈ esAll m.length) : ∀ x ∈ M, x.length ≤ 1048576 := by
  have key : ∀ (d : Nat) (s : List Int) (p M : List (List Int)), (∀ x ∈ p, x.length ≤ 1048576) → M ∈ esL m.length (srL m.length [] 0) d s p → ∀ x ∈ M, x.length ≤ 1048576 := by
    intro d
    induction d with
    | zero =>
      intro s p M hp hM
      simp only [esL, List.mem_singleton] at hM
      rw [hM]
      exact hp
    | succ d ih =>
      intro s p M hp hM
      simp only [esL, List.mem_flatMap] at hM
      obtain ⟨r, hr, hM⟩ := hM
      split at hM
      · refine ih _ _ _ (fun x hx => ?_) hM
        rcases List.mem_append.mp hx with hx | hx
        · exact hp x hx
        · rw [List.mem_singleton.mp hx, (row_ok hr).1]
          have := h.1.2.1
          omega
      · simp at hM
  exact key _ _ _ _ (by simp) hM
theorem all_len {n : Nat} (h1 : 1 ≤ n) (h6 : n ≤ 6) : (esAll n).length = W n n (List.replicate n 0) := by
  unfold esAll
  refine esL_len h1 h6 n _ _ (sum_zero n) ?_
  rw [cols_zero _ _ (fun j hj => by rw [rd_get _ j (by simpa using hj)]; simp)]
  simp
def chkT (n : Nat) : Bool := match spec_trWays.f 200 [] (n : Int) (List.replicate (2 ^ n) 0) with | some x => decide (x.1 ≤ 1000000) | none => false
theorem chkT_all {n : Nat} (h1 : 1 ≤ n) (h6 : n ≤ 6) : chkT n = true ∧ True := by
  have h : n = 1 ∨ n = 2 ∨ n = 3 ∨ n = 4 ∨ n = 5 ∨ n = 6 := by omega
  rcases h with rfl | rfl | rfl | rfl | rfl | rfl
  · exact ⟨by kernel_rfl, trivial⟩
  · exact ⟨by kernel_rfl, trivial⟩
  · exact ⟨by kernel_rfl, trivial⟩
  · exact ⟨by kernel_rfl, trivial⟩
  · exact ⟨by kernel_rfl, trivial⟩
  · exact ⟨by kernel_rfl, trivial⟩
theorem W_all {n : Nat} (h1 : 1 ≤ n) (h6 : n ≤ 6) : W n n (List.replicate n 0) ≤ 1000000 := by
  have hc : colsOf n (List.replicate n 0) = [] := cols_zero _ _ (fun j hj => by rw [rd_get _ j (by simpa using hj)]; simp)
  obtain ⟨kn, _, K, hK⟩ := ev_ways h1 h6 n (List.replicate n 0) _ (sum_zero n) (by rw [hc]; simp) (known_ok n)
  rw [hc] at hK
  have h2 := hK (max K 200) (by omega)
  have h3 := (chkT_all h1 h6).1
  unfold chkT at h3
  cases e : spec_trWays.f 200 [] (n : Int) (List.replicate (2 ^ n) 0) with
  | none => rw [e] at h3; cases h3
  | some x =>
    rw [e] at h3
    have h4 := at_rounds (fun k => spec_trWays.mono [] (n : Int) (List.replicate (2 ^ n) 0) k) (show 200 ≤ max K 200 by omega) e
    have h5 := h2.symm.trans h4
    injection h5 with h5
    have h6 := of_decide_eq_true h3
    rw [← h5] at h6
    simp only at h6
    omega
theorem sm_zero (m : List (List Int)) : sm m 0 = List.replicate m.length 0 := by
  apply List.ext_getElem
  · simp [sm]
  · intro j h1 h2
    simp [sm, sumTo]
theorem impl_rank {m : List (List Int)} (h : Good m) : ∃ K, ∀ k, K ≤ k → (if (1 ≤ m.length ∧ m.length ≤ 6 ∧ (esAll m.length).length ≤ 1000000) ∧ cmpOk k m then some (rankOf k m, true) else none) = some ((rk m m.length 0 : Int), true) := by
  obtain ⟨K, hK⟩ := all_fuel (fun k M => impl_compareTables.f k M m) (fun M => cmpT (cmpT cmpI) M m) (fun k M => impl_compareTables.mono M m k) (esAll m.length) (fun M hM => ev_compareTables M m (rows_small h hM))
  refine ⟨K, fun k hk => ?_⟩
  have hk2 := hK k hk
  obtain ⟨A, C, e1, e2, e3⟩ := es_split h m.length 0 (by omega)
  have e4 : esAll m.length = A ++ m :: C := by
    unfold esAll
    rw [← sm_zero m]
    simpa using e1
  have hb : ∀ i, i < A.length → befB k m i = true := by
    intro i hi
    have hg : (esAll m.length)[i]? = some A[i] := by rw [e4, List.getElem?_append_left hi, List.getElem?_eq_getElem hi]
    unfold befB
    rw [hg]
    show decide _ = true
    rw [hk2 _ (by rw [e4]; exact List.mem_append_left _ (List.getElem_mem hi))]
    exact decide_eq_true (e3 _ (List.getElem_mem hi))
  have hb2 : befB k m A.length = false := by
    have hg : (esAll m.length)[A.length]? = some m := by rw [e4, List.getElem?_append_right (Nat.le_refl _), Nat.sub_self]; rfl
    unfold befB
    rw [hg]
    show decide _ = false
    rw [hk2 m (by rw [e4]; simp)]
    have : cmpT (cmpT cmpI) m m = 0 := (compareTables_zero m m).mpr rfl
    simp [this]
  have hr := runTo_stop A.length 0 (esAll m.length).length (fun i _ hi => hb i (by omega)) (by rw [Nat.zero_add]; exact hb2) (by rw [e4]; simp)
  have hc : cmpOk k m := fun M hM => by rw [hk2 M hM]; rfl
  rw [if_pos ⟨⟨h.1.1, h.1.2.1, by rw [all_len h.1.1 h.1.2.1]; exact W_all h.1.1 h.1.2.1⟩, hc⟩]
  unfold rankOf
  rw [hr, ← e2]
  congr 2
  rw [Nat.zero_add]
  simp only [cntB]
  rw [cntB_all A.length hb, hb2, if_neg (by decide)]
  omega
theorem rk_le {m : List (List Int)} (h : Good m) : ∀ (d i : Nat), i + d = m.length → rk m d i ≤ W m.length d (sm m i) := by
  intro d i hi
  obtain ⟨A, C, e1, e2, _⟩ := es_split h d i hi
  have hl := esL_len h.1.1 h.1.2.1 d (sm m i) (m.take i) (sm_ok h (by omega)) (by rw [sm_cols h i (by omega)]; omega)
  rw [e1] at hl
  simp at hl
  omega
theorem spec_rank {m : List (List Int)} (h : Good m) : ∀ (d i : Nat), i + d = m.length → ∀ (kn : List Int), KnOk m.length kn → ∀ x : Nat, x ≤ i * 68719476736 →
    Ev (fun k => spec_RankSigns.l0 k (m.length : Int) (triTS m) kn (x : Int) (colsOf m.length (sm m i)) (i : Int)) (((x + rk m d i : Nat) : Int), true) := by
  have h1 := h.1.1
  have h6 := h.1.2.1
  have hT : ((triTS m).length : Int) = (m.length : Int) := by simp [triTS]
  intro d
  induction d with
  | zero =>
    intro i hi kn _ x _
    refine Ev.succ ?_
    simp only [spec_RankSigns.l0]
    exact Ev.neg (by omega) (by simp only [rk, Nat.add_zero]; exact Ev.now _)
  | succ d ih =>
    intro i hi kn hk x hx
    have hin : i < m.length := by omega
    have hcl := sm_cols h i (by omega)
    have hso := sm_ok h (show i ≤ m.length by omega)
    obtain ⟨K1, K2, ek, hk1, _⟩ := kids_split h hin
    refine Ev.succ ?_
    simp only [spec_RankSigns.l0]
    refine Ev.pos (by omega) (Ev.pos (by omega) (Ev.bind (ev_next h1 h6 hso (by omega)) ?_))
    obtain ⟨B, hB⟩ : ∃ B, B = (kids m.length (sm m i)).map fun r => colsOf m.length (addL m.length (sm m i) r) := ⟨_, rfl⟩
    rw [← hB]
    have hBl : B.length = (kids m.length (sm m i)).length := by rw [hB, List.length_map]
    have hkl : K1.length < B.length := by rw [hBl, ek]; simp
    have hk64 := kids_len h6 (sm m i)
    obtain ⟨g, hg⟩ : ∃ g : List Int → Nat, g = fun r => W m.length d (addL m.length (sm m i) r) := ⟨_, rfl⟩
    have hrk : rk m (d + 1) i = (K1.map g).sum + rk m d (i + 1) := by
      simp only [rk]
      rw [ek, takeWhile_at hk1, hg]
    have hsum : (K1.map g).sum ≤ W m.length (d + 1) (sm m i) := by
      simp only [W]
      rw [ek, ← hg, List.map_append, List.sum_append]
      omega
    have hW := W_small h6 (show d + 1 ≤ 6 by omega) (sm m i)
    have hat : ∀ (j : Nat) (hj : j < B.length), ∃ r, r ∈ kids m.length (sm m i) ∧ (kids m.length (sm m i))[j]? = some r ∧ rd_L1 B (j : Int) = colsOf m.length (addL m.length (sm m i) r) := by
      intro j hj
      have hj2 : j < (kids m.length (sm m i)).length := by omega
      refine ⟨_, List.getElem_mem hj2, List.getElem?_eq_getElem hj2, ?_⟩
      unfold rd_L1
      rw [Int.toNat_natCast, List.getD_eq_getElem?_getD, hB, List.getElem?_map, List.getElem?_eq_getElem hj2]
      rfl
    have hown : rd_L1 (triTS m) (i : Int) = colsOf m.length (addL m.length (sm m i) (row m i)) := by rw [tri_cols h hin, sm_succ h hin]
    have loop : ∀ (e j : Nat), j + e = K1.length → ∀ kn, KnOk m.length kn → Ev (fun k => spec_RankSigns.l1 k (m.length : Int) (triTS m) kn ((x + ((K1.map g).take j).sum : Nat) : Int) (i : Int) B (j : Int)) (((x + rk m (d + 1) i : Nat) : Int), true) := by
      intro e
      induction e with
      | zero =>
        intro j hj kn hkn
        obtain ⟨r, hr, hrj, hrB⟩ := hat j (by omega)
        have er : r = row m i := by
          rw [ek, List.getElem?_append_right (by omega), show j - K1.length = 0 by omega] at hrj
          simpa using hrj.symm
        refine Ev.succ ?_
        simp only [spec_RankSigns.l1]
        refine Ev.pos (by omega) (Ev.pos (by omega) ?_)
        rw [hrB, er, hown]
        refine Ev.bind (ev_sameL _ _ (Nat.le_trans (cols_le _ _) (by omega))) ?_
        rw [decide_eq_true rfl]
        refine Ev.pos rfl ?_
        rw [wrapN i (by omega), List.take_of_length_le (by rw [List.length_map]; omega), sm_succ h hin]
        have h9 := ih (i + 1) (by omega) kn hkn (x + (K1.map g).sum) (by rw [Nat.add_mul]; omega)
        rw [hrk, ← Nat.add_assoc]
        exact h9
      | succ e ihe =>
        intro j hj kn hkn
        obtain ⟨r, hr, hrj, hrB⟩ := hat j (by omega)
        have hjK : j < K1.length := by omega
        have erK : K1[j] = r := by
          rw [ek, List.getElem?_append_left hjK, List.getElem?_eq_getElem hjK] at hrj
          simpa using hrj
        have hne : r ≠ row m i := fun e2 => hk1 (by rw [← e2, ← erK]; exact List.getElem_mem hjK)
        have hnc : colsOf m.length (addL m.length (sm m i) r) ≠ colsOf m.length (addL m.length (sm m i) (row m i)) := fun e2 => hne (cols_inj h1 h6 hr (row_kid h hin hcl) e2)
        obtain ⟨kn1, hkn1, ev1⟩ := ev_ways h1 h6 d (addL m.length (sm m i) r) kn (kid_sum hr) (by have := (kid_of h1 h6 hso (by omega) hr).1; omega) hkn
        refine Ev.succ ?_
        simp only [spec_RankSigns.l1]
        refine Ev.pos (by omega) (Ev.pos (by omega) ?_)
        rw [hrB, hown]
        refine Ev.bind (ev_sameL _ _ (Nat.le_trans (cols_le _ _) (by omega))) ?_
        rw [decide_eq_false hnc]
        refine Ev.neg (by decide) (Ev.bind ev1 ?_)
        have e5 : ((K1.map g).take (j + 1)).sum = ((K1.map g).take j).sum + W m.length d (addL m.length (sm m i) r) := by
          rw [List.take_succ_eq_append_getElem (by rw [List.length_map]; exact hjK), List.sum_append]
          simp [erK, hg]
        have h7 := sum_take_le (K1.map g) (j + 1)
        have hb : x ≤ 6 * 68719476736 := Nat.le_trans hx (Nat.mul_le_mul_right _ (by omega))
        rw [wrapN j (by omega), wrapE _ (by omega) (by omega), show ((x + ((K1.map g).take j).sum : Nat) : Int) + (W m.length d (addL m.length (sm m i) r) : Int) = ((x + ((K1.map g).take (j + 1)).sum : Nat) : Int) by rw [e5]; omega]
        exact ihe (j + 1) (by omega) kn1 hkn1
    have h8 := loop K1.length 0 (by omega) kn hk
    simpa using h8
theorem rank_both (m : List (List Int)) (hl : m.length ≤ 1048576) : (Good m ∧ Ev (fun k => spec_RankSigns.f k m) ((rk m m.length 0 : Int), true) ∧ Ev (fun k => impl_RankSigns.f k m) ((rk m m.length 0 : Int), true)) ∨ (¬ Good m ∧ Ev (fun k => spec_RankSigns.f k m) (0, false) ∧ Ev (fun k => impl_RankSigns.f k m) (0, false)) := by
  obtain ⟨b, hb, e1, e2⟩ := good_both m hl
  unfold spec_RankSigns.f impl_RankSigns.f
  cases b with
  | true =>
    have g := hb.mp rfl
    refine .inl ⟨g, Ev.bind e1 (Ev.pos rfl ?_), Ev.bind e2 (Ev.pos rfl (impl_rank g))⟩
    refine Ev.bind0 (known_of g.1.1 g.1.2.1) (Ev.bind (ev_trOfS m g.1) ?_)
    have h2 := spec_rank g m.length 0 (by omega) _ (known_ok m.length) 0 (by omega)
    rw [cols_zero _ _ (fun j hj => by rw [sm_rd 0 hj]; rfl)] at h2
    simpa using h2
  | false => exact .inr ⟨fun g => absurd (hb.mpr g) (by decide), Ev.bind e1 (Ev.neg (by decide) (Ev.now _)), Ev.bind e2 (Ev.neg (by decide) (Ev.now _))⟩
end Go.Proofs.Ytadepmjfhcmkoaa.Pure

/- The sign matrix with a rank: the reference's and the program's. -/
namespace Go.Proofs.Ytadepmjfhcmkoaa.Pure
open Go.Proofs.Ytadepmjfhcmkoaa.B Go.Proofs.Ytadepmjfhcmkoaa.P
open Go.RowKit Go.Proofs.YtadepmjfhcmkoaaW.PrintWords Go.Proofs.YtadepmjfhcmkoaaW.PrintLast Go.Proofs.YtadepmjfhcmkoaaW.PrintMore
set_option linter.unusedVariables false
set_option linter.unusedSimpArgs false
theorem ev_copy (m : List (List Int)) (h : Sq m) : Ev (fun k => impl_copyTable.f k m) m := by
  have h6 := h.2.1
  unfold impl_copyTable.f
  have := Ev.thru (r := m) (fun i k => impl_copyTable.l0 k (m.take i) m (m.length : Int) (i : Int)) m.length (fun i hi ih => ?_) ?_
  · simpa using this
  · refine Ev.succ ?_
    simp only [impl_copyTable.l0]
    have hl : (m.take i).length ≤ i := List.length_take_le _ _
    have hri : (row m i).length = m.length := h.row hi
    have e : slices_Clone_int_int.f (row m i) = some (row m i) := by
      unfold slices_Clone_int_int.f
      rw [if_pos (by omega)]
    rw [row_eq, e, wrapN i (by omega)]
    refine Ev.pos (by omega) (Ev.pos (by omega) (Ev.pos (by omega) (Ev.bind0 rfl (Ev.pos (by omega) ?_))))
    have e2 : m.take i ++ [row m i] = m.take (i + 1) := by
      rw [List.take_succ_eq_append_getElem hi]
      unfold row
      rw [List.getD_eq_getElem?_getD, List.getElem?_eq_getElem hi]
      rfl
    rw [e2]
    exact ih
  · refine Ev.succ ?_
    simp only [impl_copyTable.l0]
    rw [List.take_length]
    exact Ev.neg (by omega) (Ev.now _)
theorem es_rows {n : Nat} : ∀ (d : Nat) (s : List Int) (p M : List (List Int)), M ∈ esL n (srL n [] 0) d s p → M.length = p.length + d ∧ ∀ x ∈ M, x ∈ p ∨ x.length = n := by
  intro d
  induction d with
  | zero =>
    intro s p M hM
    simp only [esL, List.mem_singleton] at hM
    rw [hM]
    exact ⟨rfl, fun x hx => .inl hx⟩
  | succ d ih =>
    intro s p M hM
    simp only [esL, List.mem_flatMap] at hM
    obtain ⟨r, hr, h⟩ := hM
    split at h
    · obtain ⟨h1, h2⟩ := ih _ _ _ h
      refine ⟨by rw [h1, List.length_append, List.length_singleton]; omega, fun x hx => ?_⟩
      rcases h2 x hx with h3 | h3
      · rcases List.mem_append.mp h3 with h4 | h4
        · exact .inl h4
        · exact .inr (by rw [List.mem_singleton.mp h4]; exact (row_ok hr).1)
      · exact .inr h3
    · simp at h
theorem all_sq {n : Nat} (h1 : 1 ≤ n) (h6 : n ≤ 6) {M : List (List Int)} (hM : M ∈ esAll n) : M.length = n ∧ Sq M := by
  obtain ⟨a, b⟩ := es_rows n _ [] M hM
  have hl : M.length = n := by simpa using a
  refine ⟨hl, by omega, by omega, fun x hx => ?_⟩
  rcases b x hx with h | h
  · simp at h
  · omega
theorem total_few (l : List (List Int)) (c : Nat) (h : ∀ x ∈ l, x.length ≤ c) : total l ≤ l.length * c := by
  induction l with
  | nil => simp [total]
  | cons x xs ih =>
    have e : total (x :: xs) = x.length + total xs := by simp [total]
    rw [e, List.length_cons, Nat.succ_mul]
    have h1 := ih (fun y hy => h y (List.mem_cons_of_mem _ hy))
    have h2 := h x List.mem_cons_self
    omega
theorem flat_at {α β : Type} (f : α → List β) : ∀ (l : List α) (j : Nat) (hj : j < l.length) (x : Nat), x < (f l[j]).length → (l.flatMap f)[((l.map fun a => (f a).length).take j).sum + x]? = (f l[j])[x]? := by
  intro l
  induction l with
  | nil => intro j hj; simp at hj
  | cons a l ih =>
    intro j hj x hx
    cases j with
    | zero =>
      simp only [List.getElem_cons_zero] at hx ⊢
      rw [List.flatMap_cons, List.take_zero, List.sum_nil, Nat.zero_add, List.getElem?_append_left hx]
    | succ j =>
      simp only [List.getElem_cons_succ] at hx ⊢
      rw [List.flatMap_cons, List.map_cons, List.take_succ_cons, List.sum_cons, List.getElem?_append_right (by omega), show (f a).length + ((l.map fun a => (f a).length).take j).sum + x - (f a).length = ((l.map fun a => (f a).length).take j).sum + x by omega]
      exact ih j (by simpa using hj) x hx
theorem ev_at {n : Nat} (h1 : 1 ≤ n) (h6 : n ≤ 6) : ∀ (d : Nat) (s : List Int) (p : List (List Int)) (R : Nat) (kn : List Int), SumOk n s → (colsOf n s).length + d = n → p.length + d = n → KnOk n kn → R < W n d s →
    ∃ M, (esL n (srL n [] 0) d s p)[R]? = some M ∧ Ev (fun k => spec_trAt.l0 k (n : Int) (R : Int) kn (colsOf n s) p) M := by
  intro d
  induction d with
  | zero =>
    intro s p R kn hs hl hp hk hR
    have hR0 : R = 0 := by simp only [W] at hR; omega
    subst hR0
    refine ⟨p, rfl, Ev.succ ?_⟩
    simp only [spec_trAt.l0]
    exact Ev.neg (by omega) (Ev.now _)
  | succ d ih =>
    intro s p R kn hs hl hp hk hR
    have hW := W_small h6 (show d + 1 ≤ 6 by omega) s
    obtain ⟨g, hg⟩ : ∃ g : List Int → Nat, g = fun r => W n d (addL n s r) := ⟨_, rfl⟩
    obtain ⟨B, hB⟩ : ∃ B, B = (kids n s).map fun r => colsOf n (addL n s r) := ⟨_, rfl⟩
    have hBl : B.length = (kids n s).length := by rw [hB, List.length_map]
    have htot : ((kids n s).map g).sum = W n (d + 1) s := by rw [hg]; rfl
    have hk64 := kids_len h6 s
    obtain ⟨f, hf⟩ : ∃ f : List Int → List (List (List Int)), f = fun r => esL n (srL n [] 0) d (addL n s r) (p ++ [r]) := ⟨_, rfl⟩
    have hfl : (kids n s).map (fun r => (f r).length) = (kids n s).map g := by
      refine List.map_congr_left (fun r hr => ?_)
      rw [hf, hg]
      exact esL_len h1 h6 d _ _ (kid_sum hr) (by have := (kid_of h1 h6 hs (by omega) hr).1; omega)
    have hes : esL n (srL n [] 0) (d + 1) s p = (kids n s).flatMap f := by rw [hf]; exact esL_kids p hl
    have loop : ∀ (e j : Nat), j + e = (kids n s).length → ∀ kn, KnOk n kn → (((kids n s).map g).take j).sum ≤ R →
        ∃ M, (esL n (srL n [] 0) (d + 1) s p)[R]? = some M ∧ Ev (fun k => spec_trAt.l1 k (n : Int) ((R - (((kids n s).map g).take j).sum : Nat) : Int) kn (colsOf n s) p B (j : Int)) M := by
      intro e
      induction e with
      | zero =>
        intro j hj kn _ hS
        rw [List.take_of_length_le (by rw [List.length_map]; omega), htot] at hS
        omega
      | succ e ihe =>
        intro j hj kn hkn hS
        have hjk : j < (kids n s).length := by omega
        obtain ⟨r, hr⟩ : ∃ r, r = (kids n s)[j] := ⟨_, rfl⟩
        have hrm : r ∈ kids n s := by rw [hr]; exact List.getElem_mem hjk
        have hrB : rd_L1 B (j : Int) = colsOf n (addL n s r) := by
          unfold rd_L1
          rw [Int.toNat_natCast, List.getD_eq_getElem?_getD, hB, List.getElem?_map, List.getElem?_eq_getElem hjk, ← hr]
          rfl
        have hko := kid_of h1 h6 hs (by omega) hrm
        obtain ⟨kn1, hkn1, ev1⟩ := ev_ways h1 h6 d (addL n s r) kn (kid_sum hrm) (by omega) hkn
        have e5 : (((kids n s).map g).take (j + 1)).sum = (((kids n s).map g).take j).sum + W n d (addL n s r) := by
          rw [List.take_succ_eq_append_getElem (by rw [List.length_map]; exact hjk), List.sum_append]
          simp [← hr, hg]
        have h7 := sum_take_le ((kids n s).map g) (j + 1)
        by_cases c : R < (((kids n s).map g).take (j + 1)).sum
        · obtain ⟨M, hM, evM⟩ := ih (addL n s r) (p ++ [r]) (R - (((kids n s).map g).take j).sum) kn1 (kid_sum hrm) (by omega) (by rw [List.length_append, List.length_singleton]; omega) hkn1 (by omega)
          refine ⟨M, ?_, Ev.succ ?_⟩
          · have h9 := flat_at f (kids n s) j hjk (R - (((kids n s).map g).take j).sum) (by
              rw [← hr, hf]
              show _ < (esL n (srL n [] 0) d (addL n s r) (p ++ [r])).length
              rw [esL_len h1 h6 d _ _ (kid_sum hrm) (by omega)]
              omega)
            rw [hfl, ← hr, show (((kids n s).map g).take j).sum + (R - (((kids n s).map g).take j).sum) = R by omega] at h9
            rw [hes, h9, hf]
            exact hM
          · simp only [spec_trAt.l1]
            refine Ev.pos (by omega) (Ev.pos (by omega) ?_)
            rw [hrB]
            have evs : Ev (fun k => spec_trStep.f k (colsOf n s) (colsOf n (addL n s r)) (n : Int)) r := Ev.of (fun k => spec_trStep.mono _ _ _ k) hko.2
            exact Ev.bind ev1 (Ev.pos (by omega) (Ev.bind evs (Ev.pos (by omega) evM)))
        · obtain ⟨M, hM, evM⟩ := ihe (j + 1) (by omega) kn1 hkn1 (by omega)
          refine ⟨M, hM, Ev.succ ?_⟩
          simp only [spec_trAt.l1]
          refine Ev.pos (by omega) (Ev.pos (by omega) ?_)
          rw [hrB]
          refine Ev.bind ev1 (Ev.neg (by omega) ?_)
          rw [wrapN j (by omega), wrapE _ (by omega) (by omega), show ((R - (((kids n s).map g).take j).sum : Nat) : Int) - (W n d (addL n s r) : Int) = ((R - (((kids n s).map g).take (j + 1)).sum : Nat) : Int) by omega]
          exact evM
    obtain ⟨M, hM, evM⟩ := loop (kids n s).length 0 (by omega) kn hk (by simp)
    refine ⟨M, hM, Ev.succ ?_⟩
    simp only [spec_trAt.l0]
    refine Ev.pos (by omega) (Ev.bind (ev_next h1 h6 hs (by omega)) ?_)
    rw [← hB]
    simpa using evM
theorem zero_cols (n : Nat) : colsOf n (List.replicate n 0) = [] := cols_zero _ _ (fun j hj => by rw [rd_get _ j (by simpa using hj)]; simp)
theorem at_both (a0 a1 : Int) (hw : a1 ≤ 9223372036854775807) : ∃ (r : List (List Int)) (b : Bool), Ev (fun k => spec_SignsAt.f k a0 a1) (r, b) ∧ Ev (fun k => impl_SignsAt.f k a0 a1) (r, b) ∧ total r ≤ 1048576 ∧ r.length ≤ 1048576 := by
  by_cases hs : 1 ≤ a0 ∧ a0 ≤ 6
  · obtain ⟨n, rfl⟩ : ∃ n : Nat, a0 = (n : Int) := ⟨a0.toNat, by omega⟩
    have h1 : 1 ≤ n := by omega
    have h6 : n ≤ 6 := by omega
    have hb : inB (n : Int) 1 6 = true := (inB_iff _ _ _).mpr ⟨by omega, by omega⟩
    have hW := W_all h1 h6
    obtain ⟨kn, _, evw⟩ := ev_ways h1 h6 n (List.replicate n 0) _ (sum_zero n) (by rw [zero_cols]; simp) (known_ok n)
    rw [zero_cols] at evw
    have evt : Ev (fun k => spec_trTotal.f k (n : Int)) (W n n (List.replicate n 0) : Int) := by
      unfold spec_trTotal.f
      exact Ev.bind0 (known_of h1 h6) (Ev.bind evw (Ev.now _))
    have hall := all_len h1 h6
    by_cases hr : 0 ≤ a1 ∧ a1 < (W n n (List.replicate n 0) : Int)
    · obtain ⟨R, rfl⟩ : ∃ R : Nat, a1 = (R : Int) := ⟨a1.toNat, by omega⟩
      obtain ⟨M, hM, evM⟩ := ev_at h1 h6 n (List.replicate n 0) [] R _ (sum_zero n) (by rw [zero_cols]; simp) (by simp) (known_ok n) (by omega)
      rw [zero_cols] at evM
      have hMa : (esAll n)[R]? = some M := hM
      obtain ⟨hMl, hMs⟩ := all_sq h1 h6 (List.mem_of_getElem? hMa)
      refine ⟨M, true, ?_, ?_, ?_, by omega⟩
      · unfold spec_SignsAt.f
        refine Ev.bind0 (l1In_eq _ _ _) ?_
        rw [hb]
        refine Ev.pos rfl (Ev.bind evt (Ev.bind0 (l1In_eq _ _ _) ?_))
        rw [wrapE _ (by omega) (by omega), (inB_iff _ _ _).mpr ⟨hr.1, by omega⟩]
        refine Ev.pos rfl (Ev.bind ?_ (Ev.now _))
        unfold spec_trAt.f
        exact Ev.bind0 (known_of h1 h6) evM
      · unfold impl_SignsAt.f
        refine Ev.pos ⟨hs, hr.1⟩ (Ev.pos ?_ ?_)
        · rw [Int.toNat_natCast, hall]
          exact ⟨hW, hw⟩
        · rw [Int.toNat_natCast, Int.toNat_natCast, hMa]
          exact Ev.bind (ev_copy M hMs) (Ev.pos (by omega) (Ev.now _))
      · have h9 := total_few M 6 (fun x hx => by rw [hMs.2.2 x hx]; omega)
        omega
    · refine ⟨[], false, ?_, ?_, by decide, by decide⟩
      · unfold spec_SignsAt.f
        refine Ev.bind0 (l1In_eq _ _ _) ?_
        rw [hb]
        refine Ev.pos rfl (Ev.bind evt (Ev.bind0 (l1In_eq _ _ _) ?_))
        rw [wrapE _ (by omega) (by omega), show inB a1 0 ((W n n (List.replicate n 0) : Int) - 1) = false by
          rw [Bool.eq_false_iff]
          intro h
          have := (inB_iff _ _ _).mp h
          omega]
        exact Ev.neg (by decide) (Ev.now _)
      · unfold impl_SignsAt.f
        by_cases c : 0 ≤ a1
        · refine Ev.pos ⟨hs, c⟩ (Ev.pos ?_ ?_)
          · rw [Int.toNat_natCast, hall]
            exact ⟨hW, hw⟩
          · rw [Int.toNat_natCast, List.getElem?_eq_none (by rw [hall]; omega)]
            exact Ev.now _
        · exact Ev.neg (fun x => c x.2) (Ev.now _)
  · refine ⟨[], false, ?_, ?_, by decide, by decide⟩
    · unfold spec_SignsAt.f
      refine Ev.bind0 (l1In_eq _ _ _) ?_
      rw [show inB a0 1 6 = false by
        rw [Bool.eq_false_iff]
        intro h
        exact hs ((inB_iff _ _ _).mp h)]
      exact Ev.neg (by decide) (Ev.now _)
    · unfold impl_SignsAt.f
      exact Ev.neg (fun x => hs x.1) (Ev.now _)
end Go.Proofs.Ytadepmjfhcmkoaa.Pure
