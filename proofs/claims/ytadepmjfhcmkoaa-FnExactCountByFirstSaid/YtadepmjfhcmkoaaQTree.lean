/- The tree of sign matrices, row by row: what the program's rows and the reference's columns say of it. -/
import Derived.Test.YtadepmjfhcmkoaaFImplEachSigns
import Derived.Test.YtadepmjfhcmkoaaFSpecTrBehind
import Derived.Test.YtadepmjfhcmkoaaFSpecTrMask
import Derived.Test.YtadepmjfhcmkoaaFSpecTrStep
import Derived.Test.YtadepmjfhcmkoaaQIn
import Derived.KernelRfl
namespace Go.Proofs.Ytadepmjfhcmkoaa.Pure
open Go.Proofs.Ytadepmjfhcmkoaa.B Go.Proofs.Ytadepmjfhcmkoaa.P
open Go.RowKit Go.Proofs.YtadepmjfhcmkoaaW.PrintWords Go.Proofs.YtadepmjfhcmkoaaW.PrintLast Go.Proofs.YtadepmjfhcmkoaaW.PrintMore
set_option linter.unusedVariables false
set_option linter.unusedSimpArgs false
/-- The columns that have the sum 1. -/
def colsOf (n : Nat) (s : List Int) : List Int := ((List.range n).filter fun (i : Nat) => decide (rd s (i : Int) = 1)).map fun (i : Nat) => (i : Int)
def sOf (n : Nat) (c : List Int) : List Int := (List.range n).map fun (i : Nat) => if c.any (fun x => decide (x = (i : Int))) = true then 1 else 0
def allS : Nat → List (List Int)
  | 0 => [[]]
  | n + 1 => (allS n).flatMap fun s => [0 :: s, 1 :: s]
/-- The rows that can stand behind such sums. -/
def kids (n : Nat) (s : List Int) : List (List Int) := (srL n [] 0).filter fun r => fitsB s r (decide ((colsOf n s).length + 1 = n))
def maskOf (n : Nat) (s : List Int) : Int := (spec_trMask.f 30 (colsOf n s)).getD (-1)
def sameL : List Int → List Int → Bool
  | [], [] => true
  | x :: xs, y :: ys => decide (x = y) && sameL xs ys
  | _, _ => false
theorem sameL_eq {a b : List Int} (h : sameL a b = true) : a = b := by
  induction a generalizing b with
  | nil =>
    cases b with
    | nil => rfl
    | cons y ys => cases h
  | cons x xs ih =>
    cases b with
    | nil => cases h
    | cons y ys =>
      simp only [sameL, Bool.and_eq_true, decide_eq_true_eq] at h
      rw [h.1, ih h.2]
/-- Takes the first element that is x out of a list. -/
def takeOut (x : List Int) : List (List Int) → Option (List (List Int))
  | [] => none
  | y :: ys => if sameL x y = true then some ys else (takeOut x ys).map (y :: ·)
theorem takeOut_perm {x : List Int} {l l' : List (List Int)} (h : takeOut x l = some l') : l.Perm (x :: l') := by
  induction l generalizing l' with
  | nil => cases h
  | cons y ys ih =>
    simp only [takeOut] at h
    by_cases c : sameL x y = true
    · rw [if_pos c] at h
      injection h with h
      rw [sameL_eq c, h]
    · rw [if_neg c] at h
      obtain ⟨l2, h1, h2⟩ := Option.map_eq_some_iff.mp h
      rw [← h2]
      exact ((ih h1).cons y).trans (List.Perm.swap x y l2)
def permB : List (List Int) → List (List Int) → Bool
  | [], l => l.isEmpty
  | x :: xs, l => match takeOut x l with | some l' => permB xs l' | none => false
theorem permB_perm {a b : List (List Int)} (h : permB a b = true) : a.Perm b := by
  induction a generalizing b with
  | nil =>
    simp only [permB, List.isEmpty_iff] at h
    rw [h]
  | cons x xs ih =>
    simp only [permB] at h
    cases e : takeOut x b with
    | none => rw [e] at h; cases h
    | some l' =>
      rw [e] at h
      exact ((ih h).cons x).trans (takeOut_perm e).symm
def isSome (o : Option (List Int)) (r : List Int) : Bool := match o with | some x => sameL x r | none => false
theorem isSome_eq {o : Option (List Int)} {r : List Int} (h : isSome o r = true) : o = some r := by
  cases o with
  | none => cases h
  | some x => rw [sameL_eq h]
/-- What holds of one set of columns. -/
def chkS (n : Nat) (s : List Int) : Bool :=
  let c := colsOf n s
  sameL (sOf n c) s && ((match spec_trMask.f 30 c with | some m => decide (0 ≤ m) && decide (m < (2 ^ n : Nat)) | none => false) &&
    (decide (n ≤ c.length) || ((match spec_trBehind.f 100 c [] (n : Int) with | some B => permB B ((kids n s).map fun r => colsOf n (addL n s r)) | none => false) &&
      (kids n s).all fun r => decide ((colsOf n (addL n s r)).length = c.length + 1) && isSome (spec_trStep.f 30 c (colsOf n (addL n s r)) (n : Int)) r)))
def chkM (n : Nat) : Bool := (allS n).all fun s => (allS n).all fun s' => !decide (maskOf n s = maskOf n s') || sameL s s'
set_option maxRecDepth 100000
theorem chk_all {n : Nat} (h1 : 1 ≤ n) (h6 : n ≤ 6) : (allS n).all (chkS n) = true ∧ chkM n = true := by
  have h : n = 1 ∨ n = 2 ∨ n = 3 ∨ n = 4 ∨ n = 5 ∨ n = 6 := by omega
  rcases h with rfl | rfl | rfl | rfl | rfl | rfl
  · exact ⟨by kernel_rfl, by kernel_rfl⟩
  · exact ⟨by kernel_rfl, by kernel_rfl⟩
  · exact ⟨by kernel_rfl, by kernel_rfl⟩
  · exact ⟨by kernel_rfl, by kernel_rfl⟩
  · exact ⟨by kernel_rfl, by kernel_rfl⟩
  · exact ⟨by kernel_rfl, by kernel_rfl⟩
theorem mem_allS {n : Nat} {s : List Int} (h : SumOk n s) : s ∈ allS n := by
  induction n generalizing s with
  | zero =>
    have : s = [] := List.eq_nil_of_length_eq_zero h.1
    rw [this]
    exact List.mem_singleton.mpr rfl
  | succ n ih =>
    cases s with
    | nil => exact absurd h.1 (by simp)
    | cons x t =>
      have hl := h.1
      simp only [List.length_cons] at hl
      have h0 := h.2 0 (by omega)
      have ht : SumOk n t := ⟨by omega, fun j hj => by
        have := h.2 (j + 1) (by omega)
        rw [rd_get _ (j + 1) (by simp; omega)] at this
        rw [rd_get _ j (by omega)]
        simpa using this⟩
      rw [rd_get _ 0 (by simp)] at h0
      simp only [List.getElem_cons_zero] at h0
      simp only [allS, List.mem_flatMap]
      refine ⟨t, ih ht, ?_⟩
      have hx : x = 0 ∨ x = 1 := by omega
      rcases hx with rfl | rfl
      · exact List.mem_cons_self
      · exact List.mem_cons_of_mem _ List.mem_cons_self
section
variable {n : Nat} (h1 : 1 ≤ n) (h6 : n ≤ 6)
include h1 h6
theorem chk_at {s : List Int} (hs : SumOk n s) : chkS n s = true := List.all_eq_true.mp (chk_all h1 h6).1 s (mem_allS hs)
theorem s_of {s : List Int} (hs : SumOk n s) : sOf n (colsOf n s) = s := by
  have h := chk_at h1 h6 hs
  simp only [chkS, Bool.and_eq_true] at h
  exact sameL_eq h.1
theorem mask_of {s : List Int} (hs : SumOk n s) : spec_trMask.f 30 (colsOf n s) = some (maskOf n s) ∧ 0 ≤ maskOf n s ∧ maskOf n s < (2 ^ n : Nat) := by
  have h := chk_at h1 h6 hs
  simp only [chkS, Bool.and_eq_true] at h
  have h2 := h.2.1
  unfold maskOf
  cases e : spec_trMask.f 30 (colsOf n s) with
  | none => rw [e] at h2; cases h2
  | some m =>
    rw [e] at h2
    simp only [Bool.and_eq_true, decide_eq_true_eq] at h2
    exact ⟨rfl, h2.1, h2.2⟩
theorem mask_inj {s s' : List Int} (hs : SumOk n s) (hs' : SumOk n s') (h : maskOf n s = maskOf n s') : s = s' := by
  have h2 := List.all_eq_true.mp (List.all_eq_true.mp (chk_all h1 h6).2 s (mem_allS hs)) s' (mem_allS hs')
  rw [decide_eq_true h] at h2
  exact sameL_eq (by simpa using h2)
theorem behind_of {s : List Int} (hs : SumOk n s) (hl : (colsOf n s).length < n) : ∃ B, spec_trBehind.f 100 (colsOf n s) [] (n : Int) = some B ∧ B.Perm ((kids n s).map fun r => colsOf n (addL n s r)) := by
  have h := chk_at h1 h6 hs
  simp only [chkS, Bool.and_eq_true] at h
  have h2 := h.2.2
  rw [decide_eq_false (by omega), Bool.false_or, Bool.and_eq_true] at h2
  cases e : spec_trBehind.f 100 (colsOf n s) [] (n : Int) with
  | none => rw [e] at h2; exact absurd h2.1 (by simp)
  | some B => rw [e] at h2; exact ⟨B, rfl, permB_perm h2.1⟩
theorem kid_of {s r : List Int} (hs : SumOk n s) (hl : (colsOf n s).length < n) (hr : r ∈ kids n s) : (colsOf n (addL n s r)).length = (colsOf n s).length + 1 ∧ spec_trStep.f 30 (colsOf n s) (colsOf n (addL n s r)) (n : Int) = some r := by
  have h := chk_at h1 h6 hs
  simp only [chkS, Bool.and_eq_true] at h
  have h2 := h.2.2
  rw [decide_eq_false (by omega), Bool.false_or, Bool.and_eq_true] at h2
  have h3 := List.all_eq_true.mp h2.2 r hr
  simp only [Bool.and_eq_true, decide_eq_true_eq] at h3
  exact ⟨h3.1, isSome_eq h3.2⟩
end
theorem row_ok {n : Nat} {r : List Int} (h : r ∈ srL n [] 0) : RowOk n r := srL_ok n n [] 0 (by simp) (by omega) (by omega) (fun j hj => by simp at hj) r h
theorem kid_sum {n : Nat} {s r : List Int} (hr : r ∈ kids n s) : SumOk n (addL n s r) := by
  obtain ⟨h1, h2⟩ := List.mem_filter.mp hr
  exact sums_fit (row_ok h1) h2
/-- In how many ways d rows more can stand behind such sums. -/
def W (n : Nat) : Nat → List Int → Nat
  | 0, _ => 1
  | d + 1, s => ((kids n s).map fun r => W n d (addL n s r)).sum
theorem flat_filter {α β : Type} (l : List α) (p : α → Bool) (f : α → List β) : (l.flatMap fun x => if p x = true then f x else []) = (l.filter p).flatMap f := by
  induction l with
  | nil => rfl
  | cons x l ih =>
    rw [List.flatMap_cons, ih]
    by_cases h : p x = true
    · rw [if_pos h, List.filter_cons_of_pos h, List.flatMap_cons]
    · rw [if_neg h, List.filter_cons_of_neg h, List.nil_append]
theorem esL_kids {n d : Nat} {s : List Int} (m : List (List Int)) (hl : (colsOf n s).length + (d + 1) = n) : esL n (srL n [] 0) (d + 1) s m = (kids n s).flatMap fun r => esL n (srL n [] 0) d (addL n s r) (m ++ [r]) := by
  unfold kids
  rw [← flat_filter]
  have e : decide (d = 0) = decide ((colsOf n s).length + 1 = n) := by
    by_cases h : d = 0
    · rw [decide_eq_true h, decide_eq_true (by omega)]
    · rw [decide_eq_false h, decide_eq_false (by omega)]
  simp only [esL]
  rw [e]
theorem esL_len {n : Nat} (h1 : 1 ≤ n) (h6 : n ≤ 6) : ∀ (d : Nat) (s : List Int) (m : List (List Int)), SumOk n s → (colsOf n s).length + d = n → (esL n (srL n [] 0) d s m).length = W n d s := by
  intro d
  induction d with
  | zero => intro s m _ _; rfl
  | succ d ih =>
    intro s m hs hl
    rw [esL_kids m hl, List.length_flatMap]
    simp only [W]
    congr 1
    refine List.map_congr_left (fun r hr => ?_)
    have hk := kid_of h1 h6 hs (by omega) hr
    exact ih _ _ (kid_sum hr) (by omega)
theorem sum_le {α : Type} (l : List α) (f : α → Nat) (b : Nat) (h : ∀ x ∈ l, f x ≤ b) : (l.map f).sum ≤ l.length * b := by
  induction l with
  | nil => simp
  | cons x l ih =>
    have := ih (fun y hy => h y (List.mem_cons_of_mem _ hy))
    have := h x List.mem_cons_self
    simp only [List.map_cons, List.sum_cons, List.length_cons, Nat.succ_mul]
    omega
theorem kids_len {n : Nat} (h6 : n ≤ 6) (s : List Int) : (kids n s).length ≤ 64 := by
  have h := srL_len n [] 0
  have h2 : 2 ^ n ≤ 2 ^ 6 := Nat.pow_le_pow_right (by decide) h6
  have h3 : (kids n s).length ≤ (srL n [] 0).length := List.length_filter_le _ _
  omega
theorem W_le {n : Nat} (h6 : n ≤ 6) (d : Nat) (s : List Int) : W n d s ≤ 64 ^ d := by
  induction d generalizing s with
  | zero => exact Nat.le_refl _
  | succ d ih =>
    simp only [W]
    have h := sum_le (kids n s) (fun r => W n d (addL n s r)) (64 ^ d) (fun r _ => ih _)
    have h2 := kids_len h6 s
    have h3 : (kids n s).length * 64 ^ d ≤ 64 * 64 ^ d := Nat.mul_le_mul_right _ h2
    rw [Nat.pow_succ, Nat.mul_comm (64 ^ d) 64]
    omega
theorem W_small {n : Nat} (h6 : n ≤ 6) {d : Nat} (hd : d ≤ 6) (s : List Int) : W n d s ≤ 68719476736 := by
  have h := W_le h6 d s
  have h2 : 64 ^ d ≤ 64 ^ 6 := Nat.pow_le_pow_right (by decide) hd
  omega
end Go.Proofs.Ytadepmjfhcmkoaa.Pure
