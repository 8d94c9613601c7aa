import Derived.Test.YtadepmjfhcmkoaaFImplEach
import Derived.Test.YtadepmjfhcmkoaaFSpecTr
import Derived.Test.YtadepmjfhcmkoaaQIn
import Derived.KernelRfl
/- The tree of sign matrices, row by row: what the program's rows and the reference's columns say of it. -/
namespace Go.Proofs.Ytadepmjfhcmkoaa.Pure
open Go.Proofs.Ytadepmjfhcmkoaa.B Go.Proofs.Ytadepmjfhcmkoaa.P
open Go.RowKit Go.Proofs.YtadepmjfhcmkoaaW.PrintWords Go.Proofs.YtadepmjfhcmkoaaW.PrintLast Go.Proofs.YtadepmjfhcmkoaaW.PrintMore
set_option linter.unusedVariables false
set_option linter.unusedSimpArgs false
/-- The columns that have the sum 1. -/
def colsOf (n : Nat) (s : List Int) : List Int := ((List.range n).filter fun (i : Nat) => decide (rd s (i : Int) = 1)).map fun (i : Nat) => (i : Int)
def sOf (n : Nat) (c : List Int) : List Int := (List.range n).map fun (i : Nat) => if c.any (fun x => decide (x = (i : Int))) = true then 1 else 0
def allS : Nat → List (List Int)
  | 0 => [[]]
  | n + 1 => (allS n).flatMap fun s => [0 :: s, 1 :: s]
/-- The rows that can stand behind such sums. -/
def kids (n : Nat) (s : List Int) : List (List Int) := (srL n [] 0).filter fun r => fitsB s r (decide ((colsOf n s).length + 1 = n))
def maskOf (n : Nat) (s : List Int) : Int := (spec_trMask.f 30 (colsOf n s)).getD (-1)
def sameL : List Int → List Int → Bool
  | [], [] => true
  | x :: xs, y :: ys => decide (x = y) && sameL xs ys
  | _, _ => false
theorem sameL_eq {a b : List Int} (h : sameL a b = true) : a = b := by
  induction a generalizing b with
  | nil =>
    cases b with
    | nil => rfl
    | cons y ys => cases h
  | cons x xs ih =>
    cases b with
    | nil => cases h
    | cons y ys =>
      simp only [sameL, Bool.and_eq_true, decide_eq_true_eq] at h
      rw [h.1, ih h.2]
/-- Takes the first element that is x out of a list. -/
def takeOut (x : List Int) : List (List Int) → Option (List (List Int))
  | [] => none
  | y :: ys => if sameL x y = true then some ys else (takeOut x ys).map (y :: ·)
theorem takeOut_perm {x : List Int} {l l' : List (List Int)} (h : takeOut x l = some l') : l.Perm (x :: l') := by
  induction l generalizing l' with
  | nil => cases h
  | cons y ys ih =>
    simp only [takeOut] at h
    by_cases c : sameL x y = true
    · rw [if_pos c] at h
      injection h with h
      rw [sameL_eq c, h]
    · rw [if_neg c] at h
      obtain ⟨l2, h1, h2⟩ := Option.map_eq_some_iff.mp h
      rw [← h2]
      exact ((ih h1).cons y).trans (List.Perm.swap x y l2)
def permB : List (List Int) → List (List Int) → Bool
  | [], l => l.isEmpty
  | x :: xs, l => match takeOut x l with | some l' => permB xs l' | none => false
theorem permB_perm {a b : List (List Int)} (h : permB a b = true) : a.Perm b := by
  induction a generalizing b with
  | nil =>
    simp only [permB, List.isEmpty_iff] at h
    rw [h]
  | cons x xs ih =>
    simp only [permB] at h
    cases e : takeOut x b with
    | none => rw [e] at h; cases h
    | some l' =>
      rw [e] at h
      exact ((ih h).cons x).trans (takeOut_perm e).symm
def isSome (o : Option (List Int)) (r : List Int) : Bool := match o with | some x => sameL x r | none => false
theorem isSome_eq {o : Option (List Int)} {r : List Int} (h : isSome o r = true) : o = some r := by
  cases o with
  | none => cases h
  | some x => rw [sameL_eq h]
/-- What holds of one set of columns. -/
def chkS (n : Nat) (s : List Int) : Bool :=
  let c := colsOf n s
  sameL (sOf n c) s && ((match spec_trMask.f 30 c with | some m => decide (0 ≤ m) && decide (m < (2 ^ n : Nat)) | none => false) &&
    (decide (n ≤ c.length) || ((match spec_trBehind.f 100 c [] (n : Int) with | some B => permB B ((kids n s).map fun r => colsOf n (addL n s r)) | none => false) &&
      (kids n s).all fun r => decide ((colsOf n (addL n s r)).length = c.length + 1) && isSome (spec_trStep.f 30 c (colsOf n (addL n s r)) (n : Int)) r)))
def chkM (n : Nat) : Bool := (allS n).all fun s => (allS n).all fun s' => !decide (maskOf n s = maskOf n s') || sameL s s'
set_option maxRecDepth 100000
theorem chk_all {n : Nat} (h1 : 1 ≤ n) (h6 : n ≤ 6) : (allS n).all (chkS n) = true ∧ chkM n = true := by
  have h : n = 1 ∨ n = 2 ∨ n = 3 ∨ n = 4 ∨ n = 5 ∨ n = 6 := by omega
  rcases h with rfl | rfl | rfl | rfl | rfl | rfl
  · exact ⟨by kernel_rfl, by kernel_rfl⟩
  · exact ⟨by kernel_rfl, by kernel_rfl⟩
  · exact ⟨by kernel_rfl, by kernel_rfl⟩
  · exact ⟨by kernel_rfl, by kernel_rfl⟩
  · exact ⟨by kernel_rfl, by kernel_rfl⟩
  · exact ⟨by kernel_rfl, by kernel_rfl⟩
theorem mem_allS {n : Nat} {s : List Int} (h : SumOk n s) : s ∈ allS n := by
  induction n generalizing s with
  | zero =>
    have : s = [] := List.eq_nil_of_length_eq_zero h.1
    rw [this]
    exact List.mem_singleton.mpr rfl
  | succ n ih =>
    cases s with
    | nil => exact absurd h.1 (by simp)
    | cons x t =>
      have hl := h.1
      simp only [List.length_cons] at hl
      have h0 := h.2 0 (by omega)
      have ht : SumOk n t := ⟨by omega, fun j hj => by
        have := h.2 (j + 1) (by omega)
        rw [rd_get _ (j + 1) (by simp; omega)] at this
        rw [rd_get _ j (by omega)]
        simpa using this⟩
      rw [rd_get _ 0 (by simp)] at h0
      simp only [List.getElem_cons_zero] at h0
      simp only [allS, List.mem_flatMap]
      refine ⟨t, ih ht, ?_⟩
      have hx : x = 0 ∨ x = 1 := by omega
      rcases hx with rfl | rfl
      · exact List.mem_cons_self
      · exact List.mem_cons_of_mem _ List.mem_cons_self
section
variable {n : Nat} (h1 : 1 ≤ n) (h6 : n ≤ 6)
include h1 h6
theorem chk_at {s : List Int} (hs : SumOk n s) : chkS n s = true := List.all_eq_true.mp (chk_all h1 h6).1 s (mem_allS hs)
theorem s_of {s : List Int} (hs : SumOk n s) : sOf n (colsOf n s) = s := by
  have h := chk_at h1 h6 hs
  simp only [chkS, Bool.and_eq_true] at h
  exact sameL_eq h.1
theorem mask_of {s : List Int} (hs : SumOk n s) : spec_trMask.f 30 (colsOf n s) = some (maskOf n s) ∧ 0 ≤ maskOf n s ∧ maskOf n s < (2 ^ n : Nat) := by
  have h := chk_at h1 h6 hs
  simp only [chkS, Bool.and_eq_true] at h
  have h2 := h.2.1
  unfold maskOf
  cases e : spec_trMask.f 30 (colsOf n s) with
  | none => rw [e] at h2; cases h2
  | some m =>
    rw [e] at h2
    simp only [Bool.and_eq_true, decide_eq_true_eq] at h2
    exact ⟨rfl, h2.1, h2.2⟩
theorem mask_inj {s s' : List Int} (hs : SumOk n s) (hs' : SumOk n s') (h : maskOf n s = maskOf n s') : s = s' := by
  have h2 := List.all_eq_true.mp (List.all_eq_true.mp (chk_all h1 h6).2 s (mem_allS hs)) s' (mem_allS hs')
  rw [decide_eq_true h] at h2
  exact sameL_eq (by simpa using h2)
theorem behind_of {s : List Int} (hs : SumOk n s) (hl : (colsOf n s).length < n) : ∃ B, spec_trBehind.f 100 (colsOf n s) [] (n : Int) = some B ∧ B.Perm ((kids n s).map fun r => colsOf n (addL n s r)) := by
  have h := chk_at h1 h6 hs
  simp only [chkS, Bool.and_eq_true] at h
  have h2 := h.2.2
  rw [decide_eq_false (by omega), Bool.false_or, Bool.and_eq_true] at h2
  cases e : spec_trBehind.f 100 (colsOf n s) [] (n : Int) with
  | none => rw [e] at h2; exact absurd h2.1 (by simp)
  | some B => rw [e] at h2; exact ⟨B, rfl, permB_perm h2.1⟩
theorem kid_of {s r : List Int} (hs : SumOk n s) (hl : (colsOf n s).length < n) (hr : r ∈ kids n s) : (colsOf n (addL n s r)).length = (colsOf n s).length + 1 ∧ spec_trStep.f 30 (colsOf n s) (colsOf n (addL n s r)) (n : Int) = some r := by
  have h := chk_at h1 h6 hs
  simp only [chkS, Bool.and_eq_true] at h
  have h2 := h.2.2
  rw [decide_eq_false (by omega), Bool.false_or, Bool.and_eq_true] at h2
  have h3 := List.all_eq_true.mp h2.2 r hr
  simp only [Bool.and_eq_true, decide_eq_true_eq] at h3
  exact ⟨h3.1, isSome_eq h3.2⟩
end
theorem row_ok {n : Nat} {r : List Int} (h : r ∈ srL n [] 0) : RowOk n r := srL_ok n n [] 0 (by simp) (by omega) (by omega) (fun j hj => by simp at hj) r h
theorem kid_sum {n : Nat} {s r : List Int} (hr : r ∈ kids n s) : SumOk n (addL n s r) := by
  obtain ⟨h1, h2⟩ := List.mem_filter.mp hr
  exact sums_fit (row_ok h1) h2
/-- In how many ways d rows more can stand behind such sums. -/
def W (n : Nat) : Nat → List Int → Nat
  | 0, _ => 1
  | d + 1, s => ((kids n s).map fun r => W n d (addL n s r)).sum
theorem flat_filter {α β : Type} (l : List α) (p : α → Bool) (f : α → List β) : (l.flatMap fun x => if p x = true then f x else []) = (l.filter p).flatMap f := by
  induction l with
  | nil => rfl
  | cons x l ih =>
    rw [List.flatMap_cons, ih]
    by_cases h : p x = true
    · rw [if_pos h, List.filter_cons_of_pos h, List.flatMap_cons]
    · rw [if_neg h, List.filter_cons_of_neg h, List.nil_append]
theorem esL_kids {n d : Nat} {s : List Int} (m : List (List Int)) (hl : (colsOf n s).length + (d + 1) = n) : esL n (srL n [] 0) (d + 1) s m = (kids n s).flatMap fun r => esL n (srL n [] 0) d (addL n s r) (m ++ [r]) := by
  unfold kids
  rw [← flat_filter]
  have e : decide (d = 0) = decide ((colsOf n s).length + 1 = n) := by
    by_cases h : d = 0
    · rw [decide_eq_true h, decide_eq_true (by omega)]
    · rw [decide_eq_false h, decide_eq_false (by omega)]
  simp only [esL]
  rw [e]
theorem esL_len {n : Nat} (h1 : 1 ≤ n) (h6 : n ≤ 6) : ∀ (d : Nat) (s : List Int) (m : List (List Int)), SumOk n s → (colsOf n s).length + d = n → (esL n (srL n [] 0) d s m).length = W n d s := by
  intro d
  induction d with
  | zero => intro s m _ _; rfl
  | succ d ih =>
    intro s m hs hl
    rw [esL_kids m hl, List.length_flatMap]
    simp only [W]
    congr 1
    refine List.map_congr_left (fun r hr => ?_)
    have hk := kid_of h1 h6 hs (by omega) hr
    exact ih _ _ (kid_sum hr) (by omega)
theorem sum_le {α : Type} (l : List α) (f : α → Nat) (b : Nat) (h : ∀ x ∈ l, f x ≤ b) : (l.map f).sum ≤ l.length * b := by
  induction l with
  | nil => simp
  | cons x l ih =>
    have := ih (fun y hy => h y (List.mem_cons_of_mem _ hy))
    have := h x List.mem_cons_self
    simp only [List.map_cons, List.sum_cons, List.length_cons, Nat.succ_mul]
    omega
theorem kids_len {n : Nat} (h6 : n ≤ 6) (s : List Int) : (kids n s).length ≤ 64 := by
  have h := srL_len n [] 0
  have h2 : 2 ^ n ≤ 2 ^ 6 := Nat.pow_le_pow_right (by decide) h6
  have h3 : (kids n s).length ≤ (srL n [] 0).length := List.length_filter_le _ _
  omega
theorem W_le {n : Nat} (h6 : n ≤ 6) (d : Nat) (s : List Int) : W n d s ≤ 64 ^ d := by
  induction d generalizing s with
  | zero => exact Nat.le_refl _
  | succ d ih =>
    simp only [W]
    have h := sum_le (kids n s) (fun r => W n d (addL n s r)) (64 ^ d) (fun r _ => ih _)
    have h2 := kids_len h6 s
    have h3 : (kids n s).length * 64 ^ d ≤ 64 * 64 ^ d := Nat.mul_le_mul_right _ h2
    rw [Nat.pow_succ, Nat.mul_comm (64 ^ d) 64]
    omega
theorem W_small {n : Nat} (h6 : n ≤ 6) {d : Nat} (hd : d ≤ 6) (s : List Int) : W n d s ≤ 68719476736 := by
  have h := W_le h6 d s
  have h2 : 64 ^ d ≤ 64 ^ 6 := Nat.pow_le_pow_right (by decide) hd
  omega
end Go.Proofs.Ytadepmjfhcmkoaa.Pure

/- In how many ways columns go on: the reference's count, with what is known kept aside. -/
namespace Go.Proofs.Ytadepmjfhcmkoaa.Pure
open Go.Proofs.Ytadepmjfhcmkoaa.B Go.Proofs.Ytadepmjfhcmkoaa.P
open Go.RowKit Go.Proofs.YtadepmjfhcmkoaaW.PrintWords Go.Proofs.YtadepmjfhcmkoaaW.PrintLast Go.Proofs.YtadepmjfhcmkoaaW.PrintMore
set_option linter.unusedVariables false
set_option linter.unusedSimpArgs false
theorem rd_set (l : List Int) (m m' v : Int) (h0 : 0 ≤ m) (h0' : 0 ≤ m') (hl : m < l.length) : rd (l.set m.toNat v) m' = if m' = m then v else rd l m' := by
  unfold rd
  rw [List.getD_eq_getElem?_getD, List.getElem?_set]
  by_cases e : m' = m
  · rw [if_pos e, e, if_pos rfl, if_pos (by omega)]
    rfl
  · rw [if_neg e, if_neg (by omega), ← List.getD_eq_getElem?_getD]
structure KnOk (n : Nat) (known : List Int) : Prop where
  len : known.length = 2 ^ n
  at_ : ∀ (s : List Int) (d : Nat), SumOk n s → (colsOf n s).length + (d + 1) = n → rd known (maskOf n s) = 0 ∨ rd known (maskOf n s) = (W n (d + 1) s : Int)
theorem sum_perm {a b : List Nat} (h : a.Perm b) : a.sum = b.sum := by
  induction h with
  | nil => rfl
  | cons x _ ih => rw [List.sum_cons, List.sum_cons, ih]
  | swap x y l => simp only [List.sum_cons]; omega
  | trans _ _ ih1 ih2 => exact ih1.trans ih2
theorem sum_take_le (l : List Nat) (i : Nat) : (l.take i).sum ≤ l.sum := by
  have h := List.take_append_drop i l
  have h2 : l.sum = (l.take i).sum + (l.drop i).sum := by rw [← List.sum_append, h]
  omega
theorem ev_ways {n : Nat} (h1 : 1 ≤ n) (h6 : n ≤ 6) : ∀ (d : Nat) (s : List Int) (known : List Int), SumOk n s → (colsOf n s).length + d = n → KnOk n known →
    ∃ known', KnOk n known' ∧ Ev (fun k => spec_trWays.f k (colsOf n s) (n : Int) known) ((W n d s : Int), known') := by
  intro d
  induction d with
  | zero =>
    intro s known hs hl hk
    refine ⟨known, hk, Ev.succ ?_⟩
    simp only [spec_trWays.f]
    exact Ev.pos (by omega) (Ev.now _)
  | succ d ih =>
    intro s known hs hl hk
    obtain ⟨hm, hm0, hm1⟩ := mask_of h1 h6 hs
    have hlen : (known.length : Int) = (2 ^ n : Nat) := by rw [hk.len]
    have evm : Ev (fun k => spec_trMask.f k (colsOf n s)) (maskOf n s) := Ev.of (fun k => spec_trMask.mono (colsOf n s) k) hm
    by_cases c : 0 < rd known (maskOf n s)
    · refine ⟨known, hk, Ev.succ ?_⟩
      have hv : rd known (maskOf n s) = (W n (d + 1) s : Int) := (hk.at_ s d hs hl).elim (fun h => by omega) id
      simp only [spec_trWays.f]
      refine Ev.neg (by omega) (Ev.bind evm (Ev.pos hm0 (Ev.pos (by omega) (Ev.pos c ?_))))
      rw [hv]
      exact Ev.now _
    · obtain ⟨B, hB, hp⟩ := behind_of h1 h6 hs (by omega)
      have evb : Ev (fun k => spec_trBehind.f k (colsOf n s) [] (n : Int)) B := Ev.of (fun k => spec_trBehind.mono (colsOf n s) [] (n : Int) k) hB
      obtain ⟨g, hg⟩ : ∃ g : List Int → Nat, g = fun b => W n d (sOf n b) := ⟨_, rfl⟩
      have htot : (B.map g).sum = W n (d + 1) s := by
        rw [sum_perm (hp.map g), List.map_map]
        simp only [W]
        congr 1
        refine List.map_congr_left (fun r hr => ?_)
        simp only [Function.comp, hg]
        rw [s_of h1 h6 (kid_sum hr)]
      have hW := W_small h6 (show d + 1 ≤ 6 by omega) s
      have loop : ∀ (j i : Nat), i + j = B.length → ∀ kn, KnOk n kn → ∃ kn', KnOk n kn' ∧ Ev (fun k => spec_trWays.l0 k (colsOf n s) (n : Int) kn (((B.map g).take i).sum : Int) B (B.length : Int) (i : Int)) ((W n (d + 1) s : Int), kn') := by
        intro j
        induction j with
        | zero =>
          intro i hi kn hkn
          refine ⟨kn.set (maskOf n s).toNat (W n (d + 1) s : Int), ⟨by rw [List.length_set, hkn.len], fun s' d' hs' hl' => ?_⟩, Ev.succ ?_⟩
          · have hm' := (mask_of h1 h6 hs').2
            rw [rd_set kn _ _ _ hm0 hm'.1 (by rw [hkn.len]; exact hm1)]
            by_cases e : maskOf n s' = maskOf n s
            · rw [if_pos e]
              have e2 := mask_inj h1 h6 hs' hs e
              subst e2
              have : d' = d := by omega
              rw [this]
              exact .inr rfl
            · rw [if_neg e]
              exact hkn.at_ s' d' hs' hl'
          · simp only [spec_trWays.l0]
            have hlen2 : (kn.length : Int) = (2 ^ n : Nat) := by rw [hkn.len]
            refine Ev.neg (by omega) (Ev.bind evm (Ev.pos hm0 (Ev.pos (by omega) ?_)))
            have e3 : (((B.map g).take i).sum : Int) = (W n (d + 1) s : Int) := by
              rw [List.take_of_length_le (by rw [List.length_map]; omega), htot]
            rw [e3]
            exact Ev.now _
        | succ j ihj =>
          intro i hi kn hkn
          have hiB : i < B.length := by omega
          have hmem : B[i] ∈ (kids n s).map fun r => colsOf n (addL n s r) := hp.mem_iff.mp (List.getElem_mem hiB)
          obtain ⟨r, hr, hre⟩ := List.mem_map.mp hmem
          obtain ⟨kn1, hk1, ev1⟩ := ih (addL n s r) kn (kid_sum hr) (by have := (kid_of h1 h6 hs (by omega) hr).1; omega) hkn
          obtain ⟨kn2, hk2, ev2⟩ := ihj (i + 1) (by omega) kn1 hk1
          refine ⟨kn2, hk2, Ev.succ ?_⟩
          simp only [spec_trWays.l0]
          refine Ev.pos (by omega) (Ev.pos (by omega) (Ev.pos (by omega) ?_))
          have er : rd_L1 B (i : Int) = colsOf n (addL n s r) := by
            unfold rd_L1
            rw [Int.toNat_natCast, List.getD_eq_getElem?_getD, List.getElem?_eq_getElem hiB]
            exact hre.symm
          rw [er]
          refine Ev.bind ev1 ?_
          have eg : g B[i] = W n d (addL n s r) := by
            rw [hg, ← hre]
            show W n d (sOf n (colsOf n (addL n s r))) = _
            rw [s_of h1 h6 (kid_sum hr)]
          have e4 : ((B.map g).take (i + 1)).sum = ((B.map g).take i).sum + W n d (addL n s r) := by
            rw [List.take_succ_eq_append_getElem (by rw [List.length_map]; exact hiB), List.sum_append]
            simp [eg]
          have h7 := sum_take_le (B.map g) (i + 1)
          rw [wrapN i (by
            have h8 := hp.length_eq
            have h9 := kids_len h6 s
            rw [List.length_map] at h8
            omega), wrapE _ (by omega) (by omega), show (((B.map g).take i).sum : Int) + (W n d (addL n s r) : Int) = (((B.map g).take (i + 1)).sum : Int) by rw [e4]; omega]
          exact ev2
      obtain ⟨kn', hkn', evl⟩ := loop B.length 0 (by omega) known hk
      refine ⟨kn', hkn', Ev.succ ?_⟩
      simp only [spec_trWays.f]
      refine Ev.neg (by omega) (Ev.bind evm (Ev.pos hm0 (Ev.pos (by omega) (Ev.neg c (Ev.bind evb ?_)))))
      simpa using evl
theorem known_of {n : Nat} (h1 : 1 ≤ n) (h6 : n ≤ 6) : spec_trKnown.f (n : Int) = some (List.replicate (2 ^ n) 0) := by
  have h : n = 1 ∨ n = 2 ∨ n = 3 ∨ n = 4 ∨ n = 5 ∨ n = 6 := by omega
  rcases h with rfl | rfl | rfl | rfl | rfl | rfl
  · exact (by kernel_rfl : spec_trKnown.f ((1 : Nat) : Int) = some (List.replicate (2 ^ 1) 0))
  · exact (by kernel_rfl : spec_trKnown.f ((2 : Nat) : Int) = some (List.replicate (2 ^ 2) 0))
  · exact (by kernel_rfl : spec_trKnown.f ((3 : Nat) : Int) = some (List.replicate (2 ^ 3) 0))
  · exact (by kernel_rfl : spec_trKnown.f ((4 : Nat) : Int) = some (List.replicate (2 ^ 4) 0))
  · exact (by kernel_rfl : spec_trKnown.f ((5 : Nat) : Int) = some (List.replicate (2 ^ 5) 0))
  · exact (by kernel_rfl : spec_trKnown.f ((6 : Nat) : Int) = some (List.replicate (2 ^ 6) 0))
theorem known_ok (n : Nat) : KnOk n (List.replicate (2 ^ n) 0) := by
  refine ⟨by simp, fun s d _ _ => .inl ?_⟩
  unfold rd
  rw [List.getD_eq_getElem?_getD, List.getElem?_replicate]
  split <;> rfl
end Go.Proofs.Ytadepmjfhcmkoaa.Pure
