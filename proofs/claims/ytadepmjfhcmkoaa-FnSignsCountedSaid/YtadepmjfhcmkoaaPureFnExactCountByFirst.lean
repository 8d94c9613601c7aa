/- FnExactCountByFirst returns true for every int: CountByFirst of the program and of the reference answer the same, in memory of its own. No conditions. -/
import Derived.Test.YtadepmjfhcmkoaaFLawsCountBy
import Derived.Test.YtadepmjfhcmkoaaQTree
namespace Go.Proofs.Ytadepmjfhcmkoaa.Pure
open Go.Proofs.Ytadepmjfhcmkoaa.B Go.Proofs.Ytadepmjfhcmkoaa.P
open Go.RowKit Go.Proofs.YtadepmjfhcmkoaaW.PrintWords Go.Proofs.YtadepmjfhcmkoaaW.PrintLast Go.Proofs.YtadepmjfhcmkoaaW.PrintMore
set_option linter.unusedVariables false
set_option linter.unusedSimpArgs false
set_option maxRecDepth 100000
def eV (n j : Nat) : List Int := (List.range n).map fun (i : Nat) => if i = j then 1 else 0
theorem eV_rd {n j i : Nat} (hi : i < n) : rd (eV n j) (i : Int) = if i = j then 1 else 0 := by
  rw [rd_get _ i (by simp [eV]; exact hi)]
  simp [eV]
theorem eV_ok (n j : Nat) : SumOk n (eV n j) := by
  refine ⟨by simp [eV], fun i hi => ?_⟩
  rw [eV_rd hi]
  split <;> omega
def chkF (n : Nat) : Bool := (List.range n).all fun (j : Nat) => sameL (colsOf n (eV n j)) [(j : Int)] && match slices_Index_int_int.f 10 (eV n j) 1 with | some x => decide (x = (j : Int)) | none => false
theorem chkF_all {n : Nat} (h1 : 1 ≤ n) (h6 : n ≤ 6) : chkF n = true ∧ kids n (List.replicate n 0) = (List.range n).reverse.map (eV n) ∧ colsOf n (List.replicate n 0) = [] := by
  have h : n = 1 ∨ n = 2 ∨ n = 3 ∨ n = 4 ∨ n = 5 ∨ n = 6 := by omega
  rcases h with rfl | rfl | rfl | rfl | rfl | rfl
  · exact ⟨by kernel_rfl, by kernel_rfl, by kernel_rfl⟩
  · exact ⟨by kernel_rfl, by kernel_rfl, by kernel_rfl⟩
  · exact ⟨by kernel_rfl, by kernel_rfl, by kernel_rfl⟩
  · exact ⟨by kernel_rfl, by kernel_rfl, by kernel_rfl⟩
  · exact ⟨by kernel_rfl, by kernel_rfl, by kernel_rfl⟩
  · exact ⟨by kernel_rfl, by kernel_rfl, by kernel_rfl⟩
theorem chkF_at {n : Nat} (h1 : 1 ≤ n) (h6 : n ≤ 6) {j : Nat} (hj : j < n) : colsOf n (eV n j) = [(j : Int)] ∧ slices_Index_int_int.f 10 (eV n j) 1 = some (j : Int) := by
  have h := List.all_eq_true.mp (chkF_all h1 h6).1 j (List.mem_range.mpr hj)
  simp only [Bool.and_eq_true] at h
  refine ⟨sameL_eq h.1, ?_⟩
  cases e : slices_Index_int_int.f 10 (eV n j) 1 with
  | none => rw [e] at h; exact absurd h.2 (by simp)
  | some x =>
    rw [e] at h
    have h2 := of_decide_eq_true h.2
    rw [h2]
/-- In how many ways the first row's 1 stands there. -/
def wF (n j : Nat) : Nat := W n (n - 1) (eV n j)
def resF (n : Nat) : List Int := (List.range n).map fun (j : Nat) => (wF n j : Int)
theorem ev_first {n : Nat} (h1 : 1 ≤ n) (h6 : n ≤ 6) : Ev (fun k => spec_CountByFirst.f k (n : Int)) (resF n, true) := by
  unfold spec_CountByFirst.f
  refine Ev.bind0 (l1In_eq _ _ _) ?_
  have hb : inB (n : Int) 1 6 = true := (inB_iff _ _ _).mpr ⟨by omega, by omega⟩
  rw [hb]
  refine Ev.pos rfl (Ev.bind0 (known_of h1 h6) ?_)
  have loop : ∀ (d i : Nat), i + d = n → ∀ kn, KnOk n kn → Ev (fun k => spec_CountByFirst.l0 k (n : Int) kn ((resF n).take i) (i : Int)) (resF n, true) := by
    intro d
    induction d with
    | zero =>
      intro i hi kn _
      refine Ev.succ ?_
      simp only [spec_CountByFirst.l0]
      refine Ev.neg (by omega) ?_
      rw [List.take_of_length_le (by simp [resF]; omega)]
      exact Ev.now _
    | succ d ih =>
      intro i hi kn hk
      have hin : i < n := by omega
      have hc := (chkF_at h1 h6 hin).1
      obtain ⟨kn1, hk1, ev1⟩ := ev_ways h1 h6 (n - 1) (eV n i) kn (eV_ok n i) (by rw [hc]; simp; omega) hk
      rw [hc] at ev1
      refine Ev.succ ?_
      simp only [spec_CountByFirst.l0]
      refine Ev.pos (by omega) (Ev.bind ev1 (Ev.pos ?_ ?_))
      · rw [List.length_take]
        simp only [resF, List.length_map, List.length_range]
        omega
      · have e2 : (resF n).take i ++ [((W n (n - 1) (eV n i) : Nat) : Int)] = (resF n).take (i + 1) := by
          rw [List.take_succ_eq_append_getElem (by simp [resF]; exact hin)]
          simp [resF, wF]
        rw [e2, wrapN i (by omega)]
        exact ih (i + 1) (by omega) kn1 hk1
  have h := loop n 0 (by omega) _ (known_ok n)
  simpa using h
theorem esL_head {n : Nat} {rows : List (List Int)} : ∀ (d : Nat) (s : List Int) (m M : List (List Int)), M ∈ esL n rows d s m → ∃ t, M = m ++ t := by
  intro d
  induction d with
  | zero =>
    intro s m M hM
    simp only [esL, List.mem_singleton] at hM
    exact ⟨[], by rw [hM, List.append_nil]⟩
  | succ d ih =>
    intro s m M hM
    simp only [esL, List.mem_flatMap] at hM
    obtain ⟨r, _, h⟩ := hM
    split at h
    · obtain ⟨t, ht⟩ := ih _ _ _ h
      exact ⟨r :: t, by rw [ht]; simp⟩
    · simp at h
theorem tally1_in {xs : List Int} {j : Nat} (h : j < xs.length) : tally1 xs j = xs.set j (wrap64 (rd xs (j : Int) + 1)) := by
  unfold tally1
  rw [show j + 1 - xs.length = 0 by omega]
  simp
theorem tally_block (f : List (List Int) → Nat) (j : Nat) : ∀ (L : List (List (List Int))) (xs : List Int), (∀ M ∈ L, f M = j) → j < xs.length → 0 ≤ rd xs (j : Int) → rd xs (j : Int) + L.length ≤ 4611686018427387904 → tallyL f xs L = xs.set j (rd xs (j : Int) + L.length) := by
  intro L
  induction L with
  | nil =>
    intro xs _ hj _ _
    simp only [tallyL, List.foldl_nil, List.length_nil]
    rw [rd_get xs j hj]
    simp
  | cons M L ih =>
    intro xs hf hj h0 hb
    simp only [List.length_cons] at hb
    have e1 : tallyL f xs (M :: L) = tallyL f (xs.set j (rd xs (j : Int) + 1)) L := by
      show tallyL f (tally1 xs (f M)) L = _
      rw [hf M List.mem_cons_self, tally1_in hj, wrapE _ (by omega) (by omega)]
    have e2 : rd (xs.set j (rd xs (j : Int) + 1)) (j : Int) = rd xs (j : Int) + 1 := by
      rw [rd_get _ j (by rw [List.length_set]; exact hj), List.getElem_set_self]
    rw [e1, ih _ (fun M' h => hf M' (List.mem_cons_of_mem _ h)) (by rw [List.length_set]; exact hj) (by rw [e2]; omega) (by rw [e2]; omega), e2, List.set_set]
    congr 1
    simp only [List.length_cons]
    omega
theorem tally_blocks (f : List (List Int) → Nat) (blk : Nat → List (List (List Int))) (hf : ∀ j, ∀ M ∈ blk j, f M = j) (hb : ∀ j, (blk j).length ≤ 68719476736) : ∀ (js : List Nat) (xs : List Int), js.Nodup → (∀ j ∈ js, j < xs.length ∧ rd xs (j : Int) = 0) →
    tallyL f xs (js.flatMap blk) = (List.range xs.length).map fun (q : Nat) => if q ∈ js then ((blk q).length : Int) else rd xs (q : Int) := by
  intro js
  induction js with
  | nil =>
    intro xs _ _
    apply List.ext_getElem
    · simp [tallyL]
    · intro i h1 h2
      simp [tallyL] at h1
      simp [tallyL]
      rw [rd_get xs i h1]
  | cons j js ih =>
    intro xs hn hx
    obtain ⟨hj1, hj2⟩ := List.nodup_cons.mp hn
    obtain ⟨hjl, hj0⟩ := hx j List.mem_cons_self
    have e1 : tallyL f xs ((j :: js).flatMap blk) = tallyL f (xs.set j ((blk j).length : Int)) (js.flatMap blk) := by
      have e2 := tally_block f j (blk j) xs (hf j) hjl (by omega) (by have := hb j; omega)
      rw [hj0, Int.zero_add] at e2
      rw [← e2]
      simp [tallyL, List.foldl_append]
    have hset : ∀ q : Nat, q ≠ j → rd (xs.set j ((blk j).length : Int)) (q : Int) = rd xs (q : Int) := by
      intro q hq
      rw [show j = ((j : Nat) : Int).toNat by simp, rd_set xs (j : Int) (q : Int) _ (by omega) (by omega) (by omega), if_neg (by omega)]
    rw [e1, ih _ hj2 (fun q hq => ⟨by rw [List.length_set]; exact (hx q (List.mem_cons_of_mem _ hq)).1, by
      rw [hset q (fun e => hj1 (e ▸ hq))]
      exact (hx q (List.mem_cons_of_mem _ hq)).2⟩), List.length_set]
    refine List.map_congr_left (fun q hq => ?_)
    by_cases c : q ∈ js
    · rw [if_pos c, if_pos (List.mem_cons_of_mem _ c)]
    · rw [if_neg c]
      by_cases e : q = j
      · subst e
        rw [if_pos List.mem_cons_self, rd_get _ q (by rw [List.length_set]; exact hjl), List.getElem_set_self]
      · rw [if_neg (by simp [e, c]), hset q e]
theorem first_blocks {n : Nat} (h1 : 1 ≤ n) (h6 : n ≤ 6) : esAll n = (List.range n).reverse.flatMap fun j => esL n (srL n [] 0) (n - 1) (eV n j) [eV n j] := by
  unfold esAll
  obtain ⟨_, hk, hc⟩ := chkF_all h1 h6
  have hn : n = (n - 1) + 1 := by omega
  have h := esL_kids (n := n) (d := n - 1) (s := List.replicate n 0) [] (by rw [hc]; simp; omega)
  rw [hk, List.flatMap_map] at h
  rw [← hn] at h
  rw [h]
  have key : ∀ j ∈ (List.range n).reverse, (fun j => esL n (srL n [] 0) (n - 1) (addL n (List.replicate n 0) (eV n j)) ([] ++ [eV n j])) j = (fun j => esL n (srL n [] 0) (n - 1) (eV n j) [eV n j]) j := by
    intro j _
    have e : addL n (List.replicate n 0) (eV n j) = eV n j := by
      apply List.ext_getElem
      · simp [addL, eV]
      · intro i h2 h3
        have hi : i < n := by simpa [addL] using h2
        rw [← rd_get _ i h2, ← rd_get _ i h3, addL_rd _ _ hi, (rd_get (List.replicate n 0) i (by simpa using hi))]
        simp
    show esL n (srL n [] 0) (n - 1) (addL n (List.replicate n 0) (eV n j)) [eV n j] = _
    rw [e]
  rw [List.flatMap_def, List.flatMap_def, List.map_congr_left key]
theorem first_of {n : Nat} (h1 : 1 ≤ n) (h6 : n ≤ 6) {j : Nat} (hj : j < n) {M : List (List Int)} (hM : M ∈ esL n (srL n [] 0) (n - 1) (eV n j) [eV n j]) : firstG M = some (j : Int) := by
  obtain ⟨t, rfl⟩ := esL_head _ _ _ _ hM
  exact (chkF_at h1 h6 hj).2
theorem impl_first {n : Nat} (h1 : 1 ≤ n) (h6 : n ≤ 6) : impl_CountByFirst.f (n : Int) = some (resF n, true) := by
  unfold impl_CountByFirst.f
  rw [if_pos (by omega), Int.toNat_natCast]
  have hok : okBy firstG n = true := by
    unfold okBy
    rw [List.all_eq_true]
    intro M hM
    rw [first_blocks h1 h6, List.mem_flatMap] at hM
    obtain ⟨j, hj, hM⟩ := hM
    have hjn : j < n := by simpa using hj
    rw [first_of h1 h6 hjn hM]
    simp
    omega
  rw [if_pos hok]
  congr 2
  obtain ⟨blk, hblk⟩ : ∃ blk : Nat → List (List (List Int)), blk = fun j => if j < n then esL n (srL n [] 0) (n - 1) (eV n j) [eV n j] else [] := ⟨_, rfl⟩
  have hlen : ∀ j, j < n → (blk j).length = wF n j := by
    intro j hj
    rw [hblk]
    simp only [if_pos hj]
    exact esL_len h1 h6 (n - 1) (eV n j) _ (eV_ok n j) (by rw [(chkF_at h1 h6 hj).1]; simp; omega)
  have e1 : esAll n = (List.range n).reverse.flatMap blk := by
    rw [first_blocks h1 h6, List.flatMap_def, List.flatMap_def]
    congr 1
    refine List.map_congr_left (fun j hj => ?_)
    have hjn : j < n := by simpa using hj
    rw [hblk]
    simp only [if_pos hjn]
  rw [e1, tally_blocks (fBy firstG) blk (fun j M hM => by
    rw [hblk] at hM
    by_cases c : j < n
    · simp only [if_pos c] at hM
      unfold fBy
      rw [first_of h1 h6 c hM]
      simp
    · simp only [if_neg c] at hM
      cases hM) (fun j => by
    by_cases c : j < n
    · rw [hlen j c]
      exact W_small h6 (by omega) _
    · rw [hblk]
      simp only [if_neg c]
      simp) _ _ ((List.reverse_perm (List.range n)).nodup_iff.mpr List.nodup_range) (fun j hj => by
    have hjn : j < n := by simpa using hj
    refine ⟨by simpa using hjn, ?_⟩
    rw [rd_get _ j (by simpa using hjn)]
    simp)]
  unfold resF
  rw [List.length_replicate]
  refine List.map_congr_left (fun q hq => ?_)
  have hqn : q < n := by simpa using hq
  rw [if_pos (by simpa using hqn), hlen q hqn]
theorem FnExactCountByFirst : laws_FnExactCountByFirst.Pure := by
  intro a0 _
  by_cases hc : 1 ≤ a0 ∧ a0 ≤ 6
  · obtain ⟨n, rfl⟩ : ∃ n : Nat, a0 = (n : Int) := ⟨a0.toNat, by omega⟩
    exact ⟨resF n, true, (ev_first (by omega) (by omega)).rounds, impl_first (by omega) (by omega), by simp [resF]; omega⟩
  · have hb : inB a0 1 6 = false := by
      rw [Bool.eq_false_iff]
      intro h
      exact hc ((inB_iff _ _ _).mp h)
    refine ⟨[], false, ⟨1, ?_⟩, ?_, by decide⟩
    · unfold spec_CountByFirst.f
      rw [l1In_eq, hb]
      rfl
    · unfold impl_CountByFirst.f
      rw [if_neg hc]
end Go.Proofs.Ytadepmjfhcmkoaa.Pure
