/- In how many ways columns go on: the reference's count, with what is known kept aside. -/
import Derived.Test.YtadepmjfhcmkoaaFSpecTrWays
import Derived.Test.YtadepmjfhcmkoaaFSpecTrKnown
import Derived.Test.YtadepmjfhcmkoaaQTree
namespace Go.Proofs.Ytadepmjfhcmkoaa.Pure
open Go.Proofs.Ytadepmjfhcmkoaa.B Go.Proofs.Ytadepmjfhcmkoaa.P
open Go.RowKit Go.Proofs.YtadepmjfhcmkoaaW.PrintWords Go.Proofs.YtadepmjfhcmkoaaW.PrintLast Go.Proofs.YtadepmjfhcmkoaaW.PrintMore
set_option linter.unusedVariables false
set_option linter.unusedSimpArgs false
theorem rd_set (l : List Int) (m m' v : Int) (h0 : 0 ≤ m) (h0' : 0 ≤ m') (hl : m < l.length) : rd (l.set m.toNat v) m' = if m' = m then v else rd l m' := by
  unfold rd
  rw [List.getD_eq_getElem?_getD, List.getElem?_set]
  by_cases e : m' = m
  · rw [if_pos e, e, if_pos rfl, if_pos (by omega)]
    rfl
  · rw [if_neg e, if_neg (by omega), ← List.getD_eq_getElem?_getD]
structure KnOk (n : Nat) (known : List Int) : Prop where
  len : known.length = 2 ^ n
  at_ : ∀ (s : List Int) (d : Nat), SumOk n s → (colsOf n s).length + (d + 1) = n → rd known (maskOf n s) = 0 ∨ rd known (maskOf n s) = (W n (d + 1) s : Int)
theorem sum_perm {a b : List Nat} (h : a.Perm b) : a.sum = b.sum := by
  induction h with
  | nil => rfl
  | cons x _ ih => rw [List.sum_cons, List.sum_cons, ih]
  | swap x y l => simp only [List.sum_cons]; omega
  | trans _ _ ih1 ih2 => exact ih1.trans ih2
theorem sum_take_le (l : List Nat) (i : Nat) : (l.take i).sum ≤ l.sum := by
  have h := List.take_append_drop i l
  have h2 : l.sum = (l.take i).sum + (l.drop i).sum := by rw [← List.sum_append, h]
  omega
theorem ev_ways {n : Nat} (h1 : 1 ≤ n) (h6 : n ≤ 6) : ∀ (d : Nat) (s : List Int) (known : List Int), SumOk n s → (colsOf n s).length + d = n → KnOk n known →
    ∃ known', KnOk n known' ∧ Ev (fun k => spec_trWays.f k (colsOf n s) (n : Int) known) ((W n d s : Int), known') := by
  intro d
  induction d with
  | zero =>
    intro s known hs hl hk
    refine ⟨known, hk, Ev.succ ?_⟩
    simp only [spec_trWays.f]
    exact Ev.pos (by omega) (Ev.now _)
  | succ d ih =>
    intro s known hs hl hk
    obtain ⟨hm, hm0, hm1⟩ := mask_of h1 h6 hs
    have hlen : (known.length : Int) = (2 ^ n : Nat) := by rw [hk.len]
    have evm : Ev (fun k => spec_trMask.f k (colsOf n s)) (maskOf n s) := Ev.of (fun k => spec_trMask.mono (colsOf n s) k) hm
    by_cases c : 0 < rd known (maskOf n s)
    · refine ⟨known, hk, Ev.succ ?_⟩
      have hv : rd known (maskOf n s) = (W n (d + 1) s : Int) := (hk.at_ s d hs hl).elim (fun h => by omega) id
      simp only [spec_trWays.f]
      refine Ev.neg (by omega) (Ev.bind evm (Ev.pos hm0 (Ev.pos (by omega) (Ev.pos c ?_))))
      rw [hv]
      exact Ev.now _
    · obtain ⟨B, hB, hp⟩ := behind_of h1 h6 hs (by omega)
      have evb : Ev (fun k => spec_trBehind.f k (colsOf n s) [] (n : Int)) B := Ev.of (fun k => spec_trBehind.mono (colsOf n s) [] (n : Int) k) hB
      obtain ⟨g, hg⟩ : ∃ g : List Int → Nat, g = fun b => W n d (sOf n b) := ⟨_, rfl⟩
      have htot : (B.map g).sum = W n (d + 1) s := by
        rw [sum_perm (hp.map g), List.map_map]
        simp only [W]
        congr 1
        refine List.map_congr_left (fun r hr => ?_)
        simp only [Function.comp, hg]
        rw [s_of h1 h6 (kid_sum hr)]
      have hW := W_small h6 (show d + 1 ≤ 6 by omega) s
      have loop : ∀ (j i : Nat), i + j = B.length → ∀ kn, KnOk n kn → ∃ kn', KnOk n kn' ∧ Ev (fun k => spec_trWays.l0 k (colsOf n s) (n : Int) kn (((B.map g).take i).sum : Int) B (B.length : Int) (i : Int)) ((W n (d + 1) s : Int), kn') := by
        intro j
        induction j with
        | zero =>
          intro i hi kn hkn
          refine ⟨kn.set (maskOf n s).toNat (W n (d + 1) s : Int), ⟨by rw [List.length_set, hkn.len], fun s' d' hs' hl' => ?_⟩, Ev.succ ?_⟩
          · have hm' := (mask_of h1 h6 hs').2
            rw [rd_set kn _ _ _ hm0 hm'.1 (by rw [hkn.len]; exact hm1)]
            by_cases e : maskOf n s' = maskOf n s
            · rw [if_pos e]
              have e2 := mask_inj h1 h6 hs' hs e
              subst e2
              have : d' = d := by omega
              rw [this]
              exact .inr rfl
            · rw [if_neg e]
              exact hkn.at_ s' d' hs' hl'
          · simp only [spec_trWays.l0]
            have hlen2 : (kn.length : Int) = (2 ^ n : Nat) := by rw [hkn.len]
            refine Ev.neg (by omega) (Ev.bind evm (Ev.pos hm0 (Ev.pos (by omega) ?_)))
            have e3 : (((B.map g).take i).sum : Int) = (W n (d + 1) s : Int) := by
              rw [List.take_of_length_le (by rw [List.length_map]; omega), htot]
            rw [e3]
            exact Ev.now _
        | succ j ihj =>
          intro i hi kn hkn
          have hiB : i < B.length := by omega
          have hmem : B[i] ∈ (kids n s).map fun r => colsOf n (addL n s r) := hp.mem_iff.mp (List.getElem_mem hiB)
          obtain ⟨r, hr, hre⟩ := List.mem_map.mp hmem
          obtain ⟨kn1, hk1, ev1⟩ := ih (addL n s r) kn (kid_sum hr) (by have := (kid_of h1 h6 hs (by omega) hr).1; omega) hkn
          obtain ⟨kn2, hk2, ev2⟩ := ihj (i + 1) (by omega) kn1 hk1
          refine ⟨kn2, hk2, Ev.succ ?_⟩
          simp only [spec_trWays.l0]
          refine Ev.pos (by omega) (Ev.pos (by omega) (Ev.pos (by omega) ?_))
          have er : rd_L1 B (i : Int) = colsOf n (addL n s r) := by
            unfold rd_L1
            rw [Int.toNat_natCast, List.getD_eq_getElem?_getD, List.getElem?_eq_getElem hiB]
            exact hre.symm
          rw [er]
          refine Ev.bind ev1 ?_
          have eg : g B[i] = W n d (addL n s r) := by
            rw [hg, ← hre]
            show W n d (sOf n (colsOf n (addL n s r))) = _
            rw [s_of h1 h6 (kid_sum hr)]
          have e4 : ((B.map g).take (i + 1)).sum = ((B.map g).take i).sum + W n d (addL n s r) := by
            rw [List.take_succ_eq_append_getElem (by rw [List.length_map]; exact hiB), List.sum_append]
            simp [eg]
          have h7 := sum_take_le (B.map g) (i + 1)
          rw [wrapN i (by
            have h8 := hp.length_eq
            have h9 := kids_len h6 s
            rw [List.length_map] at h8
            omega), wrapE _ (by omega) (by omega), show (((B.map g).take i).sum : Int) + (W n d (addL n s r) : Int) = (((B.map g).take (i + 1)).sum : Int) by rw [e4]; omega]
          exact ev2
      obtain ⟨kn', hkn', evl⟩ := loop B.length 0 (by omega) known hk
      refine ⟨kn', hkn', Ev.succ ?_⟩
      simp only [spec_trWays.f]
      refine Ev.neg (by omega) (Ev.bind evm (Ev.pos hm0 (Ev.pos (by omega) (Ev.neg c (Ev.bind evb ?_)))))
      simpa using evl
theorem known_of {n : Nat} (h1 : 1 ≤ n) (h6 : n ≤ 6) : spec_trKnown.f (n : Int) = some (List.replicate (2 ^ n) 0) := by
  have h : n = 1 ∨ n = 2 ∨ n = 3 ∨ n = 4 ∨ n = 5 ∨ n = 6 := by omega
  rcases h with rfl | rfl | rfl | rfl | rfl | rfl
  · exact (by kernel_rfl : spec_trKnown.f ((1 : Nat) : Int) = some (List.replicate (2 ^ 1) 0))
  · exact (by kernel_rfl : spec_trKnown.f ((2 : Nat) : Int) = some (List.replicate (2 ^ 2) 0))
  · exact (by kernel_rfl : spec_trKnown.f ((3 : Nat) : Int) = some (List.replicate (2 ^ 3) 0))
  · exact (by kernel_rfl : spec_trKnown.f ((4 : Nat) : Int) = some (List.replicate (2 ^ 4) 0))
  · exact (by kernel_rfl : spec_trKnown.f ((5 : Nat) : Int) = some (List.replicate (2 ^ 5) 0))
  · exact (by kernel_rfl : spec_trKnown.f ((6 : Nat) : Int) = some (List.replicate (2 ^ 6) 0))
theorem known_ok (n : Nat) : KnOk n (List.replicate (2 ^ n) 0) := by
  refine ⟨by simp, fun s d _ _ => .inl ?_⟩
  unfold rd
  rw [List.getD_eq_getElem?_getD, List.getElem?_replicate]
  split <;> rfl
end Go.Proofs.Ytadepmjfhcmkoaa.Pure
