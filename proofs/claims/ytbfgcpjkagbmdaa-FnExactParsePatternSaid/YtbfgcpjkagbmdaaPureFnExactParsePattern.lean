/- FnExactParsePattern returns true for every string: ParsePattern of the program and of the reference answer the same, in memory of its own. No conditions. -/
import Derived.Test.YtbfgcpjkagbmdaaFLawsFnExactParsePattern
import Derived.Test.YtbfgcpjkagbmdaaQPat
namespace Go.Proofs.Ytbfgcpjkagbmdaa.Pure
open Go.Proofs.Ytbfgcpjkagbmdaa.B Go.Proofs.Ytbfgcpjkagbmdaa.P
open Go.RowKit Go.Proofs.YtbfgcpjkagbmdaaW.PrintWords Go.Proofs.YtbfgcpjkagbmdaaW.PrintLast Go.Proofs.YtbfgcpjkagbmdaaW.PrintMore
set_option linter.unusedVariables false
set_option linter.unusedSimpArgs false
theorem parse_pop (st : List Int) (n : Nat) (hs : ∀ x ∈ st, 0 ≤ x ∧ x < n) (hl : st.length ≤ 1048576) (hp : (st.length : Int) > 0) : wrap64 ((st.length : Int) - 1) = (st.length : Int) - 1 ∧ 0 ≤ rd st ((st.length : Int) - 1) ∧ rd st ((st.length : Int) - 1) < n := by
  have h1 : wrap64 ((st.length : Int) - 1) = (st.length : Int) - 1 := wrapE _ (by omega) (by omega)
  have h2 : ((st.length : Int) - 1) = ((st.length - 1 : Nat) : Int) := by omega
  have h3 := hs _ (rd_mem st (st.length - 1) (by omega))
  rw [← h2] at h3
  exact ⟨h1, h3.1, h3.2⟩
theorem parse_l0 (s : ByteArray) (hl : s.size ≤ 12) : ∀ (d i : Nat) (out st : List Int), s.size = i + d → out.length = s.size → st.length ≤ i → (∀ x ∈ st, 0 ≤ x ∧ x < s.size) →
    EvP (fun r => r.1.length ≤ 1048576) (fun n => spec_ParsePattern.l0 n s out st (i : Int)) (fun n => impl_ParsePattern.l0 n s out st (s.size : Int) (i : Int)) := by
  intro d
  induction d with
  | zero =>
    intro i out st hi ho hsl hs
    refine EvP.succ ?_
    simp only [spec_ParsePattern.l0, impl_ParsePattern.l0]
    refine EvP.neg (by omega) (by omega) (EvP.ite (fun _ => EvP.now _ (by simp)) (fun _ => ?_))
    obtain ⟨r, ha, hb, _⟩ := isPattern_both out (by omega)
    exact EvP.bind ha hb (EvP.ite (fun _ => EvP.now _ (by show out.length ≤ 1048576; omega)) (fun _ => EvP.now _ (by simp)))
  | succ d ih =>
    intro i out st hi ho hsl hs
    refine EvP.succ ?_
    simp only [spec_ParsePattern.l0, impl_ParsePattern.l0]
    rw [wrapN i (by omega)]
    have hc : (0 : Int) ≤ (i : Int) := by omega
    have hc2 : (i : Int) < (s.size : Int) := by omega
    have hc3 : (i : Int) < (out.length : Int) := by omega
    refine EvP.pos hc2 hc2 ?_
    have key : EvP (fun r => r.1.length ≤ 1048576) (fun n => if bt s (i : Int) = 40 then (if st.length < 17592186044416 then spec_ParsePattern.l0 n s out (st ++ [(i : Int)]) ((i + 1 : Nat) : Int) else none) else (if bt s (i : Int) = 41 then (if (st.length : Int) > 0 then (if 0 ≤ (wrap64 ((st.length : Int) - 1)) then (if (wrap64 ((st.length : Int) - 1)) < (st.length : Int) then (if (wrap64 ((st.length : Int) - 1)) ≤ (st.length : Int) then (if (i : Int) < (out.length : Int) then (if 0 ≤ (rd st (wrap64 ((st.length : Int) - 1))) then (if (rd st (wrap64 ((st.length : Int) - 1))) < (out.length : Int) then (spec_ParsePattern.l0 n s ((out.set ((i : Int) : Int).toNat (rd st (wrap64 ((st.length : Int) - 1)))).set ((rd st (wrap64 ((st.length : Int) - 1))) : Int).toNat (i : Int)) (st.take ((wrap64 ((st.length : Int) - 1)) : Int).toNat) ((i + 1 : Nat) : Int)) else (none)) else (none)) else (none)) else (none)) else (none)) else (none)) else (some (([] : List Int), false))) else (some (([] : List Int), false))))
        (fun n => if bt s (i : Int) = 40 then (if st.length < 17592186044416 then impl_ParsePattern.l0 n s out (st ++ [(i : Int)]) (s.size : Int) ((i + 1 : Nat) : Int) else none) else (if bt s (i : Int) = 41 then (if (st.length : Int) > 0 then (if 0 ≤ (wrap64 ((st.length : Int) - 1)) then (if (wrap64 ((st.length : Int) - 1)) < (st.length : Int) then (if (wrap64 ((st.length : Int) - 1)) ≤ (st.length : Int) then (if (i : Int) < (out.length : Int) then (if 0 ≤ (rd st (wrap64 ((st.length : Int) - 1))) then (if (rd st (wrap64 ((st.length : Int) - 1))) < (out.length : Int) then (impl_ParsePattern.l0 n s ((out.set ((i : Int) : Int).toNat (rd st (wrap64 ((st.length : Int) - 1)))).set ((rd st (wrap64 ((st.length : Int) - 1))) : Int).toNat (i : Int)) (st.take ((wrap64 ((st.length : Int) - 1)) : Int).toNat) (s.size : Int) ((i + 1 : Nat) : Int)) else (none)) else (none)) else (none)) else (none)) else (none)) else (none)) else (some (([] : List Int), false))) else (some (([] : List Int), false)))) := by
      refine EvP.ite (fun _ => EvP.pos (by omega) (by omega) (ih (i + 1) out _ (by omega) ho (by simp; omega) (fun x hx => ?_))) (fun _ => EvP.ite (fun _ => EvP.ite (fun hp => ?_) (fun _ => EvP.now _ (by simp))) (fun _ => EvP.now _ (by simp)))
      · rcases List.mem_append.1 hx with hx | hx
        · exact hs x hx
        · rw [List.mem_singleton.1 hx]
          omega
      · obtain ⟨h1, h2, h3⟩ := parse_pop st s.size hs (by omega) hp
        rw [h1]
        refine EvP.pos (by omega) (by omega) (EvP.pos (by omega) (by omega) (EvP.pos (by omega) (by omega) (EvP.pos hc3 hc3 (EvP.pos h2 h2 (EvP.pos (by omega) (by omega) ?_)))))
        exact ih (i + 1) _ _ (by omega) (by simpa using ho) (by rw [List.length_take]; omega) (fun x hx => hs x (List.mem_of_mem_take hx))
    obtain ⟨b, hb, k1, k2⟩ := key
    exact ⟨b, hb, Ev.pos hc k1, Ev.pos hc (Ev.pos hc2 k2)⟩
theorem parse_long (s : ByteArray) (hl : s.size ≤ 1048576) (h12 : 12 < s.size) : ∀ (d i : Nat) (out st : List Int), s.size = i + d → out.length = s.size → st.length ≤ i → (∀ x ∈ st, 0 ≤ x ∧ x < s.size) →
    Ev (fun n => impl_ParsePattern.l0 n s out st (s.size : Int) (i : Int)) (([] : List Int), false) := by
  intro d
  induction d with
  | zero =>
    intro i out st hi ho hsl hs
    refine Ev.succ ?_
    simp only [impl_ParsePattern.l0]
    refine Ev.neg (by omega) ?_
    by_cases hp : (st.length : Int) > 0
    · exact Ev.pos hp (Ev.now _)
    · refine Ev.neg hp ?_
      obtain ⟨r, _, hb, hq⟩ := isPattern_both out (by omega)
      refine Ev.bind hb ?_
      cases r with
      | false => exact Ev.neg (by decide) (Ev.now _)
      | true => have := hq rfl; omega
  | succ d ih =>
    intro i out st hi ho hsl hs
    refine Ev.succ ?_
    simp only [impl_ParsePattern.l0]
    rw [wrapN i (by omega)]
    refine Ev.pos (by omega) (Ev.pos (by omega) (Ev.pos (by omega) ?_))
    by_cases c40 : bt s (i : Int) = 40
    · refine Ev.pos c40 (Ev.pos (by omega) (ih (i + 1) out _ (by omega) ho (by simp; omega) (fun x hx => ?_)))
      rcases List.mem_append.1 hx with hx | hx
      · exact hs x hx
      · rw [List.mem_singleton.1 hx]
        omega
    · refine Ev.neg c40 ?_
      by_cases c41 : bt s (i : Int) = 41
      · refine Ev.pos c41 ?_
        by_cases hp : (st.length : Int) > 0
        · obtain ⟨h1, h2, h3⟩ := parse_pop st s.size hs (by omega) hp
          rw [h1]
          refine Ev.pos hp (Ev.pos (by omega) (Ev.pos (by omega) (Ev.pos (by omega) (Ev.pos (by omega) (Ev.pos h2 (Ev.pos (by omega) ?_))))))
          exact ih (i + 1) _ _ (by omega) (by simpa using ho) (by rw [List.length_take]; omega) (fun x hx => hs x (List.mem_of_mem_take hx))
        · exact Ev.neg hp (Ev.now _)
      · exact Ev.neg c41 (Ev.now _)
theorem FnExactParsePattern : laws_FnExactParsePattern.Pure := by
  intro s h1
  by_cases h12 : (s.size : Int) > 12
  · refine ⟨[], false, ?_, ?_, by simp⟩
    · refine (Ev.rounds (g := fun k => spec_ParsePattern.f k s) ?_)
      unfold spec_ParsePattern.f
      exact Ev.pos h12 (Ev.now _)
    · refine (Ev.rounds (g := fun k => impl_ParsePattern.f k s) ?_)
      unfold impl_ParsePattern.f
      refine Ev.pos (by omega) (Ev.pos (by omega) ?_)
      exact parse_long s h1 (by omega) s.size 0 _ _ (by omega) (by simp) (by simp) (by simp)
  · have h : EvP (fun r => r.1.length ≤ 1048576) (fun k => spec_ParsePattern.f k s) (fun k => impl_ParsePattern.f k s) := by
      unfold spec_ParsePattern.f impl_ParsePattern.f
      have hk := parse_l0 s (by omega) s.size 0 (List.replicate ((s.size : Int) : Int).toNat 0) [] (by omega) (by simp) (by simp) (by simp)
      obtain ⟨b, hb, k1, k2⟩ := hk
      exact ⟨b, hb, Ev.neg h12 (Ev.pos (by omega) (Ev.pos (by omega) k1)), Ev.pos (by omega) (Ev.pos (by omega) k2)⟩
    obtain ⟨b, hb, e1, e2⟩ := h
    exact ⟨b.1, b.2, e1.rounds, e2.rounds, hb⟩
end Go.Proofs.Ytbfgcpjkagbmdaa.Pure
