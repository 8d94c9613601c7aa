/- The matrix that corner sums come from: program and reference make it alike, and the reference's bounds are no more than a sign matrix tells. -/
import Derived.Test.YtanikglfkhheaaaFSpecFrom
import Derived.Test.YtanikglfkhheaaaFSpecSgIsCorners
import Derived.Test.YtanikglfkhheaaaFImplFromCorners
import Derived.Test.YtanikglfkhheaaaQHeight
import Derived.Test.YtanikglfkhheaaaQHFrom
import Derived.OpenShut
namespace Go.Proofs.Ytanikglfkhheaaa.Pure
open Go.Proofs.Ytanikglfkhheaaa.B Go.Proofs.Ytanikglfkhheaaa.P
open Go.RowKit Go.Proofs.YtanikglfkhheaaaW.PrintWords Go.Proofs.YtanikglfkhheaaaW.PrintLast Go.Proofs.YtanikglfkhheaaaW.PrintMore
set_option linter.unusedVariables false
set_option linter.unusedSimpArgs false
/-- The shifted corner sum, 0 at the border. -/
def cs (c : List (List Int)) (i j : Nat) : Int := atV c ((i : Int) - 1) ((j : Int) - 1)
theorem cs_zero_l (c : List (List Int)) (j : Nat) : cs c 0 j = 0 := by
  unfold cs atV; rw [if_pos (by omega)]
theorem cs_zero_r (c : List (List Int)) (i : Nat) : cs c i 0 = 0 := by
  unfold cs atV; rw [if_pos (by omega)]
theorem cs_succ (c : List (List Int)) (i j : Nat) : cs c (i + 1) (j + 1) = gd c i j := by
  unfold cs atV
  rw [if_neg (by omega)]
  congr 1 <;> omega
theorem out_cs (c : List (List Int)) (i j : Nat) : outV c i j = wrap64 (wrap64 (wrap64 (cs c (i + 1) (j + 1) - cs c i (j + 1)) - cs c (i + 1) j) + cs c i j) := by
  unfold outV cs
  rw [show ((i + 1 : Nat) : Int) - 1 = (i : Int) by omega, show ((j + 1 : Nat) : Int) - 1 = (j : Int) by omega]
theorem cs_row (c : List (List Int)) (i j : Nat) : wrap64 (cs c (i + 1) j - cs c i j) = wrap64 (sumTo j fun b => outV c i b) := by
  induction j with
  | zero => rw [cs_zero_r, cs_zero_r]; rfl
  | succ j ih =>
    simp only [sumTo]
    have h := out_cs c i j
    generalize (sumTo j fun b => outV c i b) = S at *
    generalize outV c i j = o at *
    generalize cs c (i + 1) (j + 1) = x1 at *
    generalize cs c i (j + 1) = x2 at *
    generalize cs c (i + 1) j = x3 at *
    generalize cs c i j = x4 at *
    unfold wrap64 at *
    omega
theorem cs_sum (c : List (List Int)) (i j : Nat) : wrap64 (cs c i j) = wrap64 (sumTo i fun a => sumTo j fun b => outV c a b) := by
  induction i with
  | zero => rw [cs_zero_l]; rfl
  | succ i ih =>
    simp only [sumTo]
    have h := cs_row c i j
    generalize (sumTo j fun b => outV c i b) = S at *
    generalize (sumTo i fun a => sumTo j fun b => outV c a b) = T at *
    unfold wrap64 at *
    omega
/-- What makes a sign matrix has its numbers within the bounds that the reference tests. -/
theorem corners_in (c : List (List Int)) (h : Sq c) (hw : ∀ x ∈ c, ∀ y ∈ x, (Lit.int .i64 y).wf = true) (g : Good (tabOf c.length c.length (outV c))) (i j : Nat) (hi : i < c.length) (hj : j < c.length) : 0 ≤ gd c i j ∧ gd c i j ≤ c.length := by
  have h1 := cs_sum c (i + 1) (j + 1)
  rw [cs_succ] at h1
  have hb : -9223372036854775808 ≤ gd c i j ∧ gd c i j ≤ 9223372036854775807 := by
    have hr : (row c i).length = c.length := h.row hi
    have hm : row c i ∈ c := by
      unfold row
      rw [List.getD_eq_getElem?_getD, List.getElem?_eq_getElem hi]
      exact List.getElem_mem _
    have hm2 : gd c i j ∈ row c i := by
      show (row c i).getD j 0 ∈ row c i
      rw [List.getD_eq_getElem?_getD, List.getElem?_eq_getElem (by omega)]
      exact List.getElem_mem _
    exact Go.bounds_i64 (hw _ hm _ hm2)
  have h2 := corn_bound g (i + 1) (j + 1) (by rw [tabOf_length]; omega) (by rw [tabOf_length]; omega)
  rw [sumTo_congr (g := fun a => sumTo (j + 1) fun b => outV c a b) (fun a ha => sumTo_congr (fun b hb => tab_gd _ _ _ _ _ (by omega) (by omega)))] at h2
  have h6 := h.2.1
  rw [wrapE _ hb.1 hb.2, wrapE _ (by omega) (by omega)] at h1
  omega
theorem ev_IsCorners (c : List (List Int)) (hl : c.length ≤ 1048576) : EvB (fun k => spec_sgIsCorners.f k c) (Sq c ∧ (∀ i, i < c.length → ((row c i).all fun x => inB x 0 (c.length : Int)) = true) ∧ Good (tabOf c.length c.length (outV c))) := by
  unfold spec_sgIsCorners.f
  refine EvB.bindAnd (ev_sgSquare c hl) (fun h => ?_)
  have h6 := h.2.1
  refine EvB.all (fun i k => spec_sgIsCorners.l0 k c c (c.length : Int) (i : Int)) c.length _ (fun i hi R ih => ?_) ?_
  · refine EvB.succ ?_
    simp only [spec_sgIsCorners.l0]
    (repeat (first | refine EvB.pos (by omega) ?_ | refine EvB.neg (by omega) ?_))
    rw [row_eq, wrapN i (by omega)]
    have := ev_l1All (row c i) 0 (c.length : Int) (by rw [h.row hi]; omega)
    exact EvB.read this (EvB.and_ (fun _ => ih))
  · refine EvB.succ ?_
    simp only [spec_sgIsCorners.l0]
    (repeat (first | refine EvB.pos (by omega) ?_ | refine EvB.neg (by omega) ?_))
    refine EvB.read (ev_sgFrom c h) ?_
    obtain ⟨b, hb, hb2⟩ := ev_sgGood (tabOf c.length c.length (outV c)) (by rw [tabOf_length]; omega)
    exact ⟨b, hb, Ev.bind hb2 (Ev.now b)⟩
/-- Program and reference answer alike on corner sums. -/
theorem corners_both (c : List (List Int)) (hl : c.length ≤ 1048576) (hw : ∀ x ∈ c, ∀ y ∈ x, (Lit.int .i64 y).wf = true) : ∃ b : Bool, Ev (fun k => spec_sgIsCorners.f k c) b ∧ Ev (fun k => impl_FromCorners.f k c) (if b = true then tabOf c.length c.length (outV c) else [], b) ∧ (b = true → Sq c) := by
  obtain ⟨b, hb, h1⟩ := ev_IsCorners c hl
  refine ⟨b, h1, ?_, fun h => (hb.mp h).1⟩
  unfold impl_FromCorners.f
  rw [isSide_eq]
  refine Ev.bind0 rfl ?_
  by_cases c1 : inB (c.length : Int) 1 6 = true
  · refine Ev.pos c1 ?_
    have c1' := (inB_iff _ _ _).mp c1
    unfold impl_isSquare.f
    refine Ev.bind0 rfl ?_
    by_cases c2 : (!c.any fun x => !decide (x.length = c.length)) = true
    · refine Ev.pos c2 (Ev.pos hl ?_)
      have hsq : Sq c := ⟨by omega, by omega, (isSquare_iff c).mp c2⟩
      obtain ⟨g, hg, h2⟩ := ev_IsSignMatrix (tabOf c.length c.length (outV c)) (by rw [tabOf_length]; exact hl)
      refine Ev.bind h2 ?_
      have e : g = b := by
        have : (g = true) ↔ (b = true) := by
          rw [hg, hb]
          refine ⟨fun hh => ⟨hsq, fun i hi => ?_, hh⟩, fun hh => hh.2.2⟩
          rw [List.all_eq_true]
          intro x hx
          obtain ⟨j, hj, rfl⟩ := List.mem_iff_getElem.mp hx
          rw [hsq.row hi] at hj
          have := corners_in c hsq hw hh i j hi hj
          refine (inB_iff _ _ _).mpr ?_
          have e2 : gd c i j = (row c i)[j] := by
            show (row c i).getD j 0 = _
            rw [List.getD_eq_getElem?_getD, List.getElem?_eq_getElem]
            rfl
          rw [← e2]
          exact this
        cases g <;> cases b <;> simp_all
      subst e
      cases g with
      | true => exact Ev.pos rfl (Ev.now _)
      | false => exact Ev.neg (by decide) (Ev.now _)
    · refine Ev.neg c2 ?_
      have e : b = false := Bool.eq_false_iff.mpr (fun h => c2 ((isSquare_iff c).mpr (hb.mp h).1.2.2))
      subst e
      exact Ev.now _
  · refine Ev.neg c1 ?_
    have e : b = false := Bool.eq_false_iff.mpr (fun h => c1 ((inB_iff _ _ _).mpr ⟨by have := (hb.mp h).1.1; omega, by have := (hb.mp h).1.2.1; omega⟩))
    subst e
    exact Ev.now _
end Go.Proofs.Ytanikglfkhheaaa.Pure
