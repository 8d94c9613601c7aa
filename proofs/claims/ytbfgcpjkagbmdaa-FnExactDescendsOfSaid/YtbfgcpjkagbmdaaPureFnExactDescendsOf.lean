/- FnExactDescendsOf returns true for every list of lists of ints: DescendsOf of the program and of the reference answer the same, and the argument stays as it is. No conditions. -/
import Derived.Test.YtbfgcpjkagbmdaaFLawsFnExactDescendsOf
import Derived.Test.YtbfgcpjkagbmdaaQTri
namespace Go.Proofs.Ytbfgcpjkagbmdaa.Pure
open Go.Proofs.Ytbfgcpjkagbmdaa.B Go.Proofs.Ytbfgcpjkagbmdaa.P
open Go.RowKit Go.Proofs.YtbfgcpjkagbmdaaW.PrintWords Go.Proofs.YtbfgcpjkagbmdaaW.PrintLast Go.Proofs.YtbfgcpjkagbmdaaW.PrintMore
set_option linter.unusedVariables false
set_option linter.unusedSimpArgs false
theorem bit_eq (b : Bool) : impl_bit.f b = some (if b = true then 1 else 0) := by
  unfold impl_bit.f
  cases b <;> rfl
/-- Row by row: the reference stands at the row i + 1 where the program stands at the row i. -/
theorem descends_l1 (t : List (List Int)) (ht : Tri t) (i : Nat) (hi : i + 1 < t.length) (hn : ∀ c : Int, 0 ≤ c → c ≤ 6 * (i + 1 : Nat) → EvP (fun _ => True) (fun n => spec_DescendsOf.l0 n t c ((i + 1 + 1 : Nat) : Int)) (fun n => impl_DescendsOf.l0 n t c (t.take (t.length - 1)) ((t.length - 1 : Nat) : Int) ((i + 1 : Nat) : Int))) :
    ∀ (d k : Nat) (c : Int), (t[i]).length = k + d → 0 ≤ c → c ≤ 6 * (i : Nat) + (k : Nat) → EvP (fun _ => True) (fun n => spec_DescendsOf.l1 n t c ((i + 1 : Nat) : Int) t[i] ((t[i]).length : Int) (k : Int)) (fun n => impl_DescendsOf.l1 n t c (i : Int) (t.take (t.length - 1)) ((t.length - 1 : Nat) : Int) (i : Int) t[i] ((t[i]).length : Int) (k : Int)) := by
  obtain ⟨_, h6, hr⟩ := ht
  obtain ⟨_, hl0, hl6, _⟩ := hr i (Nat.zero_le _) (by omega)
  obtain ⟨_, hl1, hl61, _⟩ := hr (i + 1) (Nat.zero_le _) hi
  intro d
  induction d with
  | zero =>
    intro k c hk h0 h1
    refine EvP.succ ?_
    simp only [spec_DescendsOf.l1, impl_DescendsOf.l1]
    rw [wrapN (i + 1) (by omega), wrapN i (by omega)]
    exact EvP.neg (by omega) (by omega) (hn c h0 (by omega))
  | succ d ih =>
    intro k c hk h0 h1
    refine EvP.succ ?_
    simp only [spec_DescendsOf.l1, impl_DescendsOf.l1, bit_eq, Option.bind_some]
    rw [wrapN k (by omega), wrapN i (by omega), rdL_get t (i + 1) hi]
    by_cases he : rd t[i] (k : Int) = rd t[i + 1] (k : Int)
    · have hb : (rd t[i] (k : Int) == rd t[i + 1] (k : Int)) = true := by simp [he]
      rw [hb, wrapI c (by omega) (by omega)]
      obtain ⟨b, hb, k1, k2⟩ := ih (k + 1) (c + 1) (by omega) (by omega) (by omega)
      exact ⟨b, hb, Ev.pos (by omega) (Ev.pos (by omega) (Ev.pos (by omega) (Ev.pos (by omega) (Ev.pos (by omega) (Ev.pos (by omega) (Ev.pos he k1)))))), Ev.pos (by omega) (Ev.pos (by omega) (Ev.pos (by omega) (Ev.pos (by omega) (Ev.pos (by omega) (Ev.pos (by omega) (by rw [if_pos rfl, wrapI c (by omega) (by omega)]; exact k2))))))⟩
    · have hb : (rd t[i] (k : Int) == rd t[i + 1] (k : Int)) = false := by simp [he]
      rw [hb]
      obtain ⟨b, hb, k1, k2⟩ := ih (k + 1) c (by omega) (by omega) (by omega)
      exact ⟨b, hb, Ev.pos (by omega) (Ev.pos (by omega) (Ev.pos (by omega) (Ev.pos (by omega) (Ev.pos (by omega) (Ev.pos (by omega) (Ev.neg he k1)))))), Ev.pos (by omega) (Ev.pos (by omega) (Ev.pos (by omega) (Ev.pos (by omega) (Ev.pos (by omega) (Ev.pos (by omega) (by rw [if_neg (by decide), Int.add_zero, wrapE c (by omega) (by omega)]; exact k2))))))⟩
theorem descends_l0 (t : List (List Int)) (ht : Tri t) : ∀ (d i : Nat) (c : Int), t.length = i + 1 + d → 0 ≤ c → c ≤ 6 * (i : Nat) → EvP (fun _ => True) (fun n => spec_DescendsOf.l0 n t c ((i + 1 : Nat) : Int)) (fun n => impl_DescendsOf.l0 n t c (t.take (t.length - 1)) ((t.length - 1 : Nat) : Int) (i : Int)) := by
  intro d
  induction d with
  | zero =>
    intro i c hi h0 h1
    refine EvP.succ ?_
    simp only [spec_DescendsOf.l0, impl_DescendsOf.l0]
    exact EvP.neg (by omega) (by omega) (EvP.now _ trivial)
  | succ d ih =>
    intro i c hi h0 h1
    have h6 := ht.2.1
    refine EvP.succ ?_
    simp only [spec_DescendsOf.l0, impl_DescendsOf.l0]
    have hl : (t.take (t.length - 1)).length = t.length - 1 := by rw [List.length_take]; omega
    have e1 : rd_L1 (t.take (t.length - 1)) (i : Int) = t[i] := by
      rw [rdL_get _ i (by omega)]
      simp
    have e2 : wrap64 (((i + 1 : Nat) : Int) - 1) = (i : Int) := by
      rw [wrapE _ (by omega) (by omega)]
      omega
    rw [e1, e2, rdL_get t i (by omega)]
    obtain ⟨b, hb, k1, k2⟩ := descends_l1 t ht i (by omega) (fun c h2 h3 => ih (i + 1) c (by omega) h2 h3) (t[i]).length 0 c (by omega) h0 (by omega)
    exact ⟨b, hb, Ev.pos (by omega) (Ev.pos (by omega) (Ev.pos (by omega) k1)), Ev.pos (by omega) (Ev.pos (by omega) (Ev.pos (by omega) k2))⟩
theorem FnExactDescendsOf : laws_FnExactDescendsOf.Pure := by
  intro t h1 h2 _
  have hr : ∀ x ∈ t, x.length ≤ 1048576 := fun x hx => Nat.le_trans (row_le_total t x hx) h2
  obtain ⟨b, hb, ea, eb⟩ := EvB.same (trGood_tells t h1 hr) (isTriangle_tells t h1 hr)
  have h : EvP (fun _ => True) (fun k => spec_DescendsOf.f k t) (fun k => impl_DescendsOf.f k t) := by
    unfold spec_DescendsOf.f impl_DescendsOf.f
    refine EvP.bind ea eb ?_
    cases b with
    | false => exact EvP.neg (by decide) (by decide) (EvP.now _ trivial)
    | true =>
      have ht := hb.mp rfl
      have h0 := ht.1
      have hw : wrap64 ((t.length : Int) - 1) = ((t.length - 1 : Nat) : Int) := by
        rw [wrapE _ (by omega) (by omega)]
        omega
      rw [hw, Int.toNat_natCast]
      obtain ⟨b, hb, k1, k2⟩ := descends_l0 t ht (t.length - 1) 0 0 (by omega) (by omega) (by omega)
      refine ⟨b, hb, Ev.pos rfl k1, Ev.pos rfl (Ev.pos (by omega) (Ev.pos (by omega) (Ev.bind0 rfl ?_)))⟩
      have hl : ((t.take (t.length - 1)).length : Int) = ((t.length - 1 : Nat) : Int) := by rw [List.length_take]; omega
      rw [hl]
      exact k2
  obtain ⟨b, hb, e1, e2⟩ := h
  exact ⟨b.1, b.2, e1.rounds, e2.rounds⟩
end Go.Proofs.Ytbfgcpjkagbmdaa.Pure
