/- FnExactPatternText returns true for every list of ints: PatternText of the program and of the reference answer the same, and the argument stays as it is. No conditions. -/
import Derived.Test.YtbfgcpjkagbmdaaFLawsFnExactPatternText
import Derived.Test.YtbfgcpjkagbmdaaQPat
namespace Go.Proofs.Ytbfgcpjkagbmdaa.Pure
open Go.Proofs.Ytbfgcpjkagbmdaa.B Go.Proofs.Ytbfgcpjkagbmdaa.P
open Go.RowKit Go.Proofs.YtbfgcpjkagbmdaaW.PrintWords Go.Proofs.YtbfgcpjkagbmdaaW.PrintLast Go.Proofs.YtbfgcpjkagbmdaaW.PrintMore
set_option linter.unusedVariables false
set_option linter.unusedSimpArgs false
theorem bit_eq (b : Bool) : impl_bit.f b = some (if b = true then 1 else 0) := by
  unfold impl_bit.f
  cases b <;> rfl
theorem strOfNums_snoc (xs : List Int) (c : Int) (d : UInt8) (h : UInt8.ofNat c.toNat = d) : strOfNums (xs ++ [c]) = strOfNums xs ++ (⟨#[d]⟩ : ByteArray) := by
  apply ByteArray.ext
  rw [ByteArray.data_append]
  simp [strOfNums, h]
theorem text_l0 (l : List Int) (hl : l.length ≤ 12) (hne : ∀ j : Int, 0 ≤ j → j < l.length → ¬ rd l j = j) : ∀ (d i : Nat) (xs : List Int), l.length = i + d → xs.length = i →
    EvP (fun _ => True) (fun n => spec_loText.l0 n (strOfNums xs) l (l.length : Int) (i : Int)) (fun n => impl_patternText.l0 n xs l (l.length : Int) (i : Int)) := by
  intro d
  induction d with
  | zero =>
    intro i xs hi hx
    refine EvP.succ ?_
    simp only [spec_loText.l0, impl_patternText.l0]
    exact EvP.neg (by omega) (by omega) (EvP.now _ trivial)
  | succ d ih =>
    intro i xs hi hx
    refine EvP.succ ?_
    simp only [spec_loText.l0, impl_patternText.l0, bit_eq, Option.bind_some]
    rw [wrapN i (by omega)]
    refine EvP.pos (by omega) (by omega) (EvP.pos (by omega) (by omega) (EvP.pos (by omega) (by omega) ?_))
    have h := hne i (by omega) (by omega)
    by_cases hgt : rd l (i : Int) > (i : Int)
    · have hlt : ¬ rd l (i : Int) < (i : Int) := by omega
      have e : (if decide (rd l (i : Int) < (i : Int)) = true then (1 : Int) else 0) = 0 := by simp [hlt]
      rw [e]
      have hstep := ih (i + 1) (xs ++ [bt (⟨#[40, 41]⟩ : ByteArray) 0]) (by omega) (by simp [hx])
      rw [strOfNums_snoc xs _ 40 (by decide)] at hstep
      obtain ⟨b, hb, h1, h2⟩ := hstep
      exact ⟨b, hb, Ev.pos hgt (Ev.pos (by rw [strOfNums_size]; omega) h1), Ev.pos (by decide) (Ev.pos (by decide) (Ev.pos (by omega) h2))⟩
    · have hlt : rd l (i : Int) < (i : Int) := by omega
      have e : (if decide (rd l (i : Int) < (i : Int)) = true then (1 : Int) else 0) = 1 := by simp [hlt]
      rw [e]
      have hstep := ih (i + 1) (xs ++ [bt (⟨#[40, 41]⟩ : ByteArray) 1]) (by omega) (by simp [hx])
      rw [strOfNums_snoc xs _ 41 (by decide)] at hstep
      obtain ⟨b, hb, h1, h2⟩ := hstep
      exact ⟨b, hb, Ev.neg hgt (Ev.pos (by rw [strOfNums_size]; omega) h1), Ev.pos (by decide) (Ev.pos (by decide) (Ev.pos (by omega) h2))⟩
theorem FnExactPatternText : laws_FnExactPatternText.Pure := by
  intro l h1 _
  obtain ⟨r, ha, hb, hp⟩ := isPattern_both l h1
  have h : EvP (fun _ => True) (fun k => spec_PatternText.f k l) (fun k => impl_PatternText.f k l) := by
    unfold spec_PatternText.f impl_PatternText.f
    refine EvP.bind ha hb ?_
    cases r with
    | false => exact EvP.neg (by decide) (by decide) (EvP.now _ trivial)
    | true =>
      obtain ⟨_, _, h12, hall, hne⟩ := hp rfl
      refine EvP.pos rfl rfl (EvP.then_ (q := fun _ => True) ?_ (fun b _ => EvP.now _ trivial))
      unfold spec_loText.f impl_patternText.f
      exact text_l0 l h12 hne l.length 0 [] (by omega) rfl
  obtain ⟨b, hb, e1, e2⟩ := h
  exact ⟨b.1, b.2, e1.rounds, e2.rounds⟩
end Go.Proofs.Ytbfgcpjkagbmdaa.Pure
