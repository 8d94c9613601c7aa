/- Two sign matrices with as many rows: program and reference test them alike. -/
import Derived.Test.YtfoidmoiedokjaaFSpecGood
import Derived.Test.YtfoidmoiedokjaaFImplGood
import Derived.Test.YtfoidmoiedokjaaQSign
namespace Go.Proofs.Ytfoidmoiedokjaa.Pure
open Go.Proofs.Ytfoidmoiedokjaa.B Go.Proofs.Ytfoidmoiedokjaa.P
open Go.RowKit Go.Proofs.YtfoidmoiedokjaaW.PrintWords Go.Proofs.YtfoidmoiedokjaaW.PrintLast Go.Proofs.YtfoidmoiedokjaaW.PrintMore
set_option linter.unusedVariables false
set_option linter.unusedSimpArgs false
def Pair (m k : List (List Int)) : Prop := Good m ∧ Good k ∧ m.length = k.length
theorem pair_both (m k : List (List Int)) (hm : m.length ≤ 1048576) (hk : k.length ≤ 1048576) : ∃ b : Bool, (b = true ↔ Pair m k) ∧ Ev (fun n => spec_hePair.f n m k) b ∧ Ev (fun n => impl_arePair.f n m k) b := by
  have h : ∀ {f g : Nat → Option Bool}, EvB f (Good m) → EvB g (Good k) → EvB (fun n => (f n).bind fun t => if t = true then ((g n).bind fun t => if t = true then some ((m.length : Int) == (k.length : Int)) else some false) else some false) (Pair m k) := by
    intro f g hf hg
    exact EvB.bindAnd hf (fun _ => EvB.bindAnd hg (fun _ => EvB.now _ (by simp; omega)))
  exact EvB.same (h (ev_sgGood m hm) (ev_sgGood k hk)) (h (ev_IsSignMatrix m hm) (ev_IsSignMatrix k hk))
theorem pair_start {α : Type} {p : α → Prop} (m k : List (List Int)) (hm : m.length ≤ 1048576) (hk : k.length ≤ 1048576) (z : α) (hz : p z) {f g : Nat → Option α} (h : Pair m k → EvP p f g) :
    EvP p (fun n => (spec_hePair.f n m k).bind fun t => if t = true then f n else some z) (fun n => (impl_arePair.f n m k).bind fun t => if t = true then g n else some z) := by
  obtain ⟨b, hb, h1, h2⟩ := pair_both m k hm hk
  refine EvP.bind h1 h2 ?_
  cases b with
  | true => exact EvP.pos rfl rfl (h (hb.mp rfl))
  | false => exact EvP.neg (by decide) (by decide) (EvP.now z hz)
end Go.Proofs.Ytfoidmoiedokjaa.Pure
