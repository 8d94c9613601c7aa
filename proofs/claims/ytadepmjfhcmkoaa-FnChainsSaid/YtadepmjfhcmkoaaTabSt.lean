/- Lists of tables, each of memory of its own, that a visitor of all tables makes. -/
import Derived.Test.YtadepmjfhcmkoaaEachSt
import Derived.Maps.AppendAt
namespace Go.Proofs.YtadepmjfhcmkoaaW.PrintWords
open Go.RowKit Go.Proofs.YtadepmjfhcmkoaaW.PrintWords Go.Proofs.YtadepmjfhcmkoaaW.PrintLast Go.Proofs.YtadepmjfhcmkoaaW.PrintMore
set_option linter.unusedVariables false
set_option linter.unusedSimpArgs false
namespace Kd
def sslice {α : Type} (e : Nat) (d : Kd α) : Kd (List α) where
 sz := 1
 E := e :: d.E
 K := (slice e d).K
 M := fun w base ok xs cs => ∃ v, cs = [v] ∧ S d e w base ok v xs
 K_len := fun h => (slice e d).K_len h
 K_one := fun h => (slice e d).K_one h
 K_below := fun hb h => (slice e d).K_below hb h
 K_of_M := by
  rintro w base ok x cs ⟨v, rfl, h⟩; exact (slice e d).K_of_M (M_row (S_R h))
 M_mono := by
  rintro w base ok ok' x cs hok ⟨v, rfl, h⟩; exact ⟨v, rfl, S_mono h hok⟩
 M_bound := by
  rintro w base ok x cs ⟨v, rfl, h⟩; exact ⟨v, rfl, S_bound h⟩
 M_move := by
  rintro w w1 base ok x cs hm ⟨v, rfl, h⟩; exact ⟨v, rfl, S_move h hm⟩
 M_lower := by
  rintro w base base' ok x cs hb ⟨v, rfl, h⟩; exact ⟨v, rfl, S_lower h hb⟩
end Kd
end Go.Proofs.YtadepmjfhcmkoaaW.PrintWords
namespace Go.Proofs.Ytadepmjfhcmkoaa.P
open Go.Proofs.Ytadepmjfhcmkoaa.B
open Go.RowKit Go.Proofs.YtadepmjfhcmkoaaW.PrintWords Go.Proofs.YtadepmjfhcmkoaaW.PrintLast Go.Proofs.YtadepmjfhcmkoaaW.PrintMore
set_option linter.unusedVariables false
set_option linter.unusedSimpArgs false
structure ASt (base bo : Nat) (xs : List (List (List Int))) (W : World) (own : Nat → Prop) : Prop where
 v : ∃ v, Boxed W bo 33 v ∧ Kd.S (Kd.sslice 39 (Kd.slice 3 (Kd.int .i64))) 22 W base (fun k => own k ∧ k ≠ bo) v xs
 lo : base ≤ bo
 hb : own bo
 lt : ∀ k, own k → k < W.heap.size
theorem ASt.stay {base bo : Nat} {xs : List (List (List Int))} {W W' : World} {own : Nat → Prop} (h : ASt base bo xs W own) (hk : ∀ k, own k → k < W.heap.size → W'.heap[k]? = W.heap[k]?) (hs : W.heap.size ≤ W'.heap.size) : ASt base bo xs W' own := by
 obtain ⟨⟨v, h1, h2⟩, h3, h4, h5⟩ := h; exact ⟨⟨v, (hk bo h4 h1.lt).trans h1, Kd.S_step h2 (fun k hk2 hlt => hk k hk2.1 hlt)⟩, h3, h4, fun k hk => Nat.lt_of_lt_of_le (h5 k hk) hs⟩
theorem ASt.ok (base bo : Nat) (f : Nat → List (List (List Int))) : StOk (fun i W own => ASt base bo (f i) W own) :=
 ⟨fun _ _ _ _ hs hk hl => hs.stay hk hl, fun _ _ _ hs => hs.lt⟩
end Go.Proofs.Ytadepmjfhcmkoaa.P
