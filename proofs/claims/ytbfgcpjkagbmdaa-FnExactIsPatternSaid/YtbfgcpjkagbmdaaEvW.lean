/- Words on 'from some number of rounds on': one round, a test, a call; two functions that come to one answer. -/
import Derived.Test.YtbfgcpjkagbmdaaB
namespace Go.Proofs.Ytbfgcpjkagbmdaa.P
open Go.Proofs.Ytbfgcpjkagbmdaa.B
open Go.RowKit Go.Proofs.YtbfgcpjkagbmdaaW.PrintWords Go.Proofs.YtbfgcpjkagbmdaaW.PrintLast Go.Proofs.YtbfgcpjkagbmdaaW.PrintMore
set_option linter.unusedVariables false
set_option linter.unusedSimpArgs false
theorem Ev.pos {α : Type} {c : Prop} [Decidable c] {f g : Nat → Option α} {r : α} (h : c) (k : Ev f r) : Ev (fun n => if c then f n else g n) r := Ev.congr (fun n => if_pos h) k
theorem Ev.neg {α : Type} {c : Prop} [Decidable c] {f g : Nat → Option α} {r : α} (h : ¬ c) (k : Ev g r) : Ev (fun n => if c then f n else g n) r := Ev.congr (fun n => if_neg h) k
theorem Ev.succ {α : Type} {g : Nat → Option α} {r : α} (k : Ev (fun n => g (n + 1)) r) : Ev g r := Ev.step (fun _ => rfl) k
theorem Ev.bind0 {α β : Type} {g : Option α} {f : Nat → α → Option β} {a : α} {r : β} (h : g = some a) (k : Ev (fun n => f n a) r) : Ev (fun n => g.bind (f n)) r := Ev.congr (fun n => by rw [h]; rfl) k
theorem wrapN (i : Nat) (h : i < 4611686018427387904) : wrap64 ((i : Int) + 1) = ((i + 1 : Nat) : Int) := by
  unfold wrap64
  omega
theorem wrapI (i : Int) (h0 : -4611686018427387904 ≤ i) (h : i ≤ 4611686018427387904) : wrap64 (i + 1) = i + 1 := by
  unfold wrap64
  omega
theorem wrapE (i : Int) (h0 : -9223372036854775808 ≤ i) (h : i ≤ 9223372036854775807) : wrap64 i = i := by
  unfold wrap64
  omega
/-- Two programs that come to one answer. -/
def Ev2 {α : Type} (f g : Nat → Option α) : Prop := ∃ b, Ev f b ∧ Ev g b
theorem Ev2.now {α : Type} (b : α) : Ev2 (fun _ => some b) (fun _ => some b) := ⟨b, Ev.now b, Ev.now b⟩
theorem Ev2.succ {α : Type} {f g : Nat → Option α} (h : Ev2 (fun n => f (n + 1)) (fun n => g (n + 1))) : Ev2 f g := by
  obtain ⟨b, h1, h2⟩ := h
  exact ⟨b, Ev.succ h1, Ev.succ h2⟩
theorem Ev2.pos {α : Type} {c c' : Prop} [Decidable c] [Decidable c'] {f f' g g' : Nat → Option α} (h : c) (h' : c') (k : Ev2 f g) : Ev2 (fun n => if c then f n else f' n) (fun n => if c' then g n else g' n) := by
  obtain ⟨b, h1, h2⟩ := k
  exact ⟨b, Ev.pos h h1, Ev.pos h' h2⟩
theorem Ev2.neg {α : Type} {c c' : Prop} [Decidable c] [Decidable c'] {f f' g g' : Nat → Option α} (h : ¬ c) (h' : ¬ c') (k : Ev2 f' g') : Ev2 (fun n => if c then f n else f' n) (fun n => if c' then g n else g' n) := by
  obtain ⟨b, h1, h2⟩ := k
  exact ⟨b, Ev.neg h h1, Ev.neg h' h2⟩
theorem Ev2.ite {α : Type} {c : Prop} [Decidable c] {f f' g g' : Nat → Option α} (k : c → Ev2 f g) (k' : ¬ c → Ev2 f' g') : Ev2 (fun n => if c then f n else f' n) (fun n => if c then g n else g' n) := by
  by_cases h : c
  · exact Ev2.pos h h (k h)
  · exact Ev2.neg h h (k' h)
theorem Ev2.bind {α β : Type} {f g : Nat → Option α} {f' g' : Nat → α → Option β} {a : α} (h1 : Ev f a) (h2 : Ev g a) (k : Ev2 (fun n => f' n a) (fun n => g' n a)) : Ev2 (fun n => (f n).bind (f' n)) (fun n => (g n).bind (g' n)) := by
  obtain ⟨b, k1, k2⟩ := k
  exact ⟨b, Ev.bind h1 k1, Ev.bind h2 k2⟩
/-- Two programs that come to one answer, of which p holds. -/
def EvP {α : Type} (p : α → Prop) (f g : Nat → Option α) : Prop := ∃ b, p b ∧ Ev f b ∧ Ev g b
section
variable {α β : Type} {p : α → Prop} {f g f' g' : Nat → Option α}
theorem EvP.now (b : α) (h : p b) : EvP p (fun _ => some b) (fun _ => some b) := ⟨b, h, Ev.now b, Ev.now b⟩
theorem EvP.succ (h : EvP p (fun n => f (n + 1)) (fun n => g (n + 1))) : EvP p f g := by
  obtain ⟨b, hp, h1, h2⟩ := h
  exact ⟨b, hp, Ev.succ h1, Ev.succ h2⟩
theorem EvP.pos {c c' : Prop} [Decidable c] [Decidable c'] (h : c) (h' : c') (k : EvP p f g) : EvP p (fun n => if c then f n else f' n) (fun n => if c' then g n else g' n) := by
  obtain ⟨b, hp, h1, h2⟩ := k
  exact ⟨b, hp, Ev.pos h h1, Ev.pos h' h2⟩
theorem EvP.neg {c c' : Prop} [Decidable c] [Decidable c'] (h : ¬ c) (h' : ¬ c') (k : EvP p f' g') : EvP p (fun n => if c then f n else f' n) (fun n => if c' then g n else g' n) := by
  obtain ⟨b, hp, h1, h2⟩ := k
  exact ⟨b, hp, Ev.neg h h1, Ev.neg h' h2⟩
theorem EvP.ite {c : Prop} [Decidable c] (k : c → EvP p f g) (k' : ¬ c → EvP p f' g') : EvP p (fun n => if c then f n else f' n) (fun n => if c then g n else g' n) := by
  by_cases h : c
  · exact EvP.pos h h (k h)
  · exact EvP.neg h h (k' h)
theorem EvP.bind {f g : Nat → Option β} {f' g' : Nat → β → Option α} {a : β} (h1 : Ev f a) (h2 : Ev g a) (k : EvP p (fun n => f' n a) (fun n => g' n a)) : EvP p (fun n => (f n).bind (f' n)) (fun n => (g n).bind (g' n)) := by
  obtain ⟨b, hp, k1, k2⟩ := k
  exact ⟨b, hp, Ev.bind h1 k1, Ev.bind h2 k2⟩
theorem EvP.mono {q : α → Prop} (h : EvP p f g) (hq : ∀ b, p b → q b) : EvP q f g := by
  obtain ⟨b, hp, k⟩ := h
  exact ⟨b, hq b hp, k⟩
theorem EvP.then_ {f g : Nat → Option β} {q : β → Prop} {f' g' : Nat → β → Option α} (h : EvP q f g) (k : ∀ b, q b → EvP p (fun n => f' n b) (fun n => g' n b)) : EvP p (fun n => (f n).bind (f' n)) (fun n => (g n).bind (g' n)) := by
  obtain ⟨b, hq, h1, h2⟩ := h
  exact EvP.bind h1 h2 (k b hq)
end
theorem Ev.const {α : Type} {g : Option α} {a : α} (h : g = some a) : Ev (fun _ => g) a := ⟨0, fun _ _ => h⟩
end Go.Proofs.Ytbfgcpjkagbmdaa.P
