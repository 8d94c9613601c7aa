/- Plain lemmas on lists and numbers that the hand-written contracts of this seat share. -/
import Derived.Test.YthjiajkmaimbjaaWWords
import Derived.Test.YthjiajkmaimbjaaWLast
import Derived.Test.YthjiajkmaimbjaaWMore
namespace Go.Proofs.Ythjiajkmaimbjaa.B
open Go.RowKit Go.Proofs.YthjiajkmaimbjaaW.PrintWords
theorem rd_get (l : List Int) (j : Nat) (h : j < l.length) : rd l (j : Int) = l[j] := by
 unfold rd; rw [List.getD_eq_getElem?_getD, Int.toNat_natCast, List.getElem?_eq_getElem h]; rfl
def findF {α : Type} (p : α → Bool) (l : List α) : Int := match l.findIdx? p with | some i => (i : Int) | none => -1
theorem findF_none {α : Type} {p : α → Bool} {l : List α} (h : ∀ x ∈ l, p x = false) : findF p l = -1 := by
 have : l.findIdx? p = none := List.findIdx?_eq_none_iff.mpr h; unfold findF; rw [this]
theorem findF_some {α : Type} {p : α → Bool} {l : List α} (j : Nat) (hj : j < l.length) (h : ∀ x ∈ l.take j, p x = false) (hp : p l[j] = true) : findF p l = j := by
 have : l.findIdx? p = some j := by
  rw [List.findIdx?_eq_some_iff_getElem]; refine ⟨hj, hp, fun i hi => ?_⟩; have h1 := h l[i] (by rw [List.mem_iff_getElem]; exact ⟨i, by rw [List.length_take]; omega, by simp⟩)
  simp [h1]
 unfold findF; rw [this]
theorem findF_any {α : Type} (p : α → Bool) (l : List α) : decide (0 ≤ findF p l) = l.any p := by
 unfold findF
 cases h : l.findIdx? p with
 | none =>
  have h1 := List.findIdx?_eq_none_iff.mp h
  have h2 : l.any p = false := by rw [List.any_eq_false]; intro x hx; simp [h1 x hx]
  rw [h2]; rfl
 | some i =>
  obtain ⟨hi, hp, _⟩ := List.findIdx?_eq_some_iff_getElem.mp h; have h2 : l.any p = true := List.any_eq_true.mpr ⟨l[i], List.getElem_mem _, hp⟩; rw [h2]
  simp
theorem take_all {α : Type} {p : α → Bool} {l : List α} {j : Nat} (hj : j < l.length) (h : ∀ x ∈ l.take j, p x = false) (hp : p l[j] = false) : ∀ x ∈ l.take (j + 1), p x = false := by
 intro x hx; rw [List.take_succ_eq_append_getElem hj] at hx
 rcases List.mem_append.1 hx with hx | hx
 ·exact h x hx
 ·rw [List.mem_singleton.1 hx]; exact hp
def gd (l : List (List Int)) (i j : Nat) : Int := (l.getD i []).getD j 0
theorem at_row {e : Nat} {w : World} {A : Option Addr} {n : Nat} {l : List (List Int)} (h : Kd.C (Kd.slice e (Kd.int .i64)) w A n l) (i : Nat) (hi : i < n) : ∃ ad A0 c0, A = some ad ∧ w.cell? (ad.add i) = some (.slice A0 (l.getD i []).length c0) ∧ (l.getD i []).length ≤ c0 ∧ (Kd.int .i64).C w A0 (l.getD i []).length (l.getD i []) := by
 obtain ⟨ad, c, e1, _, hK, hc0⟩ := Kd.C_get h ([] : List Int) (i : Int) (by omega) (by omega); rw [Int.toNat_natCast] at hK hc0
 have hc : ∀ j u, c[j]? = some u → w.cell? (ad.add (i * 1 + j)) = some u := hc0
 obtain ⟨A0, c0, rfl, l0, g0⟩ := hK; exact ⟨ad, A0, c0, e1, by have hq := hc 0 _ rfl; rwa [Nat.mul_one, Nat.add_zero] at hq, l0, g0⟩
theorem at_num {w : World} {A : Option Addr} {n : Nat} {x : List Int} (h : Kd.C (Kd.int .i64) w A n x) (i : Nat) (hi : i < n) : ∃ ad, A = some ad ∧ w.cell? (ad.add i) = some (.int .i64 (x.getD i 0)) := by
 obtain ⟨ad, e, hc⟩ := Kd.at_int h (i : Int) (by omega) (by omega); rw [Int.toNat_natCast] at hc; refine ⟨ad, e, ?_⟩; unfold rd at hc
 rwa [Int.toNat_natCast] at hc
theorem getD_row {l : List (List Int)} {n : Nat} (h : ∀ x ∈ l, x.length = n) {i : Nat} (hi : i < l.length) : (l.getD i []).length = n := by
 rw [List.getD_eq_getElem?_getD, List.getElem?_eq_getElem hi]; exact h _ (List.getElem_mem _)
abbrev tT : Bool := true
abbrev fF : Bool := false
end Go.Proofs.Ythjiajkmaimbjaa.B
/-! ### Words on 'from some number of rounds on' -/
namespace Go.Proofs.Ythjiajkmaimbjaa.P
open Go.Proofs.Ythjiajkmaimbjaa.B
open Go.RowKit Go.Proofs.YthjiajkmaimbjaaW.PrintWords Go.Proofs.YthjiajkmaimbjaaW.PrintLast Go.Proofs.YthjiajkmaimbjaaW.PrintMore
set_option linter.unusedVariables false
set_option linter.unusedSimpArgs false
theorem Ev.pos {α : Type} {c : Prop} [Decidable c] {f g : Nat → Option α} {r : α} (h : c) (k : Ev f r) : Ev (fun n => if c then f n else g n) r := Ev.congr (fun n => if_pos h) k
theorem Ev.neg {α : Type} {c : Prop} [Decidable c] {f g : Nat → Option α} {r : α} (h : ¬ c) (k : Ev g r) : Ev (fun n => if c then f n else g n) r := Ev.congr (fun n => if_neg h) k
theorem Ev.succ {α : Type} {g : Nat → Option α} {r : α} (k : Ev (fun n => g (n + 1)) r) : Ev g r := Ev.step (fun _ => rfl) k
theorem Ev.bind0 {α β : Type} {g : Option α} {f : Nat → α → Option β} {a : α} {r : β} (h : g = some a) (k : Ev (fun n => f n a) r) : Ev (fun n => g.bind (f n)) r := Ev.congr (fun n => by rw [h]; rfl) k
theorem wrapN (i : Nat) (h : i < 4611686018427387904) : wrap64 ((i : Int) + 1) = ((i + 1 : Nat) : Int) := by
 unfold wrap64; omega
theorem wrapI (i : Int) (h0 : -4611686018427387904 ≤ i) (h : i ≤ 4611686018427387904) : wrap64 (i + 1) = i + 1 := by
 unfold wrap64; omega
theorem wrapE (i : Int) (h0 : -9223372036854775808 ≤ i) (h : i ≤ 9223372036854775807) : wrap64 i = i := by
 unfold wrap64; omega
def Ev2 {α : Type} (f g : Nat → Option α) : Prop := ∃ b, Ev f b ∧ Ev g b
theorem Ev2.now {α : Type} (b : α) : Ev2 (fun _ => some b) (fun _ => some b) := ⟨b, Ev.now b, Ev.now b⟩
theorem Ev2.succ {α : Type} {f g : Nat → Option α} (h : Ev2 (fun n => f (n + 1)) (fun n => g (n + 1))) : Ev2 f g := by
 obtain ⟨b, h1, h2⟩ := h; exact ⟨b, Ev.succ h1, Ev.succ h2⟩
theorem Ev2.pos {α : Type} {c c' : Prop} [Decidable c] [Decidable c'] {f f' g g' : Nat → Option α} (h : c) (h' : c') (k : Ev2 f g) : Ev2 (fun n => if c then f n else f' n) (fun n => if c' then g n else g' n) := by
 obtain ⟨b, h1, h2⟩ := k; exact ⟨b, Ev.pos h h1, Ev.pos h' h2⟩
theorem Ev2.neg {α : Type} {c c' : Prop} [Decidable c] [Decidable c'] {f f' g g' : Nat → Option α} (h : ¬ c) (h' : ¬ c') (k : Ev2 f' g') : Ev2 (fun n => if c then f n else f' n) (fun n => if c' then g n else g' n) := by
 obtain ⟨b, h1, h2⟩ := k; exact ⟨b, Ev.neg h h1, Ev.neg h' h2⟩
theorem Ev2.bind {α β : Type} {f g : Nat → Option α} {f' g' : Nat → α → Option β} {a : α} (h1 : Ev f a) (h2 : Ev g a) (k : Ev2 (fun n => f' n a) (fun n => g' n a)) : Ev2 (fun n => (f n).bind (f' n)) (fun n => (g n).bind (g' n)) := by
 obtain ⟨b, k1, k2⟩ := k; exact ⟨b, Ev.bind h1 k1, Ev.bind h2 k2⟩
def EvP {α : Type} (p : α → Prop) (f g : Nat → Option α) : Prop := ∃ b, p b ∧ Ev f b ∧ Ev g b
section
variable {α β : Type} {p : α → Prop} {f g f' g' : Nat → Option α}
theorem EvP.now (b : α) (h : p b) : EvP p (fun _ => some b) (fun _ => some b) := ⟨b, h, Ev.now b, Ev.now b⟩
theorem EvP.succ (h : EvP p (fun n => f (n + 1)) (fun n => g (n + 1))) : EvP p f g := by
 obtain ⟨b, hp, h1, h2⟩ := h; exact ⟨b, hp, Ev.succ h1, Ev.succ h2⟩
theorem EvP.pos {c c' : Prop} [Decidable c] [Decidable c'] (h : c) (h' : c') (k : EvP p f g) : EvP p (fun n => if c then f n else f' n) (fun n => if c' then g n else g' n) := by
 obtain ⟨b, hp, h1, h2⟩ := k; exact ⟨b, hp, Ev.pos h h1, Ev.pos h' h2⟩
theorem EvP.neg {c c' : Prop} [Decidable c] [Decidable c'] (h : ¬ c) (h' : ¬ c') (k : EvP p f' g') : EvP p (fun n => if c then f n else f' n) (fun n => if c' then g n else g' n) := by
 obtain ⟨b, hp, h1, h2⟩ := k; exact ⟨b, hp, Ev.neg h h1, Ev.neg h' h2⟩
theorem EvP.bind {f g : Nat → Option β} {f' g' : Nat → β → Option α} {a : β} (h1 : Ev f a) (h2 : Ev g a) (k : EvP p (fun n => f' n a) (fun n => g' n a)) : EvP p (fun n => (f n).bind (f' n)) (fun n => (g n).bind (g' n)) := by
 obtain ⟨b, hp, k1, k2⟩ := k; exact ⟨b, hp, Ev.bind h1 k1, Ev.bind h2 k2⟩
theorem EvP.mono {q : α → Prop} (h : EvP p f g) (hq : ∀ b, p b → q b) : EvP q f g := by
 obtain ⟨b, hp, k⟩ := h; exact ⟨b, hq b hp, k⟩
theorem EvP.then_ {f g : Nat → Option β} {q : β → Prop} {f' g' : Nat → β → Option α} (h : EvP q f g) (k : ∀ b, q b → EvP p (fun n => f' n b) (fun n => g' n b)) : EvP p (fun n => (f n).bind (f' n)) (fun n => (g n).bind (g' n)) := by
 obtain ⟨b, hq, h1, h2⟩ := h; exact EvP.bind h1 h2 (k b hq)
end
def EvB (f : Nat → Option Bool) (P : Prop) : Prop := ∃ b : Bool, (b = true ↔ P) ∧ Ev f b
section
variable {P Q : Prop} {f g : Nat → Option Bool}
theorem EvB.yes (h : P) : EvB (fun _ => some true) P := ⟨true, by simp [h], Ev.now _⟩
theorem EvB.no (h : ¬ P) : EvB (fun _ => some false) P := ⟨false, by simp [h], Ev.now _⟩
theorem EvB.now (b : Bool) (h : b = true ↔ P) : EvB (fun _ => some b) P := ⟨b, h, Ev.now _⟩
theorem EvB.succ (h : EvB (fun n => f (n + 1)) P) : EvB f P := by
 obtain ⟨b, hp, h1⟩ := h; exact ⟨b, hp, Ev.succ h1⟩
theorem EvB.pos {c : Prop} [Decidable c] (h : c) (k : EvB f P) : EvB (fun n => if c then f n else g n) P := by
 obtain ⟨b, hp, h1⟩ := k; exact ⟨b, hp, Ev.pos h h1⟩
theorem EvB.neg {c : Prop} [Decidable c] (h : ¬ c) (k : EvB g P) : EvB (fun n => if c then f n else g n) P := by
 obtain ⟨b, hp, h1⟩ := k; exact ⟨b, hp, Ev.neg h h1⟩
theorem EvB.iff (h : EvB f P) (k : P ↔ Q) : EvB f Q := by
 obtain ⟨b, hp, h1⟩ := h; exact ⟨b, hp.trans k, h1⟩
theorem EvB.bind {f : Nat → Option Bool} {f' : Nat → Bool → Option Bool} (h : EvB f Q) (k : Q → EvB (fun n => f' n true) P) (k' : ¬ Q → EvB (fun n => f' n false) P) : EvB (fun n => (f n).bind (f' n)) P := by
 obtain ⟨b, hq, h1⟩ := h
 cases b with
 | true =>
  obtain ⟨c, hc, h2⟩ := k (hq.mp rfl); exact ⟨c, hc, Ev.bind h1 h2⟩
 | false =>
  obtain ⟨c, hc, h2⟩ := k' (fun h => by have := hq.mpr h; cases this); exact ⟨c, hc, Ev.bind h1 h2⟩
theorem EvB.test {c : Prop} [Decidable c] (k : c → EvB f P) (k' : ¬ c → EvB g P) : EvB (fun n => if c then f n else g n) P := by
 by_cases h : c
 ·exact EvB.pos h (k h)
 ·exact EvB.neg h (k' h)
theorem EvB.same (h : EvB f P) (k : EvB g P) : ∃ b : Bool, (b = true ↔ P) ∧ Ev f b ∧ Ev g b := by
 obtain ⟨b, hp, h1⟩ := h; obtain ⟨c, hq, h2⟩ := k
 have e : b = c := by
  cases b <;> cases c <;> simp_all
 subst e; exact ⟨b, hp, h1, h2⟩
end
theorem Ev.inj {α : Type} {g : Nat → Option α} {a b : α} (h : Ev g a) (k : Ev g b) : a = b := by
 obtain ⟨K, hK⟩ := h; obtain ⟨M, hM⟩ := k; exact Option.some.inj ((hK (K + M) (by omega)).symm.trans (hM (K + M) (by omega)))
end Go.Proofs.Ythjiajkmaimbjaa.P
