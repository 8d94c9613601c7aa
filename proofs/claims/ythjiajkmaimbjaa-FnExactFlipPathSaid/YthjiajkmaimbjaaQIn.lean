import Derived.Test.YthjiajkmaimbjaaFSpecIn
import Derived.Test.YthjiajkmaimbjaaFImplIn
import Derived.Test.YthjiajkmaimbjaaB
/- Numbers within bounds, as program and reference test them. -/
namespace Go.Proofs.Ythjiajkmaimbjaa.Pure
open Go.Proofs.Ythjiajkmaimbjaa.B Go.Proofs.Ythjiajkmaimbjaa.P
open Go.RowKit Go.Proofs.YthjiajkmaimbjaaW.PrintWords Go.Proofs.YthjiajkmaimbjaaW.PrintLast Go.Proofs.YthjiajkmaimbjaaW.PrintMore
set_option linter.unusedVariables false
set_option linter.unusedSimpArgs false
def inB (n lo hi : Int) : Bool := decide (lo ≤ n) && decide (n ≤ hi)
theorem inB_iff (n lo hi : Int) : inB n lo hi = true ↔ lo ≤ n ∧ n ≤ hi := by simp [inB]
theorem l1In_eq (n lo hi : Int) : spec_l1In.f n lo hi = some (inB n lo hi) := by
 unfold spec_l1In.f inB
 by_cases h : lo ≤ n <;> simp [h]
theorem within_eq (n lo hi : Int) : impl_within.f n lo hi = some (inB n lo hi) := by
 unfold impl_within.f inB
 by_cases h : lo ≤ n <;> simp [h]
theorem isSide_eq (n : Int) : impl_isSide.f n = some (inB n 1 6) := by
 unfold impl_isSide.f; rw [within_eq]; rfl
theorem ev_l1All (l : List Int) (lo up : Int) (hl : l.length ≤ 4611686018427387903) : Ev (fun k => spec_l1All.f k l lo up) (l.all fun x => inB x lo up) := by
 unfold spec_l1All.f
 suffices h : ∀ (d i : Nat), l.length = i + d → Ev (fun k => spec_l1All.l0 k lo up l (l.length : Int) (i : Int)) ((l.drop i).all fun x => inB x lo up) by
  have := h l.length 0 (by omega)
  simpa using this
 intro d
 induction d with
 | zero =>
  intro i hd; refine Ev.succ ?_; simp only [spec_l1All.l0]; refine Ev.neg (by omega) ?_; rw [List.drop_eq_nil_of_le (by omega)]; exact Ev.now _
 | succ d ih =>
  intro i hd; refine Ev.succ ?_; simp only [spec_l1All.l0]; refine Ev.pos (by omega) (Ev.pos (by omega) (Ev.pos (by omega) ?_)); rw [rd_get l i (by omega), List.drop_eq_getElem_cons (by omega)]; refine Ev.bind0 (l1In_eq _ _ _) ?_; rw [List.all_cons]
  by_cases c : inB (l[i]'(by omega)) lo up = true
  ·rw [c, Bool.true_and]; refine Ev.pos rfl ?_; rw [wrapN _ (by omega)]; exact ih (i + 1) (by omega)
  ·rw [Bool.eq_false_iff.mpr c, Bool.false_and]; exact Ev.neg (by decide) (Ev.now _)
end Go.Proofs.Ythjiajkmaimbjaa.Pure
namespace Go.Proofs.Ythjiajkmaimbjaa.Pure
open Go.Proofs.Ythjiajkmaimbjaa.B Go.Proofs.Ythjiajkmaimbjaa.P
open Go.RowKit Go.Proofs.YthjiajkmaimbjaaW.PrintWords Go.Proofs.YthjiajkmaimbjaaW.PrintLast Go.Proofs.YthjiajkmaimbjaaW.PrintMore
set_option linter.unusedVariables false
set_option linter.unusedSimpArgs false
theorem Ev.thru {α : Type} {r : α} (f : Nat → Nat → Option α) (n : Nat) (h : ∀ i, i < n → Ev (f (i + 1)) r → Ev (f i) r) (he : Ev (f n) r) : Ev (f 0) r := by
 have : ∀ d i, i + d = n → Ev (f i) r := by
  intro d
  induction d with
  | zero =>
   intro i hi
   have e : i = n := by omega
   subst e; exact he
  | succ d ih =>
   intro i hi; exact h i (by omega) (ih (i + 1) (by omega))
 exact this n 0 (by omega)
theorem Ev.thruE {α : Type} {r : α} {g : Nat → Option α} (f : Nat → Nat → Option α) (n : Nat) (e : g = f 0) (h : ∀ i, i < n → Ev (f (i + 1)) r → Ev (f i) r) (he : Ev (f n) r) : Ev g r := by
 rw [e]; exact Ev.thru f n h he
theorem wz : wrap64 0 = 0 := wrapE 0 (by omega) (by omega)
theorem EvB.and_ {c : Prop} [Decidable c] {f : Nat → Option Bool} {R : Prop} (k : c → EvB f R) : EvB (fun n => if c then f n else some false) (c ∧ R) := by
 by_cases h : c
 ·exact (EvB.pos h (k h)).iff ⟨fun r => ⟨h, r⟩, fun r => r.2⟩
 ·exact EvB.neg h (EvB.no fun r => h r.1)
theorem EvB.bindAnd {f g : Nat → Option Bool} {Q R : Prop} (h : EvB f Q) (k : Q → EvB g R) : EvB (fun n => (f n).bind fun t => if t = true then g n else some false) (Q ∧ R) := by
 refine EvB.bind h (fun q => ?_) (fun q => ?_)
 ·exact (EvB.pos rfl (k q)).iff ⟨fun r => ⟨q, r⟩, fun r => r.2⟩
 ·exact EvB.neg (by decide) (EvB.no fun r => q r.1)
theorem EvB.read {α : Type} {f : Nat → Option α} {g : Nat → α → Option Bool} {a : α} {R : Prop} (h : Ev f a) (k : EvB (fun n => g n a) R) : EvB (fun n => (f n).bind (g n)) R := by
 obtain ⟨b, hb, h2⟩ := k; exact ⟨b, hb, Ev.bind h h2⟩
theorem EvB.all {E : Prop} (f : Nat → Nat → Option Bool) (n : Nat) (Q : Nat → Prop) (h : ∀ i, i < n → ∀ R : Prop, EvB (f (i + 1)) R → EvB (f i) (Q i ∧ R)) (he : EvB (f n) E) : EvB (f 0) ((∀ j, j < n → Q j) ∧ E) := by
 have : ∀ d i, i + d = n → EvB (f i) ((∀ j, i ≤ j → j < n → Q j) ∧ E) := by
  intro d
  induction d with
  | zero =>
   intro i hi
   have e : i = n := by omega
   subst e; exact he.iff ⟨fun h => ⟨fun j _ _ => by omega, h⟩, fun h => h.2⟩
  | succ d ih =>
   intro i hi; refine (h i (by omega) _ (ih (i + 1) (by omega))).iff ⟨fun ⟨a, b, c⟩ => ⟨fun j h1 h2 => ?_, c⟩, fun ⟨a, b⟩ => ⟨a i (by omega) (by omega), fun j h1 h2 => a j (by omega) h2, b⟩⟩
   by_cases e : j = i
   ·subst e; exact a
   ·exact b j (by omega) h2
 exact (this n 0 (by omega)).iff ⟨fun ⟨a, b⟩ => ⟨fun j h => a j (by omega) h, b⟩, fun ⟨a, b⟩ => ⟨fun j _ h => a j h, b⟩⟩
def sumTo : Nat → (Nat → Int) → Int
 | 0, _ => 0
 | n + 1, f => sumTo n f + f n
theorem sumTo_congr {n : Nat} {f g : Nat → Int} (h : ∀ i, i < n → f i = g i) : sumTo n f = sumTo n g := by
 induction n with
 | zero => rfl
 | succ n ih => simp only [sumTo]; rw [ih (fun i hi => h i (by omega)), h n (by omega)]
theorem sumTo_add (n : Nat) (f g : Nat → Int) : sumTo n (fun i => f i + g i) = sumTo n f + sumTo n g := by
 induction n with
 | zero => rfl
 | succ n ih => simp only [sumTo]; rw [ih]; omega
theorem sumTo_zero (n : Nat) : sumTo n (fun _ => 0) = 0 := by
 induction n with
 | zero => rfl
 | succ n ih => simp only [sumTo]; rw [ih]; rfl
theorem sumTo_comm (n m : Nat) (f : Nat → Nat → Int) : sumTo n (fun i => sumTo m (f i)) = sumTo m (fun j => sumTo n (fun i => f i j)) := by
 induction n with
 | zero => simp only [sumTo]; rw [sumTo_zero]
 | succ n ih => simp only [sumTo]; rw [ih, ← sumTo_add]
theorem sumTo_bound (n : Nat) (f : Nat → Int) (lo hi : Int) (h : ∀ i, i < n → lo ≤ f i ∧ f i ≤ hi) : (n : Int) * lo ≤ sumTo n f ∧ sumTo n f ≤ (n : Int) * hi := by
 induction n with
 | zero => simp [sumTo]
 | succ n ih =>
  have h1 := ih (fun i hi => h i (by omega)); have h2 := h n (by omega); simp only [sumTo]; rw [Int.natCast_succ, Int.add_mul, Int.add_mul]; omega
theorem wrap_add (a b : Int) : wrap64 (wrap64 a + b) = wrap64 (a + b) := by
 unfold wrap64; omega
theorem wrap_add' (a b : Int) : wrap64 (a + wrap64 b) = wrap64 (a + b) := by
 unfold wrap64; omega
end Go.Proofs.Ythjiajkmaimbjaa.Pure
