import Derived.Test.YthjiajkmaimbjaaFLaws
import Derived.Test.YthjiajkmaimbjaaTab
import Derived.Test.YthjiajkmaimbjaaB
import Derived.Test.YthjiajkmaimbjaaF0
import Derived.ProofKit
import Derived.Deep.Matrix
/- What the laws' own helpers answer, over lists alone. -/
namespace Go.Proofs.Ythjiajkmaimbjaa.P
open Go.Proofs.Ythjiajkmaimbjaa.B
open Go.RowKit Go.Proofs.YthjiajkmaimbjaaW.PrintWords Go.Proofs.YthjiajkmaimbjaaW.PrintLast Go.Proofs.YthjiajkmaimbjaaW.PrintMore
set_option linter.unusedVariables false
set_option linter.unusedSimpArgs false
def SegN (w : World) (lo hi : Nat) (v : Value) (xs : List (List Int)) : Prop := Kd.N (Kd.slice 3 (Kd.int .i64)) 22 w lo (fun k => lo ≤ k ∧ k < hi) v xs
theorem SegN.of_N {w : World} {lo : Nat} {v : Value} {xs : List (List Int)} (h : Kd.N (Kd.slice 3 (Kd.int .i64)) 22 w lo (fun k => lo ≤ k) v xs) : SegN w lo w.heap.size v xs := Kd.N_bound h
theorem SegN.move {w w' : World} {lo hi lo' hi' : Nat} {v : Value} {xs : List (List Int)} (h : SegN w lo hi v xs) (hm : Moved w w' lo' hi') (hd : hi ≤ lo' ∨ hi' ≤ lo) : SegN w' lo hi v xs := Kd.N_step h (fun k hk hlt => hm.block k hlt (by omega))
theorem SegN.below {w w' : World} {lo hi : Nat} {v : Value} {xs : List (List Int)} (h : SegN w lo hi v xs) (hb : Below w.heap.size w w') : SegN w' lo hi v xs := Kd.N_below h hb
theorem SegN.slice {w : World} {lo hi : Nat} {v : Value} {xs : List (List Int)} (h : SegN w lo hi v xs) : ∃ A c, v = .slice A xs.length c := Kd.N_slice h
theorem SegN.reads {w : World} {lo hi : Nat} {A : Option Addr} {n c : Nat} {xs : List (List Int)} (h : SegN w lo hi (.slice A n c) xs) : n = xs.length ∧ n ≤ c ∧ Kd.C (Kd.slice 3 (Kd.int .i64)) w A xs.length xs := Kd.N_reads' h
theorem ev_eqIntS (l l' : List Int) (hl : l.length ≤ 4611686018427387903) : Ev (fun k => laws_eqIntS.f k l l') (decide (l = l')) := by
 unfold laws_eqIntS.f
 by_cases hlen : l.length = l'.length
 ·refine Ev.pos (by omega) ?_
  suffices h : ∀ (d i : Nat), l.length = i + d → l.take i = l'.take i → Ev (fun k => laws_eqIntS.l0 k l l' (i : Int)) (decide (l = l')) from h l.length 0 (by omega) (by simp)
  intro d
  induction d with
  | zero =>
   intro i hi ht; refine Ev.succ ?_; simp only [laws_eqIntS.l0]; refine Ev.neg (by omega) ?_; rw [List.take_of_length_le (by omega), List.take_of_length_le (by omega)] at ht
   simpa [ht] using Ev.now true
  | succ d ih =>
   intro i hi ht; refine Ev.succ ?_; simp only [laws_eqIntS.l0]; refine Ev.pos (by omega) (Ev.pos (by omega) (Ev.pos (by omega) ?_)); rw [rd_get l i (by omega), rd_get l' i (by omega)]
   by_cases he : l[i]'(by omega) = l'[i]'(by omega)
   ·refine Ev.pos he ?_; rw [wrapN _ (by omega)]; refine ih (i + 1) (by omega) ?_; rw [List.take_succ_eq_append_getElem (by omega), List.take_succ_eq_append_getElem (by omega), ht, he]
   ·refine Ev.neg he ?_
    have hne : ¬ l = l' := by
     intro h; subst h; exact he rfl
    simpa [hne] using Ev.now false
 ·refine Ev.neg (by omega) ?_
  have hne : ¬ l = l' := by
   intro h; exact hlen (by rw [h])
  simpa [hne] using Ev.now false
theorem rd_upFrom (a : Int) (n i : Nat) (h : i < n) : rd (upFrom a n) (i : Int) = a + (i : Int) := by
 rw [rd_get _ i (by rw [upFrom_length]; exact h)]
 simp [upFrom]
theorem ev_heldIntS (a : Int) (n : Nat) (h0 : 0 ≤ a) (h1 : a ≤ 2305843009213693952) (hl : n ≤ 2305843009213693951) : Ev (fun k => laws_heldIntS.f k (upFrom a n) a) (a + (n : Int)) := by
 unfold laws_heldIntS.f
 suffices h : ∀ (d i : Nat), n = i + d → Ev (fun k => laws_heldIntS.l0 k (upFrom a n) (a + (i : Int)) (i : Int)) (a + (n : Int)) by
  have h0 := h n 0 (by omega)
  simpa using h0
 intro d
 induction d with
 | zero =>
  intro i hi
  obtain rfl : i = n := by omega
  refine Ev.succ ?_; simp only [laws_heldIntS.l0]; exact Ev.neg (by rw [upFrom_length]; omega) (Ev.now _)
 | succ d ih =>
  intro i hi; refine Ev.succ ?_; simp only [laws_heldIntS.l0]; refine Ev.pos (by rw [upFrom_length]; omega) (Ev.pos (by omega) (Ev.pos (rd_upFrom a n i (by omega)) ?_)); rw [wrapN _ (by omega), wrapI _ (by omega) (by omega), show a + (i : Int) + 1 = a + ((i + 1 : Nat) : Int) by omega]; exact ih (i + 1) (by omega)
theorem rdL_get (l : List (List Int)) (j : Nat) (h : j < l.length) : rd_L1 l (j : Int) = l[j] := by
 unfold rd_L1; rw [List.getD_eq_getElem?_getD, Int.toNat_natCast, List.getElem?_eq_getElem h]; rfl
theorem ev_eqIntSS (l l' : List (List Int)) (hl : l.length ≤ 4611686018427387903) (hr : ∀ x ∈ l, x.length ≤ 4611686018427387903) : Ev (fun k => laws_eqIntSS.f k l l') (decide (l = l')) := by
 unfold laws_eqIntSS.f
 by_cases hlen : l.length = l'.length
 ·refine Ev.pos (by omega) ?_
  suffices h : ∀ (d i : Nat), l.length = i + d → l.take i = l'.take i → Ev (fun k => laws_eqIntSS.l0 k l l' (i : Int)) (decide (l = l')) from h l.length 0 (by omega) (by simp)
  intro d
  induction d with
  | zero =>
   intro i hi ht; refine Ev.succ ?_; simp only [laws_eqIntSS.l0]; refine Ev.neg (by omega) ?_; rw [List.take_of_length_le (by omega), List.take_of_length_le (by omega)] at ht
   simpa [ht] using Ev.now true
  | succ d ih =>
   intro i hi ht; refine Ev.succ ?_; simp only [laws_eqIntSS.l0]; refine Ev.pos (by omega) (Ev.pos (by omega) (Ev.pos (by omega) ?_)); rw [rdL_get l i (by omega), rdL_get l' i (by omega)]; refine Ev.bind (ev_eqIntS _ _ (hr _ (List.getElem_mem _))) ?_
   by_cases he : l[i]'(by omega) = l'[i]'(by omega)
   ·refine Ev.pos (decide_eq_true he) ?_; rw [wrapN _ (by omega)]; refine ih (i + 1) (by omega) ?_; rw [List.take_succ_eq_append_getElem (by omega), List.take_succ_eq_append_getElem (by omega), ht, he]
   ·refine Ev.neg (by simp [he]) ?_
    have hne : ¬ l = l' := by
     intro h; subst h; exact he rfl
    simpa [hne] using Ev.now false
 ·refine Ev.neg (by omega) ?_
  have hne : ¬ l = l' := by
   intro h; exact hlen (by rw [h])
  simpa [hne] using Ev.now false
theorem marked_get (xs : List (List Int)) (a : Int) (i : Nat) (h : i < xs.length) : (marked xs a)[i]'(by rw [marked_length]; exact h) = upFrom (a + (total (xs.take i) : Int)) xs[i].length := by
 induction xs generalizing a i with
 | nil => simp at h
 | cons x xs ih =>
  cases i with
  | zero => simp [marked, total]
  | succ i =>
   simp only [marked, List.getElem_cons_succ, List.take_succ_cons, total_cons]; rw [ih _ _ (by simpa using h)]
   congr 1
   omega
theorem ev_heldIntSS (xs : List (List Int)) (a : Int) (h0 : 0 ≤ a) (h1 : a ≤ 1152921504606846976) (hl : total xs ≤ 1048576) (hx : xs.length ≤ 4611686018427387903) : Ev (fun k => laws_heldIntSS.f k (marked xs a) a) (a + (total xs : Int)) := by
 unfold laws_heldIntSS.f
 suffices h : ∀ (d i : Nat), xs.length = i + d → Ev (fun k => laws_heldIntSS.l0 k (marked xs a) (a + (total (xs.take i) : Int)) (i : Int)) (a + (total xs : Int)) by
  have h0 := h xs.length 0 (by omega)
  simpa [total] using h0
 intro d
 induction d with
 | zero =>
  intro i hi; refine Ev.succ ?_; simp only [laws_heldIntSS.l0]; refine Ev.neg (by rw [marked_length]; omega) ?_; rw [List.take_of_length_le (by omega)]; exact Ev.now _
 | succ d ih =>
  intro i hi; refine Ev.succ ?_; simp only [laws_heldIntSS.l0]; refine Ev.pos (by rw [marked_length]; omega) (Ev.pos (by omega) ?_); rw [rdL_get _ i (by rw [marked_length]; omega), marked_get xs a i (by omega)]
  have ht : total (xs.take (i + 1)) = total (xs.take i) + (xs[i]'(by omega)).length := by
   rw [List.take_succ_eq_append_getElem (by omega), total_append]
   simp [total]
  have ht2 : total (xs.take (i + 1)) ≤ total xs := by
   have h6 : total xs = total (xs.take (i + 1)) + total (xs.drop (i + 1)) := by rw [← total_append, List.take_append_drop]
   omega
  refine Ev.bind (ev_heldIntS _ _ (by omega) (by omega) (by omega)) (Ev.neg (by omega) ?_); rw [wrapN _ (by omega), show a + (total (xs.take i) : Int) + ((xs[i]'(by omega)).length : Int) = a + (total (xs.take (i + 1)) : Int) by omega]; exact ih (i + 1) (by omega)
def szL : List (List Int) → Int → Int
 | [], a => a
 | x :: xs, a => if a - (x.length : Int) < 0 then -1 else szL xs (a - (x.length : Int))
def szT (l : List (List Int)) (a : Int) : Int := if a - (l.length : Int) < 0 then -1 else szL l (a - (l.length : Int))
theorem szL_eq (xs : List (List Int)) (a : Int) (h : ¬ szL xs a < 0) : szL xs a = a - (total xs : Int) := by
 induction xs generalizing a with
 | nil => simp [szL, total]
 | cons x xs ih =>
  simp only [szL] at h ⊢; rw [total_cons]
  by_cases c : a - (x.length : Int) < 0
  ·simp [c] at h
  ·rw [if_neg c] at h ⊢; have := ih (a - (x.length : Int)) h; omega
theorem szT_ok (l : List (List Int)) (a : Int) (h : ¬ szT l a < 0) : szT l a = a - (l.length : Int) - (total l : Int) ∧ (l.length : Int) + (total l : Int) ≤ a := by
 unfold szT at h ⊢
 by_cases c : a - (l.length : Int) < 0
 ·rw [if_pos c] at h; omega
 ·rw [if_neg c] at h ⊢; have h1 := szL_eq l _ h; omega
theorem szT_le (l : List (List Int)) (a : Int) (ha : a ≤ 1048576) : szT l a ≤ 1048576 := by
 by_cases h : szT l a < 0
 ·omega
 ·have := szT_ok l a h; omega
theorem row_le_total (l : List (List Int)) : ∀ x ∈ l, x.length ≤ total l := by
 induction l with
 | nil => simp
 | cons y ys ih =>
  intro x hx; rw [total_cons]
  rcases List.mem_cons.1 hx with rfl | hx
  ·omega
  ·have := ih x hx; omega
theorem ev_szIntSS (l : List (List Int)) (a0 : Int) (h0 : 0 ≤ a0) (h1 : a0 ≤ 1048576) (hl : l.length ≤ 9223372036854775807) (hr : ∀ x ∈ l, x.length ≤ 9223372036854775807) : Ev (fun k => laws_szIntSS.f k l a0) (szT l a0) := by
 unfold laws_szIntSS.f szT; rw [wrapE _ (by omega) (by omega)]
 by_cases c : a0 - (l.length : Int) < 0
 ·rw [if_pos c]; exact Ev.pos c (Ev.now _)
 ·rw [if_neg c]
  refine Ev.neg c ?_
  suffices h : ∀ (d i : Nat) (a : Int), l.length = i + d → 0 ≤ a → a ≤ 1048576 → Ev (fun k => laws_szIntSS.l0 k l a (i : Int)) (szL (l.drop i) a) from by
   have := h l.length 0 (a0 - (l.length : Int)) (by omega) (by omega) (by omega)
   simpa using this
  intro d
  induction d with
  | zero =>
   intro i a hi h0 h1; refine Ev.succ ?_; simp only [laws_szIntSS.l0]; refine Ev.neg (by omega) ?_; rw [List.drop_eq_nil_of_le (by omega)]; exact Ev.now _
  | succ d ih =>
   intro i a hi h0 h1; refine Ev.succ ?_; simp only [laws_szIntSS.l0]; refine Ev.pos (by omega) (Ev.pos (by omega) ?_); rw [rdL_get l i (by omega), List.drop_eq_getElem_cons (by omega)]; have hx := hr _ (List.getElem_mem (show i < l.length by omega)); simp only [szL]; unfold laws_szIntS.f; rw [wrapE _ (by omega) (by omega)]
   by_cases c2 : a - ((l[i]'(by omega)).length : Int) < 0
   ·rw [if_pos c2, if_pos c2]; exact Ev.bind0 rfl (Ev.pos (by omega) (Ev.now _))
   ·rw [if_neg c2, if_neg c2]; refine Ev.bind0 rfl (Ev.neg c2 ?_); rw [wrapN _ (by omega)]; exact ih (i + 1) _ (by omega) (by omega) (by omega)
end Go.Proofs.Ythjiajkmaimbjaa.P
namespace Go.Proofs.Ythjiajkmaimbjaa.P
open Go.Proofs.Ythjiajkmaimbjaa.B
open Go.RowKit Go.Proofs.YthjiajkmaimbjaaW.PrintWords Go.Proofs.YthjiajkmaimbjaaW.PrintLast Go.Proofs.YthjiajkmaimbjaaW.PrintMore
set_option linter.unusedVariables false
set_option linter.unusedSimpArgs false
open Go.ChangeShapes Go.WideShapes
theorem rows_open {H : Type} {enc : TypeId × Value → H} {P : Program} {W : World} {base : Nat} {held : Bool} {t e q : TypeId} (ht : P.underlying t = some (.slice e)) (he : P.underlying e = some (.slice q)) (hq : P.underlying q = some (.int .i64)) (ce : P.cellsOf e = 1) (cq : P.cellsOf q = 1)
  {a : Option Addr} {len cap : Nat} {d : DataW H} {ps : List MemPlace} (h : DataW.Trod enc P W base (fun _ => true) held t (.slice a len cap) d ps) :
  ∃ l : List (List Int), len = l.length ∧ Kd.C (Kd.slice q (Kd.int .i64)) W a l.length l ∧ l.length ≤ cap ∧ l.length ≤ 9223372036854775807 ∧ (∀ x ∈ l, x.length ≤ 9223372036854775807) ∧ ∀ x ∈ l, ∀ y ∈ x, (Lit.int .i64 y).wf = true := by
 obtain ⟨fuel, hf⟩ := h
 rcases Go.Deep.open_int_rows ht he hq ce cq hf with ⟨hcs, _⟩ | ⟨ad, l', c', A, L, C, Z, hcs, _, hl, hm, _, hcell⟩
 ·simp [Value.cells] at hcs
  obtain ⟨rfl, rfl, rfl⟩ := hcs; exact ⟨[], rfl, ⟨rfl, by simp, fun h => by simp at h⟩, Nat.zero_le _, by simp, by simp, by simp⟩
 ·simp [Value.cells] at hcs
  obtain ⟨rfl, rfl, rfl⟩ := hcs
  have hlen : ((List.range len).map fun r => (Z r).take (L r)).length = len := by simp
  have hm' : cap ≤ 9223372036854775807 := hm
  have hrow : ∀ r, r < len → ((Z r).take (L r)).length = L r ∧ L r ≤ 9223372036854775807 := fun r hr => by
   obtain ⟨_, h1, h2, h3, _⟩ := hcell r (by omega); have h2' : C r ≤ 9223372036854775807 := h2; rw [List.length_take]; omega
  refine ⟨(List.range len).map fun r => (Z r).take (L r), hlen.symm, ⟨rfl, by rw [hlen]; omega, fun _ => ⟨ad, rfl, fun j p hj => ?_⟩⟩, by rw [hlen]; exact hl, by rw [hlen]; omega, ?_, ?_⟩
  ·have hjl := (List.getElem?_eq_some_iff.1 hj).1
   rw [hlen] at hjl
   have hp : p = (Z j).take (L j) := by
    rw [List.getElem?_map, List.getElem?_range hjl] at hj; injection hj with hj; exact hj.symm
   subst hp; obtain ⟨h0, h1, h2, h3, h4, h5, h6⟩ := hcell j (by omega); have hr := hrow j hjl; refine ⟨[.slice (A j) (L j) (C j)], rfl, ⟨A j, C j, by rw [hr.1], by rw [hr.1]; exact h1, ?_⟩, ?_⟩
   ·refine Kd.C_of_reads (d := (0 : Int)) (h1 := fun _ => rfl) ?_
    refine ⟨rfl, by omega, fun hpos => ?_⟩
    cases hA : A j with
    | none => have := h5 hA; omega
    | some a' =>
     refine ⟨a', rfl, fun i hi => ?_⟩; have := (h6 a' hA).2 i (by omega); rw [this]
     congr 2
     rw [List.getD_eq_getElem?_getD, List.getD_eq_getElem?_getD, List.getElem?_take_of_lt (by omega)]
   ·intro i u hu
    cases i with
    | zero =>
     simp at hu
     subst hu; have e : (Kd.slice q (Kd.int .i64)).sz = 1 := rfl; rw [e, Nat.mul_one, Nat.add_zero]; exact h0
    | succ i => simp at hu
  ·intro x hx; obtain ⟨r, hr, rfl⟩ := List.mem_map.1 hx; have := hrow r (List.mem_range.1 hr); omega
  ·intro x hx y hy; obtain ⟨r, hr, rfl⟩ := List.mem_map.1 hx; obtain ⟨_, _, _, _, h4, _⟩ := hcell r (by have := List.mem_range.1 hr; omega); exact h4 y (List.mem_of_mem_take hy)
end Go.Proofs.Ythjiajkmaimbjaa.P
