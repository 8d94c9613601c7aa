import Derived.Test.YthjiajkmaimbjaaF0
import Derived.Test.YthjiajkmaimbjaaB
import Derived.Deep.QuietTactic
import Derived.BigQuiet
/- Tables ([][]int) that a call makes row by row: what is known of one while it is made, and that it is a row of rows that lie apart. -/
namespace Go.Proofs.Ythjiajkmaimbjaa.P
open Go.Proofs.Ythjiajkmaimbjaa.B
open Go.RowKit Go.Proofs.YthjiajkmaimbjaaW.PrintWords Go.Proofs.YthjiajkmaimbjaaW.PrintLast Go.Proofs.YthjiajkmaimbjaaW.PrintMore
set_option linter.unusedVariables false
set_option linter.unusedSimpArgs false
structure Tab (e2 e1 : Nat) (w : World) (base : Nat) (v : Value) (n : Nat) (vs : List Value) (xss : List (List Int)) : Prop where
 own : w.ownsRow base e2 1 v n (vs ++ List.replicate (n - vs.length) (.slice none 0 0))
 len : vs.length = xss.length
 le : vs.length ≤ n
 row : ∀ (j : Nat) (u : Value) (x : List Int), vs[j]? = some u → xss[j]? = some x → w.ownsRow base e1 1 u x.length (nums .i64 x)
 ap : ∀ (i j : Nat) (u u' : Value), vs[i]? = some u → vs[j]? = some u' → i ≠ j → ∀ k, u.ownBlock = some k → u'.ownBlock ≠ some k
theorem Tab.get {e2 e1 : Nat} {w : World} {base n : Nat} {v : Value} {vs : List Value} {xss : List (List Int)} (h : Tab e2 e1 w base v n vs xss) {j : Nat} {u : Value} (hu : vs[j]? = some u) : ∃ x, xss[j]? = some x := by
 have := (List.getElem?_eq_some_iff.1 hu).1; exact ⟨xss[j]'(by have := h.len; omega), List.getElem?_eq_getElem _⟩
theorem Tab.move {e2 e1 : Nat} {w w' : World} {base n : Nat} {v : Value} {vs : List Value} {xss : List (List Int)} (h : Tab e2 e1 w base v n vs xss) (hb : Below w.heap.size w w') : Tab e2 e1 w' base v n vs xss where
 own := pw_own_below h.own hb
 len := h.len
 le := h.le
 row := fun j u x hu hx => pw_own_below (h.row j u x hu hx) hb
 ap := h.ap
theorem Tab.made {e2 e1 : Nat} {w : World} {base n : Nat} {v : Value} (h : w.ownsRow base e2 1 v n (List.replicate n (.slice none 0 0))) : Tab e2 e1 w base v n [] [] where
 own := by simpa using h
 len := rfl
 le := Nat.zero_le _
 row := by simp
 ap := by simp
theorem Tab.push {e2 e1 : Nat} (he : e2 ≠ e1) {w : World} {base n g c : Nat} {vs : List Value} {xss : List (List Int)} (h : Tab e2 e1 w base (.slice (some ⟨g, 0, none⟩) n c) n vs xss) (hlt : vs.length < n) {u : Value} {x : List Int}
  (hu : w.ownsRow base e1 1 u x.length (nums .i64 x)) (hap : ∀ u' ∈ vs, ∀ k, u.ownBlock = some k → u'.ownBlock ≠ some k) : Tab e2 e1 (w.setCell ⟨g, vs.length, none⟩ u) base (.slice (some ⟨g, 0, none⟩) n c) n (vs ++ [u]) (xss ++ [x]) := by
 have hs := (h.own.stored vs.length u)
 have hne : ∀ {y : List Int} {z : Value}, w.ownsRow base e1 1 z y.length (nums .i64 y) → (w.setCell ⟨g, vs.length, none⟩ u).ownsRow base e1 1 z y.length (nums .i64 y) := by
  intro y z hz; refine own_other hz hs.2 ?_
  rcases own_type_ne hz h.own (Ne.symm he) with h1 | h1
  ·exact .inl h1
  ·exact .inr (by simpa [Value.ownBlock] using h1)
 refine ⟨?_, by simp [h.len], by simp; omega, ?_, ?_⟩
 ·have e : (vs ++ List.replicate (n - vs.length) (Value.slice none 0 0)).set vs.length u = (vs ++ [u]) ++ List.replicate (n - (vs ++ [u]).length) (.slice none 0 0) := by
   obtain ⟨m, hm⟩ : ∃ m, n - vs.length = m + 1 := ⟨n - vs.length - 1, by omega⟩
   have hm2 : n - (vs ++ [u]).length = m := by simp; omega
   rw [hm, hm2, List.set_append_right _ _ (Nat.le_refl _), Nat.sub_self, List.replicate_succ, List.set_cons_zero]
   simp
  rw [← e]; exact hs.1
 ·intro j u' x' hu' hx'
  rcases Nat.lt_trichotomy j vs.length with hj | hj | hj
  ·rw [List.getElem?_append_left hj] at hu'; rw [List.getElem?_append_left (by have := h.len; omega)] at hx'; exact hne (h.row j u' x' hu' hx')
  ·subst hj
   rw [List.getElem?_append_right (Nat.le_refl _), Nat.sub_self] at hu'; rw [h.len, List.getElem?_append_right (Nat.le_refl _), Nat.sub_self] at hx'
   obtain rfl : u = u' := by simpa using hu'
   obtain rfl : x = x' := by simpa using hx'
   exact hne hu
  ·have := (List.getElem?_eq_some_iff.1 hu').1
   simp at this
   omega
 ·intro i j u1 u2 h1 h2 hij k hk
  have li := (List.getElem?_eq_some_iff.1 h1).1; have lj := (List.getElem?_eq_some_iff.1 h2).1
  simp at li lj
  by_cases hi : i < vs.length
  ·rw [List.getElem?_append_left hi] at h1
   by_cases hj : j < vs.length
   ·rw [List.getElem?_append_left hj] at h2; exact h.ap i j u1 u2 h1 h2 hij k hk
   ·obtain rfl : j = vs.length := by omega
    rw [List.getElem?_append_right (Nat.le_refl _), Nat.sub_self] at h2
    obtain rfl : u = u2 := by simpa using h2
    intro hk2; exact hap u1 (List.mem_of_getElem? h1) k hk2 hk
  ·obtain rfl : i = vs.length := by omega
   rw [List.getElem?_append_right (Nat.le_refl _), Nat.sub_self] at h1
   obtain rfl : u = u1 := by simpa using h1
   by_cases hj : j < vs.length
   ·rw [List.getElem?_append_left hj] at h2; exact hap u2 (List.mem_of_getElem? h2) k hk
   ·omega
theorem Tab.put {e2 e1 : Nat} (he : e2 ≠ e1) {w : World} {base n b m c : Nat} {v : Value} {vs : List Value} {xss : List (List Int)} (h : Tab e2 e1 w base v n vs xss) {j : Nat} {x : List Int} (hu : vs[j]? = some (.slice (some ⟨b, 0, none⟩) m c)) (hx : xss[j]? = some x) (t : Nat) (y : Int) :
  Tab e2 e1 (w.setCell ⟨b, t, none⟩ (.int .i64 y)) base v n vs (xss.set j (x.set t y)) := by
 have hr := h.row j _ x hu hx
 obtain rfl : m = x.length := by
  obtain ⟨A, c', hv⟩ := own_slice hr; injection hv
 have hs := hr.stored t (.int .i64 y); have hjl := (List.getElem?_eq_some_iff.1 hx).1; refine ⟨?_, by simp [h.len], h.le, ?_, h.ap⟩
 ·refine own_other h.own hs.2 ?_
  rcases own_type_ne h.own hr he with h1 | h1
  ·exact .inl h1
  ·exact .inr (by simpa [Value.ownBlock] using h1)
 ·intro i u' x' hu' hx'
  by_cases hij : i = j
  ·subst hij
   rw [hu] at hu'; injection hu' with hu'; subst hu'; rw [List.getElem?_set_self hjl] at hx'; injection hx' with hx'; subst hx'
   have e : (nums .i64 x).set t (.int .i64 y) = nums .i64 (x.set t y) := by simp [nums, List.map_set]
   rw [List.length_set, ← e]; exact hs.1
  ·rw [List.getElem?_set_ne (Ne.symm hij)] at hx'
   refine own_other (h.row i u' x' hu' hx') hs.2 ?_
   by_cases hn : u'.ownBlock = some b
   ·exact absurd hn (h.ap j i _ u' hu hu' (Ne.symm hij) b (by simp [Value.ownBlock]))
   ·exact .inr hn
theorem reps_nums (x : List Int) : Reps (fun (p : Int) (c : List Value) => c = [Value.int .i64 p]) 1 x (nums .i64 x) := by
 refine ⟨by simp [nums], fun j p hj => ?_⟩; have hl := (List.getElem?_eq_some_iff.1 hj).1; have hp := (List.getElem?_eq_some_iff.1 hj).2; rw [Nat.mul_one]
 have h1 : (nums .i64 x)[j]? = some (.int .i64 p) := by simp [nums, hj]
 have hl2 : j < (nums .i64 x).length := by simp [nums]; exact hl
 rw [List.drop_eq_getElem_cons hl2]; rw [List.getElem?_eq_getElem hl2] at h1; injection h1 with h1; rw [h1]; rfl
theorem int_R {e1 : Nat} {w : World} {base : Nat} {u : Value} {x : List Int} (h : w.ownsRow base e1 1 u x.length (nums .i64 x)) : (Kd.int .i64).R e1 w base (fun k => u.ownBlock = some k) u x :=
 ⟨fun _ hk => hk, nums .i64 x, h, reps_nums x⟩
theorem Tab.S {e2 e1 : Nat} (he : e2 ≠ e1) {w : World} {base n : Nat} {v : Value} {vs : List Value} {xss : List (List Int)} (h : Tab e2 e1 w base v n vs xss) (hn : vs.length = n) : Kd.S (Kd.slice e1 (Kd.int .i64)) e2 w base (fun _ => True) v xss := by
 have hl : xss.length = n := by have := h.len; omega
 have hown := h.own; rw [hn, Nat.sub_self] at hown; simp only [List.replicate_zero, List.append_nil] at hown
 have hself : ∀ (j : Nat) (u : Value), vs[j]? = some u → ∀ k, u.ownBlock = some k → some k ≠ v.ownBlock := by
  intro j u hu k hk hv; obtain ⟨x, hx⟩ := h.get hu; have hr := h.row j u x hu hx
  rcases own_type_ne hr hown (Ne.symm he) with h1 | h1
  ·rw [hk] at h1; cases h1
  ·exact h1 (hk.trans hv)
 have hone : ∀ (j : Nat), ((vs.drop (j * 1)).take 1) = (vs[j]?).toList := by
  intro j; rw [Nat.mul_one]
  by_cases hj : j < vs.length
  ·rw [List.drop_eq_getElem_cons hj, List.getElem?_eq_getElem hj]; rfl
  ·rw [List.drop_eq_nil_of_le (by omega), List.getElem?_eq_none (by omega)]; rfl
 have q1 : ∀ (i j k : Nat), (∃ u : Value, vs[i]? = some u ∧ u.ownBlock = some k) → (∃ u : Value, vs[j]? = some u ∧ u.ownBlock = some k) → i = j := by
  rintro i j k ⟨u, hu, hk⟩ ⟨u', hu', hk'⟩
  by_cases hij : i = j
  ·exact hij
  ·exact absurd hk' (h.ap i j u u' hu hu' hij k hk)
 have q2 : ∀ (j k : Nat), (∃ u : Value, vs[j]? = some u ∧ u.ownBlock = some k) → True ∧ some k ≠ v.ownBlock := by
  rintro j k ⟨u, hu, hk⟩; exact ⟨trivial, hself j u hu k hk⟩
 have q3 : vs.length = xss.length * (Kd.slice e1 (Kd.int .i64)).sz := by
  show vs.length = xss.length * 1; have := h.len; omega
 have q4 : ∀ (j : Nat) (x : List Int), xss[j]? = some x → (Kd.slice e1 (Kd.int .i64)).M w base (fun k => ∃ u : Value, vs[j]? = some u ∧ u.ownBlock = some k) x ((vs.drop (j * (Kd.slice e1 (Kd.int .i64)).sz)).take (Kd.slice e1 (Kd.int .i64)).sz) := by
  intro j x hx; have hjl := (List.getElem?_eq_some_iff.1 hx).1; have hu : vs[j]? = some (vs[j]'(by have := h.len; omega)) := List.getElem?_eq_getElem _; refine ⟨vs[j]'(by have := h.len; omega), ?_, ?_⟩
  ·show ((vs.drop (j * 1)).take 1) = _; rw [hone, hu]; rfl
  ·exact Kd.R_mono (int_R (h.row j _ x hu hx)) (fun k hk => ⟨_, hu, hk⟩)
 obtain ⟨f, hr⟩ := Kd.reps_tag (d := Kd.slice e1 (Kd.int .i64)) (w := w) (base := base) (ok := fun k => True ∧ some k ≠ v.ownBlock) (xs := xss) (inner := vs) (fun (j k : Nat) => ∃ u : Value, vs[j]? = some u ∧ u.ownBlock = some k) q1 q2 q3 q4; exact ⟨f, fun _ _ => trivial, vs, by rw [List.length_zipIdx, hl]; exact hown, hr⟩
theorem own_of_R {e1 : Nat} {w : World} {base : Nat} {ok : Nat → Prop} {u : Value} {x : List Int} (h : (Kd.int .i64).R e1 w base ok u x) : w.ownsRow base e1 1 u x.length (nums .i64 x) := by
 obtain ⟨_, inner, hrow, hrep⟩ := h
 have hin : inner = nums .i64 x := by
  have h1 : inner.length = x.length * 1 := hrep.1
  apply List.ext_getElem?
  intro q
  by_cases hq : q < x.length
  ·have h3 : (inner.drop (q * 1)).take 1 = [.int .i64 x[q]] := hrep.2 q _ (List.getElem?_eq_getElem hq)
   rw [Nat.mul_one, List.drop_eq_getElem_cons (by omega)] at h3
   have h5 : inner[q]'(by omega) = .int .i64 x[q] := by
    injection h3
   rw [List.getElem?_eq_getElem (by omega), h5]
   simp [nums, List.getElem?_eq_getElem hq]
  ·rw [List.getElem?_eq_none (by omega), List.getElem?_eq_none (by simp [nums]; omega)]
 rw [← hin]; exact hrow
end Go.Proofs.Ythjiajkmaimbjaa.P
namespace Go.Proofs.Ythjiajkmaimbjaa.P
open Go.Proofs.Ythjiajkmaimbjaa.B
open Go.RowKit Go.Proofs.YthjiajkmaimbjaaW.PrintWords Go.Proofs.YthjiajkmaimbjaaW.PrintLast Go.Proofs.YthjiajkmaimbjaaW.PrintMore
set_option linter.unusedVariables false
set_option linter.unusedSimpArgs false
theorem goesF_ {P : Program} {ops : Array Oper} {Q : Exit → Act → World → Prop} {oi : Oper} {N : Option Tmp} {a : Act} {w : World} {K0 : Act → World → Prop} {K : FuncId} (caps : Array Value) (hE : Enters P K) (args : Array Value)
  (hw : Region.wanted oi (yielded ops a.tmps) = true) (hN : oi.dst = N) {t : Tmp} {xs : Array Operand} {ts : Array TypeId} (hop : oi.op = .call { callee := .value (.tmp t), args := xs, argTypes := ts }) (ht : a.eval (.tmp t) = .func (.func K) #[] caps) (hargs : xs.map a.eval ++ caps = args)
  (h : Calls P K args w fun e w' => ∃ v, e = .returned v ∧ K0 (a.put N v) w') : if Region.wanted oi (yielded ops a.tmps) = true then Oper.wp P oi a w K0 Q else K0 (a.put N undef) w := by
 refine call_ K args hw hN ?_ h; have he := hE args w; unfold execOp
 simp [hop, resolve, Deferred.ofValue, invoke, ht, hargs, he]
end Go.Proofs.Ythjiajkmaimbjaa.P
namespace Go.Proofs.Ythjiajkmaimbjaa.P
open Go.Proofs.Ythjiajkmaimbjaa.B
open Go.RowKit Go.Proofs.YthjiajkmaimbjaaW.PrintWords Go.Proofs.YthjiajkmaimbjaaW.PrintLast Go.Proofs.YthjiajkmaimbjaaW.PrintMore
set_option linter.unusedVariables false
set_option linter.unusedSimpArgs false
theorem info_row : (Try.prog.info? 22).map (fun i => (i.zero, i.size, i.bytes)) = some (some (.slice none 0 0), 1, 24) := by kernel_rfl
theorem info_int : (Try.prog.info? 3).map (fun i => (i.zero, i.size, i.bytes)) = some (some (.int .i64 0), 1, 8) := by kernel_rfl
def tabOf (n m : Nat) (f : Nat → Nat → Int) : List (List Int) := (List.range n).map fun i => (List.range m).map fun j => f i j
theorem made_nil (n : Nat) : (madeCells (Value.slice none 0 0).cells (n * 1)).toList = List.replicate n (.slice none 0 0) := by
 apply List.ext_getElem
 ·simp [madeCells]
 ·intro i h1 h2
  simp [madeCells, Value.cells, Nat.mod_one]
theorem made_zero (n : Nat) : (madeCells (Value.int .i64 0).cells (n * 1)).toList = nums .i64 (List.replicate n 0) := by
 apply List.ext_getElem
 ·simp [madeCells, nums]
 ·intro i h1 h2
  simp [madeCells, Value.cells, nums, Nat.mod_one]
def rowTo (m : Nat) (h : Nat → Int) (j : Nat) : List Int := (List.range j).map h ++ List.replicate (m - j) 0
theorem rowTo_zero (m : Nat) (h : Nat → Int) : rowTo m h 0 = List.replicate m 0 := by simp [rowTo]
theorem rowTo_length (m : Nat) (h : Nat → Int) (j : Nat) (hj : j ≤ m) : (rowTo m h j).length = m := by
 simp [rowTo]
 omega
theorem rowTo_set (m : Nat) (h : Nat → Int) (j : Nat) (hj : j < m) : (rowTo m h j).set j (h j) = rowTo m h (j + 1) := by
 unfold rowTo
 obtain ⟨q, hq⟩ : ∃ q, m - j = q + 1 := ⟨m - j - 1, by omega⟩
 have hq2 : m - (j + 1) = q := by omega
 rw [hq, hq2, List.set_append_right _ _ (by simp), List.length_map, List.length_range, Nat.sub_self, List.replicate_succ, List.set_cons_zero, List.range_succ, List.map_append]
 simp
theorem tabOf_length (n m : Nat) (f : Nat → Nat → Int) : (tabOf n m f).length = n := by simp [tabOf]
theorem tabOf_succ (i m : Nat) (f : Nat → Nat → Int) : tabOf (i + 1) m f = tabOf i m f ++ [rowTo m (f i) m] := by
 simp [tabOf, rowTo, List.range_succ]
set_option maxHeartbeats 8000000 in
set_option maxRecDepth 100000 in
theorem table_any (F : Nat) (caps : Array Value) (f : Nat → Nat → Int) (n m : Nat) (hn : n ≤ 1048576) (hm : m ≤ 1048576) (w : World) (hE : Enters Try.prog F)
  (hF : ∀ (W : World), Below w.heap.size w W → ∀ i j : Nat, i < n → j < m → Calls Try.prog F (#[.int .i64 (i : Int), .int .i64 (j : Int)] ++ caps) W fun e w' => e = .returned (.int .i64 (f i j)) ∧ Drawn0 W w') :
  Calls Try.prog 60 #[.int .i64 (n : Int), .int .i64 (m : Int), .func (.func F) #[] caps] w fun e w' => ∃ v0_ : Value, e = .returned (v0_) ∧ Kd.S (Kd.slice 3 (Kd.int .i64)) 22 w' w.heap.size (fun _ => True) v0_ (tabOf n m f) ∧ Below w.heap.size w w' := by
 have HF := Aside0.mk hF; have HB := Aside0.mk (Below.refl w.heap.size w); clear hF; obtain ⟨i2, hi2, hz2, hs2, hb2⟩ := info_parts info_row; obtain ⟨i1, hi1, hz1, hs1, hb1⟩ := info_parts info_int; have Hi2 := Aside0.mk (And.intro hi2 (And.intro hz2 (And.intro hs2 hb2))); have Hi1 := Aside0.mk (And.intro hi1 (And.intro hz1 (And.intro hs1 hb1))); clear hi2 hz2 hs2 hb2 hi1 hz1 hs1 hb1; go_enter Try.func60, Try.ntmps60
 go_wp2_with (at_make; refine wpList_make_full _ rfl _ _ 23 rfl w.heap.size 22 i2 (.slice none 0 0) 1 Try.underlying23 Hi2.out.1 Hi2.out.2.1 Hi2.out.2.2.1 .i64 .i64 n n n rfl rfl rfl rfl ?c1 ?c2 (Nat.le_refl _) ?_; (case c1 => rw [Hi2.out.2.2.2]; omega); (case c2 => unfold maxLen; omega); intro w1 hown1 hg1; rw [made_nil] at hown1; have HB1 := Aside0.mk (Below.grown HB.out hg1 (Nat.le_refl _) (fun k hk => by cases hk)); have HT1 := Aside0.mk (Tab.made (e1 := 3) hown1); clear hown1 hg1)
 go_loopg [14] (n + 1) (fun kq v14 w' => ∃ (i : Nat) (vs : List Value), v14 = .int .i64 i ∧ Aside0 (i ≤ n ∧ kq = n + 1 - i ∧ vs.length = i) ∧ Aside0 (Tab 22 3 w' w.heap.size (.slice (some ⟨w.heap.size, 0, none⟩) n n) n vs (tabOf i m f)) ∧ Aside0 (Below w.heap.size w w'))
 case atStart => exact ⟨0, [], rfl, ⟨⟨by omega, by omega, rfl⟩⟩, HT1, HB1⟩
 case round =>
  obtain ⟨i, vs, rfl, HA, HT, HB2⟩ := hrel; clear HT1 HB1 HB
  by_cases hin : i < n
  ·have c4b0 : decide (i < n) = true := decide_eq_true hin
   have hi0 : (0 : Int) ≤ (i : Int) := Int.natCast_nonneg _
   go_wp2_with (first | (at_make; refine wpList_make_full _ rfl _ _ 22 rfl w.heap.size 3 i1 (.int .i64 0) 1 Try.underlying22 Hi1.out.1 Hi1.out.2.1 Hi1.out.2.2.1 .i64 .i64 m m m rfl rfl rfl rfl ?c1 ?c2 ?c3 ?_; (case c1 => rw [Hi1.out.2.2.2]; omega); (case c2 => unfold maxLen; omega); (case c3 => exact HB2.out.size); intro w3 hown3 hg3; rw [made_zero] at hown3; have HB3 := Aside0.mk (Below.grown HB2.out hg3 HB2.out.size (fun k hk => by cases hk)); have HT3 := Aside0.mk (HT.out.move (w' := w3) ⟨hg3.os, hg3.tape, hg3.output, hg3.size, fun k hk => hg3.block k hk (by simp)⟩); have HO3 := Aside0.mk hown3; have hx3 := (HT3.out.own.cellAt i (by have := HA.out; omega)); have hf3 := HT3.out.own.frozenAt i; have hx3' : w3.cell? ⟨w.heap.size, i, none⟩ = some (.slice none 0 0) := (hx3.trans (by have := HA.out; rw [List.getElem?_append_right (by omega), List.getElem?_replicate_of_lt (by omega)])); clear hx3 hown3 hg3) | ((with_reducible refine gate_store (t := 22) (p := 21) rfl ?_); refine store_event (t := 22) (p := 21) (v := ?vo) (w1 := (w3.setCell ⟨w.heap.size, i, none⟩ (.slice (some ⟨wr.heap.size, 0, none⟩) m m))) ?hg ?ho ?hn ?hr ?_; (case ho => rfl); (case hg => rfl); (case hn => rfl); (case hr => first | (go_simp; done) | (go_simp; rfl)); intro w4 hw))
   have HT4 := Aside0.mk (HT3.out.push (by decide) (by have := HA.out; omega) (u := .slice (some ⟨wr.heap.size, 0, none⟩) m m) (x := List.replicate m 0) (by rw [List.length_replicate]; exact HO3.out) (by
    intro u' hu' k hk hk2; obtain ⟨q, hq, rfl⟩ := List.mem_iff_getElem.1 hu'; obtain ⟨x, hx⟩ := HT.out.get (List.getElem?_eq_getElem hq); have h1 := own_lt (HT.out.row q _ x (List.getElem?_eq_getElem hq) hx) k hk2
    have h2 : k = wr.heap.size := by simpa [Value.ownBlock] using hk.symm
    omega))
   rw [HA.out.2.2] at HT4; have HB4 := Aside0.mk (Below.setCell HB3.out (p := ⟨w.heap.size, i, none⟩) (Nat.le_refl _) (.slice (some ⟨wr.heap.size, 0, none⟩) m m)); have HS := Aside0.mk HB2.out.size; clear HB3 HT3 HO3 HT HB2 hx3' hf3
   obtain ⟨wo, rfl⟩ : ∃ wo : World, wo = wr := ⟨_, rfl⟩
   obtain ⟨ko, rfl⟩ : ∃ ko : Nat, ko = gk := ⟨_, rfl⟩
   go_loopg [27] (m + 1) (fun kq v27 w' => ∃ (j : Nat), v27 = .int .i64 j ∧ Aside0 (j ≤ m ∧ kq = m + 1 - j) ∧ Aside0 (Tab 22 3 w' w.heap.size (.slice (some ⟨w.heap.size, 0, none⟩) n n) n (vs ++ [.slice (some ⟨wo.heap.size, 0, none⟩) m m]) (tabOf i m f ++ [rowTo m (f i) j])) ∧ Aside0 (Below w.heap.size w w'))
   case atStart => exact ⟨0, rfl, ⟨⟨by omega, by omega⟩⟩, ⟨by rw [rowTo_zero]; exact HT4.out⟩, HB4⟩
   case round =>
    obtain ⟨j, rfl, HA2, HT, HB2⟩ := hrel; clear HT4 HB4
    by_cases hjm : j < m
    ·have c5b0 : decide (j < m) = true := decide_eq_true hjm
     have hj0 : (0 : Int) ≤ (j : Int) := Int.natCast_nonneg _
     have hx1 : wr.cell? ⟨w.heap.size, i, none⟩ = some (.slice (some ⟨wo.heap.size, 0, none⟩) m m) :=
      (HT.out.own.cellAt i (by omega)).trans (by have := HA.out; rw [List.getElem?_append_left (by simp; omega), List.getElem?_append_right (by omega), this.2.2, Nat.sub_self]; rfl)
     have hrow := HT.out.row i (.slice (some ⟨wo.heap.size, 0, none⟩) m m) (rowTo m (f i) j) (by have := HA.out; rw [List.getElem?_append_right (by omega), this.2.2, Nat.sub_self]; rfl) (by rw [List.getElem?_append_right (by simp [tabOf]), tabOf_length, Nat.sub_self]; rfl); rw [rowTo_length _ _ _ (by omega)] at hrow
     obtain ⟨z, hz⟩ : ∃ z, wr.cell? ⟨wo.heap.size, j, none⟩ = some (.int .i64 z) := by
      refine ⟨(rowTo m (f i) j)[j]'(by rw [rowTo_length _ _ _ (by omega)]; exact hjm), (hrow.cellAt j (by omega)).trans ?_⟩
      simp [nums, List.getElem?_eq_getElem (show j < (rowTo m (f i) j).length by rw [rowTo_length _ _ _ (by omega)]; exact hjm)]
     have hf1 := hrow.frozenAt j; clear hrow
     go_wp2_with fail
     refine start_ (n := 11) (S := fun w' => w'.cell? ⟨w.heap.size, i, none⟩ = some (.slice (some ⟨wo.heap.size, 0, none⟩) m m)) (ds := [10]) #[fF, fF, fF, fF, fF, fF, fF, fF, fF, fF, fF] (by kernel_rfl) rfl rfl (hx1) (fun hHeld => ?_); refine pure_ (i := 0) (N := some 30) (v := ?_) (a' := ?_) #[tT, fF, fF, fF, fF, fF, fF, fF, fF, fF, fF] rfl rfl (by kernel_rfl) (fun _ _ _ h => h) (Or.inl ⟨by rfl, ?_⟩) ?_ ?_; rotate_left
     ·intro w'; go_simp; with_reducible rfl
     rotate_left
     ·simp only [Act.put, List.setIfInBounds_toArray, List.set_cons_zero, List.set_cons_succ, i64_w, i32_w]; rfl
     refine pure_ (i := 1) (N := some 31) (v := ?_) (a' := ?_) #[tT, tT, fF, fF, fF, fF, fF, fF, fF, fF, fF] rfl rfl (by kernel_rfl) (fun _ _ _ h => h) (Or.inl ⟨by rfl, ?_⟩) ?_ ?_; rotate_left
     ·intro w'; go_simp; with_reducible rfl
     rotate_left
     ·simp only [Act.put, List.setIfInBounds_toArray, List.set_cons_zero, List.set_cons_succ, i64_w, i32_w]; rfl
     refine pure_ (i := 2) (N := some 32) (v := ?_) (a' := ?_) #[tT, tT, tT, fF, fF, fF, fF, fF, fF, fF, fF] rfl rfl (by kernel_rfl) (fun _ _ _ h => h) (Or.inl ⟨by rfl, ?_⟩) ?_ ?_; rotate_left
     ·intro w'; go_simp; with_reducible rfl
     rotate_left
     ·simp only [Act.put, List.setIfInBounds_toArray, List.set_cons_zero, List.set_cons_succ, i64_w, i32_w]; rfl
     refine pure_ (i := 4) (N := some 34) (v := ?_) (a' := ?_) #[tT, tT, tT, fF, tT, fF, fF, fF, fF, fF, fF] rfl rfl (by kernel_rfl) (fun _ _ _ h => h) (Or.inl ⟨by rfl, ?_⟩) ?_ ?_; rotate_left
     ·intro w'; go_simp; with_reducible rfl
     rotate_left
     ·simp only [Act.put, List.setIfInBounds_toArray, List.set_cons_zero, List.set_cons_succ, i64_w, i32_w]; rfl
     refine pure_ (i := 5) (N := some 35) (v := ?_) (a' := ?_) #[tT, tT, tT, fF, tT, tT, fF, fF, fF, fF, fF] rfl rfl (by kernel_rfl) (fun _ _ _ h => h) (Or.inl ⟨by rfl, ?_⟩) ?_ ?_; rotate_left
     ·intro w'; go_simp; with_reducible rfl
     rotate_left
     ·simp only [Act.put, List.setIfInBounds_toArray, List.set_cons_zero, List.set_cons_succ, i64_w, i32_w]; rfl
     refine pure_ (i := 6) (N := some 36) (v := ?_) (a' := ?_) #[tT, tT, tT, fF, tT, tT, tT, fF, fF, fF, fF] rfl rfl (by kernel_rfl) (fun _ _ _ h => h) (Or.inl ⟨by rfl, ?_⟩) ?_ ?_; rotate_left
     ·intro w'; go_simp; with_reducible rfl
     rotate_left
     ·simp only [Act.put, List.setIfInBounds_toArray, List.set_cons_zero, List.set_cons_succ, i64_w, i32_w]; rfl
     refine pure_ (i := 7) (N := some 37) (v := ?_) (a' := ?_) #[tT, tT, tT, fF, tT, tT, tT, tT, fF, fF, fF] rfl rfl (by kernel_rfl) (fun _ _ _ h => h) (Or.inl ⟨by rfl, ?_⟩) ?_ ?_; rotate_left
     ·intro w'; go_simp; with_reducible rfl
     rotate_left
     ·simp only [Act.put, List.setIfInBounds_toArray, List.set_cons_zero, List.set_cons_succ, i64_w, i32_w]; rfl
     refine take_ (i := 3) (N := some 33) (v := ?_) (a' := ?_) #[tT, tT, tT, tT, tT, tT, tT, tT, fF, fF, fF] rfl rfl (by kernel_rfl) (fun _ _ _ h => h) (Or.inl ⟨by rfl, ?_⟩) hHeld ?_ ?_; rotate_left
     ·intro w' s0; go_simp; with_reducible rfl
     rotate_left
     ·simp only [Act.put, List.setIfInBounds_toArray, List.set_cons_zero, List.set_cons_succ, i64_w, i32_w]; rfl
     refine one_ (i := 8) (N := some 38) #[tT, tT, tT, tT, tT, tT, tT, tT, tT, fF, fF] rfl rfl (by kernel_rfl) (by decide) (fun K hK => ?_); refine goesF_ caps hE (#[.int .i64 (i : Int), .int .i64 (j : Int)] ++ caps) (by rfl) rfl rfl (by rfl) (by simp only [List.map_toArray, List.map_cons, List.map_nil]; rfl) ?_
     (with_reducible refine (HF.out _ ?hb i j hin hjm).mono ?_)
     case hb => repeat (first | exact HB2.out | apply below_alloc | apply pw_below_drewN | apply below_drew1)
     rintro e w3 ⟨rfl, ⟨n3, rfl⟩⟩; refine ⟨_, rfl, ?_⟩; refine hK.out _ _ (hHeld) (fun hHeld => ?_); clear hK K; refine norm_ (a' := ?_) ?_ ?_; rotate_left
     ·show Act.put _ (some 38) _ = _; simp only [Act.put, List.setIfInBounds_toArray, List.set_cons_zero, List.set_cons_succ, i64_w, i32_w]; rfl
     refine pure_ (i := 9) (N := some 39) (v := ?_) (a' := ?_) #[tT, tT, tT, tT, tT, tT, tT, tT, tT, tT, fF] rfl rfl (by kernel_rfl) (fun _ _ _ h => h) (Or.inl ⟨by rfl, ?_⟩) ?_ ?_; rotate_left
     ·intro w'; go_simp; with_reducible rfl
     rotate_left
     ·simp only [Act.put, List.setIfInBounds_toArray, List.set_cons_zero, List.set_cons_succ, i64_w, i32_w]; rfl
     refine last_ (i := 10) (N := none) #[tT, tT, tT, tT, tT, tT, tT, tT, tT, tT, tT] rfl rfl (by kernel_rfl) (by decide) (fun K hK => ?_); refine skip_ (w1 := ?_) (by rfl) rfl ?_ ?_; rotate_left
     ·go_simp; rfl
     refine hK.out _ _ ?_; clear hK K; refine done_ (by kernel_rfl) ?_; have HT5 := Aside0.mk (Tab.put (by decide) (HT.out.move (pw_below_drewN (Below.refl _ _) (1 + n3))) (j := i) (x := rowTo m (f i) j) (b := wo.heap.size) (m := m) (c := m) (by have := HA.out; rw [List.getElem?_append_right (by omega), this.2.2, Nat.sub_self]; rfl) (by rw [List.getElem?_append_right (by simp [tabOf]), tabOf_length, Nat.sub_self]; rfl) j (f i j)); go_wp2
     go_roundg (gk - 1)
     case measure => have := HA2.out; omega
     case rel => exact ⟨j + 1, by go_num, ⟨⟨by omega, by have := HA2.out; omega⟩⟩, ⟨by
      have h5 := HT5.out; rw [rowTo_set _ _ _ hjm, List.set_append_right _ _ (by simp [tabOf]), tabOf_length, Nat.sub_self, List.set_cons_zero] at h5
      exact h5⟩, ⟨Below.setCell (by repeat (first | exact HB2.out | apply below_alloc | apply pw_below_drewN | apply below_drew1)) (by show w.heap.size ≤ wo.heap.size; exact HS.out) _⟩⟩
    ·have c5b0 : decide (j < m) = false := decide_eq_false hjm
     obtain rfl : j = m := by have := HA2.out; omega
     go_wp2
     go_roundg (ko - 1)
     case measure => have := HA.out; omega
     case rel => exact ⟨i + 1, vs ++ [.slice (some ⟨wo.heap.size, 0, none⟩) j j], by go_num, ⟨⟨by omega, by have := HA.out; omega, by simp [HA.out.2.2]⟩⟩, ⟨by rw [tabOf_succ]; exact HT.out⟩, HB2⟩
  ·have c4b0 : decide (i < n) = false := decide_eq_false hin
   obtain rfl : i = n := by have := HA.out; omega
   go_wp2; go_ret; exact ⟨_, rfl, HT.out.S (by decide) HA.out.2.2, HB2.out⟩
end Go.Proofs.Ythjiajkmaimbjaa.P
namespace Go.Proofs.Ythjiajkmaimbjaa.P
open Go.Proofs.Ythjiajkmaimbjaa.B
open Go.RowKit Go.Proofs.YthjiajkmaimbjaaW.PrintWords Go.Proofs.YthjiajkmaimbjaaW.PrintLast Go.Proofs.YthjiajkmaimbjaaW.PrintMore
set_option linter.unusedVariables false
set_option linter.unusedSimpArgs false
def upFrom (a : Int) (n : Nat) : List Int := (List.range n).map fun (j : Nat) => a + (j : Int)
theorem upFrom_length (a : Int) (n : Nat) : (upFrom a n).length = n := by simp [upFrom]
theorem upFrom_succ (a : Int) (n : Nat) : upFrom a (n + 1) = upFrom a n ++ [a + (n : Int)] := by simp [upFrom, List.range_succ]
theorem grownBy_refl (w : World) (row : Option Nat) : w.grownBy w row := ⟨rfl, rfl, rfl, Nat.le_refl _, fun _ _ _ => rfl⟩
set_option maxHeartbeats 8000000 in
set_option maxRecDepth 100000 in
theorem markS_any (base : Nat) (u : Value) (xs : List Int) (a : Int) (w : World) (hown : w.ownsRow base 3 1 u xs.length (nums .i64 xs)) (h0 : 0 ≤ a) (h1 : a ≤ 4611686018427387904) (hn : xs.length ≤ 1048576) :
  Calls Try.prog 19 #[u, .int .i64 a] w fun e w' => e = .returned (.int .i64 (a + (xs.length : Int))) ∧ w'.ownsRow base 3 1 u xs.length (nums .i64 (upFrom a xs.length)) ∧ w.grownBy w' u.ownBlock := by
 have HO := Aside0.mk hown; obtain ⟨A, c, rfl⟩ := own_slice hown; clear hown; go_enter Try.func19, Try.ntmps19
 go_wp2_with fail
 go_loopg [1, 5] (xs.length + 1) (fun kq v1 v5 w' => ∃ (j : Nat), v1 = .int .i64 (a + (j : Int)) ∧ v5 = .int .i64 j ∧ Aside0 (j ≤ xs.length ∧ kq = xs.length + 1 - j) ∧ Aside0 (w'.ownsRow base 3 1 (.slice A xs.length c) xs.length (nums .i64 (upFrom a j ++ xs.drop j))) ∧ Aside0 (w.grownBy w' (Value.slice A xs.length c).ownBlock))
 case atStart => exact ⟨0, by simp, rfl, ⟨⟨by omega, by omega⟩⟩, ⟨by simpa [upFrom] using HO.out⟩, ⟨grownBy_refl _ _⟩⟩
 case round =>
  obtain ⟨j, rfl, rfl, HA, HR, HG⟩ := hrel; clear HO
  by_cases hj : j < xs.length
  ·have c4b0 : decide (j < xs.length) = true := decide_eq_true hj
   have hl : (upFrom a j ++ xs.drop j).length = xs.length := by rw [List.length_append, upFrom_length, List.length_drop]; omega
   obtain ⟨g, cap, hv, _, _⟩ := World.ownsRow.form HR.out (by omega); injection hv with hv hn' hc'; subst hv; subst hc'; clear hn'
   obtain ⟨z, hz⟩ : ∃ z, wr.cell? ⟨g, j, none⟩ = some (.int .i64 z) :=
    ⟨(upFrom a j ++ xs.drop j)[j]'(by omega), (HR.out.cellAt j (by omega)).trans (by simp only [nums]; rw [List.getElem?_map, List.getElem?_eq_getElem (by omega)]; rfl)⟩
   have hf := HR.out.frozenAt j; have hs := HR.out.stored j (.int .i64 (a + (j : Int)))
   have e : (nums .i64 (upFrom a j ++ xs.drop j)).set j (.int .i64 (a + (j : Int))) = nums .i64 (upFrom a (j + 1) ++ xs.drop (j + 1)) := by
    unfold nums; rw [← List.map_set, upFrom_succ, List.set_append_right _ _ (by rw [upFrom_length]; exact Nat.le_refl _), upFrom_length, Nat.sub_self, List.drop_eq_getElem_cons hj, List.set_cons_zero]
    simp
   rw [e] at hs; have HS := Aside0.mk hs; clear hs e; go_wp2
   go_roundg (gk - 1)
   case measure => have := HA.out; omega
   case rel => exact ⟨j + 1, by go_num, by go_num, ⟨⟨by omega, by have := HA.out; omega⟩⟩, ⟨HS.out.1⟩, ⟨World.grownBy.trans HG.out HS.out.2⟩⟩
  ·have c4b0 : decide (j < xs.length) = false := decide_eq_false hj
   obtain rfl : j = xs.length := by have := HA.out; omega
   go_wp2; go_ret; exact ⟨rfl, by have h := HR.out; rwa [List.drop_length, List.append_nil] at h, HG.out⟩
def total (xss : List (List Int)) : Nat := (xss.map List.length).sum
def marked : List (List Int) → Int → List (List Int)
 | [], _ => []
 | x :: xs, a => upFrom a x.length :: marked xs (a + (x.length : Int))
theorem marked_length (xs : List (List Int)) (a : Int) : (marked xs a).length = xs.length := by
 induction xs generalizing a with
 | nil => rfl
 | cons x xs ih => simp [marked, ih]
theorem total_append (xs ys : List (List Int)) : total (xs ++ ys) = total xs + total ys := by simp [total]
theorem total_cons (x : List Int) (xs : List (List Int)) : total (x :: xs) = x.length + total xs := by simp [total]
theorem marked_append (xs ys : List (List Int)) (a : Int) : marked (xs ++ ys) a = marked xs a ++ marked ys (a + (total xs : Int)) := by
 induction xs generalizing a with
 | nil => simp [marked, total]
 | cons x xs ih =>
  rw [List.cons_append, marked, marked, ih, total_cons]
  simp [Int.add_assoc]
def Seg (w : World) (lo hi : Nat) (v : Value) (xs : List (List Int)) : Prop := Kd.S (Kd.slice 3 (Kd.int .i64)) 22 w lo (fun k => k < hi) v xs
theorem Seg.of_S {w : World} {lo : Nat} {v : Value} {xs : List (List Int)} (h : Kd.S (Kd.slice 3 (Kd.int .i64)) 22 w lo (fun _ => True) v xs) : Seg w lo w.heap.size v xs :=
 Kd.S_mono (Kd.S_bound h) (fun _ hk => hk.2.2.1)
structure Moved (w w' : World) (lo hi : Nat) : Prop where
 os : w'.os = w.os
 tape : w'.tape = w.tape
 output : w'.output = w.output
 size : w.heap.size ≤ w'.heap.size
 block : ∀ k, k < w.heap.size → ¬ (lo ≤ k ∧ k < hi) → w'.heap[k]? = w.heap[k]?
theorem Moved.refl (w : World) (lo hi : Nat) : Moved w w lo hi := ⟨rfl, rfl, rfl, Nat.le_refl _, fun _ _ _ => rfl⟩
theorem Moved.trans {w w1 w2 : World} {lo hi : Nat} (h : Moved w w1 lo hi) (k : Moved w1 w2 lo hi) : Moved w w2 lo hi :=
 ⟨k.os.trans h.os, k.tape.trans h.tape, k.output.trans h.output, Nat.le_trans h.size k.size, fun i hi hn => (k.block i (Nat.lt_of_lt_of_le hi h.size) hn).trans (h.block i hi hn)⟩
theorem Moved.of_below {w w' : World} {lo hi : Nat} (h : Below w.heap.size w w') : Moved w w' lo hi := ⟨h.os, h.tape, h.output, h.size, fun k hk _ => h.block k hk⟩
theorem Moved.below {B lo hi : Nat} {w0 w w' : World} (h : Moved w w' lo hi) (hb : Below B w0 w) (hB : B ≤ w.heap.size) (hlo : B ≤ lo) : Below B w0 w' :=
 hb.trans ⟨h.os, h.tape, h.output, h.size, fun k hk => h.block k (by omega) (by omega)⟩
theorem Seg.move {w w' : World} {lo hi lo' hi' : Nat} {v : Value} {xs : List (List Int)} (h : Seg w lo hi v xs) (hm : Moved w w' lo' hi') (hd : hi ≤ lo' ∨ hi' ≤ lo) : Seg w' lo hi v xs :=
 Kd.S_mono (Kd.S_step (Kd.S_bound h) (fun k hk hlt => hm.block k hlt (by have h1 := hk.1; have h2 := hk.2.1; omega))) (fun _ hk => hk.1)
theorem Seg.below {w w' : World} {lo hi : Nat} {v : Value} {xs : List (List Int)} (h : Seg w lo hi v xs) (hb : Below w.heap.size w w') : Seg w' lo hi v xs := Kd.S_below h hb
theorem Seg.slice {w : World} {lo hi : Nat} {v : Value} {xs : List (List Int)} (h : Seg w lo hi v xs) : ∃ A c, v = .slice A xs.length c := Kd.S_slice h
theorem Seg.reads {w : World} {lo hi : Nat} {A : Option Addr} {n c : Nat} {xs : List (List Int)} (h : Seg w lo hi (.slice A n c) xs) : n = xs.length ∧ n ≤ c ∧ Kd.C (Kd.slice 3 (Kd.int .i64)) w A xs.length xs := Kd.S_reads' h
def Seg1 (w : World) (lo hi : Nat) (v : Value) (xs : List Int) : Prop := w.ownsRow lo 3 1 v xs.length (nums .i64 xs) ∧ ∀ k, v.ownBlock = some k → k < hi
theorem Seg1.own {w : World} {lo hi : Nat} {v : Value} {xs : List Int} (h : Seg1 w lo hi v xs) : w.ownsRow lo 3 1 v xs.length (nums .i64 xs) := h.1
theorem Seg1.move {w w' : World} {lo hi lo' hi' : Nat} {v : Value} {xs : List Int} (h : Seg1 w lo hi v xs) (hm : Moved w w' lo' hi') (hd : hi ≤ lo' ∨ hi' ≤ lo) : Seg1 w' lo hi v xs :=
 ⟨own_move h.1 (fun k hk => hm.block k (own_lt h.1 k hk) (by have h1 := own_base h.1 k hk; have h2 := h.2 k hk; omega)), h.2⟩
theorem Seg1.below {w w' : World} {lo hi : Nat} {v : Value} {xs : List Int} (h : Seg1 w lo hi v xs) (hb : Below w.heap.size w w') : Seg1 w' lo hi v xs := ⟨pw_own_below h.1 hb, h.2⟩
theorem Seg1.slice {w : World} {lo hi : Nat} {v : Value} {xs : List Int} (h : Seg1 w lo hi v xs) : ∃ A c, v = .slice A xs.length c := own_slice h.1
theorem Seg1.reads {w : World} {lo hi : Nat} {A : Option Addr} {n c : Nat} {xs : List Int} (h : Seg1 w lo hi (.slice A n c) xs) : n = xs.length ∧ n ≤ c ∧ Kd.C (Kd.int .i64) w A xs.length xs := Kd.R_reads' (int_R h.1)
set_option maxHeartbeats 8000000 in
set_option maxRecDepth 100000 in
theorem markSS_any (lo hi : Nat) (v : Value) (xs : List (List Int)) (a : Int) (w : World) (hS : Seg w lo hi v xs) (h0 : 0 ≤ a) (h1 : a + (total xs : Int) ≤ 4611686018427387904) (hn : total xs ≤ 1048576) :
  Calls Try.prog 20 #[v, .int .i64 a] w fun e w' => e = .returned (.int .i64 (a + (total xs : Int))) ∧ Seg w' lo hi v (marked xs a) ∧ Moved w w' lo hi := by
 have HS := Aside0.mk hS; obtain ⟨A, c, rfl⟩ := hS.slice; have hlen : xs.length ≤ 9223372036854775807 := hS.reads.2.2.2.1; clear hS; go_enter Try.func20, Try.ntmps20
 go_wp2_with fail
 go_loopg [1, 5] (xs.length + 1) (fun kq v1 v5 w' => ∃ (j : Nat), v1 = .int .i64 (a + (total (xs.take j) : Int)) ∧ v5 = .int .i64 j ∧ Aside0 (j ≤ xs.length ∧ kq = xs.length + 1 - j) ∧ Aside0 (Seg w' lo hi (.slice A xs.length c) (marked (xs.take j) a ++ xs.drop j)) ∧ Aside0 (Moved w w' lo hi))
 case atStart => exact ⟨0, by simp [total], rfl, ⟨⟨by omega, by omega⟩⟩, ⟨by simpa [marked] using HS.out⟩, ⟨Moved.refl _ _ _⟩⟩
 case round =>
  obtain ⟨j, rfl, rfl, HA, HR, HM⟩ := hrel; clear HS
  by_cases hj : j < xs.length
  ·have c4b0 : decide (j < xs.length) = true := decide_eq_true hj
   have hl : (marked (xs.take j) a ++ xs.drop j).length = xs.length := by rw [List.length_append, marked_length, List.length_take, List.length_drop]; omega
   obtain ⟨g, cap, hv, _, _, _⟩ := Kd.S_form HR.out (by omega); injection hv with hv hn' hc'; subst hv; subst hc'; clear hn'; obtain ⟨oki, cs, hcl, hM, hcc, hoki, hH⟩ := Kd.S_lend HR.out ([] : List Int) (j : Int) (by omega) (by omega); rw [Int.toNat_natCast] at hM hcc
   have hx : (marked (xs.take j) a ++ xs.drop j).getD j [] = xs[j] := by
    have hml : (marked (xs.take j) a).length = j := by rw [marked_length, List.length_take]; omega
    rw [List.getD_eq_getElem?_getD, List.getElem?_append_right (by omega), hml, Nat.sub_self, List.drop_eq_getElem_cons hj]; rfl
   rw [hx] at hM; obtain ⟨u, rfl, hok, inner, hrow, hrep⟩ := hM
   have hcell : wr.cell? ⟨g, j, none⟩ = some u := by
    have := hcc 0 u rfl; rw [show ((Kd.slice 3 (Kd.int .i64))).sz = 1 from rfl, Nat.mul_one, Nat.add_zero] at this; exact this
   have hin : inner = nums .i64 xs[j] := by
    have h1 := hrep.1
    apply List.ext_getElem?
    intro q
    by_cases hq : q < xs[j].length
    ·have h2 := hrep.2 q _ (List.getElem?_eq_getElem hq)
     have h3 : (inner.drop (q * 1)).take 1 = [.int .i64 (xs[j][q])] := h2; have h4 : inner.length = xs[j].length * 1 := h1; rw [Nat.mul_one, List.drop_eq_getElem_cons (by omega)] at h3
     have h5 : inner[q]'(by omega) = .int .i64 (xs[j][q]) := by
      injection h3
     rw [List.getElem?_eq_getElem (by omega), h5]
     simp [nums, List.getElem?_eq_getElem hq]
    ·have h4 : inner.length = xs[j].length * 1 := h1; rw [List.getElem?_eq_none (by omega), List.getElem?_eq_none (by simp [nums]; omega)]
   subst hin; have HROW := Aside0.mk hrow; have HH := Aside0.mk hH; have HOK := Aside0.mk (And.intro hok hoki)
   have ht : total (xs.take (j + 1)) = total (xs.take j) + xs[j].length := by
    rw [List.take_succ_eq_append_getElem hj, total_append]
    simp [total]
   have ht2 : total (xs.take j) + xs[j].length ≤ total xs := by
    have h6 : total xs = total (xs.take j) + total (xs.drop j) := by rw [← total_append, List.take_append_drop]
    rw [List.drop_eq_getElem_cons hj, total_cons] at h6; omega
   have HT := Aside0.mk (And.intro ht ht2)
   have hbound : xs[j].length ≤ 1048576 := by omega
   have hbound2 : a + (total (xs.take j) : Int) ≤ 4611686018427387904 := by omega
   clear hrow hH hok hoki hcl hcc hrep hx hl ht ht2
   go_wp2_with (go_at_call 19; (with_reducible refine (markS_any lo u xs[j] (a + (total (xs.take j) : Int)) _ HROW.out (by omega) hbound2 hbound).mono ?_); rintro e w2 ⟨rfl, hr2, hg2⟩; have HR2 := Aside0.mk hr2; have HG2 := Aside0.mk hg2; clear hr2 hg2)
   have hu : u.oneCell' = true := (Kd.R_val (int_R HROW.out)).2; have HS2 := Aside0.mk (Kd.H_back (x' := upFrom (a + (total (xs.take j) : Int)) xs[j].length) (Kd.H_grown HH.out HG2.out (fun k hk => HOK.out.1 k hk)) (okp := fun k => u.ownBlock = some k) ⟨u, rfl, int_R (by rw [upFrom_length]; exact HR2.out)⟩ (fun k hk => HOK.out.1 k hk)); rw [Int.toNat_natCast] at HS2
   go_roundg (gk - 1)
   case measure => have := HA.out; omega
   case rel =>
    refine ⟨j + 1, by rw [HT.out.1]; go_num, by go_num, ⟨⟨by omega, by have := HA.out; omega⟩⟩, ⟨?_⟩, ⟨HM.out.trans ?_⟩⟩
    ·have h := HS2.out
     have hml : (marked (xs.take j) a).length = j := by rw [marked_length, List.length_take]; omega
     rw [List.set_append_right _ _ (by omega), hml, Nat.sub_self, List.drop_eq_getElem_cons hj, List.set_cons_zero] at h; rw [List.take_succ_eq_append_getElem hj, marked_append]; unfold Seg
     simpa [marked] using h
    ·refine ⟨HG2.out.os, HG2.out.tape, HG2.out.output, HG2.out.size, fun k hk hn => HG2.out.block k hk (fun he => hn ?_)⟩; have h1 := HOK.out.1 k he.symm; have h2 := HROW.out.lt k he.symm; exact ⟨h2.1, (HOK.out.2 k h1).1⟩
  ·have c4b0 : decide (j < xs.length) = false := decide_eq_false hj
   obtain rfl : j = xs.length := by have := HA.out; omega
   go_wp2; go_ret; exact ⟨by rw [List.take_length]; rfl, by have h := HR.out; rwa [List.drop_length, List.take_length, List.append_nil] at h, HM.out⟩
end Go.Proofs.Ythjiajkmaimbjaa.P
namespace Go.Proofs.Ythjiajkmaimbjaa.P
open Go.Proofs.Ythjiajkmaimbjaa.B
open Go.RowKit Go.Proofs.YthjiajkmaimbjaaW.PrintWords Go.Proofs.YthjiajkmaimbjaaW.PrintLast Go.Proofs.YthjiajkmaimbjaaW.PrintMore
set_option linter.unusedVariables false
set_option linter.unusedSimpArgs false
def tabR (n m : Nat) (F : Nat → Nat → Option Int) : Option (List (List Int)) := if (∀ i, i < n → ∀ j, j < m → (F i j).isSome = true) then some (tabOf n m fun i j => (F i j).getD 0) else none
theorem tabOf_congr {n m : Nat} {f g : Nat → Nat → Int} (h : ∀ i, i < n → ∀ j, j < m → f i j = g i j) : tabOf n m f = tabOf n m g := by
 unfold tabOf; refine List.map_congr_left (fun i hi => List.map_congr_left (fun j hj => ?_)); exact h i (List.mem_range.mp hi) j (List.mem_range.mp hj)
theorem tabR_some {n m : Nat} {F : Nat → Nat → Option Int} {r : List (List Int)} (h : tabR n m F = some r) : ∃ f : Nat → Nat → Int, (∀ i, i < n → ∀ j, j < m → F i j = some (f i j)) ∧ r = tabOf n m f := by
 unfold tabR at h
 by_cases c : ∀ i, i < n → ∀ j, j < m → (F i j).isSome = true
 ·rw [if_pos c] at h
  refine ⟨fun i j => (F i j).getD 0, fun i hi j hj => ?_, (Option.some.inj h).symm⟩; obtain ⟨v, hv⟩ := Option.isSome_iff_exists.mp (c i hi j hj); show F i j = some ((F i j).getD 0)
  rw [hv]; rfl
 ·rw [if_neg c] at h
  cases h
theorem tabR_of {n m : Nat} {F : Nat → Nat → Option Int} {f : Nat → Nat → Int} (h : ∀ i, i < n → ∀ j, j < m → F i j = some (f i j)) : tabR n m F = some (tabOf n m f) := by
 unfold tabR; rw [if_pos (fun i hi j hj => by rw [h i hi j hj]; rfl)]
 congr 1
 exact tabOf_congr (fun i hi j hj => by show (F i j).getD 0 = f i j; rw [h i hi j hj]; rfl)
theorem ev_upTo {α : Nat → Type} {n : Nat} {F : (i : Nat) → Nat → Option (α i)} {f : (i : Nat) → α i} (h : ∀ i, i < n → Ev (F i) (f i)) : ∃ K, ∀ k, K ≤ k → ∀ i, i < n → F i k = some (f i) := by
 induction n with
 | zero => exact ⟨0, fun k _ i hi => by omega⟩
 | succ n ih =>
  obtain ⟨K, hK⟩ := ih (fun i hi => h i (by omega)); obtain ⟨K', hK'⟩ := h n (by omega); refine ⟨K + K', fun k hk i hi => ?_⟩
  by_cases e : i = n
  ·subst e; exact hK' k (by omega)
  ·exact hK k (by omega) i (by omega)
theorem ev_tabR {n m : Nat} {F : Nat → Nat → Nat → Option Int} {f : Nat → Nat → Int} (h : ∀ i, i < n → ∀ j, j < m → Ev (fun k => F k i j) (f i j)) : Ev (fun k => tabR n m (F k)) (tabOf n m f) := by
 have h1 : ∀ i, i < n → Ev (fun k => if (∀ j, j < m → F k i j = some (f i j)) then some () else none) () := by
  intro i hi; obtain ⟨K, hK⟩ := ev_upTo (F := fun j k => F k i j) (h i hi)
  exact ⟨K, fun k hk => by
   have h2 : ∀ j, j < m → F k i j = some (f i j) := hK k hk
   exact if_pos h2⟩
 obtain ⟨K, hK⟩ := ev_upTo (F := fun i k => if (∀ j, j < m → F k i j = some (f i j)) then some () else none) h1; refine ⟨K, fun k hk => tabR_of (fun i hi => ?_)⟩; have : (if (∀ j, j < m → F k i j = some (f i j)) then some () else none) = some () := hK k hk i hi
 by_cases c : ∀ j, j < m → F k i j = some (f i j)
 ·exact c
 ·rw [if_neg c] at this
  cases this
end Go.Proofs.Ythjiajkmaimbjaa.P
namespace Go.Proofs.Ythjiajkmaimbjaa.P
open Go.Proofs.Ythjiajkmaimbjaa.B
open Go.RowKit Go.Proofs.YthjiajkmaimbjaaW.PrintWords Go.Proofs.YthjiajkmaimbjaaW.PrintLast Go.Proofs.YthjiajkmaimbjaaW.PrintMore
set_option linter.unusedVariables false
set_option linter.unusedSimpArgs false
end Go.Proofs.Ythjiajkmaimbjaa.P
