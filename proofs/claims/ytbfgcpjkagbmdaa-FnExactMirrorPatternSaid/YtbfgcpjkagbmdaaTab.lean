/- Tables ([][]int) that a call makes row by row: what is known of one while it is made, and that it is a row of rows that lie apart. -/
import Derived.Test.YtbfgcpjkagbmdaaF0
import Derived.Test.YtbfgcpjkagbmdaaB
namespace Go.Proofs.Ytbfgcpjkagbmdaa.P
open Go.Proofs.Ytbfgcpjkagbmdaa.B
open Go.RowKit Go.Proofs.YtbfgcpjkagbmdaaW.PrintWords Go.Proofs.YtbfgcpjkagbmdaaW.PrintLast Go.Proofs.YtbfgcpjkagbmdaaW.PrintMore
set_option linter.unusedVariables false
set_option linter.unusedSimpArgs false
/-- A table of n rows: the first ones (vs) are made, each of numbers of its own; the others are still nil. e2: the type of the rows, e1: that of the numbers. -/
structure Tab (e2 e1 : Nat) (w : World) (base : Nat) (v : Value) (n : Nat) (vs : List Value) (xss : List (List Int)) : Prop where
  own : w.ownsRow base e2 1 v n (vs ++ List.replicate (n - vs.length) (.slice none 0 0))
  len : vs.length = xss.length
  le : vs.length ≤ n
  row : ∀ (j : Nat) (u : Value) (x : List Int), vs[j]? = some u → xss[j]? = some x → w.ownsRow base e1 1 u x.length (nums .i64 x)
  ap : ∀ (i j : Nat) (u u' : Value), vs[i]? = some u → vs[j]? = some u' → i ≠ j → ∀ k, u.ownBlock = some k → u'.ownBlock ≠ some k
theorem Tab.get {e2 e1 : Nat} {w : World} {base n : Nat} {v : Value} {vs : List Value} {xss : List (List Int)} (h : Tab e2 e1 w base v n vs xss) {j : Nat} {u : Value} (hu : vs[j]? = some u) : ∃ x, xss[j]? = some x := by
  have := (List.getElem?_eq_some_iff.1 hu).1
  exact ⟨xss[j]'(by have := h.len; omega), List.getElem?_eq_getElem _⟩
theorem Tab.move {e2 e1 : Nat} {w w' : World} {base n : Nat} {v : Value} {vs : List Value} {xss : List (List Int)} (h : Tab e2 e1 w base v n vs xss) (hb : Below w.heap.size w w') : Tab e2 e1 w' base v n vs xss where
  own := pw_own_below h.own hb
  len := h.len
  le := h.le
  row := fun j u x hu hx => pw_own_below (h.row j u x hu hx) hb
  ap := h.ap
theorem Tab.made {e2 e1 : Nat} {w : World} {base n : Nat} {v : Value} (h : w.ownsRow base e2 1 v n (List.replicate n (.slice none 0 0))) : Tab e2 e1 w base v n [] [] where
  own := by simpa using h
  len := rfl
  le := Nat.zero_le _
  row := by simp
  ap := by simp
theorem Tab.push {e2 e1 : Nat} (he : e2 ≠ e1) {w : World} {base n g c : Nat} {vs : List Value} {xss : List (List Int)} (h : Tab e2 e1 w base (.slice (some ⟨g, 0, none⟩) n c) n vs xss) (hlt : vs.length < n) {u : Value} {x : List Int}
    (hu : w.ownsRow base e1 1 u x.length (nums .i64 x)) (hap : ∀ u' ∈ vs, ∀ k, u.ownBlock = some k → u'.ownBlock ≠ some k) : Tab e2 e1 (w.setCell ⟨g, vs.length, none⟩ u) base (.slice (some ⟨g, 0, none⟩) n c) n (vs ++ [u]) (xss ++ [x]) := by
  have hs := (h.own.stored vs.length u)
  have hne : ∀ {y : List Int} {z : Value}, w.ownsRow base e1 1 z y.length (nums .i64 y) → (w.setCell ⟨g, vs.length, none⟩ u).ownsRow base e1 1 z y.length (nums .i64 y) := by
    intro y z hz
    refine own_other hz hs.2 ?_
    rcases own_type_ne hz h.own (Ne.symm he) with h1 | h1
    · exact .inl h1
    · exact .inr (by simpa [Value.ownBlock] using h1)
  refine ⟨?_, by simp [h.len], by simp; omega, ?_, ?_⟩
  · have e : (vs ++ List.replicate (n - vs.length) (Value.slice none 0 0)).set vs.length u = (vs ++ [u]) ++ List.replicate (n - (vs ++ [u]).length) (.slice none 0 0) := by
      obtain ⟨m, hm⟩ : ∃ m, n - vs.length = m + 1 := ⟨n - vs.length - 1, by omega⟩
      have hm2 : n - (vs ++ [u]).length = m := by simp; omega
      rw [hm, hm2, List.set_append_right _ _ (Nat.le_refl _), Nat.sub_self, List.replicate_succ, List.set_cons_zero]
      simp
    rw [← e]
    exact hs.1
  · intro j u' x' hu' hx'
    rcases Nat.lt_trichotomy j vs.length with hj | hj | hj
    · rw [List.getElem?_append_left hj] at hu'
      rw [List.getElem?_append_left (by have := h.len; omega)] at hx'
      exact hne (h.row j u' x' hu' hx')
    · subst hj
      rw [List.getElem?_append_right (Nat.le_refl _), Nat.sub_self] at hu'
      rw [h.len, List.getElem?_append_right (Nat.le_refl _), Nat.sub_self] at hx'
      obtain rfl : u = u' := by simpa using hu'
      obtain rfl : x = x' := by simpa using hx'
      exact hne hu
    · have := (List.getElem?_eq_some_iff.1 hu').1
      simp at this
      omega
  · intro i j u1 u2 h1 h2 hij k hk
    have li := (List.getElem?_eq_some_iff.1 h1).1
    have lj := (List.getElem?_eq_some_iff.1 h2).1
    simp at li lj
    by_cases hi : i < vs.length
    · rw [List.getElem?_append_left hi] at h1
      by_cases hj : j < vs.length
      · rw [List.getElem?_append_left hj] at h2
        exact h.ap i j u1 u2 h1 h2 hij k hk
      · obtain rfl : j = vs.length := by omega
        rw [List.getElem?_append_right (Nat.le_refl _), Nat.sub_self] at h2
        obtain rfl : u = u2 := by simpa using h2
        intro hk2
        exact hap u1 (List.mem_of_getElem? h1) k hk2 hk
    · obtain rfl : i = vs.length := by omega
      rw [List.getElem?_append_right (Nat.le_refl _), Nat.sub_self] at h1
      obtain rfl : u = u1 := by simpa using h1
      by_cases hj : j < vs.length
      · rw [List.getElem?_append_left hj] at h2
        exact hap u2 (List.mem_of_getElem? h2) k hk
      · omega
theorem Tab.put {e2 e1 : Nat} (he : e2 ≠ e1) {w : World} {base n b m c : Nat} {v : Value} {vs : List Value} {xss : List (List Int)} (h : Tab e2 e1 w base v n vs xss) {j : Nat} {x : List Int} (hu : vs[j]? = some (.slice (some ⟨b, 0, none⟩) m c)) (hx : xss[j]? = some x) (t : Nat) (y : Int) :
    Tab e2 e1 (w.setCell ⟨b, t, none⟩ (.int .i64 y)) base v n vs (xss.set j (x.set t y)) := by
  have hr := h.row j _ x hu hx
  obtain rfl : m = x.length := by
    obtain ⟨A, c', hv⟩ := own_slice hr
    injection hv
  have hs := hr.stored t (.int .i64 y)
  have hjl := (List.getElem?_eq_some_iff.1 hx).1
  refine ⟨?_, by simp [h.len], h.le, ?_, h.ap⟩
  · refine own_other h.own hs.2 ?_
    rcases own_type_ne h.own hr he with h1 | h1
    · exact .inl h1
    · exact .inr (by simpa [Value.ownBlock] using h1)
  · intro i u' x' hu' hx'
    by_cases hij : i = j
    · subst hij
      rw [hu] at hu'
      injection hu' with hu'
      subst hu'
      rw [List.getElem?_set_self hjl] at hx'
      injection hx' with hx'
      subst hx'
      have e : (nums .i64 x).set t (.int .i64 y) = nums .i64 (x.set t y) := by simp [nums, List.map_set]
      rw [List.length_set, ← e]
      exact hs.1
    · rw [List.getElem?_set_ne (Ne.symm hij)] at hx'
      refine own_other (h.row i u' x' hu' hx') hs.2 ?_
      by_cases hn : u'.ownBlock = some b
      · exact absurd hn (h.ap j i _ u' hu hu' (Ne.symm hij) b (by simp [Value.ownBlock]))
      · exact .inr hn
theorem reps_nums (x : List Int) : Reps (fun (p : Int) (c : List Value) => c = [Value.int .i64 p]) 1 x (nums .i64 x) := by
  refine ⟨by simp [nums], fun j p hj => ?_⟩
  have hl := (List.getElem?_eq_some_iff.1 hj).1
  have hp := (List.getElem?_eq_some_iff.1 hj).2
  rw [Nat.mul_one]
  have h1 : (nums .i64 x)[j]? = some (.int .i64 p) := by simp [nums, hj]
  have hl2 : j < (nums .i64 x).length := by simp [nums]; exact hl
  rw [List.drop_eq_getElem_cons hl2]
  rw [List.getElem?_eq_getElem hl2] at h1
  injection h1 with h1
  rw [h1]
  rfl
theorem int_R {e1 : Nat} {w : World} {base : Nat} {u : Value} {x : List Int} (h : w.ownsRow base e1 1 u x.length (nums .i64 x)) : (Kd.int .i64).R e1 w base (fun k => u.ownBlock = some k) u x :=
  ⟨fun _ hk => hk, nums .i64 x, h, reps_nums x⟩
theorem Tab.S {e2 e1 : Nat} (he : e2 ≠ e1) {w : World} {base n : Nat} {v : Value} {vs : List Value} {xss : List (List Int)} (h : Tab e2 e1 w base v n vs xss) (hn : vs.length = n) : Kd.S (Kd.slice e1 (Kd.int .i64)) e2 w base (fun _ => True) v xss := by
  have hl : xss.length = n := by have := h.len; omega
  have hown := h.own
  rw [hn, Nat.sub_self] at hown
  simp only [List.replicate_zero, List.append_nil] at hown
  have hself : ∀ (j : Nat) (u : Value), vs[j]? = some u → ∀ k, u.ownBlock = some k → some k ≠ v.ownBlock := by
    intro j u hu k hk hv
    obtain ⟨x, hx⟩ := h.get hu
    have hr := h.row j u x hu hx
    rcases own_type_ne hr hown (Ne.symm he) with h1 | h1
    · rw [hk] at h1; cases h1
    · exact h1 (hk.trans hv)
  have hone : ∀ (j : Nat), ((vs.drop (j * 1)).take 1) = (vs[j]?).toList := by
    intro j
    rw [Nat.mul_one]
    by_cases hj : j < vs.length
    · rw [List.drop_eq_getElem_cons hj, List.getElem?_eq_getElem hj]; rfl
    · rw [List.drop_eq_nil_of_le (by omega), List.getElem?_eq_none (by omega)]; rfl
  have q1 : ∀ (i j k : Nat), (∃ u : Value, vs[i]? = some u ∧ u.ownBlock = some k) → (∃ u : Value, vs[j]? = some u ∧ u.ownBlock = some k) → i = j := by
    rintro i j k ⟨u, hu, hk⟩ ⟨u', hu', hk'⟩
    by_cases hij : i = j
    · exact hij
    · exact absurd hk' (h.ap i j u u' hu hu' hij k hk)
  have q2 : ∀ (j k : Nat), (∃ u : Value, vs[j]? = some u ∧ u.ownBlock = some k) → True ∧ some k ≠ v.ownBlock := by
    rintro j k ⟨u, hu, hk⟩
    exact ⟨trivial, hself j u hu k hk⟩
  have q3 : vs.length = xss.length * (Kd.slice e1 (Kd.int .i64)).sz := by
    show vs.length = xss.length * 1
    have := h.len
    omega
  have q4 : ∀ (j : Nat) (x : List Int), xss[j]? = some x → (Kd.slice e1 (Kd.int .i64)).M w base (fun k => ∃ u : Value, vs[j]? = some u ∧ u.ownBlock = some k) x ((vs.drop (j * (Kd.slice e1 (Kd.int .i64)).sz)).take (Kd.slice e1 (Kd.int .i64)).sz) := by
    intro j x hx
    have hjl := (List.getElem?_eq_some_iff.1 hx).1
    have hu : vs[j]? = some (vs[j]'(by have := h.len; omega)) := List.getElem?_eq_getElem _
    refine ⟨vs[j]'(by have := h.len; omega), ?_, ?_⟩
    · show ((vs.drop (j * 1)).take 1) = _
      rw [hone, hu]
      rfl
    · exact Kd.R_mono (int_R (h.row j _ x hu hx)) (fun k hk => ⟨_, hu, hk⟩)
  obtain ⟨f, hr⟩ := Kd.reps_tag (d := Kd.slice e1 (Kd.int .i64)) (w := w) (base := base) (ok := fun k => True ∧ some k ≠ v.ownBlock) (xs := xss) (inner := vs) (fun (j k : Nat) => ∃ u : Value, vs[j]? = some u ∧ u.ownBlock = some k) q1 q2 q3 q4
  exact ⟨f, fun _ _ => trivial, vs, by rw [List.length_zipIdx, hl]; exact hown, hr⟩
/-- A row of numbers of its own, as its block tells it. -/
theorem own_of_R {e1 : Nat} {w : World} {base : Nat} {ok : Nat → Prop} {u : Value} {x : List Int} (h : (Kd.int .i64).R e1 w base ok u x) : w.ownsRow base e1 1 u x.length (nums .i64 x) := by
  obtain ⟨_, inner, hrow, hrep⟩ := h
  have hin : inner = nums .i64 x := by
    have h1 : inner.length = x.length * 1 := hrep.1
    apply List.ext_getElem?
    intro q
    by_cases hq : q < x.length
    · have h3 : (inner.drop (q * 1)).take 1 = [.int .i64 x[q]] := hrep.2 q _ (List.getElem?_eq_getElem hq)
      rw [Nat.mul_one, List.drop_eq_getElem_cons (by omega)] at h3
      have h5 : inner[q]'(by omega) = .int .i64 x[q] := by
        injection h3
      rw [List.getElem?_eq_getElem (by omega), h5]
      simp [nums, List.getElem?_eq_getElem hq]
    · rw [List.getElem?_eq_none (by omega), List.getElem?_eq_none (by simp [nums]; omega)]
  rw [← hin]
  exact hrow
end Go.Proofs.Ytbfgcpjkagbmdaa.P
