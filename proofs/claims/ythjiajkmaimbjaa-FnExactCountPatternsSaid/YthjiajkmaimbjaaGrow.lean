/- A variable in a box that a closure makes grow: a list of rows, each of memory of its own. -/
import Derived.Test.YthjiajkmaimbjaaTab
import Derived.RangeFuncBox
namespace Go.Proofs.Ythjiajkmaimbjaa.P
open Go.Proofs.Ythjiajkmaimbjaa.B
open Go.RowKit Go.Proofs.YthjiajkmaimbjaaW.PrintWords Go.Proofs.YthjiajkmaimbjaaW.PrintLast Go.Proofs.YthjiajkmaimbjaaW.PrintMore
set_option linter.unusedVariables false
set_option linter.unusedSimpArgs false
/-- A box of a list of rows that a call makes grow. w0: where the whole began; ok: which blocks the rows may be. -/
structure OutSt (w0 W : World) (b : Nat) (ok : Nat → Prop) (v : Value) (xs : List (List Int)) : Prop where
  below : Below w0.heap.size w0 W
  box : Boxed W b 23 v
  out : Kd.S (Kd.slice 3 (Kd.int .i64)) 22 W w0.heap.size ok v xs
  lo : w0.heap.size ≤ b
  ne : ∀ k, ok k → k ≠ b
  fresh : ∀ k, W.heap.size ≤ k → ok k
/-- What such a call leaves as it was, and where the list lies behind it. -/
structure Grew (W W' : World) (b : Nat) (v v' : Value) : Prop where
  kept : Kept W W' (fun k => k = b ∨ v.ownBlock = some k)
  at_ : v'.ownBlock = v.ownBlock ∨ ∀ k, v'.ownBlock = some k → W.heap.size ≤ k
theorem Grew.refl (W : World) (b : Nat) (v : Value) : Grew W W b v v := ⟨Kept.refl _ _, .inl rfl⟩
theorem Grew.of_below {W W' : World} (h : Below W.heap.size W W') (b : Nat) (v : Value) : Grew W W' b v v := ⟨Kept.of_below h _, .inl rfl⟩
theorem Grew.trans {W W1 W2 : World} {b : Nat} {v v1 v2 : Value} (h : Grew W W1 b v v1) (k : Grew W1 W2 b v1 v2) : Grew W W2 b v v2 where
  kept := h.kept.then_ k.kept (fun k hk => by
    rcases hk with hk | hk
    · exact .inl (.inl hk)
    · rcases h.at_ with e | e
      · exact .inl (.inr (by rw [← e]; exact hk))
      · exact .inr (e k hk))
  at_ := by
    rcases k.at_ with e | e
    · rcases h.at_ with e2 | e2
      · exact .inl (e.trans e2)
      · exact .inr (fun k hk => e2 k (by rw [← e]; exact hk))
    · exact .inr (fun k hk => Nat.le_trans h.kept.1 (e k hk))
theorem OutSt.move {w0 W W' : World} {b : Nat} {ok : Nat → Prop} {v : Value} {xs : List (List Int)} (h : OutSt w0 W b ok v xs) (hb : Below W.heap.size W W') : OutSt w0 W' b ok v xs where
  below := below_step h.below hb
  box := (hb.block b h.box.lt).trans h.box
  out := Kd.S_below h.out hb
  lo := h.lo
  ne := h.ne
  fresh := fun k hk => h.fresh k (Nat.le_trans hb.size hk)
/-- Fewer blocks may be the rows': those that are not of u. -/
theorem OutSt.less {w0 W : World} {b : Nat} {ok : Nat → Prop} {v u : Value} {xs : List (List Int)} (h : OutSt w0 W b ok v xs) (ho : Kd.S (Kd.slice 3 (Kd.int .i64)) 22 W w0.heap.size (fun k => ok k ∧ some k ≠ u.ownBlock) v xs) (hu : ∀ k, u.ownBlock = some k → k < W.heap.size) : OutSt w0 W b (fun k => ok k ∧ some k ≠ u.ownBlock) v xs where
  below := h.below
  box := h.box
  out := ho
  lo := h.lo
  ne := fun k hk => h.ne k hk.1
  fresh := fun k hk => ⟨h.fresh k hk, fun e => by have := hu k e.symm; omega⟩
theorem OutSt.more {w0 W : World} {b : Nat} {ok ok' : Nat → Prop} {v : Value} {xs : List (List Int)} (h : OutSt w0 W b ok v xs) (hok : ∀ k, ok k → ok' k) (hne : ¬ ok' b) : OutSt w0 W b ok' v xs where
  below := h.below
  box := h.box
  out := Kd.S_mono h.out hok
  lo := h.lo
  ne := fun k hk e => hne (by rw [← e]; exact hk)
  fresh := fun k hk => hok k (h.fresh k hk)
theorem OutSt.own {w0 W : World} {b : Nat} {ok : Nat → Prop} {v : Value} {xs : List (List Int)} (h : OutSt w0 W b ok v xs) : ∀ k, v.ownBlock = some k → ok k := (Kd.S_R h.out).1
/-- A cell that is none of the list's. -/
theorem Grew.cell {W W' : World} {b : Nat} {v v' : Value} (h : Grew W W' b v v') {a : Addr} {u : Value} (hc : W.cell? a = some u) (h1 : a.block ≠ b) (h2 : v.ownBlock ≠ some a.block) : W'.cell? a = some u :=
  Go.Proofs.YthjiajkmaimbjaaW.PrintWords.cell_kept hc h.kept (fun hk => hk.elim h1 h2)
theorem Grew.row {W W' : World} {b : Nat} {v v' : Value} (h : Grew W W' b v v') {base : Nat} {ok : Nat → Prop} {u : Value} {ys : List Int} (hr : (Kd.int .i64).R 3 W base ok u ys) (h1 : ∀ k, u.ownBlock = some k → k ≠ b) (h2 : ∀ k, u.ownBlock = some k → v.ownBlock ≠ some k) : (Kd.int .i64).R 3 W' base ok u ys :=
  Kd.R_mono (Kd.R_kept (Kd.R_mono (ok' := fun k => u.ownBlock = some k ∧ ok k) (Kd.R_tight rfl hr) (fun k hk => ⟨hk.symm, hr.1 k hk.symm⟩)) h.kept (fun k hk e => e.elim (h1 k hk.1) (h2 k hk.1))) (fun _ hk => hk.2)
/-- The list has grown by a row, and the box has been written. -/
theorem out_pushed {w0 W w1 : World} {b : Nat} {ok : Nat → Prop} {v v1 : Value} {xs ys : List (List Int)} (h : OutSt w0 W b ok v xs) (hs : Kd.S (Kd.slice 3 (Kd.int .i64)) 22 w1 w0.heap.size ok v1 ys) (hb : Below w0.heap.size w0 w1) (hg : W.grownBy w1 v.ownBlock) (hat : v1.ownBlock = v.ownBlock ∨ ∃ k, v1.ownBlock = some k ∧ W.heap.size ≤ k) :
    w1.cell? ⟨b, 0, none⟩ = some v ∧ w1.frozen? ⟨b, 0, none⟩ = false ∧ OutSt w0 (w1.setCell ⟨b, 0, none⟩ v1) b ok v1 ys ∧ Grew W (w1.setCell ⟨b, 0, none⟩ v1) b v v1 := by
  have hnb : some b ≠ v.ownBlock := fun e => h.ne b (h.own b e.symm) rfl
  have hbx : Boxed w1 b 23 v := h.box.kept hg hnb
  have hbs : b < W.heap.size := h.box.lt
  have hsz : W.heap.size ≤ w1.heap.size := hg.size
  refine ⟨hbx.cell, hbx.frozen, ⟨hb.setCell (p := ⟨b, 0, none⟩) h.lo v1, hbx.set v1, Kd.S_far (p := ⟨b, 0, none⟩) hs (fun k hk => h.ne k hk) v1, h.lo, h.ne, fun k hk => h.fresh k ?_⟩, ⟨⟨?_, fun i hi hn => ?_⟩, ?_⟩⟩
  · have : (w1.setCell ⟨b, 0, none⟩ v1).heap.size = w1.heap.size := by simp [World.setCell]
    omega
  · have : (w1.setCell ⟨b, 0, none⟩ v1).heap.size = w1.heap.size := by simp [World.setCell]
    omega
  · rw [Below.heap_setCell w1 ⟨b, 0, none⟩ v1 i (fun e => hn (.inl e)), hg.block i hi (fun e => hn (.inr e.symm))]
  · rcases hat with e | ⟨k, e, hk⟩
    · exact .inl e
    · refine .inr (fun j hj => ?_)
      rw [e] at hj
      injection hj with hj
      subst hj
      exact hk
theorem S_nil_ok {w : World} {base : Nat} {ok ok' : Nat → Prop} {v : Value} (h : Kd.S (Kd.slice 3 (Kd.int .i64)) 22 w base ok v []) (hok : ∀ k, v.ownBlock = some k → ok' k) : Kd.S (Kd.slice 3 (Kd.int .i64)) 22 w base ok' v [] := by
  obtain ⟨f, h0, inner, ho, hr⟩ := h
  refine ⟨f, hok, inner, ho, hr.1, fun j p hj => ?_⟩
  simp at hj
/-- An empty list in a box, behind another box and ahead of a third. -/
theorem out_begun {w w1 : World} {A : Option Addr} {c : Nat} {o u0 : Obj} (ho : Kd.S (Kd.slice 3 (Kd.int .i64)) 22 w1 w.heap.size (fun _ => True) (.slice A 0 c) []) (hb : Below w.heap.size w w1) (hnw : ∃ b, (Value.slice A 0 c).ownBlock = some b ∧ (w.alloc u0).heap.size ≤ b) (hlt : w.heap.size < w1.heap.size) :
    OutSt w ((w1.alloc (.cells #[.slice A 0 c] 23)).alloc o) w1.heap.size (fun k => k ≠ w.heap.size ∧ k ≠ w1.heap.size ∧ k ≠ w1.heap.size + 1) (.slice A 0 c) [] := by
  obtain ⟨b, hb1, hb2⟩ := hnw
  have hbl : ∀ k, (Value.slice A 0 c).ownBlock = some k → k < w1.heap.size := Kd.S_lt ho
  have e2 : Below w1.heap.size w1 ((w1.alloc (.cells #[.slice A 0 c] 23)).alloc o) := below_alloc (below_alloc (Below.refl _ _) _) _
  refine ⟨below_step hb e2, (Boxed.new w1 23 (.slice A 0 c)).alloc _, S_nil_ok (Kd.S_below ho e2) (fun k hk => ?_), by omega, fun k hk => hk.2.1, fun k hk => ?_⟩
  · have h3 := hbl k hk
    rw [hb1] at hk
    injection hk with hk
    subst hk
    simp at hb2
    exact ⟨by omega, by omega, by omega⟩
  · have s2 : ((w1.alloc (.cells #[.slice A 0 c] 23)).alloc o).heap.size = w1.heap.size + 2 := by simp
    rw [s2] at hk
    exact ⟨by omega, by omega, by omega⟩
end Go.Proofs.Ythjiajkmaimbjaa.P
