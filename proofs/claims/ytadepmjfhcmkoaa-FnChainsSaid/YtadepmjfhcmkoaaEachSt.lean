import Derived.Test.YtadepmjfhcmkoaaTab
import Derived.RangeFuncBox
import Derived.ArgAppend
/- What impl.eachSigns keeps while it runs. -/
namespace Go.Proofs.Ytadepmjfhcmkoaa.P
open Go.Proofs.Ytadepmjfhcmkoaa.B
open Go.RowKit Go.Proofs.YtadepmjfhcmkoaaW.PrintWords Go.Proofs.YtadepmjfhcmkoaaW.PrintLast Go.Proofs.YtadepmjfhcmkoaaW.PrintMore
set_option linter.unusedVariables false
set_option linter.unusedSimpArgs false
section
variable (St : Nat → World → (Nat → Prop) → Prop)
structure StOk : Prop where
 stay : ∀ i W W' own, St i W own → (∀ k, own k → k < W.heap.size → W'.heap[k]? = W.heap[k]?) → W.heap.size ≤ W'.heap.size → St i W' own
 lt : ∀ i W own, St i W own → ∀ k, own k → k < W.heap.size
end
theorem StOk.below {St : Nat → World → (Nat → Prop) → Prop} (h : StOk St) {i : Nat} {W W' : World} {own : Nat → Prop} (hs : St i W own) (hb : Below W.heap.size W W') : St i W' own := h.stay i W W' own hs (fun k _ hk => hb.block k hk) hb.size
theorem StOk.put {St : Nat → World → (Nat → Prop) → Prop} (h : StOk St) {i : Nat} {W : World} {own : Nat → Prop} (hs : St i W own) {p : Addr} (hp : ¬ own p.block) (u : Value) : St i (W.setCell p u) own :=
 h.stay i W _ own hs (fun k hk _ => Below.heap_setCell W p u k (fun e => hp (e ▸ hk))) (by simp [World.setCell])
structure ESt (w0 : World) (n F : Nat) (caps : Array Value) (rows : List (List Int)) (Ar : Option Addr) (cr b1 b2 b3 b4 b5 gs cs : Nat) (W : World) (own : Nat → Prop) (sums : List Int) : Prop where
 below : Below w0.heap.size w0 W
 c1 : W.cell? ⟨b1, 0, none⟩ = some (.int .i64 (n : Int))
 c2 : W.cell? ⟨b2, 0, none⟩ = some (.func (.func F) #[] caps)
 c3 : W.cell? ⟨b3, 0, none⟩ = some (.slice Ar rows.length cr)
 c4 : W.cell? ⟨b4, 0, none⟩ = some (.slice (some ⟨gs, 0, none⟩) n cs)
 c5 : W.cell? ⟨b5, 0, none⟩ = some (.func (.func 112) #[] #[.pointer (some ⟨b1, 0, none⟩), .pointer (some ⟨b2, 0, none⟩), .pointer (some ⟨b3, 0, none⟩), .pointer (some ⟨b4, 0, none⟩), .pointer (some ⟨b5, 0, none⟩)])
 vr : Kd.V (Kd.slice 3 (Kd.int .i64)) 39 W 0 (fun k => ¬ own k ∧ k ≠ gs) (.slice Ar rows.length cr) rows
 su : (Kd.int .i64).R 3 W w0.heap.size (fun k => k = gs) (.slice (some ⟨gs, 0, none⟩) n cs) sums
 ap : ¬ own b1 ∧ ¬ own b2 ∧ ¬ own b3 ∧ ¬ own b4 ∧ ¬ own b5 ∧ ¬ own gs
 ne : b1 ≠ gs ∧ b2 ≠ gs ∧ b3 ≠ gs ∧ b4 ≠ gs ∧ b5 ≠ gs
section
variable {w0 : World} {n F : Nat} {caps : Array Value} {rows : List (List Int)} {Ar : Option Addr} {cr b1 b2 b3 b4 b5 gs cs : Nat} {W W' : World} {own own' : Nat → Prop} {sums : List Int}
theorem cell_lt {W : World} {b : Nat} {v : Value} (h : W.cell? ⟨b, 0, none⟩ = some v) : b < W.heap.size := World.block_lt_of_cell? W _ h
theorem ESt.gs_lt (h : ESt w0 n F caps rows Ar cr b1 b2 b3 b4 b5 gs cs W own sums) : gs < W.heap.size := Kd.R_lt h.su gs (by simp [Value.ownBlock])
theorem ESt.gs_lo (h : ESt w0 n F caps rows Ar cr b1 b2 b3 b4 b5 gs cs W own sums) : w0.heap.size ≤ gs := Kd.R_base h.su gs (by simp [Value.ownBlock])
theorem ESt.move (h : ESt w0 n F caps rows Ar cr b1 b2 b3 b4 b5 gs cs W own sums) (hk : Kept W W' own) (hg : ∀ k, own' k → own k ∨ W.heap.size ≤ k) (hb : Below w0.heap.size w0 W') : ESt w0 n F caps rows Ar cr b1 b2 b3 b4 b5 gs cs W' own' sums := by
 obtain ⟨a1, a2, a3, a4, a5, a6⟩ := h.ap
 have key : ∀ {b : Nat}, b < W.heap.size → ¬ own b → ¬ own' b := fun hl hn ho => (hg _ ho).elim hn (fun h2 => by omega)
 exact ⟨hb, Go.Proofs.YtadepmjfhcmkoaaW.PrintWords.cell_kept h.c1 hk a1, Go.Proofs.YtadepmjfhcmkoaaW.PrintWords.cell_kept h.c2 hk a2, Go.Proofs.YtadepmjfhcmkoaaW.PrintWords.cell_kept h.c3 hk a3, Go.Proofs.YtadepmjfhcmkoaaW.PrintWords.cell_kept h.c4 hk a4, Go.Proofs.YtadepmjfhcmkoaaW.PrintWords.cell_kept h.c5 hk a5,
  Kd.V_mono (Kd.V_kept (Kd.V_bound h.vr) hk (fun k hk => hk.1.1)) (fun k hk => ⟨key hk.2 hk.1.1, hk.1.2⟩),
  Kd.R_kept h.su hk (fun k hk e => a6 (hk ▸ e)),
  ⟨key (cell_lt h.c1) a1, key (cell_lt h.c2) a2, key (cell_lt h.c3) a3, key (cell_lt h.c4) a4, key (cell_lt h.c5) a5, key h.gs_lt a6⟩, h.ne⟩
theorem ESt.len (h : ESt w0 n F caps rows Ar cr b1 b2 b3 b4 b5 gs cs W own sums) : sums.length = n := by
 obtain ⟨A, c, e⟩ := Kd.R_slice h.su; injection e with _ e2 _; exact e2.symm
theorem ESt.at_ (h : ESt w0 n F caps rows Ar cr b1 b2 b3 b4 b5 gs cs W own sums) {j : Nat} (hj : j < n) : W.cell? ⟨gs, j, none⟩ = some (.int .i64 (rd sums (j : Int))) ∧ W.frozen? ⟨gs, j, none⟩ = false := by
 have h1 := own_of_R h.su; have hl := h.len; rw [hl] at h1; have h2 := own_at h1 (j : Int) (by omega) (by omega)
 rwa [Int.toNat_natCast] at h2
theorem ESt.put (h : ESt w0 n F caps rows Ar cr b1 b2 b3 b4 b5 gs cs W own sums) (j : Nat) (z : Int) : ESt w0 n F caps rows Ar cr b1 b2 b3 b4 b5 gs cs (W.setCell ⟨gs, j, none⟩ (.int .i64 z)) own (sums.set j z) := by
 have hl := h.len; have h1 := own_of_R h.su; rw [hl] at h1; have h2 := (h1.stored j (.int .i64 z)).1
 have e : (nums .i64 sums).set j (.int .i64 z) = nums .i64 (sums.set j z) := by simp [nums, List.map_set]
 obtain ⟨n1, n2, n3, n4, n5⟩ := h.ne
 refine ⟨h.below.setCell (p := ⟨gs, j, none⟩) h.gs_lo _, (cell_far (p := ⟨gs, j, none⟩) n1 _).trans h.c1, (cell_far (p := ⟨gs, j, none⟩) n2 _).trans h.c2, (cell_far (p := ⟨gs, j, none⟩) n3 _).trans h.c3, (cell_far (p := ⟨gs, j, none⟩) n4 _).trans h.c4, (cell_far (p := ⟨gs, j, none⟩) n5 _).trans h.c5,
  Kd.V_far (p := ⟨gs, j, none⟩) h.vr (fun k hk => hk.2) _, ?_, h.ap, h.ne⟩
 refine Kd.R_mono (int_R (x := sums.set j z) ?_) (fun k hk => by simpa [Value.ownBlock] using hk.symm); rw [List.length_set, hl, ← e]; exact h2
end
structure ER (wr w' : World) (n : Nat) (rows : List (List Int)) (h1 h3 h4 h5 : Bool) (v8 : Value) (g4 g5 : Nat) (v10 c4 : Value) : Prop where
 below : Below wr.heap.size wr w'
 f1 : h1 = true → Kd.S (Kd.slice 3 (Kd.int .i64)) 39 w' wr.heap.size (fun k => (h5 = true → k ≠ g5) ∧ (h3 = true → some k ≠ v10.ownBlock)) v8 rows
 f3 : h3 = true → (Kd.int .i64).R 3 w' wr.heap.size (fun _ => True) v10 (List.replicate n 0)
 f4 : h4 = true → Boxed w' g4 22 c4 ∧ wr.heap.size ≤ g4
 f5 : h5 = true → Boxed w' g5 39 (.slice none 0 0) ∧ wr.heap.size ≤ g5
section
variable {wr w' w2 : World} {n : Nat} {rows : List (List Int)} {h1 h3 h4 h5 : Bool} {v8 v10 c4 v : Value} {g4 g5 : Nat}
theorem ER.start (h : Below wr.heap.size wr w') (v8 : Value) (g4 g5 : Nat) (v10 c4 : Value) : ER wr w' n rows false false false false v8 g4 g5 v10 c4 := ⟨h, (by intro e; cases e), (by intro e; cases e), (by intro e; cases e), (by intro e; cases e)⟩
theorem ER.last (h : ER wr w' n rows true true true true v8 g4 g5 v10 v8) : Below wr.heap.size wr (w'.setCell ⟨g5, 0, none⟩ v10) ∧ Kd.S (Kd.slice 3 (Kd.int .i64)) 39 (w'.setCell ⟨g5, 0, none⟩ v10) wr.heap.size (fun k => k ≠ g5 ∧ some k ≠ v10.ownBlock) v8 rows ∧ (Kd.int .i64).R 3 (w'.setCell ⟨g5, 0, none⟩ v10) wr.heap.size (fun _ => True) v10 (List.replicate n 0) ∧
  Boxed (w'.setCell ⟨g5, 0, none⟩ v10) g4 22 v8 ∧ Boxed (w'.setCell ⟨g5, 0, none⟩ v10) g5 39 v10 ∧ wr.heap.size ≤ g4 ∧ wr.heap.size ≤ g5 :=
 ⟨h.below.setCell (p := ⟨g5, 0, none⟩) (h.f5 rfl).2 _, Kd.S_mono (Kd.S_far (p := ⟨g5, 0, none⟩) (h.f1 rfl) (fun k hk => hk.1 rfl) _) (fun k hk => ⟨hk.1 rfl, hk.2 rfl⟩), Kd.R_set (h.f3 rfl) (h.f5 rfl).1 (by decide) 0 _,
  (Below.heap_setCell w' ⟨g5, 0, none⟩ v10 g4 (fun e => blk_ne (h.f5 rfl).1 (h.f4 rfl).1 (by decide) e.symm)).trans (h.f4 rfl).1, (h.f5 rfl).1.set _, (h.f4 rfl).2, (h.f5 rfl).2⟩
end
end Go.Proofs.Ytadepmjfhcmkoaa.P
namespace Go.Proofs.Ytadepmjfhcmkoaa.P
open Go.Proofs.Ytadepmjfhcmkoaa.B
open Go.RowKit Go.Proofs.YtadepmjfhcmkoaaW.PrintWords Go.Proofs.YtadepmjfhcmkoaaW.PrintLast Go.Proofs.YtadepmjfhcmkoaaW.PrintMore
set_option linter.unusedVariables false
set_option linter.unusedSimpArgs false
end Go.Proofs.Ytadepmjfhcmkoaa.P
