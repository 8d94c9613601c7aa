/- Lists of tables, each of memory of its own, that a visitor of all tables makes. -/
import Derived.Test.YtadepmjfhcmkoaaEachSt
import Derived.Maps.AppendAt
namespace Go.Proofs.YtadepmjfhcmkoaaW.PrintWords
open Go.RowKit Go.Proofs.YtadepmjfhcmkoaaW.PrintWords Go.Proofs.YtadepmjfhcmkoaaW.PrintLast Go.Proofs.YtadepmjfhcmkoaaW.PrintMore
set_option linter.unusedVariables false
set_option linter.unusedSimpArgs false
namespace Kd
/-- A slice whose elements lead to blocks of their own. -/
def sslice {α : Type} (e : Nat) (d : Kd α) : Kd (List α) where
  sz := 1
  E := e :: d.E
  K := (slice e d).K
  M := fun w base ok xs cs => ∃ v, cs = [v] ∧ S d e w base ok v xs
  K_len := fun h => (slice e d).K_len h
  K_one := fun h => (slice e d).K_one h
  K_below := fun hb h => (slice e d).K_below hb h
  K_of_M := by
    rintro w base ok x cs ⟨v, rfl, h⟩
    exact (slice e d).K_of_M (M_row (S_R h))
  M_mono := by
    rintro w base ok ok' x cs hok ⟨v, rfl, h⟩
    exact ⟨v, rfl, S_mono h hok⟩
  M_bound := by
    rintro w base ok x cs ⟨v, rfl, h⟩
    exact ⟨v, rfl, S_bound h⟩
  M_move := by
    rintro w w1 base ok x cs hm ⟨v, rfl, h⟩
    exact ⟨v, rfl, S_move h hm⟩
  M_lower := by
    rintro w base base' ok x cs hb ⟨v, rfl, h⟩
    exact ⟨v, rfl, S_lower h hb⟩
/-- Append of an element whose blocks are okp, at the operation. -/
theorem wp_append_S {P : Program} {W : World} {o : Oper} {a : Act} {K : Act → World → Prop} {Q : Exit → Act → World → Prop} {α : Type} (d : Kd α) (base : Nat) (s x : Operand) (t e : TypeId) (z : Value) (bytes : Nat)
    (ho : o.op = .call { callee := .builtin .append, args := #[s, x], argTypes := #[t, t] })
    (ht : P.underlying t = some (.slice e)) (hinfo : (P.info? e).map (fun i => (i.zero, i.size, i.bytes)) = some (some z, d.sz, bytes)) (hz : z.cells.size = d.sz) (hs0 : 0 < d.sz) (hb0 : 0 < bytes)
    (v : Value) (xs : List α) (p : α) (cs : List Value) (ok okp : Nat → Prop) (ad : Addr) (c : Nat) (hs : a.eval s = v) (hx : a.eval x = .slice (some ad) 1 c) (hcs : ∀ j u, cs[j]? = some u → W.cell? (ad.add j) = some u) (hp : d.M W base okp p cs) (hokp : ∀ k, okp k → ok k ∧ some k ≠ v.ownBlock) (hfresh : ∀ k, W.heap.size ≤ k → ok k)
    (HO : S d e W base (fun k => ok k ∧ ¬ okp k) v xs) (hbase : base ≤ W.heap.size) (hl : (xs.length + 1) * bytes ≤ 140737488355328)
    (h : ∀ v1 w1, S d e w1 base ok v1 (xs ++ [p]) → W.grownBy w1 v.ownBlock → (v1.ownBlock = v.ownBlock ∨ ∃ b, v1.ownBlock = some b ∧ W.heap.size ≤ b) → K (a.put o.dst v1) w1) : o.wp P a W K Q := by
  obtain ⟨f, hf, hR⟩ := S_tag HO xs.length okp (fun _ hk h2 => h2.2 hk)
  obtain ⟨h0, inner, hown, hr⟩ := R_mono (ok' := ok) hR (fun _ hk => hk.1)
  obtain ⟨i0, hi, hzz⟩ := Option.map_eq_some_iff.1 hinfo
  simp only [Prod.mk.injEq] at hzz
  obtain ⟨hz0, hz1, hz2⟩ := hzz
  have hlen : xs.length + 1 ≤ 140737488355328 := Nat.le_trans (Nat.le_mul_of_pos_right _ hb0) hl
  rw [List.length_zipIdx] at hown
  have hcl : cs.length = d.sz := d.K_len (d.K_of_M hp)
  obtain ⟨v', w', hrun, h2, h3, _, h5⟩ := run_append_own_at (P := P) W base t o.type e i0 z d.sz bytes ht hi hz0 hz1 hz2 hz hs0 v xs.length inner hown ad 1 c cs (by rw [hcl]; simp) hcs (d.K_one (d.K_of_M hp)) (by simp only [maxLen]; omega) hl hbase
  unfold Oper.wp execOp
  simp only [ho, resolve, invoke, builtin, Sem.run_bind, Sem.run_pure, Result.andThen_ok, List.map_toArray, List.map_cons, List.map_nil, hs, hx, hrun]
  have hat : v'.ownBlock = v.ownBlock ∨ ∃ b, v'.ownBlock = some b ∧ W.heap.size ≤ b := h5.imp id (fun e => ⟨_, e, Nat.le_refl _⟩)
  refine h v' w' ⟨f, ?_⟩ h3 hat
  rw [zip_snoc]
  exact R_appended (d := tag f d) h0 hr (okp := okp) (d.M_mono (fun k hk => ⟨hk, hf k hk⟩) hp) hokp hfresh (by rw [List.length_zipIdx]; exact h2) h3 hat
end Kd
end Go.Proofs.YtadepmjfhcmkoaaW.PrintWords
namespace Go.Proofs.Ytadepmjfhcmkoaa.P
open Go.Proofs.Ytadepmjfhcmkoaa.B
open Go.RowKit Go.Proofs.YtadepmjfhcmkoaaW.PrintWords Go.Proofs.YtadepmjfhcmkoaaW.PrintLast Go.Proofs.YtadepmjfhcmkoaaW.PrintMore
set_option linter.unusedVariables false
set_option linter.unusedSimpArgs false
/-- A box of a list of tables; own: all its blocks. -/
structure ASt (base bo : Nat) (xs : List (List (List Int))) (W : World) (own : Nat → Prop) : Prop where
  v : ∃ v, Boxed W bo 33 v ∧ Kd.S (Kd.sslice 39 (Kd.slice 3 (Kd.int .i64))) 22 W base (fun k => own k ∧ k ≠ bo) v xs
  lo : base ≤ bo
  hb : own bo
  lt : ∀ k, own k → k < W.heap.size
theorem ASt.stay {base bo : Nat} {xs : List (List (List Int))} {W W' : World} {own : Nat → Prop} (h : ASt base bo xs W own) (hk : ∀ k, own k → k < W.heap.size → W'.heap[k]? = W.heap[k]?) (hs : W.heap.size ≤ W'.heap.size) : ASt base bo xs W' own := by
  obtain ⟨⟨v, h1, h2⟩, h3, h4, h5⟩ := h
  exact ⟨⟨v, (hk bo h4 h1.lt).trans h1, Kd.S_step h2 (fun k hk2 hlt => hk k hk2.1 hlt)⟩, h3, h4, fun k hk => Nat.lt_of_lt_of_le (h5 k hk) hs⟩
theorem ASt.ok (base bo : Nat) (f : Nat → List (List (List Int))) : StOk (fun i W own => ASt base bo (f i) W own) :=
  ⟨fun _ _ _ _ hs hk hl => hs.stay hk hl, fun _ _ _ hs => hs.lt⟩
/-- The list has grown by a table, and the box has been written. W: before the call that made the table; w2: before the append. -/
theorem ASt.pushed {base bo : Nat} {ys : List (List (List Int))} {W w2 w3 : World} {own : Nat → Prop} {v v3 : Value} (hown : ∀ k, own k → k < W.heap.size) (hbo : own bo) (hlo : base ≤ bo) (hbx : Boxed W bo 33 v) (hv : ∀ k, v.ownBlock = some k → own k ∧ k ≠ bo) (h2 : Below W.heap.size W w2)
    (hs : Kd.S (Kd.sslice 39 (Kd.slice 3 (Kd.int .i64))) 22 w3 base (fun k => (own k ∨ W.heap.size ≤ k) ∧ k ≠ bo) v3 ys) (hg : w2.grownBy w3 v.ownBlock) :
    w3.cell? ⟨bo, 0, none⟩ = some v ∧ w3.frozen? ⟨bo, 0, none⟩ = false ∧ ASt base bo ys (w3.setCell ⟨bo, 0, none⟩ v3) (fun k => (own k ∨ W.heap.size ≤ k) ∧ k < w3.heap.size) ∧ Kept W (w3.setCell ⟨bo, 0, none⟩ v3) own := by
  have hb2 := boxed_below hbx h2
  have hbx3 : Boxed w3 bo 33 v := hb2.kept hg (fun e => (hv bo e.symm).2 rfl)
  have hsz : W.heap.size ≤ w3.heap.size := Nat.le_trans h2.size hg.size
  have e1 : (w3.setCell ⟨bo, 0, none⟩ v3).heap.size = w3.heap.size := by simp [World.setCell]
  refine ⟨hbx3.cell, hbx3.frozen, ⟨⟨v3, hbx3.set v3, ?_⟩, hlo, ⟨.inl hbo, Nat.lt_of_lt_of_le (hown bo hbo) hsz⟩, fun k hk => by rw [e1]; exact hk.2⟩, ⟨by rw [e1]; exact hsz, fun i hi hn => ?_⟩⟩
  · exact Kd.S_far (p := ⟨bo, 0, none⟩) (Kd.S_mono (Kd.S_bound hs) (fun k hk => ⟨⟨hk.1.1, hk.2.2.1⟩, hk.1.2⟩)) (fun k hk => hk.2) _
  · rw [Below.heap_setCell w3 ⟨bo, 0, none⟩ v3 i (fun e => hn (e ▸ hbo)), hg.block i (Nat.lt_of_lt_of_le hi h2.size) (fun e => hn (hv i e.symm).1), h2.block i hi]
end Go.Proofs.Ytadepmjfhcmkoaa.P
