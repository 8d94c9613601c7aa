import Derived.Test.YtadepmjfhcmkoaaTab
import Derived.RangeFuncBox
import Derived.ArgAppend
/- What impl.eachSigns keeps while it runs. -/
namespace Go.Proofs.Ytadepmjfhcmkoaa.P
open Go.Proofs.Ytadepmjfhcmkoaa.B
open Go.RowKit Go.Proofs.YtadepmjfhcmkoaaW.PrintWords Go.Proofs.YtadepmjfhcmkoaaW.PrintLast Go.Proofs.YtadepmjfhcmkoaaW.PrintMore
set_option linter.unusedVariables false
set_option linter.unusedSimpArgs false
/-- So many visits from the place o on, till one says no: how many were made in all, and whether all said yes. -/
def runTo (b : Nat → Bool) : Nat → Nat → Nat × Bool
  | o, 0 => (o, true)
  | o, c + 1 => if b o = true then runTo b (o + 1) c else (o + 1, false)
theorem runTo_add (b : Nat → Bool) (o a c : Nat) : runTo b o (a + c) = if (runTo b o a).2 = true then runTo b (runTo b o a).1 c else runTo b o a := by
  induction a generalizing o with
  | zero => rw [Nat.zero_add]; rfl
  | succ a ih =>
    rw [show a + 1 + c = (a + c) + 1 by omega]
    by_cases h : b o = true
    · have e1 : runTo b o (a + c + 1) = runTo b (o + 1) (a + c) := by simp only [runTo]; rw [if_pos h]
      have e2 : runTo b o (a + 1) = runTo b (o + 1) a := by simp only [runTo]; rw [if_pos h]
      rw [e1, e2]; exact ih (o + 1)
    · have e1 : runTo b o (a + c + 1) = (o + 1, false) := by simp only [runTo]; rw [if_neg h]
      have e2 : runTo b o (a + 1) = (o + 1, false) := by simp only [runTo]; rw [if_neg h]
      rw [e1, e2]; rfl
theorem runTo_at {b : Nat → Bool} {o a : Nat} (h : (runTo b o a).2 = true) : (runTo b o a).1 = o + a := by
  induction a generalizing o with
  | zero => rfl
  | succ a ih =>
    simp only [runTo] at h ⊢
    by_cases c : b o = true
    · rw [if_pos c] at h ⊢
      rw [ih h]; omega
    · rw [if_neg c] at h; cases h
theorem runTo_stop {b : Nat → Bool} : ∀ (R o c : Nat), (∀ i, o ≤ i → i < o + R → b i = true) → b (o + R) = false → R < c → runTo b o c = (o + R + 1, false) := by
  intro R
  induction R with
  | zero =>
    intro o c _ h2 h3
    obtain ⟨c, rfl⟩ : ∃ c', c = c' + 1 := ⟨c - 1, by omega⟩
    simp only [runTo]
    rw [Nat.add_zero] at h2
    rw [if_neg (by rw [h2]; decide)]
  | succ R ih =>
    intro o c h1 h2 h3
    obtain ⟨c, rfl⟩ : ∃ c', c = c' + 1 := ⟨c - 1, by omega⟩
    simp only [runTo]
    rw [if_pos (h1 o (by omega) (by omega)), ih (o + 1) c (fun i a b => h1 i (by omega) (by omega)) (by rw [show o + 1 + R = o + (R + 1) by omega]; exact h2) (by omega)]
    congr 1
    omega
theorem runTo_yes {b : Nat → Bool} : ∀ (c o : Nat), (∀ i, o ≤ i → i < o + c → b i = true) → runTo b o c = (o + c, true) := by
  intro c
  induction c with
  | zero => intro o _; rfl
  | succ c ih =>
    intro o h
    simp only [runTo]
    rw [if_pos (h o (by omega) (by omega)), ih (o + 1) (fun i a b => h i (by omega) (by omega))]
    congr 1
    omega
def addL (n : Nat) (s r : List Int) : List Int := (List.range n).map fun (i : Nat) => rd s (i : Int) + rd r (i : Int)
theorem addL_len (n : Nat) (s r : List Int) : (addL n s r).length = n := by simp [addL]
theorem addL_rd {n : Nat} (s r : List Int) {i : Nat} (h : i < n) : rd (addL n s r) (i : Int) = rd s (i : Int) + rd r (i : Int) := by
  rw [rd_get _ i (by rw [addL_len]; exact h)]
  simp [addL]
def updK (n : Nat) (s : List Int) (f : Nat → Int) (j : Nat) : List Int := (List.range n).map fun (i : Nat) => if i < j then f i else rd s (i : Int)
theorem updK_len (n : Nat) (s : List Int) (f : Nat → Int) (j : Nat) : (updK n s f j).length = n := by simp [updK]
theorem updK_zero {n : Nat} {s : List Int} (h : s.length = n) (f : Nat → Int) : updK n s f 0 = s := by
  apply List.ext_getElem
  · rw [updK_len, h]
  · intro i h1 h2
    simp [updK]
    rw [rd_get s i h2]
theorem updK_all (n : Nat) (s : List Int) (f : Nat → Int) : updK n s f n = (List.range n).map f := by
  apply List.ext_getElem
  · simp [updK]
  · intro i h1 h2
    simp at h2
    simp [updK, h2]
theorem updK_set {n : Nat} (s : List Int) (f : Nat → Int) {j : Nat} (h : j < n) : (updK n s f j).set j (f j) = updK n s f (j + 1) := by
  apply List.ext_getElem
  · simp [updK]
  · intro i h1 h2
    simp [updK] at h2
    rw [List.getElem_set]
    by_cases e : j = i
    · subst e; simp [updK]
    · rw [if_neg e]
      simp [updK]
      by_cases c : i < j
      · rw [if_pos c, if_pos (by omega)]
      · rw [if_neg c, if_neg (by omega)]
theorem updK_rd {n : Nat} (s : List Int) (f : Nat → Int) {j i : Nat} (hj : j ≤ i) (hi : i < n) : rd (updK n s f j) (i : Int) = rd s (i : Int) := by
  rw [rd_get _ i (by rw [updK_len]; exact hi)]
  simp [updK]
  intro h
  omega
theorem addL_back {n : Nat} {s : List Int} (h : s.length = n) (r : List Int) : updK n (addL n s r) (fun i => rd (addL n s r) (i : Int) - rd r (i : Int)) n = s := by
  rw [updK_all]
  apply List.ext_getElem
  · simp [h]
  · intro i h1 h2
    simp at h1
    simp
    rw [addL_rd s r h1, ← rd_get s i h2]
    omega
section
variable (St : Nat → World → (Nat → Prop) → Prop)
/-- What a visitor keeps: it is told by blocks of its own, that lie in memory, and by nothing else. -/
structure StOk : Prop where
  stay : ∀ i W W' own, St i W own → (∀ k, own k → k < W.heap.size → W'.heap[k]? = W.heap[k]?) → W.heap.size ≤ W'.heap.size → St i W' own
  lt : ∀ i W own, St i W own → ∀ k, own k → k < W.heap.size
end
theorem StOk.below {St : Nat → World → (Nat → Prop) → Prop} (h : StOk St) {i : Nat} {W W' : World} {own : Nat → Prop} (hs : St i W own) (hb : Below W.heap.size W W') : St i W' own := h.stay i W W' own hs (fun k _ hk => hb.block k hk) hb.size
theorem StOk.put {St : Nat → World → (Nat → Prop) → Prop} (h : StOk St) {i : Nat} {W : World} {own : Nat → Prop} (hs : St i W own) {p : Addr} (hp : ¬ own p.block) (u : Value) : St i (W.setCell p u) own :=
  h.stay i W _ own hs (fun k hk _ => Below.heap_setCell W p u k (fun e => hp (e ▸ hk))) (by simp [World.setCell])
/-- The memory of eachSigns: boxes of n, of the visitor, of the rows, of the sums and of the closure itself; the sums' block gs; own: the visitor's blocks. -/
structure ESt (w0 : World) (n F : Nat) (caps : Array Value) (rows : List (List Int)) (Ar : Option Addr) (cr b1 b2 b3 b4 b5 gs cs : Nat) (W : World) (own : Nat → Prop) (sums : List Int) : Prop where
  below : Below w0.heap.size w0 W
  c1 : W.cell? ⟨b1, 0, none⟩ = some (.int .i64 (n : Int))
  c2 : W.cell? ⟨b2, 0, none⟩ = some (.func (.func F) #[] caps)
  c3 : W.cell? ⟨b3, 0, none⟩ = some (.slice Ar rows.length cr)
  c4 : W.cell? ⟨b4, 0, none⟩ = some (.slice (some ⟨gs, 0, none⟩) n cs)
  c5 : W.cell? ⟨b5, 0, none⟩ = some (.func (.func 112) #[] #[.pointer (some ⟨b1, 0, none⟩), .pointer (some ⟨b2, 0, none⟩), .pointer (some ⟨b3, 0, none⟩), .pointer (some ⟨b4, 0, none⟩), .pointer (some ⟨b5, 0, none⟩)])
  vr : Kd.V (Kd.slice 3 (Kd.int .i64)) 39 W 0 (fun k => ¬ own k ∧ k ≠ gs) (.slice Ar rows.length cr) rows
  su : (Kd.int .i64).R 3 W w0.heap.size (fun k => k = gs) (.slice (some ⟨gs, 0, none⟩) n cs) sums
  ap : ¬ own b1 ∧ ¬ own b2 ∧ ¬ own b3 ∧ ¬ own b4 ∧ ¬ own b5 ∧ ¬ own gs
  ne : b1 ≠ gs ∧ b2 ≠ gs ∧ b3 ≠ gs ∧ b4 ≠ gs ∧ b5 ≠ gs
section
variable {w0 : World} {n F : Nat} {caps : Array Value} {rows : List (List Int)} {Ar : Option Addr} {cr b1 b2 b3 b4 b5 gs cs : Nat} {W W' : World} {own own' : Nat → Prop} {sums : List Int}
theorem cell_lt {W : World} {b : Nat} {v : Value} (h : W.cell? ⟨b, 0, none⟩ = some v) : b < W.heap.size := World.block_lt_of_cell? W _ h
theorem ESt.gs_lt (h : ESt w0 n F caps rows Ar cr b1 b2 b3 b4 b5 gs cs W own sums) : gs < W.heap.size := Kd.R_lt h.su gs (by simp [Value.ownBlock])
theorem ESt.gs_lo (h : ESt w0 n F caps rows Ar cr b1 b2 b3 b4 b5 gs cs W own sums) : w0.heap.size ≤ gs := Kd.R_base h.su gs (by simp [Value.ownBlock])
theorem ESt.move (h : ESt w0 n F caps rows Ar cr b1 b2 b3 b4 b5 gs cs W own sums) (hk : Kept W W' own) (hg : ∀ k, own' k → own k ∨ W.heap.size ≤ k) (hb : Below w0.heap.size w0 W') : ESt w0 n F caps rows Ar cr b1 b2 b3 b4 b5 gs cs W' own' sums := by
  obtain ⟨a1, a2, a3, a4, a5, a6⟩ := h.ap
  have key : ∀ {b : Nat}, b < W.heap.size → ¬ own b → ¬ own' b := fun hl hn ho => (hg _ ho).elim hn (fun h2 => by omega)
  exact ⟨hb, Go.Proofs.YtadepmjfhcmkoaaW.PrintWords.cell_kept h.c1 hk a1, Go.Proofs.YtadepmjfhcmkoaaW.PrintWords.cell_kept h.c2 hk a2, Go.Proofs.YtadepmjfhcmkoaaW.PrintWords.cell_kept h.c3 hk a3, Go.Proofs.YtadepmjfhcmkoaaW.PrintWords.cell_kept h.c4 hk a4, Go.Proofs.YtadepmjfhcmkoaaW.PrintWords.cell_kept h.c5 hk a5,
    Kd.V_mono (Kd.V_kept (Kd.V_bound h.vr) hk (fun k hk => hk.1.1)) (fun k hk => ⟨key hk.2 hk.1.1, hk.1.2⟩),
    Kd.R_kept h.su hk (fun k hk e => a6 (hk ▸ e)),
    ⟨key (cell_lt h.c1) a1, key (cell_lt h.c2) a2, key (cell_lt h.c3) a3, key (cell_lt h.c4) a4, key (cell_lt h.c5) a5, key h.gs_lt a6⟩, h.ne⟩
theorem ESt.below_ (h : ESt w0 n F caps rows Ar cr b1 b2 b3 b4 b5 gs cs W own sums) (hb : Below W.heap.size W W') : ESt w0 n F caps rows Ar cr b1 b2 b3 b4 b5 gs cs W' own sums := h.move (Kept.of_below hb own) (fun _ hk => .inl hk) (below_step h.below hb)
theorem ESt.len (h : ESt w0 n F caps rows Ar cr b1 b2 b3 b4 b5 gs cs W own sums) : sums.length = n := by
  obtain ⟨A, c, e⟩ := Kd.R_slice h.su
  injection e with _ e2 _
  exact e2.symm
theorem ESt.at_ (h : ESt w0 n F caps rows Ar cr b1 b2 b3 b4 b5 gs cs W own sums) {j : Nat} (hj : j < n) : W.cell? ⟨gs, j, none⟩ = some (.int .i64 (rd sums (j : Int))) ∧ W.frozen? ⟨gs, j, none⟩ = false := by
  have h1 := own_of_R h.su
  have hl := h.len
  rw [hl] at h1
  have h2 := own_at h1 (j : Int) (by omega) (by omega)
  rwa [Int.toNat_natCast] at h2
theorem ESt.put (h : ESt w0 n F caps rows Ar cr b1 b2 b3 b4 b5 gs cs W own sums) (j : Nat) (z : Int) : ESt w0 n F caps rows Ar cr b1 b2 b3 b4 b5 gs cs (W.setCell ⟨gs, j, none⟩ (.int .i64 z)) own (sums.set j z) := by
  have hl := h.len
  have h1 := own_of_R h.su
  rw [hl] at h1
  have h2 := (h1.stored j (.int .i64 z)).1
  have e : (nums .i64 sums).set j (.int .i64 z) = nums .i64 (sums.set j z) := by simp [nums, List.map_set]
  obtain ⟨n1, n2, n3, n4, n5⟩ := h.ne
  refine ⟨h.below.setCell (p := ⟨gs, j, none⟩) h.gs_lo _, (cell_far (p := ⟨gs, j, none⟩) n1 _).trans h.c1, (cell_far (p := ⟨gs, j, none⟩) n2 _).trans h.c2, (cell_far (p := ⟨gs, j, none⟩) n3 _).trans h.c3, (cell_far (p := ⟨gs, j, none⟩) n4 _).trans h.c4, (cell_far (p := ⟨gs, j, none⟩) n5 _).trans h.c5,
    Kd.V_far (p := ⟨gs, j, none⟩) h.vr (fun k hk => hk.2) _, ?_, h.ap, h.ne⟩
  refine Kd.R_mono (int_R (x := sums.set j z) ?_) (fun k hk => by simpa [Value.ownBlock] using hk.symm)
  rw [List.length_set, hl, ← e]
  exact h2
end
/-- The cells of a row of rows, and what they lead to. -/
theorem rows_cells {e1 : Nat} {W : World} {ok : Nat → Prop} {A : Option Addr} {k : Nat} {M : List (List Int)} (h : Kd.F (Kd.slice e1 (Kd.int .i64)) W ok A k M) :
    ∃ olds : List Value, olds.length = k ∧ (∀ b, A = some b → ∀ j u, olds[j]? = some u → W.cell? (b.add j) = some u) ∧ (∀ (j : Nat) (x : List Int) (u : Value), M[j]? = some x → olds[j]? = some u → Kd.FK (Kd.slice e1 (Kd.int .i64)) W ok x [u]) := by
  obtain ⟨hl, hm, hc⟩ := Kd.F_rows h
  rcases Nat.eq_zero_or_pos k with h0 | h0
  · exact ⟨[], by simp [h0], fun b _ j u hj => by simp at hj, fun j x u _ hj => by simp at hj⟩
  · obtain ⟨ad, rfl, hcc⟩ := hc h0
    have one : ∀ (j : Nat) (x : List Int), M[j]? = some x → ∃ u, W.cell? (ad.add j) = some u ∧ Kd.FK (Kd.slice e1 (Kd.int .i64)) W ok x [u] := by
      intro j x hx
      obtain ⟨c, hcl, hK, hcell⟩ := hcc j x hx
      have hcl1 : c.length = 1 := hcl
      obtain ⟨u, rfl⟩ : ∃ u, c = [u] := List.length_eq_one_iff.mp hcl1
      have h1 := hcell 0 u rfl
      have h2 : W.cell? (ad.add (j * 1 + 0)) = some u := h1
      rw [Nat.mul_one, Nat.add_zero] at h2
      exact ⟨u, h2, hK⟩
    refine ⟨(List.range k).map fun j => (W.cell? (ad.add j)).getD (.slice none 0 0), by simp, fun b hb j u hj => ?_, fun j x u hx hj => ?_⟩
    · cases hb
      have hjl := (List.getElem?_eq_some_iff.mp hj).1
      simp at hjl
      obtain ⟨u', h1, _⟩ := one j _ (List.getElem?_eq_getElem (show j < M.length by omega))
      simp [hjl] at hj
      rw [← hj, h1]
      rfl
    · obtain ⟨u', h1, h2⟩ := one j x hx
      have hjl := (List.getElem?_eq_some_iff.mp hj).1
      simp at hjl
      simp [hjl] at hj
      rw [h1] at hj
      have : u' = u := by simpa using hj
      rw [← this]
      exact h2
/-- A row of rows that has grown by one into memory just made. -/
theorem V_made {e2 e1 : Nat} {W w5 : World} {ok : Nat → Prop} {Ax : Option Addr} {k cx base b0 : Nat} {M : List (List Int)} {row : List Int} {olds : List Value} {v5 : Value} (hmax : k + 1 ≤ 9223372036854775807) (hM : M.length = k) (hol : olds.length = k)
    (hFK : ∀ (j : Nat) (x : List Int) (u : Value), M[j]? = some x → olds[j]? = some u → Kd.FK (Kd.slice e1 (Kd.int .i64)) W ok x [u]) (hrow : Kd.F (Kd.int .i64) W ok Ax row.length row) (hcx : row.length ≤ cx)
    (hown : w5.ownsRow base e2 1 v5 (k + 1) (olds ++ [.slice Ax row.length cx])) (hkeep : ∀ i, i < W.heap.size → w5.heap[i]? = W.heap[i]?) (hsz : W.heap.size ≤ w5.heap.size) (hok : ∀ k, v5.ownBlock = some k → ok k) : Kd.V (Kd.slice e1 (Kd.int .i64)) e2 w5 b0 ok v5 (M ++ [row]) := by
  rcases hown.2 with ⟨_, hz⟩ | ⟨g, cap, cur, rfl, _, hh, hcap, hmx, hsz2, htk⟩
  · omega
  refine ⟨some ⟨g, 0, none⟩, cap, by rw [List.length_append, hM]; rfl, by rw [List.length_append, hM]; exact hcap, fun W' hW => ?_⟩
  have hg : W'.heap[g]? = w5.heap[g]? := hW g (hok g (by simp [Value.ownBlock])) (Array.getElem?_eq_some_iff.1 hh).1
  have fkk : ∀ {x : List Int} {u : Value}, Kd.FK (Kd.slice e1 (Kd.int .i64)) W ok x [u] → (Kd.slice e1 (Kd.int .i64)).K W' x [u] := fun hf => hf W' (fun k hk hlt => (hW k hk (by omega)).trans (hkeep k hlt))
  refine ⟨rfl, by rw [List.length_append, hM]; exact hmax, fun _ => ⟨_, rfl, fun j p hj => ?_⟩⟩
  have hjl := (List.getElem?_eq_some_iff.mp hj).1
  rw [List.length_append, hM, List.length_singleton] at hjl
  have hcell : ∀ u, (olds ++ [Value.slice Ax row.length cx])[j]? = some u → W'.cell? ((⟨g, 0, none⟩ : Addr).add (j * 1 + 0)) = some u := by
    intro u hu
    have h1 := hown.cellAt j (by omega)
    rw [hu] at h1
    rw [Nat.mul_one, Nat.add_zero, add_plain]
    have h2 : W'.cell? ⟨g, j, none⟩ = w5.cell? ⟨g, j, none⟩ := by simp [World.cell?, hg]
    rw [h2]
    exact h1
  rcases Nat.lt_or_ge j k with hjk | hjk
  · rw [List.getElem?_append_left (by omega)] at hj
    have hu : olds[j]? = some (olds[j]'(by omega)) := List.getElem?_eq_getElem _
    refine ⟨[olds[j]'(by omega)], rfl, fkk (hFK j p _ hj hu), fun i u hi => ?_⟩
    cases i with
    | succ i => simp at hi
    | zero =>
      refine hcell u ?_
      rw [List.getElem?_append_left (by omega), hu]
      simpa using hi
  · obtain rfl : j = k := by omega
    rw [List.getElem?_append_right (by omega), hM, Nat.sub_self] at hj
    obtain rfl : row = p := by simpa using hj
    refine ⟨[.slice Ax row.length cx], rfl, fkk (Kd.FK_slice_mk hcx hrow), fun i u hi => ?_⟩
    cases i with
    | succ i => simp at hi
    | zero =>
      refine hcell u ?_
      rw [List.getElem?_append_right (by omega), hol, Nat.sub_self]
      simpa using hi
/-- The append that must grow, at the operation. -/
theorem wp_append_grows {P : Program} {w : World} {o : Oper} {a : Act} {K : Act → World → Prop} {Q : Exit → Act → World → Prop} (s x : Operand) (t : TypeId) (hop : o.op = Op.call { callee := Callee.builtin Builtin.append, args := #[s, x], argTypes := #[t, t] })
    (e : TypeId) (i : TypeInfo) (z : Value) (size bytes : Nat) (h1 : P.underlying t = some (.slice e)) (h2 : P.info? e = some i) (h3 : i.zero = some z) (h4 : i.size = size) (h5 : i.bytes = bytes) (h6 : z.cells.size = size) (h7 : 0 < size)
    (ao : Option Addr) (n cap : Nat) (olds : List Value) (hs : a.eval s = .slice ao n cap) (hnone : ao = none → n = 0 ∧ cap = 0) (hlo : olds.length = n * size) (holds : ∀ b, ao = some b → ∀ j u, olds[j]? = some u → w.cell? (b.add j) = some u)
    (ad : Addr) (m c : Nat) (news : List Value) (hx : a.eval x = .slice (some ad) m c) (hn : news.length = m * size) (hc : ∀ j u, news[j]? = some u → w.cell? (ad.add j) = some u) (h1c : ∀ u ∈ news, u.oneCell' = true)
    (hfull : cap < n + m) (b1 : n + m ≤ maxLen) (b2 : (n + m) * bytes ≤ 140737488355328)
    (hK : ∀ v' w', w'.ownsRow w.heap.size e size v' (n + m) (olds ++ news) → w.grownBy w' none → K (a.put o.dst v') w') : o.wp P a w K Q := by
  cases ao with
  | some b =>
    obtain ⟨v', w', hrun, r1, r2⟩ := run_append_arg_grows (P := P) w t o.type e i z size bytes h1 h2 h3 h4 h5 h6 h7 b n cap olds hlo (holds b rfl) ad m c news hn hc hfull b1 b2
    unfold Oper.wp
    simp [execOp, hop, resolve, invoke, builtin, hs, hx, hrun, Result.andThen]
    exact hK v' w' r1 r2
  | none =>
    obtain ⟨rfl, rfl⟩ := hnone rfl
    obtain rfl : olds = [] := List.eq_nil_of_length_eq_zero (by simpa using hlo)
    obtain ⟨v', w', hrun, r1, r2, _⟩ := run_append_own (P := P) w w.heap.size t o.type e i z size bytes h1 h2 h3 h4 h5 h6 h7 (.slice none 0 0) 0 [] (World.ownsRow_nil w _ e size) ad m c news hn hc h1c b1 b2 (Nat.le_refl _)
    unfold Oper.wp
    simp [execOp, hop, resolve, invoke, builtin, hs, hx, hrun, Result.andThen]
    exact hK v' w' r1 r2
/-- The start of eachSigns, in whatever order it is made: the rows (1), the sums (3), the rows' box (4), the sums' box (5). c4: what the rows' box holds. -/
structure ER (wr w' : World) (n : Nat) (rows : List (List Int)) (h1 h3 h4 h5 : Bool) (v8 : Value) (g4 g5 : Nat) (v10 c4 : Value) : Prop where
  below : Below wr.heap.size wr w'
  f1 : h1 = true → Kd.S (Kd.slice 3 (Kd.int .i64)) 39 w' wr.heap.size (fun k => (h5 = true → k ≠ g5) ∧ (h3 = true → some k ≠ v10.ownBlock)) v8 rows
  f3 : h3 = true → (Kd.int .i64).R 3 w' wr.heap.size (fun _ => True) v10 (List.replicate n 0)
  f4 : h4 = true → Boxed w' g4 22 c4 ∧ wr.heap.size ≤ g4
  f5 : h5 = true → Boxed w' g5 39 (.slice none 0 0) ∧ wr.heap.size ≤ g5
section
variable {wr w' w2 : World} {n : Nat} {rows : List (List Int)} {h1 h3 h4 h5 : Bool} {v8 v10 c4 v : Value} {g4 g5 : Nat}
theorem ER.start (h : Below wr.heap.size wr w') (v8 : Value) (g4 g5 : Nat) (v10 c4 : Value) : ER wr w' n rows false false false false v8 g4 g5 v10 c4 := ⟨h, (by intro e; cases e), (by intro e; cases e), (by intro e; cases e), (by intro e; cases e)⟩
theorem boxed_below {W W' : World} {B : Nat} {t : TypeId} {v : Value} (h : Boxed W B t v) (hb : Below W.heap.size W W') : Boxed W' B t v := (hb.block B h.lt).trans h
theorem ER.step1 (h : ER wr w' n rows false h3 h4 h5 v8 g4 g5 v10 c4) (hs : Kd.S (Kd.slice 3 (Kd.int .i64)) 39 w2 w'.heap.size (fun _ => True) v rows) (hb : Below w'.heap.size w' w2) : ER wr w2 n rows true h3 h4 h5 v g4 g5 v10 c4 where
  below := below_step h.below hb
  f1 := fun _ => Kd.S_lower (Kd.S_mono (Kd.S_bound hs) (fun k hk => ⟨fun e => by have := (h.f5 e).1.lt; have := hk.2.1; omega, fun e e2 => by have := Kd.R_lt (h.f3 e) k e2.symm; have := hk.2.1; omega⟩)) h.below.size
  f3 := fun e => Kd.R_below (h.f3 e) hb
  f4 := fun e => ⟨boxed_below (h.f4 e).1 hb, (h.f4 e).2⟩
  f5 := fun e => ⟨boxed_below (h.f5 e).1 hb, (h.f5 e).2⟩
theorem ER.step3 (h : ER wr w' n rows h1 false h4 h5 v8 g4 g5 v10 c4) (hs : (Kd.int .i64).R 3 w2 wr.heap.size (fun _ => True) v (List.replicate n 0)) (hg : w'.grownBy w2 none) (hf : ∃ k, v.ownBlock = some k ∧ w'.heap.size ≤ k) : ER wr w2 n rows h1 true h4 h5 v8 g4 g5 v c4 where
  below := pw_below_grown h.below none h.below.size hg (by simp)
  f1 := fun e => Kd.S_mono (Kd.S_grown (Kd.S_bound (h.f1 e)) hg (by simp)) (fun k hk => ⟨hk.1.1, fun _ e2 => by obtain ⟨b, hb1, hb2⟩ := hf; rw [hb1] at e2; injection e2 with e2; have := hk.2.2.1; omega⟩)
  f3 := fun _ => hs
  f4 := fun e => ⟨(h.f4 e).1.kept hg (by simp), (h.f4 e).2⟩
  f5 := fun e => ⟨(h.f5 e).1.kept hg (by simp), (h.f5 e).2⟩
theorem ER.step4 (h : ER wr w' n rows h1 h3 false h5 v8 g4 g5 v10 c4) : ER wr (w'.alloc (.cells #[.slice none 0 0] 22)) n rows h1 h3 true h5 v8 w'.heap.size g5 v10 (.slice none 0 0) where
  below := below_alloc h.below _
  f1 := fun e => Kd.S_alloc (h.f1 e) _
  f3 := fun e => Kd.R_alloc (h.f3 e) _
  f4 := fun _ => ⟨Boxed.new _ _ _, h.below.size⟩
  f5 := fun e => ⟨(h.f5 e).1.alloc _, (h.f5 e).2⟩
theorem ER.step5 (h : ER wr w' n rows h1 h3 h4 false v8 g4 g5 v10 c4) : ER wr (w'.alloc (.cells #[.slice none 0 0] 39)) n rows h1 h3 h4 true v8 g4 w'.heap.size v10 c4 where
  below := below_alloc h.below _
  f1 := fun e => Kd.S_mono (Kd.S_alloc (Kd.S_bound (h.f1 e)) _) (fun k hk => ⟨fun _ e2 => by have := hk.2.2.1; omega, hk.1.2⟩)
  f3 := fun e => Kd.R_alloc (h.f3 e) _
  f4 := fun e => ⟨(h.f4 e).1.alloc _, (h.f4 e).2⟩
  f5 := fun _ => ⟨Boxed.new _ _ _, h.below.size⟩
theorem ER.step6 (h : ER wr w' n rows true h3 true true v8 g4 g5 v10 c4) : ER wr (w'.setCell ⟨g4, 0, none⟩ v8) n rows true h3 true true v8 g4 g5 v10 v8 where
  below := h.below.setCell (p := ⟨g4, 0, none⟩) (h.f4 rfl).2 _
  f1 := fun e => Kd.S_set (h.f1 e) (h.f4 rfl).1 (by decide) 0 _
  f3 := fun e => Kd.R_set (h.f3 e) (h.f4 rfl).1 (by decide) 0 _
  f4 := fun _ => ⟨(h.f4 rfl).1.set _, (h.f4 rfl).2⟩
  f5 := fun e => ⟨(Below.heap_setCell w' ⟨g4, 0, none⟩ v8 g5 (blk_ne (h.f5 rfl).1 (h.f4 rfl).1 (by decide))).trans (h.f5 e).1, (h.f5 e).2⟩
/-- The last store: all is made. -/
theorem ER.last (h : ER wr w' n rows true true true true v8 g4 g5 v10 v8) : Below wr.heap.size wr (w'.setCell ⟨g5, 0, none⟩ v10) ∧ Kd.S (Kd.slice 3 (Kd.int .i64)) 39 (w'.setCell ⟨g5, 0, none⟩ v10) wr.heap.size (fun k => k ≠ g5 ∧ some k ≠ v10.ownBlock) v8 rows ∧ (Kd.int .i64).R 3 (w'.setCell ⟨g5, 0, none⟩ v10) wr.heap.size (fun _ => True) v10 (List.replicate n 0) ∧
    Boxed (w'.setCell ⟨g5, 0, none⟩ v10) g4 22 v8 ∧ Boxed (w'.setCell ⟨g5, 0, none⟩ v10) g5 39 v10 ∧ wr.heap.size ≤ g4 ∧ wr.heap.size ≤ g5 :=
  ⟨h.below.setCell (p := ⟨g5, 0, none⟩) (h.f5 rfl).2 _, Kd.S_mono (Kd.S_far (p := ⟨g5, 0, none⟩) (h.f1 rfl) (fun k hk => hk.1 rfl) _) (fun k hk => ⟨hk.1 rfl, hk.2 rfl⟩), Kd.R_set (h.f3 rfl) (h.f5 rfl).1 (by decide) 0 _,
    (Below.heap_setCell w' ⟨g5, 0, none⟩ v10 g4 (fun e => blk_ne (h.f5 rfl).1 (h.f4 rfl).1 (by decide) e.symm)).trans (h.f4 rfl).1, (h.f5 rfl).1.set _, (h.f4 rfl).2, (h.f5 rfl).2⟩
end
end Go.Proofs.Ytadepmjfhcmkoaa.P

/- A row of a table that is only read. -/
namespace Go.Proofs.Ytadepmjfhcmkoaa.P
open Go.Proofs.Ytadepmjfhcmkoaa.B
open Go.RowKit Go.Proofs.YtadepmjfhcmkoaaW.PrintWords Go.Proofs.YtadepmjfhcmkoaaW.PrintLast Go.Proofs.YtadepmjfhcmkoaaW.PrintMore
set_option linter.unusedVariables false
set_option linter.unusedSimpArgs false
theorem V_row {e2 e1 : Nat} {W : World} {ok : Nat → Prop} {A : Option Addr} {n c : Nat} {xs : List (List Int)} (h : Kd.V (Kd.slice e1 (Kd.int .i64)) e2 W 0 ok (.slice A n c) xs) (i : Int) (h0 : 0 ≤ i) (h1 : i < xs.length) :
    ∃ ad A1 c1, A = some ad ∧ W.cell? (ad.add i.toNat) = some (.slice A1 (rd_L1 xs i).length c1) ∧ Kd.V (Kd.int .i64) e1 W 0 ok (.slice A1 (rd_L1 xs i).length c1) (rd_L1 xs i) := by
  obtain ⟨hn, hc, hF⟩ := Kd.V_at h
  obtain ⟨ad, cells, eA, hcl, hFK, hcc, _⟩ := Kd.F_get hF ([] : List Int) i h0 (by omega)
  obtain ⟨A1, c1, rfl, hl, hf⟩ := Kd.FK_slice_open hFK
  have h9 : W.cell? (ad.add (i.toNat * 1 + 0)) = some _ := hcc 0 _ rfl
  rw [Nat.mul_one, Nat.add_zero] at h9
  exact ⟨ad, A1, c1, eA, h9, Kd.V_mk hl hf⟩
theorem V_lists {d : Kd Int} {e : Nat} {W : World} {base : Nat} {ok : Nat → Prop} {v : Value} {xs : List Int} (h : Kd.V d e W base ok v xs) : ∃ A c, v = .slice A xs.length c ∧ xs.length ≤ c ∧ d.C W A xs.length xs := by
  obtain ⟨A, c, rfl⟩ := Kd.V_slice h
  obtain ⟨_, h2, h3⟩ := Kd.V_reads' h
  exact ⟨A, c, rfl, h2, h3⟩
end Go.Proofs.Ytadepmjfhcmkoaa.P
