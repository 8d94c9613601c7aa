/- The laws' own marking functions: what they leave in a row, and in a table, that was made behind a world. -/
import Derived.Test.YtbfgcpjkagbmdaaTab
namespace Go.Proofs.Ytbfgcpjkagbmdaa.P
open Go.Proofs.Ytbfgcpjkagbmdaa.B
open Go.RowKit Go.Proofs.YtbfgcpjkagbmdaaW.PrintWords Go.Proofs.YtbfgcpjkagbmdaaW.PrintLast Go.Proofs.YtbfgcpjkagbmdaaW.PrintMore
set_option linter.unusedVariables false
set_option linter.unusedSimpArgs false
/-- a, a + 1, .. : so many numbers. -/
def upFrom (a : Int) (n : Nat) : List Int := (List.range n).map fun (j : Nat) => a + (j : Int)
theorem upFrom_length (a : Int) (n : Nat) : (upFrom a n).length = n := by simp [upFrom]
theorem upFrom_succ (a : Int) (n : Nat) : upFrom a (n + 1) = upFrom a n ++ [a + (n : Int)] := by simp [upFrom, List.range_succ]
theorem grownBy_refl (w : World) (row : Option Nat) : w.grownBy w row := ⟨rfl, rfl, rfl, Nat.le_refl _, fun _ _ _ => rfl⟩
set_option maxHeartbeats 8000000 in
set_option maxRecDepth 100000 in
theorem markS_any (base : Nat) (u : Value) (xs : List Int) (a : Int) (w : World) (hown : w.ownsRow base 3 1 u xs.length (nums .i64 xs)) (h0 : 0 ≤ a) (h1 : a ≤ 4611686018427387904) (hn : xs.length ≤ 1048576) :
    Calls Try.prog 28 #[u, .int .i64 a] w fun e w' => e = .returned (.int .i64 (a + (xs.length : Int))) ∧ w'.ownsRow base 3 1 u xs.length (nums .i64 (upFrom a xs.length)) ∧ w.grownBy w' u.ownBlock := by
  have HO := Aside0.mk hown
  obtain ⟨A, c, rfl⟩ := own_slice hown
  clear hown
  go_enter Try.func28, Try.ntmps28
  go_wp2_with fail
  go_loopg [1, 5] (xs.length + 1) (fun kq v1 v5 w' => ∃ (j : Nat), v1 = .int .i64 (a + (j : Int)) ∧ v5 = .int .i64 j ∧ Aside0 (j ≤ xs.length ∧ kq = xs.length + 1 - j) ∧ Aside0 (w'.ownsRow base 3 1 (.slice A xs.length c) xs.length (nums .i64 (upFrom a j ++ xs.drop j))) ∧ Aside0 (w.grownBy w' (Value.slice A xs.length c).ownBlock))
  case atStart => exact ⟨0, by simp, rfl, ⟨⟨by omega, by omega⟩⟩, ⟨by simpa [upFrom] using HO.out⟩, ⟨grownBy_refl _ _⟩⟩
  case round =>
    obtain ⟨j, rfl, rfl, HA, HR, HG⟩ := hrel
    clear HO
    by_cases hj : j < xs.length
    · have c4b0 : decide (j < xs.length) = true := decide_eq_true hj
      have hl : (upFrom a j ++ xs.drop j).length = xs.length := by rw [List.length_append, upFrom_length, List.length_drop]; omega
      obtain ⟨g, cap, hv, _, _⟩ := World.ownsRow.form HR.out (by omega)
      injection hv with hv hn' hc'
      subst hv
      subst hc'
      clear hn'
      obtain ⟨z, hz⟩ : ∃ z, wr.cell? ⟨g, j, none⟩ = some (.int .i64 z) :=
        ⟨(upFrom a j ++ xs.drop j)[j]'(by omega), (HR.out.cellAt j (by omega)).trans (by simp only [nums]; rw [List.getElem?_map, List.getElem?_eq_getElem (by omega)]; rfl)⟩
      have hf := HR.out.frozenAt j
      have hs := HR.out.stored j (.int .i64 (a + (j : Int)))
      have e : (nums .i64 (upFrom a j ++ xs.drop j)).set j (.int .i64 (a + (j : Int))) = nums .i64 (upFrom a (j + 1) ++ xs.drop (j + 1)) := by
        unfold nums
        rw [← List.map_set, upFrom_succ, List.set_append_right _ _ (by rw [upFrom_length]; exact Nat.le_refl _), upFrom_length, Nat.sub_self, List.drop_eq_getElem_cons hj, List.set_cons_zero]
        simp
      rw [e] at hs
      have HS := Aside0.mk hs
      clear hs e
      go_wp2
      go_roundg (gk - 1)
      case measure => have := HA.out; omega
      case rel => exact ⟨j + 1, by go_num, by go_num, ⟨⟨by omega, by have := HA.out; omega⟩⟩, ⟨HS.out.1⟩, ⟨World.grownBy.trans HG.out HS.out.2⟩⟩
    · have c4b0 : decide (j < xs.length) = false := decide_eq_false hj
      obtain rfl : j = xs.length := by have := HA.out; omega
      go_wp2
      go_ret
      exact ⟨rfl, by have h := HR.out; rwa [List.drop_length, List.append_nil] at h, HG.out⟩
/-- How many numbers a table has. -/
def total (xss : List (List Int)) : Nat := (xss.map List.length).sum
/-- A table in which the numbers are a, a + 1, .. in order. -/
def marked : List (List Int) → Int → List (List Int)
  | [], _ => []
  | x :: xs, a => upFrom a x.length :: marked xs (a + (x.length : Int))
theorem marked_length (xs : List (List Int)) (a : Int) : (marked xs a).length = xs.length := by
  induction xs generalizing a with
  | nil => rfl
  | cons x xs ih => simp [marked, ih]
theorem total_append (xs ys : List (List Int)) : total (xs ++ ys) = total xs + total ys := by simp [total]
theorem total_cons (x : List Int) (xs : List (List Int)) : total (x :: xs) = x.length + total xs := by simp [total]
theorem marked_append (xs ys : List (List Int)) (a : Int) : marked (xs ++ ys) a = marked xs a ++ marked ys (a + (total xs : Int)) := by
  induction xs generalizing a with
  | nil => simp [marked, total]
  | cons x xs ih =>
    rw [List.cons_append, marked, marked, ih, total_cons]
    simp [Int.add_assoc]
/-- A table that was made by a call: its blocks lie from lo on and below hi, its rows lie apart. -/
def Seg (w : World) (lo hi : Nat) (v : Value) (xs : List (List Int)) : Prop := Kd.S (Kd.slice 3 (Kd.int .i64)) 26 w lo (fun k => k < hi) v xs
theorem Seg.of_S {w : World} {lo : Nat} {v : Value} {xs : List (List Int)} (h : Kd.S (Kd.slice 3 (Kd.int .i64)) 26 w lo (fun _ => True) v xs) : Seg w lo w.heap.size v xs :=
  Kd.S_mono (Kd.S_bound h) (fun _ hk => hk.2.2.1)
/-- What is outside of lo .. hi has turned alone. -/
structure Moved (w w' : World) (lo hi : Nat) : Prop where
  os : w'.os = w.os
  tape : w'.tape = w.tape
  output : w'.output = w.output
  size : w.heap.size ≤ w'.heap.size
  block : ∀ k, k < w.heap.size → ¬ (lo ≤ k ∧ k < hi) → w'.heap[k]? = w.heap[k]?
theorem Moved.refl (w : World) (lo hi : Nat) : Moved w w lo hi := ⟨rfl, rfl, rfl, Nat.le_refl _, fun _ _ _ => rfl⟩
theorem Moved.trans {w w1 w2 : World} {lo hi : Nat} (h : Moved w w1 lo hi) (k : Moved w1 w2 lo hi) : Moved w w2 lo hi :=
  ⟨k.os.trans h.os, k.tape.trans h.tape, k.output.trans h.output, Nat.le_trans h.size k.size, fun i hi hn => (k.block i (Nat.lt_of_lt_of_le hi h.size) hn).trans (h.block i hi hn)⟩
theorem Moved.of_below {w w' : World} {lo hi : Nat} (h : Below w.heap.size w w') : Moved w w' lo hi := ⟨h.os, h.tape, h.output, h.size, fun k hk _ => h.block k hk⟩
theorem Moved.below {B lo hi : Nat} {w0 w w' : World} (h : Moved w w' lo hi) (hb : Below B w0 w) (hB : B ≤ w.heap.size) (hlo : B ≤ lo) : Below B w0 w' :=
  hb.trans ⟨h.os, h.tape, h.output, h.size, fun k hk => h.block k (by omega) (by omega)⟩
theorem Seg.move {w w' : World} {lo hi lo' hi' : Nat} {v : Value} {xs : List (List Int)} (h : Seg w lo hi v xs) (hm : Moved w w' lo' hi') (hd : hi ≤ lo' ∨ hi' ≤ lo) : Seg w' lo hi v xs :=
  Kd.S_mono (Kd.S_step (Kd.S_bound h) (fun k hk hlt => hm.block k hlt (by have h1 := hk.1; have h2 := hk.2.1; omega))) (fun _ hk => hk.1)
theorem Seg.below {w w' : World} {lo hi : Nat} {v : Value} {xs : List (List Int)} (h : Seg w lo hi v xs) (hb : Below w.heap.size w w') : Seg w' lo hi v xs := Kd.S_below h hb
theorem Seg.slice {w : World} {lo hi : Nat} {v : Value} {xs : List (List Int)} (h : Seg w lo hi v xs) : ∃ A c, v = .slice A xs.length c := Kd.S_slice h
theorem Seg.reads {w : World} {lo hi : Nat} {A : Option Addr} {n c : Nat} {xs : List (List Int)} (h : Seg w lo hi (.slice A n c) xs) : n = xs.length ∧ n ≤ c ∧ Kd.C (Kd.slice 3 (Kd.int .i64)) w A xs.length xs := Kd.S_reads' h
/-- The same of a row of numbers. -/
def Seg1 (w : World) (lo hi : Nat) (v : Value) (xs : List Int) : Prop := w.ownsRow lo 3 1 v xs.length (nums .i64 xs) ∧ ∀ k, v.ownBlock = some k → k < hi
theorem Seg1.own {w : World} {lo hi : Nat} {v : Value} {xs : List Int} (h : Seg1 w lo hi v xs) : w.ownsRow lo 3 1 v xs.length (nums .i64 xs) := h.1
theorem Seg1.move {w w' : World} {lo hi lo' hi' : Nat} {v : Value} {xs : List Int} (h : Seg1 w lo hi v xs) (hm : Moved w w' lo' hi') (hd : hi ≤ lo' ∨ hi' ≤ lo) : Seg1 w' lo hi v xs :=
  ⟨own_move h.1 (fun k hk => hm.block k (own_lt h.1 k hk) (by have h1 := own_base h.1 k hk; have h2 := h.2 k hk; omega)), h.2⟩
theorem Seg1.below {w w' : World} {lo hi : Nat} {v : Value} {xs : List Int} (h : Seg1 w lo hi v xs) (hb : Below w.heap.size w w') : Seg1 w' lo hi v xs := ⟨pw_own_below h.1 hb, h.2⟩
theorem Seg1.slice {w : World} {lo hi : Nat} {v : Value} {xs : List Int} (h : Seg1 w lo hi v xs) : ∃ A c, v = .slice A xs.length c := own_slice h.1
theorem Seg1.reads {w : World} {lo hi : Nat} {A : Option Addr} {n c : Nat} {xs : List Int} (h : Seg1 w lo hi (.slice A n c) xs) : n = xs.length ∧ n ≤ c ∧ Kd.C (Kd.int .i64) w A xs.length xs := Kd.R_reads' (int_R h.1)
theorem Seg1.of_own {w : World} {lo : Nat} {v : Value} {xs : List Int} (h : w.ownsRow lo 3 1 v xs.length (nums .i64 xs)) : Seg1 w lo w.heap.size v xs := ⟨h, own_lt h⟩
theorem Seg1.mark {w w' : World} {lo hi : Nat} {v : Value} {xs ys : List Int} (h : Seg1 w lo hi v xs) (hl : ys.length = xs.length) (ho : w'.ownsRow lo 3 1 v xs.length (nums .i64 ys)) (hg : w.grownBy w' v.ownBlock) : Seg1 w' lo hi v ys ∧ Moved w w' lo hi :=
  ⟨⟨by rw [hl]; exact ho, h.2⟩, ⟨hg.os, hg.tape, hg.output, hg.size, fun k hk hn => hg.block k hk (fun he => hn ⟨own_base h.1 k he.symm, h.2 k he.symm⟩)⟩⟩
set_option maxHeartbeats 8000000 in
set_option maxRecDepth 100000 in
theorem markSS_any (lo hi : Nat) (v : Value) (xs : List (List Int)) (a : Int) (w : World) (hS : Seg w lo hi v xs) (h0 : 0 ≤ a) (h1 : a + (total xs : Int) ≤ 4611686018427387904) (hn : total xs ≤ 1048576) :
    Calls Try.prog 24 #[v, .int .i64 a] w fun e w' => e = .returned (.int .i64 (a + (total xs : Int))) ∧ Seg w' lo hi v (marked xs a) ∧ Moved w w' lo hi := by
  have HS := Aside0.mk hS
  obtain ⟨A, c, rfl⟩ := hS.slice
  have hlen : xs.length ≤ 9223372036854775807 := hS.reads.2.2.2.1
  clear hS
  go_enter Try.func24, Try.ntmps24
  go_wp2_with fail
  go_loopg [1, 5] (xs.length + 1) (fun kq v1 v5 w' => ∃ (j : Nat), v1 = .int .i64 (a + (total (xs.take j) : Int)) ∧ v5 = .int .i64 j ∧ Aside0 (j ≤ xs.length ∧ kq = xs.length + 1 - j) ∧ Aside0 (Seg w' lo hi (.slice A xs.length c) (marked (xs.take j) a ++ xs.drop j)) ∧ Aside0 (Moved w w' lo hi))
  case atStart => exact ⟨0, by simp [total], rfl, ⟨⟨by omega, by omega⟩⟩, ⟨by simpa [marked] using HS.out⟩, ⟨Moved.refl _ _ _⟩⟩
  case round =>
    obtain ⟨j, rfl, rfl, HA, HR, HM⟩ := hrel
    clear HS
    by_cases hj : j < xs.length
    · have c4b0 : decide (j < xs.length) = true := decide_eq_true hj
      have hl : (marked (xs.take j) a ++ xs.drop j).length = xs.length := by rw [List.length_append, marked_length, List.length_take, List.length_drop]; omega
      obtain ⟨g, cap, hv, _, _, _⟩ := Kd.S_form HR.out (by omega)
      injection hv with hv hn' hc'
      subst hv
      subst hc'
      clear hn'
      obtain ⟨oki, cs, hcl, hM, hcc, hoki, hH⟩ := Kd.S_lend HR.out ([] : List Int) (j : Int) (by omega) (by omega)
      rw [Int.toNat_natCast] at hM hcc
      have hx : (marked (xs.take j) a ++ xs.drop j).getD j [] = xs[j] := by
        have hml : (marked (xs.take j) a).length = j := by rw [marked_length, List.length_take]; omega
        rw [List.getD_eq_getElem?_getD, List.getElem?_append_right (by omega), hml, Nat.sub_self, List.drop_eq_getElem_cons hj]
        rfl
      rw [hx] at hM
      obtain ⟨u, rfl, hok, inner, hrow, hrep⟩ := hM
      have hcell : wr.cell? ⟨g, j, none⟩ = some u := by
        have := hcc 0 u rfl
        rw [show ((Kd.slice 3 (Kd.int .i64))).sz = 1 from rfl, Nat.mul_one, Nat.add_zero] at this
        exact this
      have hin : inner = nums .i64 xs[j] := by
        have h1 := hrep.1
        apply List.ext_getElem?
        intro q
        by_cases hq : q < xs[j].length
        · have h2 := hrep.2 q _ (List.getElem?_eq_getElem hq)
          have h3 : (inner.drop (q * 1)).take 1 = [.int .i64 (xs[j][q])] := h2
          have h4 : inner.length = xs[j].length * 1 := h1
          rw [Nat.mul_one, List.drop_eq_getElem_cons (by omega)] at h3
          have h5 : inner[q]'(by omega) = .int .i64 (xs[j][q]) := by
            injection h3
          rw [List.getElem?_eq_getElem (by omega), h5]
          simp [nums, List.getElem?_eq_getElem hq]
        · have h4 : inner.length = xs[j].length * 1 := h1
          rw [List.getElem?_eq_none (by omega), List.getElem?_eq_none (by simp [nums]; omega)]
      subst hin
      have HROW := Aside0.mk hrow
      have HH := Aside0.mk hH
      have HOK := Aside0.mk (And.intro hok hoki)
      have ht : total (xs.take (j + 1)) = total (xs.take j) + xs[j].length := by
        rw [List.take_succ_eq_append_getElem hj, total_append]
        simp [total]
      have ht2 : total (xs.take j) + xs[j].length ≤ total xs := by
        have h6 : total xs = total (xs.take j) + total (xs.drop j) := by rw [← total_append, List.take_append_drop]
        rw [List.drop_eq_getElem_cons hj, total_cons] at h6
        omega
      have HT := Aside0.mk (And.intro ht ht2)
      have hbound : xs[j].length ≤ 1048576 := by omega
      have hbound2 : a + (total (xs.take j) : Int) ≤ 4611686018427387904 := by omega
      clear hrow hH hok hoki hcl hcc hrep hx hl ht ht2
      go_wp2_with (go_at_call 28; (with_reducible refine (markS_any lo u xs[j] (a + (total (xs.take j) : Int)) _ HROW.out (by omega) hbound2 hbound).mono ?_); rintro e w2 ⟨rfl, hr2, hg2⟩; have HR2 := Aside0.mk hr2; have HG2 := Aside0.mk hg2; clear hr2 hg2)
      have hu : u.oneCell' = true := (Kd.R_val (int_R HROW.out)).2
      have HS2 := Aside0.mk (Kd.H_back (x' := upFrom (a + (total (xs.take j) : Int)) xs[j].length) (Kd.H_grown HH.out HG2.out (fun k hk => HOK.out.1 k hk)) (okp := fun k => u.ownBlock = some k) ⟨u, rfl, int_R (by rw [upFrom_length]; exact HR2.out)⟩ (fun k hk => HOK.out.1 k hk))
      rw [Int.toNat_natCast] at HS2
      go_roundg (gk - 1)
      case measure => have := HA.out; omega
      case rel =>
        refine ⟨j + 1, by rw [HT.out.1]; go_num, by go_num, ⟨⟨by omega, by have := HA.out; omega⟩⟩, ⟨?_⟩, ⟨HM.out.trans ?_⟩⟩
        · have h := HS2.out
          have hml : (marked (xs.take j) a).length = j := by rw [marked_length, List.length_take]; omega
          rw [List.set_append_right _ _ (by omega), hml, Nat.sub_self, List.drop_eq_getElem_cons hj, List.set_cons_zero] at h
          rw [List.take_succ_eq_append_getElem hj, marked_append]
          unfold Seg
          simpa [marked] using h
        · refine ⟨HG2.out.os, HG2.out.tape, HG2.out.output, HG2.out.size, fun k hk hn => HG2.out.block k hk (fun he => hn ?_)⟩
          have h1 := HOK.out.1 k he.symm
          have h2 := HROW.out.lt k he.symm
          exact ⟨h2.1, (HOK.out.2 k h1).1⟩
    · have c4b0 : decide (j < xs.length) = false := decide_eq_false hj
      obtain rfl : j = xs.length := by have := HA.out; omega
      go_wp2
      go_ret
      exact ⟨by rw [List.take_length]; rfl, by have h := HR.out; rwa [List.drop_length, List.take_length, List.append_nil] at h, HM.out⟩
end Go.Proofs.Ytbfgcpjkagbmdaa.P
