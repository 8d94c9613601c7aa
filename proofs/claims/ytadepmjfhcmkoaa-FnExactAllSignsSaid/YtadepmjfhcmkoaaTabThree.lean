/- Marking and asking lists of tables. -/
import Derived.Test.YtadepmjfhcmkoaaTabSt
import Derived.Test.YtadepmjfhcmkoaaPL
import Derived.Test.YtadepmjfhcmkoaaFLawsHeldIntSSS
import Derived.Test.YtadepmjfhcmkoaaFLawsEqIntSSS
namespace Go.Proofs.Ytadepmjfhcmkoaa.P
open Go.Proofs.Ytadepmjfhcmkoaa.B
open Go.RowKit Go.Proofs.YtadepmjfhcmkoaaW.PrintWords Go.Proofs.YtadepmjfhcmkoaaW.PrintLast Go.Proofs.YtadepmjfhcmkoaaW.PrintMore
set_option linter.unusedVariables false
set_option linter.unusedSimpArgs false
/-- What is not of P stays. -/
structure MovedP (w w' : World) (P : Nat → Prop) : Prop where
  os : w'.os = w.os
  tape : w'.tape = w.tape
  output : w'.output = w.output
  size : w.heap.size ≤ w'.heap.size
  block : ∀ k, k < w.heap.size → ¬ P k → w'.heap[k]? = w.heap[k]?
theorem MovedP.refl (w : World) (P : Nat → Prop) : MovedP w w P := ⟨rfl, rfl, rfl, Nat.le_refl _, fun _ _ _ => rfl⟩
theorem MovedP.trans {w w1 w2 : World} {P Q : Nat → Prop} (h : MovedP w w1 P) (k : MovedP w1 w2 Q) (hq : ∀ i, Q i → P i) : MovedP w w2 P :=
  ⟨k.os.trans h.os, k.tape.trans h.tape, k.output.trans h.output, Nat.le_trans h.size k.size, fun i hi hn => (k.block i (Nat.lt_of_lt_of_le hi h.size) (fun e => hn (hq i e))).trans (h.block i hi hn)⟩
set_option maxHeartbeats 8000000 in
set_option maxRecDepth 100000 in
theorem markSS_ok (lo : Nat) (ok : Nat → Prop) (v : Value) (xs : List (List Int)) (a : Int) (w : World) (hS : Kd.S (Kd.slice 3 (Kd.int .i64)) 39 w lo ok v xs) (h0 : 0 ≤ a) (h1 : a + (total xs : Int) ≤ 4611686018427387904) (hn : total xs ≤ 1048576) :
    Calls Try.prog 17 #[v, .int .i64 a] w fun e w' => e = .returned (.int .i64 (a + (total xs : Int))) ∧ Kd.S (Kd.slice 3 (Kd.int .i64)) 39 w' lo ok v (marked xs a) ∧ MovedP w w' (fun k => lo ≤ k ∧ ok k) := by
  have HS := Aside0.mk hS
  obtain ⟨A, c, rfl⟩ := Kd.S_slice hS
  have hlen : xs.length ≤ 9223372036854775807 := (Kd.S_reads' hS).2.2.2.1
  clear hS
  go_enter Try.func17, Try.ntmps17
  go_wp2_with fail
  go_loopg [1, 5] (xs.length + 1) (fun kq v1 v5 w' => ∃ (j : Nat), v1 = .int .i64 (a + (total (xs.take j) : Int)) ∧ v5 = .int .i64 j ∧ Aside0 (j ≤ xs.length ∧ kq = xs.length + 1 - j) ∧ Aside0 (Kd.S (Kd.slice 3 (Kd.int .i64)) 39 w' lo ok (.slice A xs.length c) (marked (xs.take j) a ++ xs.drop j)) ∧ Aside0 (MovedP w w' (fun k => lo ≤ k ∧ ok k)))
  case atStart => exact ⟨0, by simp [total], rfl, ⟨⟨by omega, by omega⟩⟩, ⟨by simpa [marked] using HS.out⟩, ⟨MovedP.refl _ _⟩⟩
  case round =>
    obtain ⟨j, rfl, rfl, HA, HR, HM⟩ := hrel
    clear HS
    by_cases hj : j < xs.length
    · have c4b0 : decide (j < xs.length) = true := decide_eq_true hj
      have hl : (marked (xs.take j) a ++ xs.drop j).length = xs.length := by rw [List.length_append, marked_length, List.length_take, List.length_drop]; omega
      obtain ⟨g, cap, hv, _, _, _⟩ := Kd.S_form HR.out (by omega)
      injection hv with hv hn' hc'
      subst hv
      subst hc'
      clear hn'
      obtain ⟨oki, cs, hcl, hM, hcc, hoki, hH⟩ := Kd.S_lend HR.out ([] : List Int) (j : Int) (by omega) (by omega)
      rw [Int.toNat_natCast] at hM hcc
      have hx : (marked (xs.take j) a ++ xs.drop j).getD j [] = xs[j] := by
        have hml : (marked (xs.take j) a).length = j := by rw [marked_length, List.length_take]; omega
        rw [List.getD_eq_getElem?_getD, List.getElem?_append_right (by omega), hml, Nat.sub_self, List.drop_eq_getElem_cons hj]
        rfl
      rw [hx] at hM
      obtain ⟨u, rfl, hrow0⟩ := hM
      have hcell : wr.cell? ⟨g, j, none⟩ = some u := by
        have := hcc 0 u rfl
        rw [show ((Kd.slice 3 (Kd.int .i64))).sz = 1 from rfl, Nat.mul_one, Nat.add_zero] at this
        exact this
      have hrow := own_of_R hrow0
      have hok := hrow0.1
      have HROW := Aside0.mk hrow
      have HH := Aside0.mk hH
      have HOK := Aside0.mk (And.intro hok hoki)
      have ht : total (xs.take (j + 1)) = total (xs.take j) + xs[j].length := by
        rw [List.take_succ_eq_append_getElem hj, total_append]
        simp [total]
      have ht2 : total (xs.take j) + xs[j].length ≤ total xs := by
        have h6 : total xs = total (xs.take j) + total (xs.drop j) := by rw [← total_append, List.take_append_drop]
        rw [List.drop_eq_getElem_cons hj, total_cons] at h6
        omega
      have HT := Aside0.mk (And.intro ht ht2)
      have hbound : xs[j].length ≤ 1048576 := by omega
      have hbound2 : a + (total (xs.take j) : Int) ≤ 4611686018427387904 := by omega
      clear hrow hrow0 hH hok hoki hcl hcc hx hl ht ht2
      go_wp2_with (go_at_call 33; (with_reducible refine (markS_any lo u xs[j] (a + (total (xs.take j) : Int)) _ HROW.out (by omega) hbound2 hbound).mono ?_); rintro e w2 ⟨rfl, hr2, hg2⟩; have HR2 := Aside0.mk hr2; have HG2 := Aside0.mk hg2; clear hr2 hg2)
      have HS2 := Aside0.mk (Kd.H_back (x' := upFrom (a + (total (xs.take j) : Int)) xs[j].length) (Kd.H_grown HH.out HG2.out (fun k hk => HOK.out.1 k hk)) (okp := fun k => u.ownBlock = some k) ⟨u, rfl, int_R (by rw [upFrom_length]; exact HR2.out)⟩ (fun k hk => HOK.out.1 k hk))
      rw [Int.toNat_natCast] at HS2
      go_roundg (gk - 1)
      case measure => have := HA.out; omega
      case rel =>
        refine ⟨j + 1, by rw [HT.out.1]; go_num, by go_num, ⟨⟨by omega, by have := HA.out; omega⟩⟩, ⟨?_⟩, ⟨HM.out.trans (Q := fun k => lo ≤ k ∧ ok k) ?_ (fun _ h => h)⟩⟩
        · have h := HS2.out
          have hml : (marked (xs.take j) a).length = j := by rw [marked_length, List.length_take]; omega
          rw [List.set_append_right _ _ (by omega), hml, Nat.sub_self, List.drop_eq_getElem_cons hj, List.set_cons_zero] at h
          rw [List.take_succ_eq_append_getElem hj, marked_append]
          simpa [marked] using h
        · refine ⟨HG2.out.os, HG2.out.tape, HG2.out.output, HG2.out.size, fun k hk hn => HG2.out.block k hk (fun he => hn ?_)⟩
          have h1 := HOK.out.1 k he.symm
          have h2 := HROW.out.lt k he.symm
          exact ⟨h2.1, (HOK.out.2 k h1).1⟩
    · have c4b0 : decide (j < xs.length) = false := decide_eq_false hj
      obtain rfl : j = xs.length := by have := HA.out; omega
      go_wp2
      go_ret
      exact ⟨by rw [List.take_length]; rfl, by have h := HR.out; rwa [List.drop_length, List.take_length, List.append_nil] at h, HM.out⟩
def total3 (L : List (List (List Int))) : Nat := (L.map total).sum
/-- Tables in which the numbers are a, a + 1, .. in order. -/
def marked3 : List (List (List Int)) → Int → List (List (List Int))
  | [], _ => []
  | x :: xs, a => marked x a :: marked3 xs (a + (total x : Int))
theorem marked3_length (xs : List (List (List Int))) (a : Int) : (marked3 xs a).length = xs.length := by
  induction xs generalizing a with
  | nil => rfl
  | cons x xs ih => simp [marked3, ih]
theorem total3_append (xs ys : List (List (List Int))) : total3 (xs ++ ys) = total3 xs + total3 ys := by simp [total3]
theorem total3_cons (x : List (List Int)) (xs : List (List (List Int))) : total3 (x :: xs) = total x + total3 xs := by simp [total3]
theorem marked3_append (xs ys : List (List (List Int))) (a : Int) : marked3 (xs ++ ys) a = marked3 xs a ++ marked3 ys (a + (total3 xs : Int)) := by
  induction xs generalizing a with
  | nil => simp [marked3, total3]
  | cons x xs ih =>
    rw [List.cons_append, marked3, marked3, ih, total3_cons]
    simp [Int.add_assoc]
theorem marked3_get (xs : List (List (List Int))) (a : Int) (i : Nat) (h : i < xs.length) : (marked3 xs a)[i]'(by rw [marked3_length]; exact h) = marked xs[i] (a + (total3 (xs.take i) : Int)) := by
  induction xs generalizing a i with
  | nil => simp at h
  | cons x xs ih =>
    cases i with
    | zero => simp [marked3, total3]
    | succ i =>
      simp only [marked3, List.getElem_cons_succ, List.take_succ_cons, total3_cons]
      rw [ih (a + (total x : Int)) i (by simpa using h)]
      congr 1
      omega
set_option maxHeartbeats 8000000 in
set_option maxRecDepth 100000 in
theorem markSSS_ok (lo : Nat) (ok : Nat → Prop) (v : Value) (xs : List (List (List Int))) (a : Int) (w : World) (hS : Kd.S (Kd.sslice 39 (Kd.slice 3 (Kd.int .i64))) 22 w lo ok v xs) (h0 : 0 ≤ a) (h1 : a + (total3 xs : Int) ≤ 4611686018427387904) (hn : total3 xs ≤ 1048576) :
    Calls Try.prog 28 #[v, .int .i64 a] w fun e w' => e = .returned (.int .i64 (a + (total3 xs : Int))) ∧ Kd.S (Kd.sslice 39 (Kd.slice 3 (Kd.int .i64))) 22 w' lo ok v (marked3 xs a) ∧ MovedP w w' (fun k => ok k) := by
  have HS := Aside0.mk hS
  obtain ⟨A, c, rfl⟩ := Kd.S_slice hS
  have hlen : xs.length ≤ 9223372036854775807 := (Kd.S_reads' hS).2.2.2.1
  clear hS
  go_enter Try.func28, Try.ntmps28
  go_wp2_with fail
  go_loopg [1, 5] (xs.length + 1) (fun kq v1 v5 w' => ∃ (j : Nat), v1 = .int .i64 (a + (total3 (xs.take j) : Int)) ∧ v5 = .int .i64 j ∧ Aside0 (j ≤ xs.length ∧ kq = xs.length + 1 - j) ∧ Aside0 (Kd.S (Kd.sslice 39 (Kd.slice 3 (Kd.int .i64))) 22 w' lo ok (.slice A xs.length c) (marked3 (xs.take j) a ++ xs.drop j)) ∧ Aside0 (MovedP w w' (fun k => ok k)))
  case atStart => exact ⟨0, by simp [total3], rfl, ⟨⟨by omega, by omega⟩⟩, ⟨by simpa [marked3] using HS.out⟩, ⟨MovedP.refl _ _⟩⟩
  case round =>
    obtain ⟨j, rfl, rfl, HA, HR, HM⟩ := hrel
    clear HS
    by_cases hj : j < xs.length
    · have c4b0 : decide (j < xs.length) = true := decide_eq_true hj
      have hl : (marked3 (xs.take j) a ++ xs.drop j).length = xs.length := by rw [List.length_append, marked3_length, List.length_take, List.length_drop]; omega
      obtain ⟨g, cap, hv, _, _, _⟩ := Kd.S_form HR.out (by omega)
      injection hv with hv hn' hc'
      subst hv
      subst hc'
      clear hn'
      obtain ⟨oki, cs, hcl, hM, hcc, hoki, hH⟩ := Kd.S_lend HR.out ([] : List (List Int)) (j : Int) (by omega) (by omega)
      rw [Int.toNat_natCast] at hM hcc
      have hx : (marked3 (xs.take j) a ++ xs.drop j).getD j [] = xs[j] := by
        have hml : (marked3 (xs.take j) a).length = j := by rw [marked3_length, List.length_take]; omega
        rw [List.getD_eq_getElem?_getD, List.getElem?_append_right (by omega), hml, Nat.sub_self, List.drop_eq_getElem_cons hj]
        rfl
      rw [hx] at hM
      obtain ⟨u, rfl, hrow⟩ := hM
      have hcell : wr.cell? ⟨g, j, none⟩ = some u := by
        have := hcc 0 u rfl
        rw [show (Kd.sslice 39 (Kd.slice 3 (Kd.int .i64))).sz = 1 from rfl, Nat.mul_one, Nat.add_zero] at this
        exact this
      have HROW := Aside0.mk hrow
      have HH := Aside0.mk hH
      have HOK := Aside0.mk hoki
      have ht : total3 (xs.take (j + 1)) = total3 (xs.take j) + total xs[j] := by
        rw [List.take_succ_eq_append_getElem hj, total3_append]
        simp [total3]
      have ht2 : total3 (xs.take j) + total xs[j] ≤ total3 xs := by
        have h6 : total3 xs = total3 (xs.take j) + total3 (xs.drop j) := by rw [← total3_append, List.take_append_drop]
        rw [List.drop_eq_getElem_cons hj, total3_cons] at h6
        omega
      have HT := Aside0.mk (And.intro ht ht2)
      have hbound : total xs[j] ≤ 1048576 := by omega
      have hbound2 : a + (total3 (xs.take j) : Int) + (total xs[j] : Int) ≤ 4611686018427387904 := by omega
      clear hrow hH hoki hcl hcc hx hl ht ht2
      go_wp2_with (go_at_call 17; (with_reducible refine (markSS_ok lo oki u xs[j] (a + (total3 (xs.take j) : Int)) _ HROW.out (by omega) hbound2 hbound).mono ?_); rintro e w2 ⟨rfl, hr2, hg2⟩; have HR2 := Aside0.mk hr2; have HG2 := Aside0.mk hg2; clear hr2 hg2)
      have HS2 := Aside0.mk (Kd.H_back (x' := marked xs[j] (a + (total3 (xs.take j) : Int))) (Kd.H_step HH.out (fun k hk hn hlt => HG2.out.block k hlt (fun h => hn h.2))) (okp := oki) ⟨u, rfl, HR2.out⟩ (fun k hk => hk))
      rw [Int.toNat_natCast] at HS2
      go_roundg (gk - 1)
      case measure => have := HA.out; omega
      case rel =>
        refine ⟨j + 1, by rw [HT.out.1]; go_num, by go_num, ⟨⟨by omega, by have := HA.out; omega⟩⟩, ⟨?_⟩, ⟨HM.out.trans HG2.out (fun k h => (HOK.out k h.2).1)⟩⟩
        have h := HS2.out
        have hml : (marked3 (xs.take j) a).length = j := by rw [marked3_length, List.length_take]; omega
        rw [List.set_append_right _ _ (by omega), hml, Nat.sub_self, List.drop_eq_getElem_cons hj, List.set_cons_zero] at h
        rw [List.take_succ_eq_append_getElem hj, marked3_append]
        simpa [marked3] using h
    · have c4b0 : decide (j < xs.length) = false := decide_eq_false hj
      obtain rfl : j = xs.length := by have := HA.out; omega
      go_wp2
      go_ret
      exact ⟨by rw [List.take_length]; rfl, by have h := HR.out; rwa [List.drop_length, List.take_length, List.append_nil] at h, HM.out⟩
theorem rdL2_get (L : List (List (List Int))) (i : Nat) (h : i < L.length) : rd_L2 L (i : Int) = L[i] := by
  unfold rd_L2
  rw [Int.toNat_natCast, List.getD_eq_getElem?_getD, List.getElem?_eq_getElem h]
  rfl
theorem ev_heldIntSSS (xs : List (List (List Int))) (a : Int) (h0 : 0 ≤ a) (h1 : a ≤ 1000000000000) (hl : total3 xs ≤ 1048576) (hx : xs.length ≤ 1048576) (hy : ∀ x ∈ xs, x.length ≤ 1048576) : Ev (fun k => laws_heldIntSSS.f k (marked3 xs a) a) (a + (total3 xs : Int)) := by
  unfold laws_heldIntSSS.f
  suffices h : ∀ (d i : Nat), xs.length = i + d → Ev (fun k => laws_heldIntSSS.l0 k (marked3 xs a) (a + (total3 (xs.take i) : Int)) (i : Int)) (a + (total3 xs : Int)) by
    have h0 := h xs.length 0 (by omega)
    simpa [total3] using h0
  intro d
  induction d with
  | zero =>
    intro i hi
    refine Ev.succ ?_
    simp only [laws_heldIntSSS.l0]
    refine Ev.neg (by rw [marked3_length]; omega) ?_
    rw [List.take_of_length_le (by omega)]
    exact Ev.now _
  | succ d ih =>
    intro i hi
    refine Ev.succ ?_
    simp only [laws_heldIntSSS.l0]
    refine Ev.pos (by rw [marked3_length]; omega) (Ev.pos (by omega) ?_)
    rw [rdL2_get _ i (by rw [marked3_length]; omega), marked3_get xs a i (by omega)]
    have ht : total3 (xs.take (i + 1)) = total3 (xs.take i) + total (xs[i]'(by omega)) := by
      rw [List.take_succ_eq_append_getElem (by omega), total3_append]
      simp [total3]
    have ht2 : total3 (xs.take (i + 1)) ≤ total3 xs := by
      have h6 : total3 xs = total3 (xs.take (i + 1)) + total3 (xs.drop (i + 1)) := by rw [← total3_append, List.take_append_drop]
      omega
    have hyi := hy (xs[i]'(by omega)) (List.getElem_mem _)
    refine Ev.bind (ev_heldIntSS _ _ (by omega) (by omega) (by omega) (by omega)) (Ev.neg (by omega) ?_)
    rw [wrapN _ (by omega), show a + (total3 (xs.take i) : Int) + (total (xs[i]'(by omega)) : Int) = a + (total3 (xs.take (i + 1)) : Int) by omega]
    exact ih (i + 1) (by omega)
theorem ev_eqIntSSS (l : List (List (List Int))) (hl : l.length ≤ 1048576) (hy : ∀ x ∈ l, x.length ≤ 1048576 ∧ ∀ y ∈ x, y.length ≤ 1048576) : Ev (fun k => laws_eqIntSSS.f k l l) true := by
  unfold laws_eqIntSSS.f
  refine Ev.pos rfl ?_
  suffices h : ∀ (d i : Nat), l.length = i + d → Ev (fun k => laws_eqIntSSS.l0 k l l (i : Int)) true from h l.length 0 (by omega)
  intro d
  induction d with
  | zero =>
    intro i hi
    refine Ev.succ ?_
    simp only [laws_eqIntSSS.l0]
    exact Ev.neg (by omega) (Ev.now _)
  | succ d ih =>
    intro i hi
    refine Ev.succ ?_
    simp only [laws_eqIntSSS.l0]
    refine Ev.pos (by omega) (Ev.pos (by omega) (Ev.pos (by omega) ?_))
    rw [rdL2_get l i (by omega)]
    have hyi := hy (l[i]'(by omega)) (List.getElem_mem _)
    refine Ev.bind (ev_eqIntSS _ _ (by omega) (fun x hx => by have := hyi.2 x hx; omega)) (Ev.pos (decide_eq_true rfl) ?_)
    rw [wrapN _ (by omega)]
    exact ih (i + 1) (by omega)
end Go.Proofs.Ytadepmjfhcmkoaa.P
