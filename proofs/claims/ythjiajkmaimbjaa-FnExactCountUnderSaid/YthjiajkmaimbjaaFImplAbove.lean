-- By gp.py (this session's own driver over the kit's print). Not trusted: Lean checks it.
import Derived.Test.YthjiajkmaimbjaaF0
import Derived.Test.YthjiajkmaimbjaaB
import Derived.Deep.RegionHeld3
import Derived.Laws.EntriesVeiled
import Derived.Test.YthjiajkmaimbjaaFImplEach
import Derived.Test.YthjiajkmaimbjaaGrow
import Derived.Test.YthjiajkmaimbjaaFImplEach
namespace Go.Proofs.Ythjiajkmaimbjaa.P
open Go.Proofs.Ythjiajkmaimbjaa.B
open Go.RowKit Go.Proofs.YthjiajkmaimbjaaW.PrintWords Go.Proofs.YthjiajkmaimbjaaW.PrintLast Go.Proofs.YthjiajkmaimbjaaW.PrintMore
attribute [local go_sem] max2_int min2_int max_two min_two max_three min_three max_four min_four   -- for this text's walks alone
set_option linter.unusedVariables false
set_option linter.unusedSimpArgs false

/-! ### impl_above: function 47 (given) -/
/-- The least number that may come next. -/
def abvLow (row ys : List Int) : Int := if ys.length = 0 then rd row 0 else mx (rd row (ys.length : Int)) (rd ys ((ys.length : Int) - 1) + 1)
/-- All rows that go on some numbers by so many more, under a row. -/
def abvL (row : List Int) : Nat → List Int → List (List Int)
  | 0, ys => [ys]
  | d + 1, ys => (List.range (rd row ((ys.length : Int) + 1) + 1 - abvLow row ys).toNat).flatMap fun (j : Nat) => abvL row d (ys ++ [abvLow row ys + (j : Int)])
def AbvOk (row : List Int) : Prop := 1 ≤ row.length ∧ row.length ≤ 6 ∧ ∀ j : Nat, j < row.length → 0 ≤ rd row (j : Int) ∧ rd row (j : Int) ≤ 15
instance (row : List Int) : Decidable (AbvOk row) := by unfold AbvOk; exact inferInstance
theorem abvLow_nn {row ys : List Int} (h : AbvOk row) (hl : ys.length < row.length) : 0 ≤ abvLow row ys := by
  unfold abvLow
  split
  · have := (h.2.2 0 (by have := h.1; omega)).1
    simpa using this
  · have := (h.2.2 ys.length hl).1
    unfold mx
    split <;> omega
theorem abvL_len {row : List Int} (h : AbvOk row) (d : Nat) (ys : List Int) (hd : ys.length + d + 1 = row.length) : (abvL row d ys).length ≤ 16 ^ d := by
  induction d generalizing ys with
  | zero => simp [abvL]
  | succ d ih =>
    simp only [abvL]
    have h1 := (h.2.2 (ys.length + 1) (by omega)).2
    have h2 := abvLow_nn h (show ys.length < row.length by omega)
    rw [show ((ys.length + 1 : Nat) : Int) = (ys.length : Int) + 1 by omega] at h1
    have h3 : (rd row ((ys.length : Int) + 1) + 1 - abvLow row ys).toNat ≤ 16 := by omega
    have h4 : ∀ n : Nat, ((List.range n).flatMap fun (j : Nat) => abvL row d (ys ++ [abvLow row ys + (j : Int)])).length ≤ n * 16 ^ d := by
      intro n
      induction n with
      | zero => simp
      | succ n ihn =>
        rw [List.range_succ, List.flatMap_append, List.length_append, Nat.succ_mul]
        have := ih (ys ++ [abvLow row ys + (n : Int)]) (by simp; omega)
        simp only [List.flatMap_cons, List.flatMap_nil, List.append_nil]
        omega
    have h5 := h4 (rd row ((ys.length : Int) + 1) + 1 - abvLow row ys).toNat
    have h6 : (rd row ((ys.length : Int) + 1) + 1 - abvLow row ys).toNat * 16 ^ d ≤ 16 * 16 ^ d := Nat.mul_le_mul_right _ h3
    rw [Nat.pow_succ, Nat.mul_comm (16 ^ d) 16]
    omega
def impl_above.f (l0 : List Int) : Option (List (List Int)) := if AbvOk l0 then (if l0.length = 1 then some [] else some (abvL l0 (l0.length - 1) [])) else none
theorem above_num {ys : List Int} {x : Int} (h : ∀ j : Nat, j < ys.length → 0 ≤ rd ys (j : Int) ∧ rd ys (j : Int) ≤ 15) (h0 : 0 ≤ x) (h1 : x ≤ 15) : ∀ j : Nat, j < (ys ++ [x]).length → 0 ≤ rd (ys ++ [x]) (j : Int) ∧ rd (ys ++ [x]) (j : Int) ≤ 15 := by
  intro j hj
  rw [rd_get _ j hj]
  by_cases c : j < ys.length
  · rw [List.getElem_append_left c, ← rd_get ys j c]
    exact h j c
  · rw [List.getElem_append_right (by omega)]
    simp
    omega
theorem above_fits {row : List Int} {d : Nat} {xs : List (List Int)} {ys : List Int} {lo x : Int} {j cnt : Nat} (h : xs.length + (abvL row (d + 1) ys).length ≤ 2000000) (hr : abvL row (d + 1) ys = (List.range cnt).flatMap fun (j : Nat) => abvL row d (ys ++ [lo + (j : Int)])) (hx : x = lo + (j : Int)) (hj : j < cnt) :
    (xs ++ (List.range j).flatMap fun (j : Nat) => abvL row d (ys ++ [lo + (j : Int)])).length + (abvL row d (ys ++ [x])).length ≤ 2000000 := by
  rw [hr] at h
  have e : List.range cnt = List.range (j + 1) ++ (List.range cnt).drop (j + 1) := by
    have := List.take_append_drop (j + 1) (List.range cnt)
    rw [List.take_range, Nat.min_eq_left (by omega)] at this
    exact this.symm
  rw [e, List.flatMap_append, List.length_append, List.range_succ, List.flatMap_append, List.length_append, List.flatMap_singleton, ← hx] at h
  rw [List.length_append]
  omega
theorem out_own {w : World} {base : Nat} {ok : Nat → Prop} {u v : Value} {xs : List (List Int)} (h : Kd.S (Kd.slice 3 (Kd.int .i64)) 22 w base (fun k => ok k ∧ some k ≠ u.ownBlock) v xs) (k : Nat) (hk : v.ownBlock = some k) : ok k := ((Kd.S_R h).1 k hk).1
theorem out_ne {w : World} {base : Nat} {ok : Nat → Prop} {u v : Value} {xs : List (List Int)} (h : Kd.S (Kd.slice 3 (Kd.int .i64)) 22 w base (fun k => ok k ∧ some k ≠ u.ownBlock) v xs) (k : Nat) (hk : v.ownBlock = some k) : ¬ u.ownBlock = some k := fun e => ((Kd.S_R h).1 k hk).2 e.symm
attribute [local go_sem] max2_int min2_int max_two min_two
set_option maxHeartbeats 8000000 in
set_option maxRecDepth 100000 in
theorem above_add (row : List Int) (A : Option Addr) (c n : Nat) (w0 : World) (b1 b2 b3 : Nat) (hC : Kd.C (Kd.int .i64) w0 A n row) (hn : row.length = n) (hok : AbvOk row) : ∀ (d : Nat) (ok : Nat → Prop) (W : World) (v u : Value) (xs : List (List Int)) (ys : List Int),
    ys.length + d + 1 = n → (∀ j : Nat, j < ys.length → 0 ≤ rd ys (j : Int) ∧ rd ys (j : Int) ≤ 15) → xs.length + (abvL row d ys).length ≤ 2000000 → ¬ ok b1 → ¬ ok b3 → b1 ≠ b2 → b3 ≠ b2 →
    OutSt w0 W b2 ok v xs → Kd.S (Kd.slice 3 (Kd.int .i64)) 22 W w0.heap.size (fun k => ok k ∧ some k ≠ u.ownBlock) v xs → (Kd.int .i64).R 3 W w0.heap.size ok u ys →
    W.cell? ⟨b1, 0, none⟩ = some (.slice A n c) → W.cell? ⟨b3, 0, none⟩ = some (.func (.func 99) #[] #[.pointer (some ⟨b1, 0, none⟩), .pointer (some ⟨b2, 0, none⟩), .pointer (some ⟨b3, 0, none⟩)]) →
    Calls Try.prog 99 (#[u] ++ #[.pointer (some ⟨b1, 0, none⟩), .pointer (some ⟨b2, 0, none⟩), .pointer (some ⟨b3, 0, none⟩)]) W fun e w' => ∃ v', e = .returned (.tuple #[]) ∧ OutSt w0 w' b2 ok v' (xs ++ abvL row d ys) ∧ Grew W w' b2 v v' := by
  have hE := enters_of Try.func99 (by kernel_rfl) rfl
  intro d
  induction d with
  | zero =>
    intro ok W v u xs ys hd hys hlen h1 h3 h12 h32 hst hsu hru hc1 hc3
    obtain ⟨Au, cu, rfl⟩ := Kd.R_slice hru
    have t1 : ((ys.length : Int) == (n : Int) - 1) = true := by simp; omega
    have hbx := hst.box.cell
    have HST := Aside0.mk hst
    have HSU := Aside0.mk hsu
    have HRU := Aside0.mk hru
    have HL := Aside0.mk (show (xs.length + 1) * 24 ≤ 140737488355328 by simp only [abvL, List.length_cons, List.length_nil] at hlen; omega)
    have hn1 : (n : Int) ≤ 6 := by have := hok.2.1; omega
    have hn2 : (1 : Int) ≤ (n : Int) := by have := hok.1; omega
    have HB := Aside0.mk hst.below
    obtain ⟨zs, hzs⟩ : ∃ zs, zs = xs ++ abvL row 0 ys := ⟨_, rfl⟩
    rw [← hzs]
    have NZ := Aside0.mk (show zs = xs ++ [ys] from hzs)
    clear hst hsu hru hlen hys hd hC hok hn h1 h3 h12 h32 hc3 hE hzs
    go_enter Try.func99, Try.ntmps99
    go_wp2_with ((with_reducible refine gate_builtin (b := .append) (xs := #[.tmp 15, .tmp 17]) rfl ?_); at_builtin; refine Kd.S_append (Kd.slice 3 (Kd.int .i64)) (w0 := w0) w0.heap.size rfl (.tmp 15) (.tmp 17) 23 22 (.slice none 0 0) 24 rfl Try.underlying23 info22 rfl (by decide) (by omega) v xs ys [.slice Au ys.length cu] ok (fun k_ => some k_ = (.slice Au ys.length cu : Value).ownBlock) rfl rfl ?aP ?aQ ?aF ?aO ?aB ?aS ?aL ?_; (case aP => exact Kd.M_row (Kd.R_tight rfl HRU.out)); (case aQ => exact (fun k_ hk_ => ⟨HRU.out.1 k_ hk_.symm, fun e_ => ((Kd.S_R HSU.out).1 k_ e_.symm).2 hk_⟩)); (case aF => exact HST.out.fresh); (case aO => exact Kd.S_mono HSU.out (fun k_ hk => ⟨hk.1, fun e_ => hk.2 e_⟩)); (case aB => exact HB.out); (case aS => exact HB.out.size); (case aL => exact HL.out); intro v1 w1 ho hb hg hat; rw [← NZ.out] at ho; obtain ⟨Av1, cv1, ev1⟩ := Kd.S_slice ho; subst ev1; obtain ⟨hq1, hq2, hq3, hq4⟩ := out_pushed HST.out ho hb hg hat; have HQ3 := Aside0.mk hq3; have HQ4 := Aside0.mk hq4; clear ho hb hg hat hq3 hq4)
    exact bodyPost_ret (v := .tuple #[]) (by simp [results, Try.results99, go_sem]) rfl ⟨_, rfl, HQ3.out, HQ4.out⟩
  | succ d ih =>
    intro ok W v u xs ys hd hys hlen h1 h3 h12 h32 hst hsu hru hc1 hc3
    obtain ⟨Au, cu, rfl⟩ := Kd.R_slice hru
    have t1 : ((ys.length : Int) == (n : Int) - 1) = false := by simp; omega
    have HST := Aside0.mk hst
    have HSU := Aside0.mk hsu
    have HRU := Aside0.mk hru
    have hkn : ys.length < n := by omega
    have CW := Kd.C_below hC hst.below
    obtain ⟨ad, e1, hx1⟩ := at_num CW ys.length hkn
    subst e1
    have hxr : W.cell? (ad.add ys.length) = some (.int .i64 (rd row (ys.length : Int))) := by rw [hx1]; unfold rd; rw [Int.toNat_natCast]
    have hlow0 := abvLow_nn hok (show ys.length < row.length by omega)
    obtain ⟨lo, hlo⟩ : ∃ lo, lo = abvLow row ys := ⟨_, rfl⟩
    have hn1 : (n : Int) ≤ 6 := by have := hok.2.1; omega
    have hn2 : (1 : Int) ≤ (n : Int) := by have := hok.1; omega
    have HFACT := Aside0.mk (And.intro hd (And.intro hys (And.intro hlen hlo)))
    have HNOT := Aside0.mk (And.intro h1 (And.intro h3 (And.intro h12 h32)))
    have HOK := Aside0.mk (And.intro hok hn)
    have HC0 := Aside0.mk hC
    have HIH := Aside0.mk ih
    have hrb := hok.2.2 ys.length (by omega)
    have hlo15 : lo ≤ 16 := by
      rw [hlo]
      unfold abvLow
      split
      · have := (hok.2.2 0 (by have := hok.1; omega)).2
        simp at this
        omega
      · have := (hys (ys.length - 1) (by omega)).2
        rw [show ((ys.length - 1 : Nat) : Int) = (ys.length : Int) - 1 by omega] at this
        unfold mx
        split <;> omega
    rw [← hlo] at hlow0
    obtain ⟨q, hq⟩ : ∃ q, q = ys.length + 1 := ⟨_, rfl⟩
    have hqn : q < n := by omega
    have bq : decide (q < n) = true := decide_eq_true hqn
    have bk : decide (ys.length < n) = true := decide_eq_true hkn
    have hib := hok.2.2 q (by omega)
    obtain ⟨hi, hhi⟩ : ∃ hi, hi = rd row (q : Int) := ⟨_, rfl⟩
    rw [← hhi] at hib
    have hi15 : hi ≤ 15 := hib.2
    have hi0 : 0 ≤ hi := hib.1
    obtain ⟨cnt, hcnt⟩ : ∃ cnt, cnt = (hi + 1 - lo).toNat := ⟨_, rfl⟩
    have hres : abvL row (d + 1) ys = (List.range cnt).flatMap fun (j : Nat) => abvL row d (ys ++ [lo + (j : Int)]) := by
      simp only [abvL]
      rw [hcnt, hhi, hlo, hq, show ((ys.length + 1 : Nat) : Int) = (ys.length : Int) + 1 by omega]
    have HRES := Aside0.mk (And.intro hres (And.intro hcnt hhi))
    have HQ := Aside0.mk hq
    obtain ⟨x0, hx0⟩ : ∃ x0, x0 = rd row (ys.length : Int) := ⟨_, rfl⟩
    rw [← hx0] at hxr hrb
    have hx00 : 0 ≤ x0 := hrb.1
    have hx015 : x0 ≤ 15 := hrb.2
    have hlow : lo = if ys.length = 0 then x0 else mx x0 (rd ys ((ys.length : Int) - 1) + 1) := by
      rw [hlo, hx0]
      unfold abvLow
      split
      · rename_i h; rw [h]; rfl
      · rfl
    have qe : (ys.length : Int) + 1 = (q : Int) := by omega
    have hys0 : (0 : Int) ≤ (ys.length : Int) := by omega
    have HST1 := Aside0.mk (hst.less hsu (Kd.R_lt hru))
    have hc12 := And.intro hc1 hc3
    have HCELL := Aside0.mk hc12
    have HHI := Aside0.mk (And.intro hi0 (And.intro hi15 (And.intro hlow0 hlo15)))
    clear hres hcnt hhi hq hib hrb hx1 CW hC hst hsu hd hys hlen h1 h3 h12 h32 hok hn hlo ih hc12
    have LOOP : ∀ (y1 : Int), y1 = lo → True := fun _ _ => trivial
    by_cases hk0 : ys.length = 0
    · have bt : decide ((0 : Int) < (ys.length : Int)) = false := decide_eq_false (by omega)
      have bt2 : decide (0 < ys.length) = false := decide_eq_false (by omega)
      rw [if_pos hk0] at hlow
      obtain rfl : x0 = lo := hlow.symm
      clear hru hx0 hk0
      go_enter Try.func99, Try.ntmps99
      go_wp2
      clear hxr bk bt bt2 hx00 hx015
      go_loopg [7] (cnt + 1) (fun kq v7 w' => ∃ (j : Nat) (x : Int) (v1 : Value), v7 = .int .i64 x ∧ Aside0 (x = x0 + (j : Int) ∧ j ≤ cnt ∧ kq = cnt + 1 - j) ∧ Aside0 (OutSt w0 w' b2 (fun k => ok k ∧ some k ≠ (Value.slice Au ys.length cu).ownBlock) v1 (xs ++ (List.range j).flatMap fun (j : Nat) => abvL row d (ys ++ [x0 + (j : Int)]))) ∧ Aside0 (Grew W w' b2 v v1))
      case atStart => exact ⟨0, _, v, rfl, ⟨⟨by omega, by omega, by omega⟩⟩, ⟨by simpa using HST1.out⟩, ⟨Grew.refl _ _ _⟩⟩
      case round =>
        obtain ⟨j, x, v1, rfl, HX0, HS1, HG1⟩ := hrel
        have hc1 := HG1.out.cell HCELL.out.1 HNOT.out.2.2.1 (fun e => HNOT.out.1 (out_own HSU.out _ e))
        have hc3 := HG1.out.cell HCELL.out.2 HNOT.out.2.2.2 (fun e => HNOT.out.2.1 (out_own HSU.out _ e))
        obtain ⟨ad2, e3, hq1⟩ := at_num (Kd.C_below HC0.out HS1.out.below) q hqn
        injection e3 with e3
        subst e3
        have hqr : wr.cell? (ad.add q) = some (.int .i64 hi) := by rw [hq1, HRES.out.2.2]; unfold rd; rw [Int.toNat_natCast]
        clear hq1
        have hxb : 0 ≤ x := by have := HX0.out.1; have := HHI.out; omega
        have hxc : x ≤ 100 := by have := HX0.out; have := HHI.out; have := HRES.out.2.1; omega
        by_cases ct : x ≤ hi
        · have bx : decide (x ≤ hi) = true := decide_eq_true ct
          have hru := HG1.out.row HRU.out (fun k hk => HST.out.ne k (HRU.out.1 k hk)) (fun k hk e => out_ne HSU.out _ e hk)
          have HCU := Aside0.mk (Kd.R_reads' hru).2.2
          have HLU := Aside0.mk (Kd.R_reads' hru).2.1
          have HCL := Aside0.mk (show slices_Clone_int_int.f ys = some ys by unfold slices_Clone_int_int.f; rw [if_pos (by have := HFACT.out.1; omega)])
          have HN := Aside0.mk (show ys.length + 1 ≤ 10 by have := HFACT.out.1; omega)
          have HHX := Aside0.mk (show hi + 1 - x0 = ((hi + 1 - x0).toNat : Int) ∧ j < cnt by have := HX0.out; have := HRES.out.2.1; omega)
          have IH := Aside0.mk (fun (w5 : World) (v5 : Value) (hB5 : Below wr.heap.size wr w5) (hr5 : (Kd.int .i64).R 3 w5 wr.heap.size (fun k => v5.ownBlock = some k) v5 (ys ++ [x])) => HIH.out (fun k => ok k ∧ some k ≠ (Value.slice Au ys.length cu).ownBlock) w5 v1 v5 (xs ++ (List.range j).flatMap fun (j : Nat) => abvL row d (ys ++ [x0 + (j : Int)])) (ys ++ [x])
            (by have := HFACT.out.1; rw [List.length_append]; simp; omega) (above_num HFACT.out.2.1 hxb (by have := HHI.out; omega)) (above_fits HFACT.out.2.2.1 HRES.out.1 HX0.out.1 HHX.out.2) (fun h => HNOT.out.1 h.1) (fun h => HNOT.out.2.1 h.1) HNOT.out.2.2.1 HNOT.out.2.2.2 (HS1.out.move hB5)
            (Kd.S_mono (Kd.S_old HS1.out.out hB5) (fun k hk => ⟨hk.1, fun e => by have := Kd.R_base hr5 k e.symm; omega⟩)) (Kd.R_reok rfl (Kd.R_lower hr5 HS1.out.below.size) (fun k hk => HS1.out.fresh k (Kd.R_base hr5 k hk))) (pw_cell_below hB5 hc1) (pw_cell_below hB5 hc3))
          obtain ⟨i0, hi_, hz0, hz1, hz2⟩ := info_parts info3
          clear hru ct
          go_wp2
          refine start_ (n := 7) (S := fun w' => Below wr.heap.size wr w' ∧ w'.cell? ⟨b3, 0, none⟩ = some (.func (.func 99) #[] #[.pointer (some ⟨b1, 0, none⟩), .pointer (some ⟨b2, 0, none⟩), .pointer (some ⟨b3, 0, none⟩)])) (ds := [6]) #[false, false, false, false, false, false, false] (by kernel_rfl) rfl rfl ⟨(below_drew (Below.refl _ _)), hc3⟩ (fun hHeld => ?_)
          refine pure_ (i := 1) (N := some 44) (v := ?_) (a' := ?_) #[false, true, false, false, false, false, false] rfl rfl (by kernel_rfl) (fun _ _ _ h => h) (Or.inl ⟨by rfl, ?_⟩) ?_ ?_
          rotate_left
          · intro w'
            go_simp
            with_reducible rfl
          rotate_left
          · simp only [Act.put, List.setIfInBounds_toArray, List.set_cons_zero, List.set_cons_succ, i64_w, i32_w]
            rfl
          refine pure_ (i := 3) (N := some 46) (v := ?_) (a' := ?_) #[false, true, false, true, false, false, false] rfl rfl (by kernel_rfl) (fun _ _ _ h => h) (Or.inl ⟨by rfl, ?_⟩) ?_ ?_
          rotate_left
          · intro w'
            go_simp
            with_reducible rfl
          rotate_left
          · simp only [Act.put, List.setIfInBounds_toArray, List.set_cons_zero, List.set_cons_succ, i64_w, i32_w]
            rfl
          refine take_ (i := 0) (N := some 43) (v := ?_) (a' := ?_) #[true, true, false, true, false, false, false] rfl rfl (by kernel_rfl) (fun _ _ _ h => h) (Or.inl ⟨by rfl, ?_⟩) hHeld ?_ ?_
          rotate_left
          · rintro w' ⟨s0, s1⟩
            go_simp
            with_reducible rfl
          rotate_left
          · simp only [Act.put, List.setIfInBounds_toArray, List.set_cons_zero, List.set_cons_succ, i64_w, i32_w]
            rfl
          refine join_ (σ := Value × Nat) 2 #[true, true, true, true, true, false, false] (fun s_ => [(45, s_.1), (47, .slice (some ⟨s_.2, 0, none⟩) 1 1)]) (fun s_ w' => (Below wr.heap.size wr w' ∧ w'.cell? ⟨b3, 0, none⟩ = some (.func (.func 99) #[] #[.pointer (some ⟨b1, 0, none⟩), .pointer (some ⟨b2, 0, none⟩), .pointer (some ⟨b3, 0, none⟩)])) ∧ (Kd.int .i64).R 3 w' wr.heap.size (fun _ => True) s_.1 ys ∧ w'.cell? ⟨s_.2, 0, none⟩ = some (.int .i64 x)) ?_ ?_
          rotate_left
          · intro hCont
            refine two_ (i := 2) (j := 4) (Ni := some 45) (Nj := some 47) #[true, true, true, true, false, false, false] #[true, true, false, true, true, false, false] rfl rfl rfl rfl (by kernel_rfl) (by decide) (by decide) (fun K hK => ?_) (fun K hK => ?_)
            · skip
              refine goes_ Try.func50 (by kernel_rfl) rfl #[.slice Au ys.length cu] (by rfl) rfl rfl (by simp only [List.map_toArray, List.map_cons, List.map_nil]; rfl) ?_
              with_reducible refine (slices_Clone_int_int.calls _ _ ys ys _ (Kd.C_below HCU.out hHeld.1) HLU.out HCL.out).mono ?_
              rintro e w1 ⟨vc, rfl, hS, hb⟩
              refine ⟨_, rfl, ?_⟩
              have HS := Aside0.mk (Kd.R_lower hS hHeld.1.size)
              refine hK.out _ _ ⟨below_step hHeld.1 hb, pw_cell_below hb hHeld.2⟩ (fun hHeld => ?_)
              clear hK K
              refine norm_ (a' := ?_) ?_ ?_
              rotate_left
              · show Act.put _ (some 45) _ = _
                simp only [Act.put, List.setIfInBounds_toArray, List.set_cons_zero, List.set_cons_succ, i64_w, i32_w]
                rfl
              refine one_ (i := 4) (N := some 47) #[true, true, true, true, true, false, false] rfl rfl (by kernel_rfl) (by decide) (fun K hK => ?_)
              refine value_ (w1 := ?_) (v := ?_) (by rfl) rfl ?_ ?_
              rotate_left 2
              · go_simp
                constructor
                · rfl
                · rfl
              refine hK.out _ _ ⟨below_alloc hHeld.1 _, pw_cell_below (below_alloc (Below.refl _ _) _) hHeld.2⟩ (fun hHeld => ?_)
              clear hK K
              refine norm_ (a' := ?_) ?_ ?_
              rotate_left
              · show Act.put _ (some 47) _ = _
                simp only [Act.put, List.setIfInBounds_toArray, List.set_cons_zero, List.set_cons_succ, i64_w, i32_w]
                rfl
              exact norm_ (by simp only [putAll, Act.put, List.setIfInBounds_toArray, List.set_cons_zero, List.set_cons_succ]) (hCont (vc, w1.heap.size) _ ⟨hHeld, Kd.R_alloc HS.out _, by go_simp⟩)
            · skip
              refine value_ (w1 := ?_) (v := ?_) (by rfl) rfl ?_ ?_
              rotate_left 2
              · go_simp
                constructor
                · rfl
                · rfl
              refine hK.out _ _ ⟨below_alloc hHeld.1 _, pw_cell_below (below_alloc (Below.refl _ _) _) hHeld.2⟩ (fun hHeld => ?_)
              clear hK K
              refine norm_ (a' := ?_) ?_ ?_
              rotate_left
              · show Act.put _ (some 47) _ = _
                simp only [Act.put, List.setIfInBounds_toArray, List.set_cons_zero, List.set_cons_succ, i64_w, i32_w]
                rfl
              refine one_ (i := 2) (N := some 45) #[true, true, true, true, true, false, false] rfl rfl (by kernel_rfl) (by decide) (fun K hK => ?_)
              refine goes_ Try.func50 (by kernel_rfl) rfl #[.slice Au ys.length cu] (by rfl) rfl rfl (by simp only [List.map_toArray, List.map_cons, List.map_nil]; rfl) ?_
              with_reducible refine (slices_Clone_int_int.calls _ _ ys ys _ (Kd.C_below HCU.out hHeld.1) HLU.out HCL.out).mono ?_
              rintro e w1 ⟨vc, rfl, hS, hb⟩
              refine ⟨_, rfl, ?_⟩
              have HS := Aside0.mk (Kd.R_lower hS hHeld.1.size)
              have HX := Aside0.mk (pw_cell_below hb (show World.cell? _ ⟨wr.heap.size, 0, none⟩ = some (.int .i64 x) by go_simp))
              refine hK.out _ _ ⟨below_step hHeld.1 hb, pw_cell_below hb hHeld.2⟩ (fun hHeld => ?_)
              clear hK K
              refine norm_ (a' := ?_) ?_ ?_
              rotate_left
              · show Act.put _ (some 45) _ = _
                simp only [Act.put, List.setIfInBounds_toArray, List.set_cons_zero, List.set_cons_succ, i64_w, i32_w]
                rfl
              exact norm_ (by simp only [putAll, Act.put, List.setIfInBounds_toArray, List.set_cons_zero, List.set_cons_succ]) (hCont (vc, wr.heap.size) _ ⟨hHeld, HS.out, HX.out⟩)
          rintro ⟨vc, gb⟩ w3 ⟨hHeld, hvc, hgb⟩
          refine norm_ (a' := ?_) ?_ ?_
          rotate_left
          · simp only [putAll, Act.put, List.setIfInBounds_toArray, List.set_cons_zero, List.set_cons_succ]
            rfl
          refine one_ (i := 5) (N := some 48) #[true, true, true, true, true, true, false] rfl rfl (by kernel_rfl) (by decide) (fun K hK => ?_)
          rw [if_pos (by rfl)]
          refine wp_append_own _ (.tmp 45) (.tmp 47) 22 rfl wr.heap.size 3 i0 (.int .i64 0) 1 8 Try.underlying22 hi_ hz0 hz1 hz2 rfl (by decide) _ _ _ rfl (own_of_R hvc) ⟨gb, 0, none⟩ 1 1 [.int .i64 x] rfl rfl ?n1 ?n2 ?n3 ?n4 ?n5 ?_
          case n1 => intro j u hj; cases j with | zero => (injection hj with hj; subst hj; exact hgb) | succ j => simp at hj
          case n2 => intro u hu; rw [List.mem_singleton.mp hu]; rfl
          case n3 => have := HN.out; unfold maxLen; omega
          case n4 => have := HN.out; omega
          case n5 => exact hHeld.1.size
          intro v5 w5 hown hgrow hnil
          have hB5 := pw_below_grown hHeld.1 _ hHeld.1.size hgrow (Kd.R_base hvc)
          have HB5 := Aside0.mk hB5
          have hr5 : (Kd.int .i64).R 3 w5 wr.heap.size (fun k => v5.ownBlock = some k) v5 (ys ++ [x]) := int_R (by rw [List.length_append]; unfold nums at *; rw [List.map_append]; exact hown)
          refine hK.out _ _ ⟨hB5, pw_cell_below hB5 hc3⟩ (fun hHeld => ?_)
          clear hK K
          refine norm_ (a' := ?_) ?_ ?_
          rotate_left
          · show Act.put _ (some 48) _ = _
            simp only [Act.put, List.setIfInBounds_toArray, List.set_cons_zero, List.set_cons_succ, i64_w, i32_w]
            rfl
          refine last_ (i := 6) (N := some 49) #[true, true, true, true, true, true, true] rfl rfl (by kernel_rfl) (by decide) (fun K hK => ?_)
          refine goesF_ #[.pointer (some ⟨b1, 0, none⟩), .pointer (some ⟨b2, 0, none⟩), .pointer (some ⟨b3, 0, none⟩)] hE (#[v5] ++ #[.pointer (some ⟨b1, 0, none⟩), .pointer (some ⟨b2, 0, none⟩), .pointer (some ⟨b3, 0, none⟩)]) (by rfl) rfl rfl (by rfl) (by simp only [List.map_toArray, List.map_cons, List.map_nil]; rfl) ?_
          refine (IH.out w5 v5 hB5 hr5).mono ?_
          rintro e w6 ⟨v6, rfl, hst6, hgr6⟩
          refine ⟨_, rfl, ?_⟩
          have HST6 := Aside0.mk hst6
          have HGR6 := Aside0.mk hgr6
          clear hst6 hgr6
          refine hK.out _ _ ?_
          clear hK K
          refine norm_ (a' := ?_) ?_ ?_
          rotate_left
          · show Act.put _ (some 49) _ = _
            simp only [Act.put, List.setIfInBounds_toArray, List.set_cons_zero, List.set_cons_succ, i64_w, i32_w]
            rfl
          refine done_ (by kernel_rfl) ?_

          go_wp2
          go_roundg (gk - 1)
          case measure => have := HX0.out; have := HHX.out; omega
          case rel =>
            refine ⟨j + 1, x + 1, v6, by first | rfl | go_num, ⟨⟨by have := HX0.out.1; omega, by have := HHX.out.2; omega, by have := HX0.out.2.2; omega⟩⟩, ⟨?_⟩, ⟨(HG1.out.trans (Grew.of_below HB5.out _ _)).trans HGR6.out⟩⟩
            have h6 := HST6.out
            rw [List.append_assoc] at h6
            rw [List.range_succ, List.flatMap_append, List.flatMap_singleton, ← HX0.out.1]
            exact h6
        · have bx : decide (x ≤ hi) = false := decide_eq_false ct
          have hjc : j = cnt := by have := HX0.out; have := HRES.out.2.1; omega
          go_wp2
          refine bodyPost_end (v := .tuple #[]) (by simp [results, Try.results99, go_sem]) rfl ⟨rfl, v1, ?_, HG1.out⟩
          rw [HRES.out.1, ← hjc]
          exact HS1.out.more (fun k hk => hk.1) (fun h => HST.out.ne _ h rfl)
    · have bt : decide ((0 : Int) < (ys.length : Int)) = true := decide_eq_true (by omega)
      have bt2 : decide (0 < ys.length) = true := decide_eq_true (by omega)
      rw [if_neg hk0] at hlow
      obtain ⟨p, hp⟩ : ∃ p, ys.length = p + 1 := ⟨ys.length - 1, by omega⟩
      obtain ⟨ud, e2, hy1⟩ := at_num (Kd.R_reads' hru).2.2 p (by omega)
      subst e2
      have hyr : W.cell? (ud.add p) = some (.int .i64 (rd ys (p : Int))) := by rw [hy1]; unfold rd; rw [Int.toNat_natCast]
      have pe : (ys.length : Int) - 1 = (p : Int) := by omega
      rw [pe] at hlow
      have hpy := HFACT.out.2.1 p (by omega)
      obtain ⟨y, hy⟩ : ∃ y, y = rd ys (p : Int) := ⟨_, rfl⟩
      rw [← hy] at hyr hlow hpy
      have hpy0 : 0 ≤ y := hpy.1
      have hpy1 : y ≤ 15 := hpy.2
      have bp : decide (p < ys.length) = true := decide_eq_true (by omega)
      have bp2 : p < ys.length := by omega
      by_cases cm : x0 < y + 1
      · have bm : decide (x0 < y + 1) = true := decide_eq_true cm
        have le : y + 1 = lo := by rw [hlow]; unfold mx; rw [if_pos cm]
        have cm2 : x0 < lo := by omega
        have bm2 : decide (x0 < lo) = true := decide_eq_true cm2
        clear hru hx0 hk0 hp hy1 hlow hpy hy cm
        go_enter Try.func99, Try.ntmps99
        go_wp2
        clear le bm bm2 cm2 bp bp2 pe
        clear hxr bk bt bt2 hx00 hx015
        go_loopg [7] (cnt + 1) (fun kq v7 w' => ∃ (j : Nat) (x : Int) (v1 : Value), v7 = .int .i64 x ∧ Aside0 (x = lo + (j : Int) ∧ j ≤ cnt ∧ kq = cnt + 1 - j) ∧ Aside0 (OutSt w0 w' b2 (fun k => ok k ∧ some k ≠ (Value.slice (some ud) ys.length cu).ownBlock) v1 (xs ++ (List.range j).flatMap fun (j : Nat) => abvL row d (ys ++ [lo + (j : Int)]))) ∧ Aside0 (Grew W w' b2 v v1))
        case atStart => exact ⟨0, _, v, rfl, ⟨⟨by omega, by omega, by omega⟩⟩, ⟨by simpa using HST1.out⟩, ⟨Grew.refl _ _ _⟩⟩
        case round =>
          obtain ⟨j, x, v1, rfl, HX0, HS1, HG1⟩ := hrel
          have hc1 := HG1.out.cell HCELL.out.1 HNOT.out.2.2.1 (fun e => HNOT.out.1 (out_own HSU.out _ e))
          have hc3 := HG1.out.cell HCELL.out.2 HNOT.out.2.2.2 (fun e => HNOT.out.2.1 (out_own HSU.out _ e))
          obtain ⟨ad2, e3, hq1⟩ := at_num (Kd.C_below HC0.out HS1.out.below) q hqn
          injection e3 with e3
          subst e3
          have hqr : wr.cell? (ad.add q) = some (.int .i64 hi) := by rw [hq1, HRES.out.2.2]; unfold rd; rw [Int.toNat_natCast]
          clear hq1
          have hxb : 0 ≤ x := by have := HX0.out.1; have := HHI.out; omega
          have hxc : x ≤ 100 := by have := HX0.out; have := HHI.out; have := HRES.out.2.1; omega
          by_cases ct : x ≤ hi
          · have bx : decide (x ≤ hi) = true := decide_eq_true ct
            have hru := HG1.out.row HRU.out (fun k hk => HST.out.ne k (HRU.out.1 k hk)) (fun k hk e => out_ne HSU.out _ e hk)
            have HCU := Aside0.mk (Kd.R_reads' hru).2.2
            have HLU := Aside0.mk (Kd.R_reads' hru).2.1
            have HCL := Aside0.mk (show slices_Clone_int_int.f ys = some ys by unfold slices_Clone_int_int.f; rw [if_pos (by have := HFACT.out.1; omega)])
            have HN := Aside0.mk (show ys.length + 1 ≤ 10 by have := HFACT.out.1; omega)
            have HHX := Aside0.mk (show hi + 1 - lo = ((hi + 1 - lo).toNat : Int) ∧ j < cnt by have := HX0.out; have := HRES.out.2.1; omega)
            have IH := Aside0.mk (fun (w5 : World) (v5 : Value) (hB5 : Below wr.heap.size wr w5) (hr5 : (Kd.int .i64).R 3 w5 wr.heap.size (fun k => v5.ownBlock = some k) v5 (ys ++ [x])) => HIH.out (fun k => ok k ∧ some k ≠ (Value.slice (some ud) ys.length cu).ownBlock) w5 v1 v5 (xs ++ (List.range j).flatMap fun (j : Nat) => abvL row d (ys ++ [lo + (j : Int)])) (ys ++ [x])
              (by have := HFACT.out.1; rw [List.length_append]; simp; omega) (above_num HFACT.out.2.1 hxb (by have := HHI.out; omega)) (above_fits HFACT.out.2.2.1 HRES.out.1 HX0.out.1 HHX.out.2) (fun h => HNOT.out.1 h.1) (fun h => HNOT.out.2.1 h.1) HNOT.out.2.2.1 HNOT.out.2.2.2 (HS1.out.move hB5)
              (Kd.S_mono (Kd.S_old HS1.out.out hB5) (fun k hk => ⟨hk.1, fun e => by have := Kd.R_base hr5 k e.symm; omega⟩)) (Kd.R_reok rfl (Kd.R_lower hr5 HS1.out.below.size) (fun k hk => HS1.out.fresh k (Kd.R_base hr5 k hk))) (pw_cell_below hB5 hc1) (pw_cell_below hB5 hc3))
            obtain ⟨i0, hi_, hz0, hz1, hz2⟩ := info_parts info3
            clear hru ct
            go_wp2
            refine start_ (n := 7) (S := fun w' => Below wr.heap.size wr w' ∧ w'.cell? ⟨b3, 0, none⟩ = some (.func (.func 99) #[] #[.pointer (some ⟨b1, 0, none⟩), .pointer (some ⟨b2, 0, none⟩), .pointer (some ⟨b3, 0, none⟩)])) (ds := [6]) #[false, false, false, false, false, false, false] (by kernel_rfl) rfl rfl ⟨(below_drew (Below.refl _ _)), hc3⟩ (fun hHeld => ?_)
            refine pure_ (i := 1) (N := some 44) (v := ?_) (a' := ?_) #[false, true, false, false, false, false, false] rfl rfl (by kernel_rfl) (fun _ _ _ h => h) (Or.inl ⟨by rfl, ?_⟩) ?_ ?_
            rotate_left
            · intro w'
              go_simp
              with_reducible rfl
            rotate_left
            · simp only [Act.put, List.setIfInBounds_toArray, List.set_cons_zero, List.set_cons_succ, i64_w, i32_w]
              rfl
            refine pure_ (i := 3) (N := some 46) (v := ?_) (a' := ?_) #[false, true, false, true, false, false, false] rfl rfl (by kernel_rfl) (fun _ _ _ h => h) (Or.inl ⟨by rfl, ?_⟩) ?_ ?_
            rotate_left
            · intro w'
              go_simp
              with_reducible rfl
            rotate_left
            · simp only [Act.put, List.setIfInBounds_toArray, List.set_cons_zero, List.set_cons_succ, i64_w, i32_w]
              rfl
            refine take_ (i := 0) (N := some 43) (v := ?_) (a' := ?_) #[true, true, false, true, false, false, false] rfl rfl (by kernel_rfl) (fun _ _ _ h => h) (Or.inl ⟨by rfl, ?_⟩) hHeld ?_ ?_
            rotate_left
            · rintro w' ⟨s0, s1⟩
              go_simp
              with_reducible rfl
            rotate_left
            · simp only [Act.put, List.setIfInBounds_toArray, List.set_cons_zero, List.set_cons_succ, i64_w, i32_w]
              rfl
            refine join_ (σ := Value × Nat) 2 #[true, true, true, true, true, false, false] (fun s_ => [(45, s_.1), (47, .slice (some ⟨s_.2, 0, none⟩) 1 1)]) (fun s_ w' => (Below wr.heap.size wr w' ∧ w'.cell? ⟨b3, 0, none⟩ = some (.func (.func 99) #[] #[.pointer (some ⟨b1, 0, none⟩), .pointer (some ⟨b2, 0, none⟩), .pointer (some ⟨b3, 0, none⟩)])) ∧ (Kd.int .i64).R 3 w' wr.heap.size (fun _ => True) s_.1 ys ∧ w'.cell? ⟨s_.2, 0, none⟩ = some (.int .i64 x)) ?_ ?_
            rotate_left
            · intro hCont
              refine two_ (i := 2) (j := 4) (Ni := some 45) (Nj := some 47) #[true, true, true, true, false, false, false] #[true, true, false, true, true, false, false] rfl rfl rfl rfl (by kernel_rfl) (by decide) (by decide) (fun K hK => ?_) (fun K hK => ?_)
              · skip
                refine goes_ Try.func50 (by kernel_rfl) rfl #[.slice (some ud) ys.length cu] (by rfl) rfl rfl (by simp only [List.map_toArray, List.map_cons, List.map_nil]; rfl) ?_
                with_reducible refine (slices_Clone_int_int.calls _ _ ys ys _ (Kd.C_below HCU.out hHeld.1) HLU.out HCL.out).mono ?_
                rintro e w1 ⟨vc, rfl, hS, hb⟩
                refine ⟨_, rfl, ?_⟩
                have HS := Aside0.mk (Kd.R_lower hS hHeld.1.size)
                refine hK.out _ _ ⟨below_step hHeld.1 hb, pw_cell_below hb hHeld.2⟩ (fun hHeld => ?_)
                clear hK K
                refine norm_ (a' := ?_) ?_ ?_
                rotate_left
                · show Act.put _ (some 45) _ = _
                  simp only [Act.put, List.setIfInBounds_toArray, List.set_cons_zero, List.set_cons_succ, i64_w, i32_w]
                  rfl
                refine one_ (i := 4) (N := some 47) #[true, true, true, true, true, false, false] rfl rfl (by kernel_rfl) (by decide) (fun K hK => ?_)
                refine value_ (w1 := ?_) (v := ?_) (by rfl) rfl ?_ ?_
                rotate_left 2
                · go_simp
                  constructor
                  · rfl
                  · rfl
                refine hK.out _ _ ⟨below_alloc hHeld.1 _, pw_cell_below (below_alloc (Below.refl _ _) _) hHeld.2⟩ (fun hHeld => ?_)
                clear hK K
                refine norm_ (a' := ?_) ?_ ?_
                rotate_left
                · show Act.put _ (some 47) _ = _
                  simp only [Act.put, List.setIfInBounds_toArray, List.set_cons_zero, List.set_cons_succ, i64_w, i32_w]
                  rfl
                exact norm_ (by simp only [putAll, Act.put, List.setIfInBounds_toArray, List.set_cons_zero, List.set_cons_succ]) (hCont (vc, w1.heap.size) _ ⟨hHeld, Kd.R_alloc HS.out _, by go_simp⟩)
              · skip
                refine value_ (w1 := ?_) (v := ?_) (by rfl) rfl ?_ ?_
                rotate_left 2
                · go_simp
                  constructor
                  · rfl
                  · rfl
                refine hK.out _ _ ⟨below_alloc hHeld.1 _, pw_cell_below (below_alloc (Below.refl _ _) _) hHeld.2⟩ (fun hHeld => ?_)
                clear hK K
                refine norm_ (a' := ?_) ?_ ?_
                rotate_left
                · show Act.put _ (some 47) _ = _
                  simp only [Act.put, List.setIfInBounds_toArray, List.set_cons_zero, List.set_cons_succ, i64_w, i32_w]
                  rfl
                refine one_ (i := 2) (N := some 45) #[true, true, true, true, true, false, false] rfl rfl (by kernel_rfl) (by decide) (fun K hK => ?_)
                refine goes_ Try.func50 (by kernel_rfl) rfl #[.slice (some ud) ys.length cu] (by rfl) rfl rfl (by simp only [List.map_toArray, List.map_cons, List.map_nil]; rfl) ?_
                with_reducible refine (slices_Clone_int_int.calls _ _ ys ys _ (Kd.C_below HCU.out hHeld.1) HLU.out HCL.out).mono ?_
                rintro e w1 ⟨vc, rfl, hS, hb⟩
                refine ⟨_, rfl, ?_⟩
                have HS := Aside0.mk (Kd.R_lower hS hHeld.1.size)
                have HX := Aside0.mk (pw_cell_below hb (show World.cell? _ ⟨wr.heap.size, 0, none⟩ = some (.int .i64 x) by go_simp))
                refine hK.out _ _ ⟨below_step hHeld.1 hb, pw_cell_below hb hHeld.2⟩ (fun hHeld => ?_)
                clear hK K
                refine norm_ (a' := ?_) ?_ ?_
                rotate_left
                · show Act.put _ (some 45) _ = _
                  simp only [Act.put, List.setIfInBounds_toArray, List.set_cons_zero, List.set_cons_succ, i64_w, i32_w]
                  rfl
                exact norm_ (by simp only [putAll, Act.put, List.setIfInBounds_toArray, List.set_cons_zero, List.set_cons_succ]) (hCont (vc, wr.heap.size) _ ⟨hHeld, HS.out, HX.out⟩)
            rintro ⟨vc, gb⟩ w3 ⟨hHeld, hvc, hgb⟩
            refine norm_ (a' := ?_) ?_ ?_
            rotate_left
            · simp only [putAll, Act.put, List.setIfInBounds_toArray, List.set_cons_zero, List.set_cons_succ]
              rfl
            refine one_ (i := 5) (N := some 48) #[true, true, true, true, true, true, false] rfl rfl (by kernel_rfl) (by decide) (fun K hK => ?_)
            rw [if_pos (by rfl)]
            refine wp_append_own _ (.tmp 45) (.tmp 47) 22 rfl wr.heap.size 3 i0 (.int .i64 0) 1 8 Try.underlying22 hi_ hz0 hz1 hz2 rfl (by decide) _ _ _ rfl (own_of_R hvc) ⟨gb, 0, none⟩ 1 1 [.int .i64 x] rfl rfl ?n1 ?n2 ?n3 ?n4 ?n5 ?_
            case n1 => intro j u hj; cases j with | zero => (injection hj with hj; subst hj; exact hgb) | succ j => simp at hj
            case n2 => intro u hu; rw [List.mem_singleton.mp hu]; rfl
            case n3 => have := HN.out; unfold maxLen; omega
            case n4 => have := HN.out; omega
            case n5 => exact hHeld.1.size
            intro v5 w5 hown hgrow hnil
            have hB5 := pw_below_grown hHeld.1 _ hHeld.1.size hgrow (Kd.R_base hvc)
            have HB5 := Aside0.mk hB5
            have hr5 : (Kd.int .i64).R 3 w5 wr.heap.size (fun k => v5.ownBlock = some k) v5 (ys ++ [x]) := int_R (by rw [List.length_append]; unfold nums at *; rw [List.map_append]; exact hown)
            refine hK.out _ _ ⟨hB5, pw_cell_below hB5 hc3⟩ (fun hHeld => ?_)
            clear hK K
            refine norm_ (a' := ?_) ?_ ?_
            rotate_left
            · show Act.put _ (some 48) _ = _
              simp only [Act.put, List.setIfInBounds_toArray, List.set_cons_zero, List.set_cons_succ, i64_w, i32_w]
              rfl
            refine last_ (i := 6) (N := some 49) #[true, true, true, true, true, true, true] rfl rfl (by kernel_rfl) (by decide) (fun K hK => ?_)
            refine goesF_ #[.pointer (some ⟨b1, 0, none⟩), .pointer (some ⟨b2, 0, none⟩), .pointer (some ⟨b3, 0, none⟩)] hE (#[v5] ++ #[.pointer (some ⟨b1, 0, none⟩), .pointer (some ⟨b2, 0, none⟩), .pointer (some ⟨b3, 0, none⟩)]) (by rfl) rfl rfl (by rfl) (by simp only [List.map_toArray, List.map_cons, List.map_nil]; rfl) ?_
            refine (IH.out w5 v5 hB5 hr5).mono ?_
            rintro e w6 ⟨v6, rfl, hst6, hgr6⟩
            refine ⟨_, rfl, ?_⟩
            have HST6 := Aside0.mk hst6
            have HGR6 := Aside0.mk hgr6
            clear hst6 hgr6
            refine hK.out _ _ ?_
            clear hK K
            refine norm_ (a' := ?_) ?_ ?_
            rotate_left
            · show Act.put _ (some 49) _ = _
              simp only [Act.put, List.setIfInBounds_toArray, List.set_cons_zero, List.set_cons_succ, i64_w, i32_w]
              rfl
            refine done_ (by kernel_rfl) ?_

            go_wp2
            go_roundg (gk - 1)
            case measure => have := HX0.out; have := HHX.out; omega
            case rel =>
              refine ⟨j + 1, x + 1, v6, by first | rfl | go_num, ⟨⟨by have := HX0.out.1; omega, by have := HHX.out.2; omega, by have := HX0.out.2.2; omega⟩⟩, ⟨?_⟩, ⟨(HG1.out.trans (Grew.of_below HB5.out _ _)).trans HGR6.out⟩⟩
              have h6 := HST6.out
              rw [List.append_assoc] at h6
              rw [List.range_succ, List.flatMap_append, List.flatMap_singleton, ← HX0.out.1]
              exact h6
          · have bx : decide (x ≤ hi) = false := decide_eq_false ct
            have hjc : j = cnt := by have := HX0.out; have := HRES.out.2.1; omega
            go_wp2
            refine bodyPost_end (v := .tuple #[]) (by simp [results, Try.results99, go_sem]) rfl ⟨rfl, v1, ?_, HG1.out⟩
            rw [HRES.out.1, ← hjc]
            exact HS1.out.more (fun k hk => hk.1) (fun h => HST.out.ne _ h rfl)
      · have bm : decide (x0 < y + 1) = false := decide_eq_false cm
        obtain rfl : x0 = lo := by rw [hlow]; unfold mx; rw [if_neg cm]
        clear hru hx0 hk0 hp hy1 hlow hpy hy
        go_enter Try.func99, Try.ntmps99
        go_wp2
        clear bm bp bp2 pe cm
        clear hxr bk bt bt2 hx00 hx015
        go_loopg [7] (cnt + 1) (fun kq v7 w' => ∃ (j : Nat) (x : Int) (v1 : Value), v7 = .int .i64 x ∧ Aside0 (x = x0 + (j : Int) ∧ j ≤ cnt ∧ kq = cnt + 1 - j) ∧ Aside0 (OutSt w0 w' b2 (fun k => ok k ∧ some k ≠ (Value.slice (some ud) ys.length cu).ownBlock) v1 (xs ++ (List.range j).flatMap fun (j : Nat) => abvL row d (ys ++ [x0 + (j : Int)]))) ∧ Aside0 (Grew W w' b2 v v1))
        case atStart => exact ⟨0, _, v, rfl, ⟨⟨by omega, by omega, by omega⟩⟩, ⟨by simpa using HST1.out⟩, ⟨Grew.refl _ _ _⟩⟩
        case round =>
          obtain ⟨j, x, v1, rfl, HX0, HS1, HG1⟩ := hrel
          have hc1 := HG1.out.cell HCELL.out.1 HNOT.out.2.2.1 (fun e => HNOT.out.1 (out_own HSU.out _ e))
          have hc3 := HG1.out.cell HCELL.out.2 HNOT.out.2.2.2 (fun e => HNOT.out.2.1 (out_own HSU.out _ e))
          obtain ⟨ad2, e3, hq1⟩ := at_num (Kd.C_below HC0.out HS1.out.below) q hqn
          injection e3 with e3
          subst e3
          have hqr : wr.cell? (ad.add q) = some (.int .i64 hi) := by rw [hq1, HRES.out.2.2]; unfold rd; rw [Int.toNat_natCast]
          clear hq1
          have hxb : 0 ≤ x := by have := HX0.out.1; have := HHI.out; omega
          have hxc : x ≤ 100 := by have := HX0.out; have := HHI.out; have := HRES.out.2.1; omega
          by_cases ct : x ≤ hi
          · have bx : decide (x ≤ hi) = true := decide_eq_true ct
            have hru := HG1.out.row HRU.out (fun k hk => HST.out.ne k (HRU.out.1 k hk)) (fun k hk e => out_ne HSU.out _ e hk)
            have HCU := Aside0.mk (Kd.R_reads' hru).2.2
            have HLU := Aside0.mk (Kd.R_reads' hru).2.1
            have HCL := Aside0.mk (show slices_Clone_int_int.f ys = some ys by unfold slices_Clone_int_int.f; rw [if_pos (by have := HFACT.out.1; omega)])
            have HN := Aside0.mk (show ys.length + 1 ≤ 10 by have := HFACT.out.1; omega)
            have HHX := Aside0.mk (show hi + 1 - x0 = ((hi + 1 - x0).toNat : Int) ∧ j < cnt by have := HX0.out; have := HRES.out.2.1; omega)
            have IH := Aside0.mk (fun (w5 : World) (v5 : Value) (hB5 : Below wr.heap.size wr w5) (hr5 : (Kd.int .i64).R 3 w5 wr.heap.size (fun k => v5.ownBlock = some k) v5 (ys ++ [x])) => HIH.out (fun k => ok k ∧ some k ≠ (Value.slice (some ud) ys.length cu).ownBlock) w5 v1 v5 (xs ++ (List.range j).flatMap fun (j : Nat) => abvL row d (ys ++ [x0 + (j : Int)])) (ys ++ [x])
              (by have := HFACT.out.1; rw [List.length_append]; simp; omega) (above_num HFACT.out.2.1 hxb (by have := HHI.out; omega)) (above_fits HFACT.out.2.2.1 HRES.out.1 HX0.out.1 HHX.out.2) (fun h => HNOT.out.1 h.1) (fun h => HNOT.out.2.1 h.1) HNOT.out.2.2.1 HNOT.out.2.2.2 (HS1.out.move hB5)
              (Kd.S_mono (Kd.S_old HS1.out.out hB5) (fun k hk => ⟨hk.1, fun e => by have := Kd.R_base hr5 k e.symm; omega⟩)) (Kd.R_reok rfl (Kd.R_lower hr5 HS1.out.below.size) (fun k hk => HS1.out.fresh k (Kd.R_base hr5 k hk))) (pw_cell_below hB5 hc1) (pw_cell_below hB5 hc3))
            obtain ⟨i0, hi_, hz0, hz1, hz2⟩ := info_parts info3
            clear hru ct
            go_wp2
            refine start_ (n := 7) (S := fun w' => Below wr.heap.size wr w' ∧ w'.cell? ⟨b3, 0, none⟩ = some (.func (.func 99) #[] #[.pointer (some ⟨b1, 0, none⟩), .pointer (some ⟨b2, 0, none⟩), .pointer (some ⟨b3, 0, none⟩)])) (ds := [6]) #[false, false, false, false, false, false, false] (by kernel_rfl) rfl rfl ⟨(below_drew (Below.refl _ _)), hc3⟩ (fun hHeld => ?_)
            refine pure_ (i := 1) (N := some 44) (v := ?_) (a' := ?_) #[false, true, false, false, false, false, false] rfl rfl (by kernel_rfl) (fun _ _ _ h => h) (Or.inl ⟨by rfl, ?_⟩) ?_ ?_
            rotate_left
            · intro w'
              go_simp
              with_reducible rfl
            rotate_left
            · simp only [Act.put, List.setIfInBounds_toArray, List.set_cons_zero, List.set_cons_succ, i64_w, i32_w]
              rfl
            refine pure_ (i := 3) (N := some 46) (v := ?_) (a' := ?_) #[false, true, false, true, false, false, false] rfl rfl (by kernel_rfl) (fun _ _ _ h => h) (Or.inl ⟨by rfl, ?_⟩) ?_ ?_
            rotate_left
            · intro w'
              go_simp
              with_reducible rfl
            rotate_left
            · simp only [Act.put, List.setIfInBounds_toArray, List.set_cons_zero, List.set_cons_succ, i64_w, i32_w]
              rfl
            refine take_ (i := 0) (N := some 43) (v := ?_) (a' := ?_) #[true, true, false, true, false, false, false] rfl rfl (by kernel_rfl) (fun _ _ _ h => h) (Or.inl ⟨by rfl, ?_⟩) hHeld ?_ ?_
            rotate_left
            · rintro w' ⟨s0, s1⟩
              go_simp
              with_reducible rfl
            rotate_left
            · simp only [Act.put, List.setIfInBounds_toArray, List.set_cons_zero, List.set_cons_succ, i64_w, i32_w]
              rfl
            refine join_ (σ := Value × Nat) 2 #[true, true, true, true, true, false, false] (fun s_ => [(45, s_.1), (47, .slice (some ⟨s_.2, 0, none⟩) 1 1)]) (fun s_ w' => (Below wr.heap.size wr w' ∧ w'.cell? ⟨b3, 0, none⟩ = some (.func (.func 99) #[] #[.pointer (some ⟨b1, 0, none⟩), .pointer (some ⟨b2, 0, none⟩), .pointer (some ⟨b3, 0, none⟩)])) ∧ (Kd.int .i64).R 3 w' wr.heap.size (fun _ => True) s_.1 ys ∧ w'.cell? ⟨s_.2, 0, none⟩ = some (.int .i64 x)) ?_ ?_
            rotate_left
            · intro hCont
              refine two_ (i := 2) (j := 4) (Ni := some 45) (Nj := some 47) #[true, true, true, true, false, false, false] #[true, true, false, true, true, false, false] rfl rfl rfl rfl (by kernel_rfl) (by decide) (by decide) (fun K hK => ?_) (fun K hK => ?_)
              · skip
                refine goes_ Try.func50 (by kernel_rfl) rfl #[.slice (some ud) ys.length cu] (by rfl) rfl rfl (by simp only [List.map_toArray, List.map_cons, List.map_nil]; rfl) ?_
                with_reducible refine (slices_Clone_int_int.calls _ _ ys ys _ (Kd.C_below HCU.out hHeld.1) HLU.out HCL.out).mono ?_
                rintro e w1 ⟨vc, rfl, hS, hb⟩
                refine ⟨_, rfl, ?_⟩
                have HS := Aside0.mk (Kd.R_lower hS hHeld.1.size)
                refine hK.out _ _ ⟨below_step hHeld.1 hb, pw_cell_below hb hHeld.2⟩ (fun hHeld => ?_)
                clear hK K
                refine norm_ (a' := ?_) ?_ ?_
                rotate_left
                · show Act.put _ (some 45) _ = _
                  simp only [Act.put, List.setIfInBounds_toArray, List.set_cons_zero, List.set_cons_succ, i64_w, i32_w]
                  rfl
                refine one_ (i := 4) (N := some 47) #[true, true, true, true, true, false, false] rfl rfl (by kernel_rfl) (by decide) (fun K hK => ?_)
                refine value_ (w1 := ?_) (v := ?_) (by rfl) rfl ?_ ?_
                rotate_left 2
                · go_simp
                  constructor
                  · rfl
                  · rfl
                refine hK.out _ _ ⟨below_alloc hHeld.1 _, pw_cell_below (below_alloc (Below.refl _ _) _) hHeld.2⟩ (fun hHeld => ?_)
                clear hK K
                refine norm_ (a' := ?_) ?_ ?_
                rotate_left
                · show Act.put _ (some 47) _ = _
                  simp only [Act.put, List.setIfInBounds_toArray, List.set_cons_zero, List.set_cons_succ, i64_w, i32_w]
                  rfl
                exact norm_ (by simp only [putAll, Act.put, List.setIfInBounds_toArray, List.set_cons_zero, List.set_cons_succ]) (hCont (vc, w1.heap.size) _ ⟨hHeld, Kd.R_alloc HS.out _, by go_simp⟩)
              · skip
                refine value_ (w1 := ?_) (v := ?_) (by rfl) rfl ?_ ?_
                rotate_left 2
                · go_simp
                  constructor
                  · rfl
                  · rfl
                refine hK.out _ _ ⟨below_alloc hHeld.1 _, pw_cell_below (below_alloc (Below.refl _ _) _) hHeld.2⟩ (fun hHeld => ?_)
                clear hK K
                refine norm_ (a' := ?_) ?_ ?_
                rotate_left
                · show Act.put _ (some 47) _ = _
                  simp only [Act.put, List.setIfInBounds_toArray, List.set_cons_zero, List.set_cons_succ, i64_w, i32_w]
                  rfl
                refine one_ (i := 2) (N := some 45) #[true, true, true, true, true, false, false] rfl rfl (by kernel_rfl) (by decide) (fun K hK => ?_)
                refine goes_ Try.func50 (by kernel_rfl) rfl #[.slice (some ud) ys.length cu] (by rfl) rfl rfl (by simp only [List.map_toArray, List.map_cons, List.map_nil]; rfl) ?_
                with_reducible refine (slices_Clone_int_int.calls _ _ ys ys _ (Kd.C_below HCU.out hHeld.1) HLU.out HCL.out).mono ?_
                rintro e w1 ⟨vc, rfl, hS, hb⟩
                refine ⟨_, rfl, ?_⟩
                have HS := Aside0.mk (Kd.R_lower hS hHeld.1.size)
                have HX := Aside0.mk (pw_cell_below hb (show World.cell? _ ⟨wr.heap.size, 0, none⟩ = some (.int .i64 x) by go_simp))
                refine hK.out _ _ ⟨below_step hHeld.1 hb, pw_cell_below hb hHeld.2⟩ (fun hHeld => ?_)
                clear hK K
                refine norm_ (a' := ?_) ?_ ?_
                rotate_left
                · show Act.put _ (some 45) _ = _
                  simp only [Act.put, List.setIfInBounds_toArray, List.set_cons_zero, List.set_cons_succ, i64_w, i32_w]
                  rfl
                exact norm_ (by simp only [putAll, Act.put, List.setIfInBounds_toArray, List.set_cons_zero, List.set_cons_succ]) (hCont (vc, wr.heap.size) _ ⟨hHeld, HS.out, HX.out⟩)
            rintro ⟨vc, gb⟩ w3 ⟨hHeld, hvc, hgb⟩
            refine norm_ (a' := ?_) ?_ ?_
            rotate_left
            · simp only [putAll, Act.put, List.setIfInBounds_toArray, List.set_cons_zero, List.set_cons_succ]
              rfl
            refine one_ (i := 5) (N := some 48) #[true, true, true, true, true, true, false] rfl rfl (by kernel_rfl) (by decide) (fun K hK => ?_)
            rw [if_pos (by rfl)]
            refine wp_append_own _ (.tmp 45) (.tmp 47) 22 rfl wr.heap.size 3 i0 (.int .i64 0) 1 8 Try.underlying22 hi_ hz0 hz1 hz2 rfl (by decide) _ _ _ rfl (own_of_R hvc) ⟨gb, 0, none⟩ 1 1 [.int .i64 x] rfl rfl ?n1 ?n2 ?n3 ?n4 ?n5 ?_
            case n1 => intro j u hj; cases j with | zero => (injection hj with hj; subst hj; exact hgb) | succ j => simp at hj
            case n2 => intro u hu; rw [List.mem_singleton.mp hu]; rfl
            case n3 => have := HN.out; unfold maxLen; omega
            case n4 => have := HN.out; omega
            case n5 => exact hHeld.1.size
            intro v5 w5 hown hgrow hnil
            have hB5 := pw_below_grown hHeld.1 _ hHeld.1.size hgrow (Kd.R_base hvc)
            have HB5 := Aside0.mk hB5
            have hr5 : (Kd.int .i64).R 3 w5 wr.heap.size (fun k => v5.ownBlock = some k) v5 (ys ++ [x]) := int_R (by rw [List.length_append]; unfold nums at *; rw [List.map_append]; exact hown)
            refine hK.out _ _ ⟨hB5, pw_cell_below hB5 hc3⟩ (fun hHeld => ?_)
            clear hK K
            refine norm_ (a' := ?_) ?_ ?_
            rotate_left
            · show Act.put _ (some 48) _ = _
              simp only [Act.put, List.setIfInBounds_toArray, List.set_cons_zero, List.set_cons_succ, i64_w, i32_w]
              rfl
            refine last_ (i := 6) (N := some 49) #[true, true, true, true, true, true, true] rfl rfl (by kernel_rfl) (by decide) (fun K hK => ?_)
            refine goesF_ #[.pointer (some ⟨b1, 0, none⟩), .pointer (some ⟨b2, 0, none⟩), .pointer (some ⟨b3, 0, none⟩)] hE (#[v5] ++ #[.pointer (some ⟨b1, 0, none⟩), .pointer (some ⟨b2, 0, none⟩), .pointer (some ⟨b3, 0, none⟩)]) (by rfl) rfl rfl (by rfl) (by simp only [List.map_toArray, List.map_cons, List.map_nil]; rfl) ?_
            refine (IH.out w5 v5 hB5 hr5).mono ?_
            rintro e w6 ⟨v6, rfl, hst6, hgr6⟩
            refine ⟨_, rfl, ?_⟩
            have HST6 := Aside0.mk hst6
            have HGR6 := Aside0.mk hgr6
            clear hst6 hgr6
            refine hK.out _ _ ?_
            clear hK K
            refine norm_ (a' := ?_) ?_ ?_
            rotate_left
            · show Act.put _ (some 49) _ = _
              simp only [Act.put, List.setIfInBounds_toArray, List.set_cons_zero, List.set_cons_succ, i64_w, i32_w]
              rfl
            refine done_ (by kernel_rfl) ?_

            go_wp2
            go_roundg (gk - 1)
            case measure => have := HX0.out; have := HHX.out; omega
            case rel =>
              refine ⟨j + 1, x + 1, v6, by first | rfl | go_num, ⟨⟨by have := HX0.out.1; omega, by have := HHX.out.2; omega, by have := HX0.out.2.2; omega⟩⟩, ⟨?_⟩, ⟨(HG1.out.trans (Grew.of_below HB5.out _ _)).trans HGR6.out⟩⟩
              have h6 := HST6.out
              rw [List.append_assoc] at h6
              rw [List.range_succ, List.flatMap_append, List.flatMap_singleton, ← HX0.out.1]
              exact h6
          · have bx : decide (x ≤ hi) = false := decide_eq_false ct
            have hjc : j = cnt := by have := HX0.out; have := HRES.out.2.1; omega
            go_wp2
            refine bodyPost_end (v := .tuple #[]) (by simp [results, Try.results99, go_sem]) rfl ⟨rfl, v1, ?_, HG1.out⟩
            rw [HRES.out.1, ← hjc]
            exact HS1.out.more (fun k hk => hk.1) (fun h => HST.out.ne _ h rfl)
set_option maxHeartbeats 8000000 in
set_option maxRecDepth 100000 in
theorem impl_above.calls (A0 : Option Addr) (c0 : Nat) (l0 : List Int) (r : List (List Int)) (w : World) (hr0 : Kd.C (Kd.int .i64) w A0 l0.length l0) (hc0 : l0.length ≤ c0) (h : impl_above.f l0 = some r) :
    Calls Try.prog 47 #[.slice A0 l0.length c0] w fun e w' => ∃ v0_ : Value, e = .returned (v0_) ∧ Kd.S (Kd.slice 3 (Kd.int .i64)) 22 w' w.heap.size (fun _ => True) v0_ r ∧ Below w.heap.size w w' := by
  unfold impl_above.f at h
  by_cases hok : AbvOk l0
  · rw [if_pos hok] at h
    have hmf : ∀ (fn : Fn) (first cap : Array Value) (w : World), (Instr.makeFunc fn first cap).run Try.prog w = .ok (.func fn first cap) w := fun _ _ _ _ => rfl
    have HB := Aside0.mk (Below.refl w.heap.size w)
    by_cases h1 : l0.length = 1
    · rw [if_pos h1] at h
      obtain rfl := Option.some.inj h
      have t1 : ((l0.length : Int) == 1) = true := by simp; omega
      have t2 : (l0.length == 1) = true := by simp; omega
      have t3 : decide (l0.length = 1) = true := decide_eq_true h1
      obtain ⟨n, hn⟩ : ∃ n, n = l0.length := ⟨_, rfl⟩
      rw [← hn] at t1 t2 t3 ⊢
      clear hr0 hc0 h hok h1 hn
      go_enter Try.func47, Try.ntmps47
      go_wp2_with ((with_reducible refine gate_dst (N := 5) rfl ?_); refine Kd.S_lit (Kd.slice 3 (Kd.int .i64)) _ 22 ?hg (N := 5) ?hd (xs := ([] : List (List Int))) (inner := []) (ok := fun _ => True) (okp := fun _ => True) ?hr ?hp (fun _ hk => hk) trivial (below_alloc (Below.refl _ _) _) (by simp) (by simp) ?_; (case hd => rfl); (case hg => rfl); (case hr => first | (go_simp; done) | (go_simp; rfl)); (case hp => exact Reps.none _ _); intro v8 w1 ho hb hg_ hnew_; obtain ⟨A8, c8, e8⟩ := Kd.S_slice ho; subst e8; have hbx1 := (Boxed.new w 22 (.slice A0 n c0)).kept hg_ (by simp); have hc1 := hbx1.cell; have hlt := hbx1.lt; have HO := Aside0.mk ho; have HB1 := Aside0.mk hb; have HNW := Aside0.mk hnew_; have HBX := Aside0.mk hbx1; clear ho hb hg_ hnew_ hbx1)
      go_ret
      exact ⟨_, rfl, Kd.S_alloc HO.out _, below_alloc HB1.out _⟩
    · rw [if_neg h1] at h
      obtain rfl := Option.some.inj h
      have t1 : ((l0.length : Int) == 1) = false := by simp; omega
      have t2 : (l0.length == 1) = false := by simp; omega
      have t3 : decide (l0.length = 1) = false := decide_eq_false h1
      obtain ⟨n, hn⟩ : ∃ n, n = l0.length := ⟨_, rfl⟩
      have HOK := Aside0.mk (And.intro hok hn)
      have HC := Aside0.mk (show Kd.C (Kd.int .i64) w A0 n l0 by rw [hn]; exact hr0)
      have HLEN := Aside0.mk (show (abvL l0 (n - 1) []).length ≤ 2000000 by
        have h5 := abvL_len hok (n - 1) [] (by have := hok.1; simp; omega)
        have h6 : 16 ^ (n - 1) ≤ 16 ^ 5 := Nat.pow_le_pow_right (by decide) (by have := hok.2.1; omega)
        omega)
      rw [← hn] at t1 t2 t3 ⊢
      obtain ⟨res, hres⟩ : ∃ res, res = abvL l0 (n - 1) [] := ⟨_, rfl⟩
      rw [← hres]
      have HRES := Aside0.mk hres
      clear hr0 hc0 h hok h1 hn hres
      go_enter Try.func47, Try.ntmps47
      go_wp2_with ((with_reducible refine gate_dst (N := 5) rfl ?_); refine Kd.S_lit (Kd.slice 3 (Kd.int .i64)) _ 22 ?hg (N := 5) ?hd (xs := ([] : List (List Int))) (inner := []) (ok := fun _ => True) (okp := fun _ => True) ?hr ?hp (fun _ hk => hk) trivial (below_alloc (Below.refl _ _) _) (by simp) (by simp) ?_; (case hd => rfl); (case hg => rfl); (case hr => first | (go_simp; done) | (go_simp; rfl)); (case hp => exact Reps.none _ _); intro v8 w1 ho hb hg_ hnew_; obtain ⟨A8, c8, e8⟩ := Kd.S_slice ho; subst e8; have hbx1 := (Boxed.new w 22 (.slice A0 n c0)).kept hg_ (by simp); have hc1 := hbx1.cell; have hlt := hbx1.lt; have HO := Aside0.mk ho; have HB1 := Aside0.mk hb; have HNW := Aside0.mk hnew_; have HBX := Aside0.mk hbx1; clear ho hb hg_ hnew_ hbx1)
      refine (above_add l0 A0 c0 n w w.heap.size w1.heap.size (w1.heap.size + 1) HC.out HOK.out.2.symm HOK.out.1 (n - 1) (fun k => k ≠ w.heap.size ∧ k ≠ w1.heap.size ∧ k ≠ w1.heap.size + 1) _ (.slice A8 0 c8) (.slice none 0 0) [] [] ?c1 ?c2 ?c3 ?c4 ?c5 ?c6 ?c7 ?c8 ?c9 ?c10 ?c11 ?c12).mono ?_
      case c1 =>
        have h7 := HOK.out.1.1
        have h8 := HOK.out.2
        simp
        omega
      case c2 =>
        intro j hj
        simp at hj
      case c3 => simpa using HLEN.out
      case c4 => exact fun h => h.1 rfl
      case c5 => exact fun h => h.2.2 rfl
      case c6 => omega
      case c7 => omega
      case c8 => exact out_begun HO.out HB1.out HNW.out hlt
      case c9 => exact Kd.S_mono (out_begun HO.out HB1.out HNW.out hlt).out (fun k hk => ⟨hk, by simp [Value.ownBlock]⟩)
      case c10 => exact Kd.R_nil _ _ _ _ _
      case c11 => go_simp
      case c12 => go_simp
      rintro e w6 ⟨v6, rfl, hst, hgr⟩
      have hb6 := hst.box.cell
      have HST := Aside0.mk hst
      clear hst hgr
      go_wp2
      go_ret
      refine ⟨_, rfl, ?_, HST.out.below⟩
      have h9 := HST.out.out
      rw [List.nil_append, ← HRES.out] at h9
      exact Kd.S_mono h9 (fun _ _ => trivial)
  · rw [if_neg hok] at h
    cases h

end Go.Proofs.Ythjiajkmaimbjaa.P
