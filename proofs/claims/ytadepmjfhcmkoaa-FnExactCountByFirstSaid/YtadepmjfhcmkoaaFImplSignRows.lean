-- By gp.py (this session's own driver over the kit's print). Not trusted: Lean checks it.
import Derived.Test.YtadepmjfhcmkoaaF0
import Derived.Test.YtadepmjfhcmkoaaB
import Derived.Deep.RegionHeld3
import Derived.Laws.EntriesVeiled
import Derived.Test.YtadepmjfhcmkoaaFSlicesCloneIntInt
import Derived.Test.YtadepmjfhcmkoaaGrow
import Derived.Test.YtadepmjfhcmkoaaFSlicesCloneIntInt
namespace Go.Proofs.Ytadepmjfhcmkoaa.P
open Go.Proofs.Ytadepmjfhcmkoaa.B
open Go.RowKit Go.Proofs.YtadepmjfhcmkoaaW.PrintWords Go.Proofs.YtadepmjfhcmkoaaW.PrintLast Go.Proofs.YtadepmjfhcmkoaaW.PrintMore
attribute [local go_sem] max2_int min2_int max_two min_two max_three min_three max_four min_four   -- for this text's walks alone
set_option linter.unusedVariables false
set_option linter.unusedSimpArgs false

/-! ### impl_signRows: function 111 (given) -/
/-- All rows that go on some numbers with the sum s by so many more and end with the sum 1. -/
def srL : Nat → List Int → Int → List (List Int)
  | 0, ys, s => if s = 1 then [ys] else []
  | d + 1, ys, s => (List.range 2).flatMap fun (j : Nat) => srL d (ys ++ [-s + (j : Int)]) (j : Int)
theorem srL_len (d : Nat) (ys : List Int) (s : Int) : (srL d ys s).length ≤ 2 ^ d := by
  induction d generalizing ys s with
  | zero =>
    simp only [srL]
    split <;> simp
  | succ d ih =>
    simp only [srL, show List.range 2 = [0, 1] from rfl, List.flatMap_cons, List.flatMap_nil, List.append_nil, List.length_append]
    have h1 := ih (ys ++ [-s + ((0 : Nat) : Int)]) ((0 : Nat) : Int)
    have h2 := ih (ys ++ [-s + ((1 : Nat) : Int)]) ((1 : Nat) : Int)
    rw [Nat.pow_succ]
    omega
def impl_signRows.f (a0 : Int) : Option (List (List Int)) := if 0 ≤ a0 ∧ a0 ≤ 6 then some (srL a0.toNat [] 0) else none
theorem srL_fits {d : Nat} {xs : List (List Int)} {ys : List Int} {s x : Int} {j : Nat} (h : xs.length + (srL (d + 1) ys s).length ≤ 2000000) (hx : x = -s + (j : Int)) (hj : j < 2) :
    (xs ++ (List.range j).flatMap fun (j : Nat) => srL d (ys ++ [-s + (j : Int)]) (j : Int)).length + (srL d (ys ++ [x]) (s + x)).length ≤ 2000000 := by
  have e : List.range 2 = List.range (j + 1) ++ (List.range 2).drop (j + 1) := by
    have := List.take_append_drop (j + 1) (List.range 2)
    rw [List.take_range, Nat.min_eq_left (by omega)] at this
    exact this.symm
  have e2 : s + x = (j : Int) := by omega
  simp only [srL] at h
  rw [e, List.flatMap_append, List.length_append, List.range_succ, List.flatMap_append, List.length_append, List.flatMap_singleton, ← hx] at h
  rw [e2, List.length_append]
  omega
theorem sr_own {w : World} {base : Nat} {ok : Nat → Prop} {u v : Value} {xs : List (List Int)} (h : Kd.S (Kd.slice 3 (Kd.int .i64)) 39 w base (fun k => ok k ∧ some k ≠ u.ownBlock) v xs) (k : Nat) (hk : v.ownBlock = some k) : ok k := ((Kd.S_R h).1 k hk).1
theorem sr_ne {w : World} {base : Nat} {ok : Nat → Prop} {u v : Value} {xs : List (List Int)} (h : Kd.S (Kd.slice 3 (Kd.int .i64)) 39 w base (fun k => ok k ∧ some k ≠ u.ownBlock) v xs) (k : Nat) (hk : v.ownBlock = some k) : ¬ u.ownBlock = some k := fun e => ((Kd.S_R h).1 k hk).2 e.symm
set_option maxHeartbeats 8000000 in
set_option maxRecDepth 100000 in
theorem sr_add (n : Nat) (hn6 : n ≤ 6) (w0 : World) (b1 b2 b3 : Nat) : ∀ (d : Nat) (ok : Nat → Prop) (W : World) (v u : Value) (xs : List (List Int)) (ys : List Int) (s : Int),
    ys.length + d = n → 0 ≤ s → s ≤ 1 → xs.length + (srL d ys s).length ≤ 2000000 → ¬ ok b1 → ¬ ok b3 → b1 ≠ b2 → b3 ≠ b2 →
    OutSt w0 W b2 ok v xs → Kd.S (Kd.slice 3 (Kd.int .i64)) 39 W w0.heap.size (fun k => ok k ∧ some k ≠ u.ownBlock) v xs → (Kd.int .i64).R 3 W w0.heap.size ok u ys →
    W.cell? ⟨b1, 0, none⟩ = some (.int .i64 (n : Int)) → W.cell? ⟨b3, 0, none⟩ = some (.func (.func 151) #[] #[.pointer (some ⟨b1, 0, none⟩), .pointer (some ⟨b2, 0, none⟩), .pointer (some ⟨b3, 0, none⟩)]) →
    Calls Try.prog 151 (#[u, .int .i64 s] ++ #[.pointer (some ⟨b1, 0, none⟩), .pointer (some ⟨b2, 0, none⟩), .pointer (some ⟨b3, 0, none⟩)]) W fun e w' => ∃ v', e = .returned (.tuple #[]) ∧ OutSt w0 w' b2 ok v' (xs ++ srL d ys s) ∧ Grew W w' b2 v v' := by
  have hE := enters_of Try.func151 (by kernel_rfl) rfl
  intro d
  induction d with
  | zero =>
    intro ok W v u xs ys s hd hs0 hs1 hlen h1 h3 h12 h32 hst hsu hru hc1 hc3
    obtain ⟨Au, cu, rfl⟩ := Kd.R_slice hru
    have t1 : ((ys.length : Int) == (n : Int)) = true := by simp; omega
    have hn1 : (n : Int) ≤ 6 := by omega
    have hn2 : (0 : Int) ≤ (n : Int) := by omega
    by_cases cs : s = 1
    · subst cs
      have hbx := hst.box.cell
      have HST := Aside0.mk hst
      have HSU := Aside0.mk hsu
      have HRU := Aside0.mk hru
      have HL := Aside0.mk (show (xs.length + 1) * 24 ≤ 140737488355328 by simp only [srL, if_true, List.length_cons, List.length_nil] at hlen; omega)
      have HB := Aside0.mk hst.below
      obtain ⟨zs, hzs⟩ : ∃ zs, zs = xs ++ srL 0 ys 1 := ⟨_, rfl⟩
      rw [← hzs]
      have NZ := Aside0.mk (show zs = xs ++ [ys] by rw [hzs]; simp [srL])
      have t2 : ((1 : Int) == 1) = true := rfl
      clear hst hsu hru hlen hd h1 h3 h12 h32 hc3 hE hzs hs0 hs1
      go_enter Try.func151, Try.ntmps151
      go_wp2_with ((with_reducible refine gate_builtin (b := .append) (xs := #[.tmp 14, .tmp 16]) rfl ?_); at_builtin; refine Kd.S_append (Kd.slice 3 (Kd.int .i64)) (w0 := w0) w0.heap.size rfl (.tmp 14) (.tmp 16) 22 39 (.slice none 0 0) 24 rfl Try.underlying22 info39 rfl (by decide) (by omega) v xs ys [.slice Au ys.length cu] ok (fun k_ => some k_ = (.slice Au ys.length cu : Value).ownBlock) rfl rfl ?aP ?aQ ?aF ?aO ?aB ?aS ?aL ?_; (case aP => exact Kd.M_row (Kd.R_tight rfl HRU.out)); (case aQ => exact (fun k_ hk_ => ⟨HRU.out.1 k_ hk_.symm, fun e_ => ((Kd.S_R HSU.out).1 k_ e_.symm).2 hk_⟩)); (case aF => exact HST.out.fresh); (case aO => exact Kd.S_mono HSU.out (fun k_ hk => ⟨hk.1, fun e_ => hk.2 e_⟩)); (case aB => exact HB.out); (case aS => exact HB.out.size); (case aL => exact HL.out); intro v1 w1 ho hb hg hat; rw [← NZ.out] at ho; obtain ⟨Av1, cv1, ev1⟩ := Kd.S_slice ho; subst ev1; obtain ⟨hq1, hq2, hq3, hq4⟩ := out_pushed HST.out ho hb hg hat; have HQ3 := Aside0.mk hq3; have HQ4 := Aside0.mk hq4; clear ho hb hg hat hq3 hq4)
      exact bodyPost_ret (v := .tuple #[]) (by simp [results, Try.results151, go_sem]) rfl ⟨_, rfl, HQ3.out, HQ4.out⟩
    · have t2 : (s == 1) = false := by simpa using cs
      have HST := Aside0.mk (show OutSt w0 W b2 ok v (xs ++ srL 0 ys s) by simp only [srL, if_neg cs, List.append_nil]; exact hst)
      clear hst hsu hru hlen hd h1 h3 h12 h32 hc3 hE hs0 hs1
      go_enter Try.func151, Try.ntmps151
      go_wp2
      exact bodyPost_ret (v := .tuple #[]) (by simp [results, Try.results151, go_sem]) rfl ⟨_, rfl, HST.out, Grew.refl _ _ _⟩
  | succ d ih =>
    intro ok W v u xs ys s hd hs0 hs1 hlen h1 h3 h12 h32 hst hsu hru hc1 hc3
    obtain ⟨Au, cu, rfl⟩ := Kd.R_slice hru
    have t1 : ((ys.length : Int) == (n : Int)) = false := by simp; omega
    have HST := Aside0.mk hst
    have HSU := Aside0.mk hsu
    have HRU := Aside0.mk hru
    have hn1 : (n : Int) ≤ 6 := by omega
    have hn2 : (1 : Int) ≤ (n : Int) := by omega
    have HFACT := Aside0.mk (And.intro hd hlen)
    have HNOT := Aside0.mk (And.intro h1 (And.intro h3 (And.intro h12 h32)))
    have HIH := Aside0.mk ih
    have HST1 := Aside0.mk (hst.less hsu (Kd.R_lt hru))
    have HCELL := Aside0.mk (And.intro hc1 hc3)
    obtain ⟨res, hres⟩ : ∃ res, res = srL (d + 1) ys s := ⟨_, rfl⟩
    have HRES := Aside0.mk (show res = (List.range 2).flatMap fun (j : Nat) => srL d (ys ++ [-s + (j : Int)]) (j : Int) from hres)
    rw [← hres]
    have HS01 := Aside0.mk (And.intro hs0 hs1)
    clear hst hsu hru hd hlen h1 h3 h12 h32 ih hres
    go_enter Try.func151, Try.ntmps151
    go_wp2
    go_loopg [7] 3 (fun kq v7 w' => ∃ (j : Nat) (x : Int) (v1 : Value), v7 = .int .i64 x ∧ Aside0 (x = -s + (j : Int) ∧ j ≤ 2 ∧ kq = 3 - j) ∧ Aside0 (OutSt w0 w' b2 (fun k => ok k ∧ some k ≠ (Value.slice Au ys.length cu).ownBlock) v1 (xs ++ (List.range j).flatMap fun (j : Nat) => srL d (ys ++ [-s + (j : Int)]) (j : Int))) ∧ Aside0 (Grew W w' b2 v v1))
    case atStart => exact ⟨0, _, v, rfl, ⟨⟨by first | omega | (simp; done) | (rw [wrapE _ (by omega) (by omega)]; omega), by omega, by omega⟩⟩, ⟨by simpa using HST1.out⟩, ⟨Grew.refl _ _ _⟩⟩
    case round =>
      obtain ⟨j, x, v1, rfl, HX0, HS1, HG1⟩ := hrel
      have hc1 := HG1.out.cell HCELL.out.1 HNOT.out.2.2.1 (fun e => HNOT.out.1 (sr_own HSU.out _ e))
      have hc3 := HG1.out.cell HCELL.out.2 HNOT.out.2.2.2 (fun e => HNOT.out.2.1 (sr_own HSU.out _ e))
      have hxb : -1 ≤ x := by have := HX0.out.1; omega
      have hxc : x ≤ 2 := by have := HX0.out; omega
      by_cases ct : x ≤ 1 - s
      · have bx : decide (x ≤ 1 - s) = true := decide_eq_true ct
        have hru := HG1.out.row HRU.out (fun k hk => HST.out.ne k (HRU.out.1 k hk)) (fun k hk e => sr_ne HSU.out _ e hk)
        have HCU := Aside0.mk (Kd.R_reads' hru).2.2
        have HLU := Aside0.mk (Kd.R_reads' hru).2.1
        have HCL := Aside0.mk (show slices_Clone_int_int.f ys = some ys by unfold slices_Clone_int_int.f; rw [if_pos (by have := HFACT.out.1; omega)])
        have HN := Aside0.mk (show ys.length + 1 ≤ 10 by have := HFACT.out.1; omega)
        have HHX := Aside0.mk (show j < 2 ∧ s + x = (j : Int) by have := HX0.out; omega)
        have IH := Aside0.mk (fun (w5 : World) (v5 : Value) (hB5 : Below wr.heap.size wr w5) (hr5 : (Kd.int .i64).R 3 w5 wr.heap.size (fun k => v5.ownBlock = some k) v5 (ys ++ [x])) => HIH.out (fun k => ok k ∧ some k ≠ (Value.slice Au ys.length cu).ownBlock) w5 v1 v5 (xs ++ (List.range j).flatMap fun (j : Nat) => srL d (ys ++ [-s + (j : Int)]) (j : Int)) (ys ++ [x]) (s + x)
          (by have := HFACT.out.1; rw [List.length_append]; simp; omega) (by have := HHX.out.2; omega) (by have := HHX.out; omega) (srL_fits HFACT.out.2 HX0.out.1 HHX.out.1) (fun h => HNOT.out.1 h.1) (fun h => HNOT.out.2.1 h.1) HNOT.out.2.2.1 HNOT.out.2.2.2 (HS1.out.move hB5)
          (Kd.S_mono (Kd.S_old HS1.out.out hB5) (fun k hk => ⟨hk.1, fun e => by have := Kd.R_base hr5 k e.symm; omega⟩)) (Kd.R_reok rfl (Kd.R_lower hr5 HS1.out.below.size) (fun k hk => HS1.out.fresh k (Kd.R_base hr5 k hk))) (pw_cell_below hB5 hc1) (pw_cell_below hB5 hc3))
        obtain ⟨i0, hi_, hz0, hz1, hz2⟩ := info_parts info3
        have WSX : wrap64 (s + x) = s + x := wrapE _ (by have := HS01.out; omega) (by have := HS01.out; omega)
        clear hru ct
        go_wp2
        refine start_ (n := 10) (S := fun w' => Below wr.heap.size wr w' ∧ w'.cell? ⟨b3, 0, none⟩ = some (.func (.func 151) #[] #[.pointer (some ⟨b1, 0, none⟩), .pointer (some ⟨b2, 0, none⟩), .pointer (some ⟨b3, 0, none⟩)])) (ds := [9]) #[false, false, false, false, false, false, false, false, false, false] (by kernel_rfl) rfl rfl ⟨(below_drew (Below.refl _ _)), hc3⟩ (fun hHeld => ?_)
        refine pure_ (i := 1) (N := some 27) (v := ?_) (a' := ?_) #[false, true, false, false, false, false, false, false, false, false] rfl rfl (by kernel_rfl) (fun _ _ _ h => h) (Or.inl ⟨by rfl, ?_⟩) ?_ ?_
        rotate_left
        · intro w'
          go_simp
          with_reducible rfl
        rotate_left
        · simp only [Act.put, List.setIfInBounds_toArray, List.set_cons_zero, List.set_cons_succ, i64_w, i32_w]
          rfl
        refine pure_ (i := 3) (N := some 29) (v := ?_) (a' := ?_) #[false, true, false, true, false, false, false, false, false, false] rfl rfl (by kernel_rfl) (fun _ _ _ h => h) (Or.inl ⟨by rfl, ?_⟩) ?_ ?_
        rotate_left
        · intro w'
          go_simp
          with_reducible rfl
        rotate_left
        · simp only [Act.put, List.setIfInBounds_toArray, List.set_cons_zero, List.set_cons_succ, i64_w, i32_w]
          rfl
        refine pure_ (i := 6) (N := some 32) (v := ?_) (a' := ?_) #[false, true, false, true, false, false, true, false, false, false] rfl rfl (by kernel_rfl) (fun _ _ _ h => h) (Or.inl ⟨by rfl, ?_⟩) ?_ ?_
        rotate_left
        · intro w'
          go_simp
          with_reducible rfl
        rotate_left
        · simp only [Act.put, List.setIfInBounds_toArray, List.set_cons_zero, List.set_cons_succ, i64_w, i32_w]
          rfl
        refine pure_ (i := 7) (N := some 33) (v := ?_) (a' := ?_) #[false, true, false, true, false, false, true, true, false, false] rfl rfl (by kernel_rfl) (fun _ _ _ h => h) (Or.inl ⟨by rfl, ?_⟩) ?_ ?_
        rotate_left
        · intro w'
          go_simp
          with_reducible rfl
        rotate_left
        · simp only [Act.put, List.setIfInBounds_toArray, List.set_cons_zero, List.set_cons_succ, i64_w, i32_w]
          rfl
        refine pure_ (i := 8) (N := some 34) (v := ?_) (a' := ?_) #[false, true, false, true, false, false, true, true, true, false] rfl rfl (by kernel_rfl) (fun _ _ _ h => h) (Or.inl ⟨by rfl, ?_⟩) ?_ ?_
        rotate_left
        · intro w'
          go_simp
          with_reducible rfl
        rotate_left
        · simp only [Act.put, List.setIfInBounds_toArray, List.set_cons_zero, List.set_cons_succ, i64_w, i32_w]
          rfl
        refine take_ (i := 0) (N := some 26) (v := ?_) (a' := ?_) #[true, true, false, true, false, false, true, true, true, false] rfl rfl (by kernel_rfl) (fun _ _ _ h => h) (Or.inl ⟨by rfl, ?_⟩) hHeld ?_ ?_
        rotate_left
        · rintro w' ⟨s0, s1⟩
          go_simp
          with_reducible rfl
        rotate_left
        · simp only [Act.put, List.setIfInBounds_toArray, List.set_cons_zero, List.set_cons_succ, i64_w, i32_w]
          rfl
        refine join_ (σ := Value × Nat) 2 #[true, true, true, true, true, false, true, true, true, false] (fun s_ => [(28, s_.1), (30, .slice (some ⟨s_.2, 0, none⟩) 1 1)]) (fun s_ w' => (Below wr.heap.size wr w' ∧ w'.cell? ⟨b3, 0, none⟩ = some (.func (.func 151) #[] #[.pointer (some ⟨b1, 0, none⟩), .pointer (some ⟨b2, 0, none⟩), .pointer (some ⟨b3, 0, none⟩)])) ∧ (Kd.int .i64).R 3 w' wr.heap.size (fun _ => True) s_.1 ys ∧ w'.cell? ⟨s_.2, 0, none⟩ = some (.int .i64 x)) ?_ ?_
        rotate_left
        · intro hCont
          refine two_ (i := 2) (j := 4) (Ni := some 28) (Nj := some 30) #[true, true, true, true, false, false, true, true, true, false] #[true, true, false, true, true, false, true, true, true, false] rfl rfl rfl rfl (by kernel_rfl) (by decide) (by decide) (fun K hK => ?_) (fun K hK => ?_)
          · skip
            refine goes_ Try.func114 (by kernel_rfl) rfl #[.slice Au ys.length cu] (by rfl) rfl rfl (by simp only [List.map_toArray, List.map_cons, List.map_nil]; rfl) ?_
            with_reducible refine (slices_Clone_int_int.calls _ _ ys ys _ (Kd.C_below HCU.out hHeld.1) HLU.out HCL.out).mono ?_
            rintro e w1 ⟨vc, rfl, hS, hb⟩
            refine ⟨_, rfl, ?_⟩
            have HS := Aside0.mk (Kd.R_lower hS hHeld.1.size)
            refine hK.out _ _ ⟨below_step hHeld.1 hb, pw_cell_below hb hHeld.2⟩ (fun hHeld => ?_)
            clear hK K
            refine norm_ (a' := ?_) ?_ ?_
            rotate_left
            · show Act.put _ (some 28) _ = _
              simp only [Act.put, List.setIfInBounds_toArray, List.set_cons_zero, List.set_cons_succ, i64_w, i32_w]
              rfl
            refine one_ (i := 4) (N := some 30) #[true, true, true, true, true, false, true, true, true, false] rfl rfl (by kernel_rfl) (by decide) (fun K hK => ?_)
            refine value_ (w1 := ?_) (v := ?_) (by rfl) rfl ?_ ?_
            rotate_left 2
            · go_simp
              constructor
              · rfl
              · rfl
            refine hK.out _ _ ⟨below_alloc hHeld.1 _, pw_cell_below (below_alloc (Below.refl _ _) _) hHeld.2⟩ (fun hHeld => ?_)
            clear hK K
            refine norm_ (a' := ?_) ?_ ?_
            rotate_left
            · show Act.put _ (some 30) _ = _
              simp only [Act.put, List.setIfInBounds_toArray, List.set_cons_zero, List.set_cons_succ, i64_w, i32_w]
              rfl
            exact norm_ (by simp only [putAll, Act.put, List.setIfInBounds_toArray, List.set_cons_zero, List.set_cons_succ]) (hCont (vc, w1.heap.size) _ ⟨hHeld, Kd.R_alloc HS.out _, by go_simp⟩)
          · skip
            refine value_ (w1 := ?_) (v := ?_) (by rfl) rfl ?_ ?_
            rotate_left 2
            · go_simp
              constructor
              · rfl
              · rfl
            refine hK.out _ _ ⟨below_alloc hHeld.1 _, pw_cell_below (below_alloc (Below.refl _ _) _) hHeld.2⟩ (fun hHeld => ?_)
            clear hK K
            refine norm_ (a' := ?_) ?_ ?_
            rotate_left
            · show Act.put _ (some 30) _ = _
              simp only [Act.put, List.setIfInBounds_toArray, List.set_cons_zero, List.set_cons_succ, i64_w, i32_w]
              rfl
            refine one_ (i := 2) (N := some 28) #[true, true, true, true, true, false, true, true, true, false] rfl rfl (by kernel_rfl) (by decide) (fun K hK => ?_)
            refine goes_ Try.func114 (by kernel_rfl) rfl #[.slice Au ys.length cu] (by rfl) rfl rfl (by simp only [List.map_toArray, List.map_cons, List.map_nil]; rfl) ?_
            with_reducible refine (slices_Clone_int_int.calls _ _ ys ys _ (Kd.C_below HCU.out hHeld.1) HLU.out HCL.out).mono ?_
            rintro e w1 ⟨vc, rfl, hS, hb⟩
            refine ⟨_, rfl, ?_⟩
            have HS := Aside0.mk (Kd.R_lower hS hHeld.1.size)
            have HX := Aside0.mk (pw_cell_below hb (show World.cell? _ ⟨wr.heap.size, 0, none⟩ = some (.int .i64 x) by go_simp))
            refine hK.out _ _ ⟨below_step hHeld.1 hb, pw_cell_below hb hHeld.2⟩ (fun hHeld => ?_)
            clear hK K
            refine norm_ (a' := ?_) ?_ ?_
            rotate_left
            · show Act.put _ (some 28) _ = _
              simp only [Act.put, List.setIfInBounds_toArray, List.set_cons_zero, List.set_cons_succ, i64_w, i32_w]
              rfl
            exact norm_ (by simp only [putAll, Act.put, List.setIfInBounds_toArray, List.set_cons_zero, List.set_cons_succ]) (hCont (vc, wr.heap.size) _ ⟨hHeld, HS.out, HX.out⟩)
        rintro ⟨vc, gb⟩ w3 ⟨hHeld, hvc, hgb⟩
        refine norm_ (a' := ?_) ?_ ?_
        rotate_left
        · simp only [putAll, Act.put, List.setIfInBounds_toArray, List.set_cons_zero, List.set_cons_succ]
          rfl
        refine one_ (i := 5) (N := some 31) #[true, true, true, true, true, true, true, true, true, false] rfl rfl (by kernel_rfl) (by decide) (fun K hK => ?_)
        rw [if_pos (by rfl)]
        refine wp_append_own _ (.tmp 28) (.tmp 30) 39 rfl wr.heap.size 3 i0 (.int .i64 0) 1 8 Try.underlying39 hi_ hz0 hz1 hz2 rfl (by decide) _ _ _ rfl (own_of_R hvc) ⟨gb, 0, none⟩ 1 1 [.int .i64 x] rfl rfl ?n1 ?n2 ?n3 ?n4 ?n5 ?_
        case n1 => intro j u hj; cases j with | zero => (injection hj with hj; subst hj; exact hgb) | succ j => simp at hj
        case n2 => intro u hu; rw [List.mem_singleton.mp hu]; rfl
        case n3 => have := HN.out; unfold maxLen; omega
        case n4 => have := HN.out; omega
        case n5 => exact hHeld.1.size
        intro v5 w5 hown hgrow hnil
        have hB5 := pw_below_grown hHeld.1 _ hHeld.1.size hgrow (Kd.R_base hvc)
        have HB5 := Aside0.mk hB5
        have hr5 : (Kd.int .i64).R 3 w5 wr.heap.size (fun k => v5.ownBlock = some k) v5 (ys ++ [x]) := int_R (by rw [List.length_append]; unfold nums at *; rw [List.map_append]; exact hown)
        refine hK.out _ _ ⟨hB5, pw_cell_below hB5 hc3⟩ (fun hHeld => ?_)
        clear hK K
        refine norm_ (a' := ?_) ?_ ?_
        rotate_left
        · show Act.put _ (some 31) _ = _
          simp only [Act.put, List.setIfInBounds_toArray, List.set_cons_zero, List.set_cons_succ, i64_w, i32_w]
          rfl
        refine last_ (i := 9) (N := some 35) #[true, true, true, true, true, true, true, true, true, true] rfl rfl (by kernel_rfl) (by decide) (fun K hK => ?_)
        refine goesF_ #[.pointer (some ⟨b1, 0, none⟩), .pointer (some ⟨b2, 0, none⟩), .pointer (some ⟨b3, 0, none⟩)] hE (#[v5, .int .i64 (s + x)] ++ #[.pointer (some ⟨b1, 0, none⟩), .pointer (some ⟨b2, 0, none⟩), .pointer (some ⟨b3, 0, none⟩)]) (by rfl) rfl rfl (by rfl) (by simp only [List.map_toArray, List.map_cons, List.map_nil]; first | rfl | (simp [WSX]; rfl) | (show _ = _; simp [Act.eval, WSX])) ?_
        refine (IH.out w5 v5 hB5 hr5).mono ?_
        rintro e w6 ⟨v6, rfl, hst6, hgr6⟩
        refine ⟨_, rfl, ?_⟩
        have HST6 := Aside0.mk hst6
        have HGR6 := Aside0.mk hgr6
        clear hst6 hgr6
        refine hK.out _ _ ?_
        clear hK K
        refine norm_ (a' := ?_) ?_ ?_
        rotate_left
        · show Act.put _ (some 35) _ = _
          simp only [Act.put, List.setIfInBounds_toArray, List.set_cons_zero, List.set_cons_succ, i64_w, i32_w]
          rfl
        refine done_ (by kernel_rfl) ?_

        go_wp2
        go_roundg (gk - 1)
        case measure => have := HX0.out; have := HHX.out; omega
        case rel =>
          refine ⟨j + 1, x + 1, v6, by first | rfl | go_num, ⟨⟨by have := HX0.out.1; omega, by have := HHX.out.1; omega, by have := HX0.out.2.2; omega⟩⟩, ⟨?_⟩, ⟨(HG1.out.trans (Grew.of_below HB5.out _ _)).trans HGR6.out⟩⟩
          have h6 := HST6.out
          rw [List.append_assoc] at h6
          rw [List.range_succ, List.flatMap_append, List.flatMap_singleton, ← HX0.out.1, ← HHX.out.2]
          exact h6
      · have bx : decide (x ≤ 1 - s) = false := decide_eq_false ct
        have hjc : j = 2 := by have := HX0.out; omega
        go_wp2
        refine bodyPost_end (v := .tuple #[]) (by simp [results, Try.results151, go_sem]) rfl ⟨rfl, v1, ?_, HG1.out⟩
        rw [HRES.out, ← hjc]
        exact HS1.out.more (fun k hk => hk.1) (fun h => HST.out.ne _ h rfl)
set_option maxHeartbeats 8000000 in
set_option maxRecDepth 100000 in
theorem impl_signRows.calls (a0 : Int) (r : List (List Int)) (w : World) (h : impl_signRows.f a0 = some r) :
    Calls Try.prog 111 #[.int .i64 a0] w fun e w' => ∃ v0_ : Value, e = .returned (v0_) ∧ Kd.S (Kd.slice 3 (Kd.int .i64)) 39 w' w.heap.size (fun _ => True) v0_ r ∧ Below w.heap.size w w' := by
  unfold impl_signRows.f at h
  by_cases hok : 0 ≤ a0 ∧ a0 ≤ 6
  · rw [if_pos hok] at h
    have hmf : ∀ (fn : Fn) (first cap : Array Value) (w : World), (Instr.makeFunc fn first cap).run Try.prog w = .ok (.func fn first cap) w := fun _ _ _ _ => rfl
    have HB := Aside0.mk (Below.refl w.heap.size w)
    obtain rfl := Option.some.inj h
    obtain ⟨n, rfl⟩ : ∃ n : Nat, a0 = (n : Int) := ⟨a0.toNat, by omega⟩
    have HOK := Aside0.mk (show n ≤ 6 by omega)
    rw [Int.toNat_natCast]
    obtain ⟨res, hres⟩ : ∃ res, res = srL n [] 0 := ⟨_, rfl⟩
    have HLEN := Aside0.mk (show (srL n [] 0).length ≤ 2000000 by
      have h5 := srL_len n [] 0
      have h6 : 2 ^ n ≤ 2 ^ 6 := Nat.pow_le_pow_right (by decide) (by omega)
      omega)
    rw [← hres]
    have HRES := Aside0.mk hres
    clear h hok hres
    go_enter Try.func111, Try.ntmps111
    go_wp2_with ((with_reducible refine gate_dst (N := 5) rfl ?_); refine Kd.S_lit (Kd.slice 3 (Kd.int .i64)) _ 39 ?hg (N := 5) ?hd (xs := ([] : List (List Int))) (inner := []) (ok := fun _ => True) (okp := fun _ => True) ?hr ?hp (fun _ hk => hk) trivial (below_alloc (Below.refl _ _) _) (by simp) (by simp) ?_; (case hd => rfl); (case hg => rfl); (case hr => first | (go_simp; done) | (go_simp; rfl)); (case hp => exact Reps.none _ _); intro v8 w1 ho hb hg_ hnew_; obtain ⟨A8, c8, e8⟩ := Kd.S_slice ho; subst e8; have hbx1 := (Boxed.new w 3 (.int .i64 (n : Int))).kept hg_ (by simp); have hc1 := hbx1.cell; have hlt := hbx1.lt; have HO := Aside0.mk ho; have HB1 := Aside0.mk hb; have HNW := Aside0.mk hnew_; have HBX := Aside0.mk hbx1; clear ho hb hg_ hnew_ hbx1)
    refine (sr_add n HOK.out w w.heap.size w1.heap.size (w1.heap.size + 1) n (fun k => k ≠ w.heap.size ∧ k ≠ w1.heap.size ∧ k ≠ w1.heap.size + 1) _ (.slice A8 0 c8) (.slice none 0 0) [] [] 0 ?c1 ?c2a ?c2b ?c3 ?c4 ?c5 ?c6 ?c7 ?c8 ?c9 ?c10 ?c11 ?c12).mono ?_
    case c1 => simp
    case c2a => omega
    case c2b => omega
    case c3 => simpa using HLEN.out
    case c4 => exact fun h => h.1 rfl
    case c5 => exact fun h => h.2.2 rfl
    case c6 => omega
    case c7 => omega
    case c8 => exact out_begun HO.out HB1.out HNW.out hlt
    case c9 => exact Kd.S_mono (out_begun HO.out HB1.out HNW.out hlt).out (fun k hk => ⟨hk, by simp [Value.ownBlock]⟩)
    case c10 => exact Kd.R_nil _ _ _ _ _
    case c11 => go_simp
    case c12 => go_simp
    rintro e w6 ⟨v6, rfl, hst, hgr⟩
    have hb6 := hst.box.cell
    have HST := Aside0.mk hst
    clear hst hgr
    go_wp2
    go_ret
    refine ⟨_, rfl, ?_, HST.out.below⟩
    have h9 := HST.out.out
    rw [List.nil_append, ← HRES.out] at h9
    exact Kd.S_mono h9 (fun _ _ => trivial)
  · rw [if_neg hok] at h
    cases h

end Go.Proofs.Ytadepmjfhcmkoaa.P
