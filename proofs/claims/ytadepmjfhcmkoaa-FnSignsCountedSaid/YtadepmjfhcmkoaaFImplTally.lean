-- By gp.py (this session's own driver over the kit's print). Not trusted: Lean checks it.
import Derived.Test.YtadepmjfhcmkoaaF0
import Derived.Test.YtadepmjfhcmkoaaB
import Derived.Laws.EntriesVeiled
import Derived.Test.YtadepmjfhcmkoaaFImplCountOf
import Derived.Test.YtadepmjfhcmkoaaFImplEach
import Derived.Test.YtadepmjfhcmkoaaFImplIn
import Derived.Test.YtadepmjfhcmkoaaFSlicesIndexIntInt
import Derived.Test.YtadepmjfhcmkoaaGrow
import Derived.Test.YtadepmjfhcmkoaaFImplCountOf
import Derived.Test.YtadepmjfhcmkoaaFImplEach
import Derived.Test.YtadepmjfhcmkoaaFImplIn
import Derived.Test.YtadepmjfhcmkoaaFSlicesIndexIntInt
namespace Go.Proofs.Ytadepmjfhcmkoaa.P
open Go.Proofs.Ytadepmjfhcmkoaa.B
open Go.RowKit Go.Proofs.YtadepmjfhcmkoaaW.PrintWords Go.Proofs.YtadepmjfhcmkoaaW.PrintLast Go.Proofs.YtadepmjfhcmkoaaW.PrintMore
attribute [local go_sem] max2_int min2_int max_two min_two max_three min_three max_four min_four   -- for this text's walks alone
set_option linter.unusedVariables false
set_option linter.unusedSimpArgs false

/-! ### impl_tally: function 82 (given) -/
/-- A list of counts in which one more is counted at k; it grows if need be. -/
def tally1 (xs : List Int) (k : Nat) : List Int := (xs ++ List.replicate (k + 1 - xs.length) 0).set k (wrap64 (rd (xs ++ List.replicate (k + 1 - xs.length) 0) (k : Int) + 1))
theorem tally1_len (xs : List Int) (k : Nat) : (tally1 xs k).length = max xs.length (k + 1) := by
  unfold tally1
  rw [List.length_set, List.length_append, List.length_replicate]
  omega
/-- A list of numbers in a box. -/
structure ISt (w0 W : World) (b : Nat) (v : Value) (xs : List Int) : Prop where
  below : Below w0.heap.size w0 W
  box : Boxed W b 39 v
  out : (Kd.int .i64).R 3 W w0.heap.size (fun k => k ≠ b) v xs
  lo : w0.heap.size ≤ b
theorem ISt.move {w0 W W' : World} {b : Nat} {v : Value} {xs : List Int} (h : ISt w0 W b v xs) (hb : Below W.heap.size W W') : ISt w0 W' b v xs := ⟨below_step h.below hb, boxed_below h.box hb, Kd.R_below h.out hb, h.lo⟩
theorem ints_pushed {w0 W w1 : World} {b : Nat} {v v1 : Value} {xs ys : List Int} (h : ISt w0 W b v xs) (hs : (Kd.int .i64).R 3 w1 w0.heap.size (fun k => k ≠ b) v1 ys) (hb : Below w0.heap.size w0 w1) (hg : W.grownBy w1 v.ownBlock) (hat : v1.ownBlock = v.ownBlock ∨ ∃ k, v1.ownBlock = some k ∧ W.heap.size ≤ k) :
    w1.cell? ⟨b, 0, none⟩ = some v ∧ w1.frozen? ⟨b, 0, none⟩ = false ∧ ISt w0 (w1.setCell ⟨b, 0, none⟩ v1) b v1 ys ∧ Grew W (w1.setCell ⟨b, 0, none⟩ v1) b v v1 := by
  have hnb : some b ≠ v.ownBlock := fun e => h.out.1 b e.symm rfl
  have hbx : Boxed w1 b 39 v := h.box.kept hg hnb
  have hbs : b < W.heap.size := h.box.lt
  have hsz : W.heap.size ≤ w1.heap.size := hg.size
  refine ⟨hbx.cell, hbx.frozen, ⟨hb.setCell (p := ⟨b, 0, none⟩) h.lo v1, hbx.set v1, Kd.R_set hs hbx (by decide) 0 v1, h.lo⟩, ⟨⟨?_, fun i hi hn => ?_⟩, ?_⟩⟩
  · have : (w1.setCell ⟨b, 0, none⟩ v1).heap.size = w1.heap.size := by simp [World.setCell]
    omega
  · rw [Below.heap_setCell w1 ⟨b, 0, none⟩ v1 i (fun e => hn (.inl e)), hg.block i hi (fun e => hn (.inr e.symm))]
  · rcases hat with e | ⟨k, e, hk⟩
    · exact .inl e
    · refine .inr (fun j hj => ?_)
      rw [e] at hj
      injection hj with hj
      subst hj
      exact hk
/-- What tally's visitor keeps. -/
def TSt (w0 : World) (bo : Nat) (xs : List Int) (W : World) (own : Nat → Prop) : Prop := ∃ v, (Boxed W bo 39 v ∧ (Kd.int .i64).R 3 W w0.heap.size (fun k => k ≠ bo) v xs ∧ w0.heap.size ≤ bo) ∧ ∀ k, own k ↔ (k = bo ∨ v.ownBlock = some k)
theorem TSt.stay {w0 W W' : World} {bo : Nat} {xs : List Int} {own : Nat → Prop} (h : TSt w0 bo xs W own) (hk : ∀ k, own k → k < W.heap.size → W'.heap[k]? = W.heap[k]?) : TSt w0 bo xs W' own := by
  obtain ⟨v, ⟨h1, h2, h3⟩, ho⟩ := h
  exact ⟨v, ⟨(hk bo ((ho bo).mpr (.inl rfl)) h1.lt).trans h1, Kd.R_reok rfl (Kd.R_step (Kd.R_tight rfl h2) (fun k hk2 hlt => hk k ((ho k).mpr (.inr hk2.symm)) hlt)) h2.1, h3⟩, ho⟩
theorem TSt.lt {w0 W : World} {bo : Nat} {xs : List Int} {own : Nat → Prop} (h : TSt w0 bo xs W own) : ∀ k, own k → k < W.heap.size := by
  intro k hk
  obtain ⟨v, ⟨h1, h2, h3⟩, ho⟩ := h
  rcases (ho k).mp hk with e | e
  · rw [e]; exact h1.lt
  · exact Kd.R_lt h2 k e
set_option maxHeartbeats 8000000 in
set_option maxRecDepth 100000 in
theorem tally_clo (F : Nat) (hF : Enters Try.prog F) (w0 : World) (p0 bo : Nat) (hp0 : w0.cell? ⟨p0, 0, none⟩ = some (.func (.func F) #[] #[])) (M : List (List Int)) (kk : Nat) (hk : kk ≤ 100) (W : World) (own : Nat → Prop) (v : Value) (xs : List Int) (hxs : xs.length ≤ 200) (hB : Below w0.heap.size w0 W) (hS : TSt w0 bo xs W own) (hV : Kd.V (Kd.slice 3 (Kd.int .i64)) 39 W 0 (fun k => ¬ own k) v M)
    (hOf : ∀ (W : World) (v : Value), Kd.V (Kd.slice 3 (Kd.int .i64)) 39 W 0 (fun _ => True) v M → Calls Try.prog F #[v] W fun e w' => e = .returned (.int .i64 (kk : Int)) ∧ Drawn0 W w') :
    Calls Try.prog 129 (#[v] ++ #[.pointer (some ⟨p0, 0, none⟩), .pointer (some ⟨bo, 0, none⟩)]) W fun e w' => e = .returned (.bool true) ∧ Below w0.heap.size w0 w' ∧ ∃ own', TSt w0 bo (tally1 xs kk) w' own' ∧ Kept W w' own ∧ ∀ k, own' k → own k ∨ W.heap.size ≤ k := by
  obtain ⟨u, ⟨hI1, hI2, hI3⟩, hown⟩ := hS
  have hI : ISt w0 W bo u xs := ⟨hB, hI1, hI2, hI3⟩
  obtain ⟨A, c, rfl⟩ := Kd.V_slice hV
  have hF1 := hF
  unfold Enters at hF1
  have hc1 := pw_cell_below hI.below hp0
  have HOF := Aside0.mk (hOf W _ (Kd.V_mono hV (fun _ _ => trivial)))
  have HI := Aside0.mk hI
  have HOWN := Aside0.mk hown
  have m0 : (0 : Int) ≤ (kk : Int) := Int.natCast_nonneg _
  have m1 : (kk : Int) ≤ 100 := by omega
  have HK := Aside0.mk (And.intro hk hxs)
  clear hI hI1 hI2 hI3 hB hown hOf hV hp0 hk hxs
  go_enter Try.func129, Try.ntmps129
  go_wp2_with (go_at_fn F; (with_reducible refine HOF.out.mono ?_); rintro e w5 ⟨rfl, ⟨nd, rfl⟩⟩)
  clear hc1
  have HI1 := Aside0.mk (HI.out.move (pw_below_drewN (Below.refl W.heap.size W) nd))
  go_loopg [] (kk + 3) (fun kq w' => ∃ (j : Nat) (u1 : Value) (zs : List Int), Aside0 (zs = xs ++ List.replicate j 0 ∧ j ≤ kk + 1 - xs.length ∧ kq = kk + 3 - j) ∧ Aside0 (ISt w0 w' bo u1 zs) ∧ Aside0 (Grew W w' bo u u1))
  case atStart => exact ⟨0, u, xs, ⟨⟨by simp, by omega, by omega⟩⟩, HI1, ⟨Grew.of_below (pw_below_drewN (Below.refl _ _) _) _ _⟩⟩
  case round =>
    obtain ⟨j, u1, zs, HJ, HI2, HG⟩ := hrel
    obtain ⟨A1, c1, rfl⟩ := Kd.R_slice HI2.out.out
    have zlen : zs.length = xs.length + j := by rw [HJ.out.1]; simp
    have hc2 := HI2.out.box.cell
    have hz2 := HI2.out.box.frozen
    have ZL := Aside0.mk zlen
    clear zlen
    by_cases hk2 : zs.length ≤ kk
    · have bk : decide (zs.length ≤ kk) = true := decide_eq_true hk2
      obtain ⟨ys, hys⟩ : ∃ ys, ys = zs ++ [0] := ⟨_, rfl⟩
      have NY := Aside0.mk hys
      clear hys
      go_wp2_with ((with_reducible refine gate_builtin (b := .append) (xs := #[.tmp 13, .tmp 14]) rfl ?_); at_builtin; refine Kd.R_append (Kd.int .i64) (w0 := w0) w0.heap.size rfl (.tmp 13) (.tmp 14) 39 3 (.int .i64 0) 8 rfl Try.underlying39 info3 rfl (by decide) (by omega) (.slice A1 zs.length c1) zs 0 [.int .i64 0] (fun k => k ≠ bo) (fun _ => False) rfl rfl ?aP (fun _ hk => hk.elim) ?aF ?aO ?aB ?aS ?aL ?_; (case aP => exact rfl); (case aF => exact (fun k hk => by have := HI2.out.box.lt; omega)); (case aO => exact HI2.out.out); (case aB => exact HI2.out.below); (case aS => exact HI2.out.below.size); (case aL => have := HK.out; have := ZL.out; omega); intro v1 w1 ho hb hg hat; rw [← NY.out] at ho; obtain ⟨Av1, cv1, ev1⟩ := Kd.R_slice ho; subst ev1; obtain ⟨hq1, hq2, hq3, hq4⟩ := ints_pushed HI2.out ho hb hg hat; have HQ3 := Aside0.mk hq3; have HQ4 := Aside0.mk hq4; clear ho hb hg hat hq3 hq4)
      go_roundg (gk - 1)
      case measure => have := HJ.out; omega
      case rel => exact ⟨j + 1, _, ys, ⟨⟨by rw [NY.out, HJ.out.1, List.append_assoc, ← List.replicate_succ'], by have := HJ.out; have := ZL.out; omega, by have := HJ.out; omega⟩⟩, HQ3, ⟨HG.out.trans HQ4.out⟩⟩
    · have bk : decide (zs.length ≤ kk) = false := decide_eq_false hk2
      have bk2 : decide (kk < zs.length) = true := decide_eq_true (by omega)
      have hj : j = kk + 1 - xs.length := by have := HJ.out; have := ZL.out; omega
      obtain ⟨g, cp, e1, hg1, hg2, cl, hg3⟩ := Kd.R_form HI2.out.out (by omega)
      cases e1
      have h1 := own_at (own_of_R HI2.out.out) (kk : Int) (by omega) (by omega)
      rw [Int.toNat_natCast] at h1
      obtain ⟨hx1, hx2⟩ := h1
      obtain ⟨z, hz⟩ : ∃ z, z = rd zs (kk : Int) := ⟨_, rfl⟩
      rw [← hz] at hx1
      have HZ := Aside0.mk hz
      have hb4 := hg3
      have HG3 := Aside0.mk (And.intro hg1 (And.intro hg2 hg3))
      have hgb : g ≠ bo := HI2.out.out.1 g (by simp [Value.ownBlock])
      clear hz hg1 hg2 hg3 hb4
      go_wp2
      go_ret
      have hst := (own_of_R HI2.out.out).stored kk (.int .i64 (wrap64 (z + 1)))
      have e2 : (nums .i64 zs).set kk (.int .i64 (wrap64 (z + 1))) = nums .i64 (zs.set kk (wrap64 (z + 1))) := by simp [nums, List.map_set]
      have e3 : zs.set kk (wrap64 (z + 1)) = tally1 xs kk := by
        unfold tally1
        rw [HZ.out, HJ.out.1, hj]
      rw [e2, e3] at hst
      have hlen : (tally1 xs kk).length = zs.length := by rw [← e3, List.length_set]
      refine ⟨rfl, HI2.out.below.setCell (p := ⟨g, kk, none⟩) HG3.out.1 _, fun k => k = bo ∨ some g = some k, ⟨.slice (some ⟨g, 0, none⟩) zs.length c1, ⟨?_, ?_, HI2.out.lo⟩, fun k => by simp [Value.ownBlock]⟩, ?_, fun k hk => ?_⟩
      · exact (Below.heap_setCell _ ⟨g, kk, none⟩ _ bo (fun e => hgb e.symm)).trans HI2.out.box
      · exact Kd.R_mono (int_R (x := tally1 xs kk) (by rw [hlen]; exact hst.1)) (fun k hk => by have : g = k := by simpa [Value.ownBlock] using hk
                                                                                                rw [← this]; exact hgb)
      · have h5 := HG.out.kept.mono (S' := own) (fun k hk => (HOWN.out k).mpr hk)
        refine h5.setCell (p := ⟨g, kk, none⟩) ?_ _
        rcases HG.out.at_ with h6 | h6
        · exact .inl ((HOWN.out g).mpr (.inr (h6.symm.trans (by simp [Value.ownBlock]))))
        · exact .inr (h6 g (by simp [Value.ownBlock]))
      · rcases hk with hk | hk
        · exact .inl ((HOWN.out k).mpr (.inl hk))
        · rcases HG.out.at_ with h6 | h6
          · exact .inl ((HOWN.out k).mpr (.inr (h6.symm.trans (by simpa [Value.ownBlock] using hk))))
          · exact .inr (h6 k (by simpa [Value.ownBlock] using hk))
/-- The counts of all tables of a list. -/
def tallyL (f : List (List Int) → Nat) (xs : List Int) (L : List (List (List Int))) : List Int := L.foldl (fun o M => tally1 o (f M)) xs
theorem tallyL_len (f : List (List Int) → Nat) (B : Nat) (xs : List Int) (L : List (List (List Int))) (hx : xs.length ≤ B) (hL : ∀ M ∈ L, f M + 1 ≤ B) : (tallyL f xs L).length ≤ B := by
  induction L generalizing xs with
  | nil => exact hx
  | cons M L ih =>
    refine ih (tally1 xs (f M)) ?_ (fun M hM => hL M (List.mem_cons_of_mem _ hM))
    have := hL M List.mem_cons_self
    rw [tally1_len]
    omega
theorem runTo_all (o c : Nat) : (runTo (fun _ => true) o c).1 = o + c := by
  induction c generalizing o with
  | zero => rfl
  | succ c ih =>
    simp only [runTo, if_true]
    rw [ih]; omega
set_option maxHeartbeats 8000000 in
set_option maxRecDepth 100000 in
theorem tally_any (F : Nat) (hF : Enters Try.prog F) (n : Nat) (hn1 : 1 ≤ n) (hn6 : n ≤ 6) (least : Nat) (hl : least ≤ 100) (f : List (List Int) → Nat) (hf : ∀ M ∈ esAll n, f M ≤ 99)
    (hOf : ∀ M ∈ esAll n, ∀ (W : World) (v : Value), Kd.V (Kd.slice 3 (Kd.int .i64)) 39 W 0 (fun _ => True) v M → Calls Try.prog F #[v] W fun e w' => e = .returned (.int .i64 (f M : Int)) ∧ Drawn0 W w') (w : World) :
    Calls Try.prog 82 #[.int .i64 (n : Int), .int .i64 (least : Int), .func (.func F) #[] #[]] w fun e w' => ∃ v0_ : Value, e = .returned v0_ ∧ (Kd.int .i64).R 3 w' w.heap.size (fun _ => True) v0_ (tallyL f (List.replicate least 0) (esAll n)) ∧ Below w.heap.size w w' := by
  have hmf : ∀ (fn : Fn) (first cap : Array Value) (w : World), (Instr.makeFunc fn first cap).run Try.prog w = .ok (.func fn first cap) w := fun _ _ _ _ => rfl
  have HF := Aside0.mk hF
  have HFF := Aside0.mk hf
  have HOF := Aside0.mk hOf
  have HN := Aside0.mk (And.intro hn1 (And.intro hn6 hl))
  have hE := enters_of Try.func129 (by kernel_rfl) rfl
  have HE := Aside0.mk hE
  have m0 : (0 : Int) ≤ (least : Int) := Int.natCast_nonneg _
  have m1 : (least : Int) ≤ 100 := by omega
  have m2 : (1 : Int) ≤ (n : Int) := by omega
  have m3 : (n : Int) ≤ 6 := by omega
  obtain ⟨w0, hw0⟩ : ∃ w0 : World, w0 = w.alloc (.cells #[.func (.func F) #[] #[]] 66) := ⟨_, rfl⟩
  have hb0 : Below w.heap.size w w0 := by rw [hw0]; exact below_alloc (Below.refl _ _) _
  have hbx0 : Boxed w0 w.heap.size 66 (.func (.func F) #[] #[]) := by rw [hw0]; exact Boxed.new w _ _
  have HW0 := Aside0.mk (And.intro hb0 hbx0)
  clear hb0 hbx0 hE hF hf hOf hn1 hn6 hl
  go_enter Try.func82, Try.ntmps82
  go_wp2_with ((with_reducible refine gate_dst (N := 9) rfl ?_); rw [← hw0]; refine Kd.R_make (Kd.int .i64) (w0 := w0) w0.heap.size 3 rfl (N := 9) rfl 39 (.tmp 8) (.tmp 8) rfl (least : Int) rfl rfl Try.underlying39 (.int .i64 0) 8 info3 rfl (by decide) (by decide) 0 (ok := fun _ => True) (okp := fun _ => True) rfl (fun _ h => h) trivial (by omega) (by rw [Int.toNat_natCast]; omega) (Below.refl _ _) (Nat.le_refl _) ?_; intro v1 w1 ho hb hg hnew; rw [Int.toNat_natCast] at ho; obtain ⟨A1, c1, e1⟩ := Kd.R_slice ho; rw [List.length_replicate] at e1; subst e1; have HO := Aside0.mk ho; have HB := Aside0.mk hb; clear ho hb hg hnew)
  obtain ⟨wz, hwz⟩ : ∃ wz : World, wz = w1.alloc (.cells #[.slice A1 least c1] 39) := ⟨_, rfl⟩
  have hz1 : Boxed wz w1.heap.size 39 (.slice A1 least c1) := by rw [hwz]; exact Boxed.new _ _ _
  have hz2 : Below w1.heap.size w1 wz := by rw [hwz]; exact below_alloc (Below.refl _ _) _
  rw [← hwz]
  have hIS : ISt w0 wz w1.heap.size (.slice A1 least c1) (List.replicate least 0) := ⟨below_step HB.out hz2, hz1, Kd.R_mono (Kd.R_below (Kd.R_bound HO.out) hz2) (fun k hk => by have := hk.2.2.1; omega), HB.out.size⟩
  have HIS := Aside0.mk hIS
  clear hwz hz1 hz2 hIS
  have hok : StOk (fun i W own => TSt w0 w1.heap.size (tallyL f (List.replicate least 0) ((esAll n).take i)) W own) := ⟨fun i W W' own hs hk _ => hs.stay hk, fun i W own hs => hs.lt⟩
  refine (eachSigns_any n 129 #[.pointer (some ⟨w.heap.size, 0, none⟩), .pointer (some ⟨w1.heap.size, 0, none⟩)] HE.out HN.out.1 HN.out.2.1 w0 (fun i W own => TSt w0 w1.heap.size (tallyL f (List.replicate least 0) ((esAll n).take i)) W own) hok (fun _ => true) ?cb wz (fun k => k = w1.heap.size ∨ (Value.slice A1 least c1).ownBlock = some k) HIS.out.below ?st).mono ?_
  case cb =>
    intro i M W own v hi hb hs hv
    have hil := (List.getElem?_eq_some_iff.mp hi).1
    have hMi := (List.getElem?_eq_some_iff.mp hi).2
    have hM : M ∈ esAll n := by rw [← hMi]; exact List.getElem_mem _
    have hlen : (tallyL f (List.replicate least 0) ((esAll n).take i)).length ≤ 100 := tallyL_len f 100 _ _ (by rw [List.length_replicate]; exact HN.out.2.2) (fun M' h' => by have := HFF.out M' (List.mem_of_mem_take h'); omega)
    refine (tally_clo F HF.out w0 w.heap.size w1.heap.size HW0.out.2.cell M (f M) (by have := HFF.out M hM; omega) W own v _ (by omega) hb hs hv (HOF.out M hM)).mono ?_
    rintro e w' ⟨rfl, hb2, own', hs2, hk2, ho2⟩
    refine ⟨rfl, hb2, own', ?_, hk2, ho2⟩
    have e1 : tallyL f (List.replicate least 0) ((esAll n).take (i + 1)) = tally1 (tallyL f (List.replicate least 0) ((esAll n).take i)) (f M) := by
      rw [List.take_succ_eq_append_getElem hil, hMi]
      unfold tallyL
      rw [List.foldl_append]
      rfl
    show TSt w0 w1.heap.size (tallyL f (List.replicate least 0) ((esAll n).take (i + 1))) w' own'
    rw [e1]
    exact hs2
  case st =>
    refine ⟨_, ⟨HIS.out.box, ?_, HIS.out.lo⟩, fun k => Iff.rfl⟩
    exact HIS.out.out
  rintro e w6 ⟨rfl, hb6, own6, hs6, _, _⟩
  rw [runTo_all, Nat.zero_add, List.take_length] at hs6
  obtain ⟨v6, ⟨h61, h62, h63⟩, _⟩ := hs6
  have hx6 := h61.cell
  have H6 := Aside0.mk (And.intro hb6 h62)
  clear hb6 h61 h62 h63
  go_wp2
  go_ret
  exact ⟨_, rfl, Kd.R_lower (Kd.R_mono H6.out.2 (fun _ _ => trivial)) HW0.out.1.size, below_step HW0.out.1 H6.out.1⟩
/-- Whether a program tells a small number at every table. -/
def okBy (g : List (List Int) → Option Int) (n : Nat) : Bool := (esAll n).all fun M => match g M with | some x => decide (0 ≤ x) && decide (x ≤ 99) | none => false
def fBy (g : List (List Int) → Option Int) (M : List (List Int)) : Nat := ((g M).getD 0).toNat
theorem okBy_at {g : List (List Int) → Option Int} {n : Nat} (h : okBy g n = true) {M : List (List Int)} (hM : M ∈ esAll n) : g M = some (fBy g M : Int) ∧ fBy g M ≤ 99 := by
  have h1 := List.all_eq_true.mp h M hM
  unfold fBy
  cases e : g M with
  | none => rw [e] at h1; cases h1
  | some x =>
    rw [e] at h1
    simp only [Bool.and_eq_true, decide_eq_true_eq] at h1
    simp only [Option.getD_some]
    exact ⟨by rw [Int.toNat_of_nonneg h1.1], by omega⟩
theorem tally_by (F : Nat) (hF : Enters Try.prog F) (n : Nat) (hn1 : 1 ≤ n) (hn6 : n ≤ 6) (least : Nat) (hl : least ≤ 100) (g : List (List Int) → Option Int) (hok : okBy g n = true)
    (hOf : ∀ (M : List (List Int)) (x : Int), g M = some x → ∀ (W : World) (v : Value), Kd.V (Kd.slice 3 (Kd.int .i64)) 39 W 0 (fun _ => True) v M → Calls Try.prog F #[v] W fun e w' => e = .returned (.int .i64 x) ∧ Drawn0 W w') (w : World) :
    Calls Try.prog 82 #[.int .i64 (n : Int), .int .i64 (least : Int), .func (.func F) #[] #[]] w fun e w' => ∃ v0_ : Value, e = .returned v0_ ∧ (Kd.int .i64).R 3 w' w.heap.size (fun _ => True) v0_ (tallyL (fBy g) (List.replicate least 0) (esAll n)) ∧ Below w.heap.size w w' :=
  tally_any F hF n hn1 hn6 least hl (fBy g) (fun M hM => (okBy_at hok hM).2) (fun M hM W v hv => hOf M _ (okBy_at hok hM).1 W v hv) w

/-! ### impl_CountByFirst: function 31 (given) -/
/-- The column of the first row's 1. -/
def firstG (M : List (List Int)) : Option Int := match M with | [] => none | r :: _ => slices_Index_int_int.f 10 r 1
set_option maxHeartbeats 8000000 in
set_option maxRecDepth 100000 in
theorem firstG_calls (M : List (List Int)) (x : Int) (hx : firstG M = some x) (W : World) (v : Value) (hv : Kd.V (Kd.slice 3 (Kd.int .i64)) 39 W 0 (fun _ => True) v M) : Calls Try.prog 83 #[v] W fun e w' => e = .returned (.int .i64 x) ∧ Drawn0 W w' := by
  obtain ⟨A, c, rfl⟩ := Kd.V_slice hv
  cases M with
  | nil => cases hx
  | cons r M =>
    have h1 := Kd.V_at hv
    obtain ⟨ad, A0, c0, rfl, hc1, hl1, hr1⟩ := at_row (Kd.F_now h1.2.2) 0 (by simp)
    have hx2 : slices_Index_int_int.f 10 r 1 = some x := hx
    simp only [List.getD_cons_zero] at hc1 hl1 hr1
    have HX := Aside0.mk (slices_Index_int_int.calls 10 A0 c0 r 1 x W hr1 hl1 hx2)
    have z0 : ad.add 0 = ad := by unfold Addr.add; simp
    rw [z0] at hc1
    have hlen : decide (0 < (r :: M).length) = true := by simp
    have hlen2 : 0 < (r :: M).length := by simp
    obtain ⟨m, hm⟩ : ∃ m, m = (r :: M).length := ⟨_, rfl⟩
    rw [← hm] at hlen hlen2 ⊢
    have hm2 : (0 : Int) < (m : Int) := by omega
    clear hv h1 hr1 hx hx2 hl1 z0 hm
    go_enter Try.func83, Try.ntmps83
    go_wp2_with (go_at_call 84; (with_reducible refine HX.out.mono ?_); rintro e w5 ⟨rfl, ⟨nd, rfl⟩⟩)
    go_ret
    exact ⟨rfl, ⟨_, rfl⟩⟩
def impl_CountByFirst.f (a0 : Int) : Option (List Int × Bool) := if 1 ≤ a0 ∧ a0 ≤ 6 then (if okBy firstG a0.toNat = true then some (tallyL (fBy firstG) (List.replicate (a0.toNat) 0) (esAll a0.toNat), true) else none) else some ([], false)
set_option maxHeartbeats 8000000 in
set_option maxRecDepth 100000 in
theorem impl_CountByFirst.calls (a0 : Int) (r1 : List Int) (r2 : Bool) (w : World) (h : impl_CountByFirst.f a0 = some (r1, r2)) :
    Calls Try.prog 31 #[.int .i64 a0] w fun e w' => ∃ v0_ : Value, e = .returned (.tuple #[v0_, .bool r2]) ∧ Kd.R (Kd.int .i64) 3 w' w.heap.size (fun _ => True) v0_ r1 ∧ Below w.heap.size w w' := by
  unfold impl_CountByFirst.f at h
  have HB := Aside0.mk (Below.refl w.heap.size w)
  by_cases hc : 1 ≤ a0 ∧ a0 ≤ 6
  · rw [if_pos hc] at h
    obtain ⟨n, rfl⟩ : ∃ n : Nat, a0 = (n : Int) := ⟨a0.toNat, by omega⟩
    rw [Int.toNat_natCast] at h
    by_cases hk : okBy firstG n = true
    · rw [if_pos hk] at h
      simp only [Option.some.injEq, Prod.mk.injEq] at h
      obtain ⟨h1, h2⟩ := h
      subst h1
      subst h2
      have hg0 : impl_within.f (n : Int) 1 6 = some true := by unfold impl_within.f; rw [if_pos hc.1, decide_eq_true hc.2]
      have hg : impl_isSide.f (n : Int) = some true := by first | (unfold impl_isSide.f; rw [hg0]; rfl) | (unfold impl_isSide.f; simpa using hg0)
      have m1 : (1 : Int) ≤ (n : Int) := hc.1
      have m6 : (n : Int) ≤ 6 := hc.2
      have HG := Aside0.mk hg
      have ht := fun W => tally_by 83 (enters_of Try.func83 (by kernel_rfl) rfl) n (by omega) (by omega) (n) (by omega) firstG hk (fun M x hx W v hv => firstG_calls M x hx W v hv) W
      have HT := Aside0.mk ht
      clear hg hg0 hk hc ht
      go_enter Try.func31, Try.ntmps31
      go_wp2_with (first | (go_at_call 61; (with_reducible refine (impl_isSide.calls (n : Int) true _ HG.out).mono ?_); rintro e w5 ⟨rfl, ⟨nd, rfl⟩⟩; have HB1 := Aside0.mk (pw_below_drewN HB.out nd)) | (go_at_call 82; (with_reducible refine (HT.out _).mono ?_); rintro e w6 ⟨v6, rfl, hr, hb⟩; have HR := Aside0.mk (Kd.R_lower hr HB1.out.size); have HB2 := Aside0.mk (below_step HB1.out hb); clear hr hb))
      go_ret2
      exact ⟨_, rfl, HR.out, HB2.out⟩
    · rw [if_neg hk] at h
      cases h
  · rw [if_neg hc] at h
    simp only [Option.some.injEq, Prod.mk.injEq] at h
    obtain ⟨rfl, rfl⟩ := h
    have hg0 : impl_within.f a0 1 6 = some false := by
      unfold impl_within.f
      by_cases h1 : 1 ≤ a0
      · rw [if_pos h1, decide_eq_false (fun h2 => hc ⟨h1, h2⟩)]
      · rw [if_neg h1]
    have hg : impl_isSide.f a0 = some false := by first | (unfold impl_isSide.f; rw [hg0]; rfl) | (unfold impl_isSide.f; simpa using hg0)
    have HG := Aside0.mk hg
    clear hg hg0 hc
    go_enter Try.func31, Try.ntmps31
    go_wp2_with (go_at_call 61; (with_reducible refine (impl_isSide.calls a0 false _ HG.out).mono ?_); rintro e w5 ⟨rfl, ⟨nd, rfl⟩⟩; have HB1 := Aside0.mk (pw_below_drewN HB.out nd))
    go_ret2
    exact ⟨_, rfl, Kd.R_nil _ _ _ _ _, HB1.out⟩

/-! ### impl_CountByMinus: function 36 (given) -/
def impl_CountByMinus.f (a0 : Int) : Option (List Int × Bool) := if 1 ≤ a0 ∧ a0 ≤ 5 then (if okBy (impl_minusOnes.f 200) a0.toNat = true then some (tallyL (fBy (impl_minusOnes.f 200)) (List.replicate (1) 0) (esAll a0.toNat), true) else none) else some ([], false)
set_option maxHeartbeats 8000000 in
set_option maxRecDepth 100000 in
theorem impl_CountByMinus.calls (a0 : Int) (r1 : List Int) (r2 : Bool) (w : World) (h : impl_CountByMinus.f a0 = some (r1, r2)) :
    Calls Try.prog 36 #[.int .i64 a0] w fun e w' => ∃ v0_ : Value, e = .returned (.tuple #[v0_, .bool r2]) ∧ Kd.R (Kd.int .i64) 3 w' w.heap.size (fun _ => True) v0_ r1 ∧ Below w.heap.size w w' := by
  unfold impl_CountByMinus.f at h
  have HB := Aside0.mk (Below.refl w.heap.size w)
  by_cases hc : 1 ≤ a0 ∧ a0 ≤ 5
  · rw [if_pos hc] at h
    obtain ⟨n, rfl⟩ : ∃ n : Nat, a0 = (n : Int) := ⟨a0.toNat, by omega⟩
    rw [Int.toNat_natCast] at h
    by_cases hk : okBy (impl_minusOnes.f 200) n = true
    · rw [if_pos hk] at h
      simp only [Option.some.injEq, Prod.mk.injEq] at h
      obtain ⟨h1, h2⟩ := h
      subst h1
      subst h2
      have hg0 : impl_within.f (n : Int) 1 5 = some true := by unfold impl_within.f; rw [if_pos hc.1, decide_eq_true hc.2]
      have hg : impl_within.f (n : Int) 1 5 = some true := hg0
      have m1 : (1 : Int) ≤ (n : Int) := hc.1
      have m6 : (n : Int) ≤ 5 := hc.2
      have HG := Aside0.mk hg
      have ht := fun W => tally_by 86 (enters_of Try.func86 (by kernel_rfl) rfl) n (by omega) (by omega) (1) (by omega) (impl_minusOnes.f 200) hk (fun M x hx W v hv => by
        obtain ⟨A, c, rfl⟩ := Kd.V_slice hv
        have h1 := Kd.V_at hv
        exact impl_minusOnes.calls 200 A c M x W (Kd.F_now h1.2.2) h1.2.1 hx) W
      rw [show ((1 : Nat) : Int) = 1 from rfl] at ht
      have HT := Aside0.mk ht
      clear hg hg0 hk hc ht
      go_enter Try.func36, Try.ntmps36
      go_wp2_with (first | (go_at_call 79; (with_reducible refine (impl_within.calls (n : Int) 1 5 true _ HG.out).mono ?_); rintro e w5 ⟨rfl, ⟨nd, rfl⟩⟩; have HB1 := Aside0.mk (pw_below_drewN HB.out nd)) | (go_at_call 82; (with_reducible refine (HT.out _).mono ?_); rintro e w6 ⟨v6, rfl, hr, hb⟩; have HR := Aside0.mk (Kd.R_lower hr HB1.out.size); have HB2 := Aside0.mk (below_step HB1.out hb); clear hr hb))
      go_ret2
      exact ⟨_, rfl, HR.out, HB2.out⟩
    · rw [if_neg hk] at h
      cases h
  · rw [if_neg hc] at h
    simp only [Option.some.injEq, Prod.mk.injEq] at h
    obtain ⟨rfl, rfl⟩ := h
    have hg0 : impl_within.f a0 1 5 = some false := by
      unfold impl_within.f
      by_cases h1 : 1 ≤ a0
      · rw [if_pos h1, decide_eq_false (fun h2 => hc ⟨h1, h2⟩)]
      · rw [if_neg h1]
    have hg : impl_within.f a0 1 5 = some false := hg0
    have HG := Aside0.mk hg
    clear hg hg0 hc
    go_enter Try.func36, Try.ntmps36
    go_wp2_with (go_at_call 79; (with_reducible refine (impl_within.calls a0 1 5 false _ HG.out).mono ?_); rintro e w5 ⟨rfl, ⟨nd, rfl⟩⟩; have HB1 := Aside0.mk (pw_below_drewN HB.out nd))
    go_ret2
    exact ⟨_, rfl, Kd.R_nil _ _ _ _ _, HB1.out⟩

/-! ### impl_CountByInversions: function 38 (given) -/
def impl_CountByInversions.f (a0 : Int) : Option (List Int × Bool) := if 1 ≤ a0 ∧ a0 ≤ 5 then (if okBy (impl_inversions.f 1000) a0.toNat = true then some (tallyL (fBy (impl_inversions.f 1000)) (List.replicate (a0.toNat * (a0.toNat - 1) / 2 + 1) 0) (esAll a0.toNat), true) else none) else some ([], false)
set_option maxHeartbeats 8000000 in
set_option maxRecDepth 100000 in
theorem impl_CountByInversions.calls (a0 : Int) (r1 : List Int) (r2 : Bool) (w : World) (h : impl_CountByInversions.f a0 = some (r1, r2)) :
    Calls Try.prog 38 #[.int .i64 a0] w fun e w' => ∃ v0_ : Value, e = .returned (.tuple #[v0_, .bool r2]) ∧ Kd.R (Kd.int .i64) 3 w' w.heap.size (fun _ => True) v0_ r1 ∧ Below w.heap.size w w' := by
  unfold impl_CountByInversions.f at h
  have HB := Aside0.mk (Below.refl w.heap.size w)
  by_cases hc : 1 ≤ a0 ∧ a0 ≤ 5
  · rw [if_pos hc] at h
    obtain ⟨n, rfl⟩ : ∃ n : Nat, a0 = (n : Int) := ⟨a0.toNat, by omega⟩
    rw [Int.toNat_natCast] at h
    by_cases hk : okBy (impl_inversions.f 1000) n = true
    · rw [if_pos hk] at h
      simp only [Option.some.injEq, Prod.mk.injEq] at h
      obtain ⟨h1, h2⟩ := h
      subst h1
      subst h2
      have hg0 : impl_within.f (n : Int) 1 5 = some true := by unfold impl_within.f; rw [if_pos hc.1, decide_eq_true hc.2]
      have hg : impl_within.f (n : Int) 1 5 = some true := hg0
      have m1 : (1 : Int) ≤ (n : Int) := hc.1
      have m6 : (n : Int) ≤ 5 := hc.2
      have HG := Aside0.mk hg
      have ht := fun W => tally_by 87 (enters_of Try.func87 (by kernel_rfl) rfl) n (by omega) (by omega) (n * (n - 1) / 2 + 1) (by (have h5 : n = 1 ∨ n = 2 ∨ n = 3 ∨ n = 4 ∨ n = 5 := by omega); (rcases h5 with rfl | rfl | rfl | rfl | rfl <;> decide)) (impl_inversions.f 1000) hk (fun M x hx W v hv => by
        obtain ⟨A, c, rfl⟩ := Kd.V_slice hv
        have h1 := Kd.V_at hv
        exact impl_inversions.calls 1000 A c M x W (Kd.F_now h1.2.2) h1.2.1 hx) W
      obtain ⟨ls, hls⟩ : ∃ ls, ls = n * (n - 1) / 2 + 1 := ⟨_, rfl⟩
      have hls2 : (n : Int) = 1 ∧ ls = 1 ∨ (n : Int) = 2 ∧ ls = 2 ∨ (n : Int) = 3 ∧ ls = 4 ∨ (n : Int) = 4 ∧ ls = 7 ∨ (n : Int) = 5 ∧ ls = 11 := by
        have h5 : n = 1 ∨ n = 2 ∨ n = 3 ∨ n = 4 ∨ n = 5 := by omega
        rcases h5 with rfl | rfl | rfl | rfl | rfl <;> simp [hls]
      have e1 : wrap64 ((n : Int) - 1) = (n : Int) - 1 := wrapE _ (by omega) (by omega)
      have e2 : wrap64 (wrap64 ((n : Int) * ((n : Int) - 1))) = (n : Int) * ((n : Int) - 1) := by rcases hls2 with h | h | h | h | h <;> rw [h.1] <;> kernel_rfl
      have e3 : wrap64 ((n : Int) * ((n : Int) - 1)) = (n : Int) * ((n : Int) - 1) := by rcases hls2 with h | h | h | h | h <;> rw [h.1] <;> kernel_rfl
      have e4 : wrap64 (Int.tdiv ((n : Int) * ((n : Int) - 1)) 2 + 1) = (ls : Int) := by rcases hls2 with h | h | h | h | h <;> rw [h.1, h.2] <;> kernel_rfl
      have e5 : wrap64 (Int.tdiv ((n : Int) * ((n : Int) - 1)) 2) = Int.tdiv ((n : Int) * ((n : Int) - 1)) 2 := by rcases hls2 with h | h | h | h | h <;> rw [h.1] <;> kernel_rfl
      rw [← hls]
      rw [← hls] at ht
      have HE := Aside0.mk (And.intro e1 (And.intro e3 (And.intro e4 e5)))
      clear hls hls2 e2
      have HT := Aside0.mk ht
      clear hg hg0 hk hc ht
      go_enter Try.func38, Try.ntmps38
      go_wp2_with (first | (go_at_call 79; (with_reducible refine (impl_within.calls (n : Int) 1 5 true _ HG.out).mono ?_); rintro e w5 ⟨rfl, ⟨nd, rfl⟩⟩; have HB1 := Aside0.mk (pw_below_drewN HB.out nd)) | (go_at_call 82; (try simp only [HE.out.1, HE.out.2.1, HE.out.2.2.1, HE.out.2.2.2]); (with_reducible refine (HT.out _).mono ?_); rintro e w6 ⟨v6, rfl, hr, hb⟩; have HR := Aside0.mk (Kd.R_lower hr HB1.out.size); have HB2 := Aside0.mk (below_step HB1.out hb); clear hr hb))
      go_ret2
      exact ⟨_, rfl, HR.out, HB2.out⟩
    · rw [if_neg hk] at h
      cases h
  · rw [if_neg hc] at h
    simp only [Option.some.injEq, Prod.mk.injEq] at h
    obtain ⟨rfl, rfl⟩ := h
    have hg0 : impl_within.f a0 1 5 = some false := by
      unfold impl_within.f
      by_cases h1 : 1 ≤ a0
      · rw [if_pos h1, decide_eq_false (fun h2 => hc ⟨h1, h2⟩)]
      · rw [if_neg h1]
    have hg : impl_within.f a0 1 5 = some false := hg0
    have HG := Aside0.mk hg
    clear hg hg0 hc
    go_enter Try.func38, Try.ntmps38
    go_wp2_with (go_at_call 79; (with_reducible refine (impl_within.calls a0 1 5 false _ HG.out).mono ?_); rintro e w5 ⟨rfl, ⟨nd, rfl⟩⟩; have HB1 := Aside0.mk (pw_below_drewN HB.out nd))
    go_ret2
    exact ⟨_, rfl, Kd.R_nil _ _ _ _ _, HB1.out⟩

end Go.Proofs.Ytadepmjfhcmkoaa.P
