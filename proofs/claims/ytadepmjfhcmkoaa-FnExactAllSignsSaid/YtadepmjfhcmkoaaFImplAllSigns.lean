-- By gp.py (this session's own driver over the kit's print). Not trusted: Lean checks it.
import Derived.Test.YtadepmjfhcmkoaaF0
import Derived.Test.YtadepmjfhcmkoaaB
import Derived.Deep.RegionHeld3
import Derived.Laws.EntriesVeiled
import Derived.Test.YtadepmjfhcmkoaaFImplAnySigns
import Derived.Test.YtadepmjfhcmkoaaFImplEach
import Derived.Test.YtadepmjfhcmkoaaFImplIn
import Derived.Test.YtadepmjfhcmkoaaTabSt
import Derived.Test.YtadepmjfhcmkoaaFImplAnySigns
import Derived.Test.YtadepmjfhcmkoaaFImplEach
import Derived.Test.YtadepmjfhcmkoaaFImplIn
namespace Go.Proofs.Ytadepmjfhcmkoaa.P
open Go.Proofs.Ytadepmjfhcmkoaa.B
open Go.RowKit Go.Proofs.YtadepmjfhcmkoaaW.PrintWords Go.Proofs.YtadepmjfhcmkoaaW.PrintLast Go.Proofs.YtadepmjfhcmkoaaW.PrintMore
attribute [local go_sem] max2_int min2_int max_two min_two max_three min_three max_four min_four   -- for this text's walks alone
set_option linter.unusedVariables false
set_option linter.unusedSimpArgs false

/-! ### impl_allSigns: function 80 (given) -/
theorem runAll (o c : Nat) : (runTo (fun _ => true) o c).1 = o + c := by
  rw [runTo_yes c o (fun _ _ _ => rfl)]
set_option maxHeartbeats 8000000 in
set_option maxRecDepth 100000 in
theorem all_clo (F : Nat) (hF : Enters Try.prog F) (caps : Array Value) (bk : Bool) (w0 : World) (base p0 bo : Nat) (hba : base ≤ w0.heap.size) (hp0 : w0.cell? ⟨p0, 0, none⟩ = some (.func (.func F) #[] caps)) (M : List (List Int)) (W : World) (own : Nat → Prop) (v : Value) (xs : List (List (List Int))) (hxs : xs.length ≤ 1000000) (hB : Below w0.heap.size w0 W) (hlo : w0.heap.size ≤ bo) (hown : ∀ k, own k → w0.heap.size ≤ k) (hS : ASt base bo xs W own) (hV : Kd.V (Kd.slice 3 (Kd.int .i64)) 39 W 0 (fun k => ¬ own k) v M) (hcp : impl_copyTable.f 100 M = some M)
    (hacc : ∀ (W : World) (v : Value), Below w0.heap.size w0 W → Kd.V (Kd.slice 3 (Kd.int .i64)) 39 W 0 (fun _ => True) v M → Calls Try.prog F (#[v] ++ caps) W fun e w' => e = .returned (.bool bk) ∧ Below W.heap.size W w') :
    Calls Try.prog 128 (#[v] ++ #[.pointer (some ⟨p0, 0, none⟩), .pointer (some ⟨bo, 0, none⟩)]) W fun e w' => e = .returned (.bool true) ∧ Below w0.heap.size w0 w' ∧ ∃ own', (ASt base bo (if bk = true then xs ++ [M] else xs) w' own' ∧ ∀ k, own' k → w0.heap.size ≤ k) ∧ Kept W w' own ∧ ∀ k, own' k → own k ∨ W.heap.size ≤ k := by
  obtain ⟨⟨u, hu1, hu2⟩, hu3, hu4, hu5⟩ := hS
  obtain ⟨Av, cv, rfl⟩ := Kd.V_slice hV
  have hF1 := hF
  unfold Enters at hF1
  have hc1 := pw_cell_below hB hp0
  have hv := Kd.V_at hV
  have HACC := Aside0.mk (hacc W _ hB (Kd.V_mono hV (fun _ _ => trivial)))
  have HC := Aside0.mk (Kd.F_now hv.2.2)
  have HLC := Aside0.mk hv.2.1
  have HCP := Aside0.mk hcp
  have HB := Aside0.mk hB
  have HBX := Aside0.mk hu1
  have HUS := Aside0.mk hu2
  have HLO := Aside0.mk hu3
  have HOB := Aside0.mk hu4
  have HLT := Aside0.mk hu5
  have HXS := Aside0.mk hxs
  have HUV := Aside0.mk (Kd.S_R hu2).1
  have HBA := Aside0.mk (show base ≤ W.heap.size from Nat.le_trans hba hB.size)
  have HOWN := Aside0.mk (And.intro hlo hown)
  clear hu1 hu2 hu3 hu4 hu5 hacc hv hV hcp hB hp0 hxs hlo hown hba
  cases bk with
  | false =>
    go_enter Try.func128, Try.ntmps128
    go_wp2_with (go_at_fn F; (with_reducible refine HACC.out.mono ?_); rintro e w5 ⟨rfl, hb5⟩; have HB5 := Aside0.mk hb5; clear hb5)
    clear hc1
    go_wp2
    go_ret
    have h7 := HB5.out
    exact ⟨rfl, below_step HB.out h7, own, ⟨ASt.stay ⟨⟨u, HBX.out, HUS.out⟩, HLO.out, HOB.out, HLT.out⟩ (fun k _ hk => h7.block k hk) h7.size, HOWN.out.2⟩, Kept.of_below h7 _, fun k hk => .inl hk⟩
  | true =>
    go_enter Try.func128, Try.ntmps128
    go_wp2_with (go_at_fn F; (with_reducible refine HACC.out.mono ?_); rintro e w5 ⟨rfl, hb5⟩; have HB5 := Aside0.mk hb5; clear hb5)
    clear hc1
    have hbx := boxed_below HBX.out HB5.out
    have hx1 := hbx.cell
    have hx2 := hbx.frozen
    have HBX5 := Aside0.mk hbx
    have HC5 := Aside0.mk (Kd.C_below HC.out HB5.out)
    clear hbx
    refine start_ (n := 6) (S := fun w' => Below w5.heap.size w5 w' ∧ w'.cell? ⟨bo, 0, none⟩ = some u ∧ w'.frozen? ⟨bo, 0, none⟩ = false) (ds := [4, 5]) #[false, false, false, false, false, false] (by kernel_rfl) rfl rfl ⟨(below_drew (Below.refl _ _)), hx1, hx2⟩ (fun hHeld => ?_)
    refine pure_ (i := 1) (N := some 9) (v := ?_) (a' := ?_) #[false, true, false, false, false, false] rfl rfl (by kernel_rfl) (fun _ _ _ h => h) (Or.inl ⟨by rfl, ?_⟩) ?_ ?_
    rotate_left
    · intro w'
      go_simp
      with_reducible rfl
    rotate_left
    · simp only [Act.put, List.setIfInBounds_toArray, List.set_cons_zero, List.set_cons_succ, i64_w, i32_w]
      rfl
    refine take_ (i := 0) (N := some 8) (v := ?_) (a' := ?_) #[true, true, false, false, false, false] rfl rfl (by kernel_rfl) (fun _ _ _ h => h) (Or.inl ⟨by rfl, ?_⟩) hHeld ?_ ?_
    rotate_left
    · rintro w' ⟨s0, s1, s2⟩
      go_simp
      with_reducible rfl
    rotate_left
    · simp only [Act.put, List.setIfInBounds_toArray, List.set_cons_zero, List.set_cons_succ, i64_w, i32_w]
      rfl
    refine one_ (i := 2) (N := some 10) #[true, true, true, false, false, false] rfl rfl (by kernel_rfl) (by decide) (fun K hK => ?_)
    refine goes_ Try.func64 (by kernel_rfl) rfl #[.slice Av M.length cv] (by rfl) rfl rfl (by simp only [List.map_toArray, List.map_cons, List.map_nil]; rfl) ?_
    with_reducible refine (impl_copyTable.calls 100 Av cv M M _ (Kd.C_below HC5.out hHeld.1) HLC.out HCP.out).mono ?_
    rintro e w6 ⟨vc, rfl, hvc, hb6⟩
    refine ⟨_, rfl, ?_⟩
    have hvd := Kd.S_bound (Kd.S_lower hvc hHeld.1.size)
    have hlt6 := hHeld.1.size
    have HB6 := Aside0.mk hb6
    obtain ⟨Ac, cc, rfl⟩ := Kd.S_slice hvc
    refine hK.out _ _ ⟨below_step hHeld.1 hb6, (boxed_below HBX5.out (below_step hHeld.1 hb6)).cell, (boxed_below HBX5.out (below_step hHeld.1 hb6)).frozen⟩ (fun hHeld => ?_)
    clear hK K
    refine norm_ (a' := ?_) ?_ ?_
    rotate_left
    · show Act.put _ (some 10) _ = _
      simp only [Act.put, List.setIfInBounds_toArray, List.set_cons_zero, List.set_cons_succ, i64_w, i32_w]
      rfl
    refine one_ (i := 3) (N := some 11) #[true, true, true, true, false, false] rfl rfl (by kernel_rfl) (by decide) (fun K hK => ?_)
    refine value_ (w1 := ?_) (v := ?_) (by rfl) rfl ?_ ?_
    rotate_left 2
    · go_simp
      constructor
      · rfl
      · rfl
    refine hK.out _ _ ⟨below_alloc hHeld.1 _, (boxed_below HBX5.out (below_alloc hHeld.1 _)).cell, (boxed_below HBX5.out (below_alloc hHeld.1 _)).frozen⟩ (fun hHeld => ?_)
    clear hK K
    refine norm_ (a' := ?_) ?_ ?_
    rotate_left
    · show Act.put _ (some 11) _ = _
      simp only [Act.put, List.setIfInBounds_toArray, List.set_cons_zero, List.set_cons_succ, i64_w, i32_w]
      rfl
    refine last_ (i := 4) (N := some 12) #[true, true, true, true, true, false] rfl rfl (by kernel_rfl) (by decide) (fun K hK => ?_)
    rw [if_pos (by rfl)]
    obtain ⟨w8, hw8⟩ : ∃ w8 : World, w8 = w6.alloc (.cells #[.slice Ac M.length cc] 22) := ⟨_, rfl⟩
    have h68 : Below w6.heap.size w6 w8 := by rw [hw8]; exact below_alloc (Below.refl _ _) _
    have hnc : w8.cell? ⟨w6.heap.size, 0, none⟩ = some (.slice Ac M.length cc) := by rw [hw8]; go_simp
    rw [← hw8] at hHeld ⊢
    have h58 := below_step HB5.out hHeld.1
    have hsz8 := h58.size
    have HSZ5 := Aside0.mk HB5.out.size
    refine Kd.wp_append_S (Kd.sslice 39 (Kd.slice 3 (Kd.int .i64))) base (.tmp 8) (.tmp 11) 33 22 (.slice none 0 0) 24 rfl Try.underlying33 info22 rfl (by decide) (by omega) u xs M [.slice Ac M.length cc] (fun k => (own k ∨ W.heap.size ≤ k) ∧ k ≠ bo) (fun k => w5.heap.size ≤ k) ⟨w6.heap.size, 0, none⟩ 1 rfl rfl ?n1 ?n2 ?n3 ?n4 ?n5 ?n6 ?n7 ?_
    case n1 => intro j u hj; cases j with | zero => (injection hj with hj; subst hj; rw [add_plain]; exact hnc) | succ j => simp at hj
    case n2 => exact ⟨_, rfl, Kd.S_lower (Kd.S_mono (Kd.S_below hvd h68) (fun k hk => hk.2.1)) (by have := HSZ5.out; have := HBA.out; omega)⟩
    case n3 =>
      intro k hk
      have h1 := HSZ5.out
      have h2 := HLT.out bo HOB.out
      exact ⟨⟨.inr (by omega), by omega⟩, fun e => by have := HLT.out k (HUV.out k e.symm).1; omega⟩
    case n4 =>
      intro k hk
      have h1 := HSZ5.out
      have h2 := HLT.out bo HOB.out
      exact ⟨.inr (by omega), by omega⟩
    case n5 => exact Kd.S_mono (Kd.S_below HUS.out h58) (fun k hk => ⟨⟨.inl hk.1, hk.2⟩, fun h => by have := HLT.out k hk.1; have := HSZ5.out; omega⟩)
    case n6 => have := HBA.out; omega
    case n7 => have := HXS.out; omega
    intro v9 w9 hs9 hg9 _
    obtain ⟨A9, c9, rfl⟩ := Kd.S_slice hs9
    obtain ⟨q1, q2, q3, q4⟩ := ASt.pushed HLT.out HOB.out HLO.out HBX.out HUV.out h58 hs9 hg9
    have HQ3 := Aside0.mk q3
    have HQ4 := Aside0.mk q4
    have HB9 := Aside0.mk (pw_below_grown (below_step HB.out h58) _ (below_step HB.out h58).size hg9 (fun k hk => HOWN.out.2 k (HUV.out k hk).1))
    clear q3 q4 hs9 hg9
    refine hK.out _ _ ?_
    clear hK K
    refine norm_ (a' := ?_) ?_ ?_
    rotate_left
    · show Act.put _ (some 12) _ = _
      simp only [Act.put, List.setIfInBounds_toArray, List.set_cons_zero, List.set_cons_succ, i64_w, i32_w]
      rfl
    refine last_ (i := 5) (N := none) #[true, true, true, true, true, true] rfl rfl (by kernel_rfl) (by decide) (fun K hK => ?_)
    refine skip_ (w1 := ?_) (by rfl) rfl ?_ ?_
    rotate_left
    · go_simp
      rfl
    refine hK.out _ _ ?_
    clear hK K
    refine done_ (by kernel_rfl) ?_

    go_wp2
    go_ret
    rw [show xs.length + 1 = (xs ++ [M]).length by simp]
    exact ⟨rfl, HB9.out.setCell (p := ⟨bo, 0, none⟩) HOWN.out.1 _, fun k => (own k ∨ W.heap.size ≤ k) ∧ k < w9.heap.size, ⟨HQ3.out, fun k hk => hk.1.elim (fun h => HOWN.out.2 k h) (fun h => Nat.le_trans HB.out.size h)⟩, HQ4.out, fun k hk => hk.1⟩
set_option maxHeartbeats 8000000 in
set_option maxRecDepth 100000 in
theorem allSigns_any (F : Nat) (hF : Enters Try.prog F) (caps : Array Value) (n : Nat) (hn1 : 1 ≤ n) (hn6 : n ≤ 6) (hlen : (esAll n).length ≤ 1000000) (acc : List (List Int) → Bool) (hcp : ∀ M ∈ esAll n, impl_copyTable.f 100 M = some M) (w : World)
    (hacc : ∀ M ∈ esAll n, ∀ (W : World) (v : Value), Below w.heap.size w W → Kd.V (Kd.slice 3 (Kd.int .i64)) 39 W 0 (fun _ => True) v M → Calls Try.prog F (#[v] ++ caps) W fun e w' => e = .returned (.bool (acc M)) ∧ Below W.heap.size W w') :
    Calls Try.prog 80 #[.int .i64 (n : Int), .func (.func F) #[] caps] w fun e w' => ∃ v0_ : Value, e = .returned v0_ ∧ Kd.S (Kd.sslice 39 (Kd.slice 3 (Kd.int .i64))) 22 w' w.heap.size (fun _ => True) v0_ ((esAll n).filter acc) ∧ Below w.heap.size w w' := by
  have hmf : ∀ (fn : Fn) (first cap : Array Value) (w : World), (Instr.makeFunc fn first cap).run Try.prog w = .ok (.func fn first cap) w := fun _ _ _ _ => rfl
  have HF := Aside0.mk hF
  have HACC := Aside0.mk hacc
  have HCP := Aside0.mk hcp
  have HN := Aside0.mk (And.intro hn1 (And.intro hn6 hlen))
  have hE := enters_of Try.func128 (by kernel_rfl) rfl
  have HE := Aside0.mk hE
  have m2 : (1 : Int) ≤ (n : Int) := by omega
  have m3 : (n : Int) ≤ 6 := by omega
  obtain ⟨w0, hw0⟩ : ∃ w0 : World, w0 = w.alloc (.cells #[.func (.func F) #[] caps] 30) := ⟨_, rfl⟩
  have hb0 : Below w.heap.size w w0 := by rw [hw0]; exact below_alloc (Below.refl _ _) _
  have hbx0 : Boxed w0 w.heap.size 30 (.func (.func F) #[] caps) := by rw [hw0]; exact Boxed.new w _ _
  have HW0 := Aside0.mk (And.intro hb0 hbx0)
  clear hb0 hbx0 hE hF hacc hcp hn1 hn6 hlen
  go_enter Try.func80, Try.ntmps80
  go_wp2_with ((with_reducible refine gate_dst (N := 6) rfl ?_); rw [← hw0]; refine Kd.S_lit (Kd.sslice 39 (Kd.slice 3 (Kd.int .i64))) _ 22 ?hg (N := 6) ?hd (xs := ([] : List (List (List Int)))) (inner := []) (ok := fun _ => True) (okp := fun _ => True) ?hr ?hp (fun _ hk => hk) trivial (Below.refl _ _) (Nat.le_refl _) (by simp) ?_; (case hd => rfl); (case hg => rfl); (case hr => first | (go_simp; done) | (go_simp; rfl)); (case hp => exact Reps.none _ _); intro v8 w1 ho hb hg_ hnew_; obtain ⟨A8, c8, e8⟩ := Kd.S_slice ho; subst e8; have HO := Aside0.mk ho; have HB := Aside0.mk hb; clear ho hb hg_ hnew_)
  obtain ⟨wz, hwz⟩ : ∃ wz : World, wz = w1.alloc (.cells #[.slice A8 0 c8] 33) := ⟨_, rfl⟩
  have hz1 : Boxed wz w1.heap.size 33 (.slice A8 0 c8) := by rw [hwz]; exact Boxed.new _ _ _
  have hz2 : Below w1.heap.size w1 wz := by rw [hwz]; exact below_alloc (Below.refl _ _) _
  have hz3 : wz.heap.size = w1.heap.size + 1 := by rw [hwz]; simp
  rw [← hwz]
  have hIS : ASt w0.heap.size w1.heap.size [] wz (fun k => w0.heap.size ≤ k ∧ k < wz.heap.size) := ⟨⟨_, hz1, Kd.S_mono (Kd.S_below (Kd.S_bound HO.out) hz2) (fun k hk => ⟨⟨hk.2.1, by omega⟩, by omega⟩)⟩, HB.out.size, ⟨HB.out.size, by omega⟩, fun k hk => hk.2⟩
  have HIS := Aside0.mk hIS
  have HBZ := Aside0.mk (below_step HB.out hz2)
  have HLO := Aside0.mk HB.out.size
  clear hwz hz1 hz2 hz3 hIS
  have hok : StOk (fun i W own => ASt w0.heap.size w1.heap.size (((esAll n).take i).filter acc) W own ∧ ∀ k, own k → w0.heap.size ≤ k) := ⟨fun i W W' own hs hk hl => ⟨hs.1.stay hk hl, hs.2⟩, fun i W own hs => hs.1.lt⟩
  refine (eachSigns_any n 128 #[.pointer (some ⟨w.heap.size, 0, none⟩), .pointer (some ⟨w1.heap.size, 0, none⟩)] HE.out HN.out.1 HN.out.2.1 w0 (fun i W own => ASt w0.heap.size w1.heap.size (((esAll n).take i).filter acc) W own ∧ ∀ k, own k → w0.heap.size ≤ k) hok (fun _ => true) ?cb wz (fun k => w0.heap.size ≤ k ∧ k < wz.heap.size) HBZ.out ?st).mono ?_
  case cb =>
    intro i M W own v hi hb hs hv
    have hil := (List.getElem?_eq_some_iff.mp hi).1
    have hMi := (List.getElem?_eq_some_iff.mp hi).2
    have hM : M ∈ esAll n := List.mem_of_getElem? hi
    have hlen : (((esAll n).take i).filter acc).length ≤ 1000000 := by
      have h1 := List.length_filter_le acc ((esAll n).take i)
      have h2 := HN.out.2.2
      rw [List.length_take] at h1
      omega
    refine (all_clo F HF.out caps (acc M) w0 w0.heap.size w.heap.size w1.heap.size (Nat.le_refl _) HW0.out.2.cell M W own v _ hlen hb HLO.out hs.2 hs.1 hv (HCP.out M hM) (fun W v hb hv => HACC.out M hM W v (below_step HW0.out.1 hb) hv)).mono ?_
    rintro e w' ⟨rfl, hb2, own', hs2, hk2, ho2⟩
    refine ⟨rfl, hb2, own', ⟨?_, hs2.2⟩, hk2, ho2⟩
    have e1 : ((esAll n).take (i + 1)).filter acc = if acc M = true then ((esAll n).take i).filter acc ++ [M] else ((esAll n).take i).filter acc := by
      rw [List.take_succ_eq_append_getElem hil, hMi, List.filter_append]
      by_cases ha : acc M = true <;> simp [ha]
    show ASt w0.heap.size w1.heap.size (((esAll n).take (i + 1)).filter acc) w' own'
    rw [e1]
    exact hs2.1
  case st => exact ⟨HIS.out, fun k hk => hk.1⟩
  rintro e w6 ⟨rfl, hb6, own6, hs6, _, _⟩
  rw [runAll, Nat.zero_add, List.take_length] at hs6
  obtain ⟨⟨v6, h61, h62⟩, _, _, _⟩ := hs6.1
  have hx6 := h61.cell
  have H6 := Aside0.mk (And.intro hb6 h62)
  clear hb6 h61 h62 hs6
  go_wp2
  go_ret
  exact ⟨_, rfl, Kd.S_lower (Kd.S_mono H6.out.2 (fun _ _ => trivial)) HW0.out.1.size, below_step HW0.out.1 H6.out.1⟩

/-! ### impl_AllSigns: function 26 (given) -/
def copB (n : Nat) : Bool := decide ((esAll n).length ≤ 1000000) && (esAll n).all fun M => decide (impl_copyTable.f 100 M = some M)
theorem cop_1 : copB 1 = true := by kernel_rfl
theorem cop_2 : copB 2 = true := by kernel_rfl
theorem cop_3 : copB 3 = true := by kernel_rfl
theorem cop_4 : copB 4 = true := by kernel_rfl
theorem cop_all {n : Nat} (h1 : 1 ≤ n) (h4 : n ≤ 4) : (esAll n).length ≤ 1000000 ∧ ∀ M ∈ esAll n, impl_copyTable.f 100 M = some M := by
  have h : copB n = true := by
    have h5 : n = 1 ∨ n = 2 ∨ n = 3 ∨ n = 4 := by omega
    rcases h5 with rfl | rfl | rfl | rfl
    · exact cop_1
    · exact cop_2
    · exact cop_3
    · exact cop_4
  unfold copB at h
  rw [Bool.and_eq_true, decide_eq_true_eq, List.all_eq_true] at h
  exact ⟨h.1, fun M hM => of_decide_eq_true (h.2 M hM)⟩
def impl_AllSigns.f (a0 : Int) : Option (List (List (List Int)) × Bool) := if 1 ≤ a0 ∧ a0 ≤ 4 then some (esAll a0.toNat, true) else some ([], false)
set_option maxHeartbeats 8000000 in
set_option maxRecDepth 100000 in
theorem impl_AllSigns.calls (a0 : Int) (r1 : List (List (List Int))) (r2 : Bool) (w : World) (h : impl_AllSigns.f a0 = some (r1, r2)) :
    Calls Try.prog 26 #[.int .i64 a0] w fun e w' => ∃ v0_ : Value, e = .returned (.tuple #[v0_, .bool r2]) ∧ Kd.S (Kd.sslice 39 (Kd.slice 3 (Kd.int .i64))) 22 w' w.heap.size (fun _ => True) v0_ r1 ∧ Below w.heap.size w w' := by
  unfold impl_AllSigns.f at h
  have hmf : ∀ (fn : Fn) (first cap : Array Value) (w : World), (Instr.makeFunc fn first cap).run Try.prog w = .ok (.func fn first cap) w := fun _ _ _ _ => rfl
  have HB := Aside0.mk (Below.refl w.heap.size w)
  by_cases hc : 1 ≤ a0 ∧ a0 ≤ 4
  · rw [if_pos hc] at h
    obtain ⟨n, rfl⟩ : ∃ n : Nat, a0 = (n : Int) := ⟨a0.toNat, by omega⟩
    rw [Int.toNat_natCast] at h
    simp only [Option.some.injEq, Prod.mk.injEq] at h
    obtain ⟨h1, rfl⟩ := h
    have hg0 : impl_within.f (n : Int) 1 4 = some true := by unfold impl_within.f; rw [if_pos hc.1, decide_eq_true hc.2]
    have HG := Aside0.mk hg0
    have hE := enters_of Try.func81 (by kernel_rfl) rfl
    have HALL := Aside0.mk (fun (W : World) => allSigns_any 81 hE #[] n (by omega) (by omega) (cop_all (by omega) (by omega)).1 (fun _ => true) (cop_all (by omega) (by omega)).2 W (fun M hM W' v hB hV => by
      obtain ⟨Av, cv, rfl⟩ := Kd.V_slice hV
      have hv := Kd.V_at hV
      refine (impl_anySigns.calls Av cv M true W' (Kd.F_now hv.2.2) hv.2.1 rfl).mono ?_
      rintro e w' ⟨rfl, hd⟩
      exact ⟨rfl, hd.below⟩))
    have H1 := Aside0.mk h1
    clear hc hg0 hE h1
    go_enter Try.func26, Try.ntmps26
    go_wp2_with (first | (go_at_call 79; (with_reducible refine (impl_within.calls (n : Int) 1 4 true _ HG.out).mono ?_); rintro e w5 ⟨rfl, ⟨nd, rfl⟩⟩; have HB1 := Aside0.mk (pw_below_drewN HB.out nd)) | (go_at_call 80; (with_reducible refine (HALL.out _).mono ?_); rintro e w6 ⟨v6, rfl, hr, hb⟩; have HR := Aside0.mk (Kd.S_lower hr HB1.out.size); have HB2 := Aside0.mk (below_step HB1.out hb); clear hr hb))
    go_ret2
    refine ⟨_, rfl, ?_, HB2.out⟩
    have h9 := HR.out
    rw [List.filter_eq_self.mpr (fun _ _ => rfl), H1.out] at h9
    exact h9
  · rw [if_neg hc] at h
    simp only [Option.some.injEq, Prod.mk.injEq] at h
    obtain ⟨rfl, rfl⟩ := h
    have hg0 : impl_within.f a0 1 4 = some false := by
      unfold impl_within.f
      by_cases h1 : 1 ≤ a0
      · rw [if_pos h1, decide_eq_false (fun h2 => hc ⟨h1, h2⟩)]
      · rw [if_neg h1]
    have HG := Aside0.mk hg0
    clear hg0 hc
    go_enter Try.func26, Try.ntmps26
    go_wp2_with (go_at_call 79; (with_reducible refine (impl_within.calls a0 1 4 false _ HG.out).mono ?_); rintro e w5 ⟨rfl, ⟨nd, rfl⟩⟩; have HB1 := Aside0.mk (pw_below_drewN HB.out nd))
    go_ret2
    exact ⟨_, rfl, Kd.S_nil _ _ _ _ _, HB1.out⟩

end Go.Proofs.Ytadepmjfhcmkoaa.P
