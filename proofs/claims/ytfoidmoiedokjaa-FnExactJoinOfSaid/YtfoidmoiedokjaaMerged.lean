/- impl.merged for any function of two numbers that only reads. -/
import Derived.Test.YtfoidmoiedokjaaFImplFromHeights
import Derived.Test.YtfoidmoiedokjaaFImplGood
import Derived.Test.YtfoidmoiedokjaaFImplCorn
import Derived.Test.YtfoidmoiedokjaaTab
import Derived.Laws.EntriesVeiled
namespace Go.Proofs.Ytfoidmoiedokjaa.P
open Go.Proofs.Ytfoidmoiedokjaa.B
open Go.RowKit Go.Proofs.YtfoidmoiedokjaaW.PrintWords Go.Proofs.YtfoidmoiedokjaaW.PrintLast Go.Proofs.YtfoidmoiedokjaaW.PrintMore
set_option linter.unusedVariables false
set_option linter.unusedSimpArgs false
set_option maxHeartbeats 8000000 in
set_option maxRecDepth 100000 in
theorem merged_clo (F : Nat) (hE : Enters Try.prog F) (f : Int → Int → Int) (hF : ∀ (x y : Int) (W : World), Calls Try.prog F #[.int .i64 x, .int .i64 y] W fun e w' => e = .returned (.int .i64 (f x y)) ∧ Drawn0 W w')
    (a b : List (List Int)) (A B : Option Addr) (c d : Nat) (g1 g2 g3 : Addr) (w : World) (hra : Kd.C (Kd.slice 3 (Kd.int .i64)) w A a.length a) (hrb : Kd.C (Kd.slice 3 (Kd.int .i64)) w B b.length b) (n : Nat) (hla : a.length = n) (hlb : b.length = n) (hsa : ∀ x ∈ a, x.length = n) (hsb : ∀ x ∈ b, x.length = n)
    (h1 : w.cell? g1 = some (.func (.func F) #[] #[])) (h2 : w.cell? g2 = some (.slice A a.length c)) (h3 : w.cell? g3 = some (.slice B b.length d)) (i j : Nat) (hi : i < n) (hj : j < n) :
    Calls Try.prog 95 (#[.int .i64 (i : Int), .int .i64 (j : Int)] ++ #[.pointer (some g1), .pointer (some g2), .pointer (some g3)]) w fun e w' => e = .returned (.int .i64 (f (gd a i j) (gd b i j))) ∧ Drawn0 w w' := by
  rw [hla] at h2 hra
  rw [hlb] at h3 hrb
  obtain ⟨ad, A0, c0, rfl, hx0, hc0, hr0⟩ := at_row hra i hi
  have hlen : (a.getD i []).length = n := getD_row hsa (by omega)
  obtain ⟨ad2, rfl, hx1⟩ := at_num hr0 j (by omega)
  rw [hlen] at hx0
  obtain ⟨bd, B0, d0, rfl, hy0, hd0, hs0⟩ := at_row hrb i hi
  have hlen2 : (b.getD i []).length = n := getD_row hsb (by omega)
  obtain ⟨bd2, rfl, hy1⟩ := at_num hs0 j (by omega)
  rw [hlen2] at hy0
  obtain ⟨v, hv⟩ : ∃ v, v = gd a i j := ⟨_, rfl⟩
  obtain ⟨u, hu⟩ : ∃ u, u = gd b i j := ⟨_, rfl⟩
  change w.cell? _ = some (.int .i64 (gd a i j)) at hx1
  change w.cell? _ = some (.int .i64 (gd b i j)) at hy1
  rw [← hv] at hx1 ⊢
  rw [← hu] at hy1 ⊢
  have k0 := Aside0.mk (hF v u)
  have b3 : decide (i < n) = true := decide_eq_true hi
  have b4 : decide (j < n) = true := decide_eq_true hj
  have b5 : (0 : Int) ≤ (i : Int) := by omega
  have b6 : (0 : Int) ≤ (j : Int) := by omega
  have E1 := Aside0.mk hE
  clear hv hu hra hrb hr0 hs0 hc0 hd0 hlen hlen2 hsa hsb hla hlb hF hE
  go_enter Try.func95, Try.ntmps95
  go_wp2
  refine wp_region_quiet_lit (by kernel_rfl) (by kernel_rfl) ?_
  repeat (first | (refine wpQuiet_step (fun K hK => ?_); refine quietF_ (v := .int .i64 (f v u)) F #[] #[.int .i64 v, .int .i64 u] E1.out (by rfl) rfl (by rfl) (by simp only [List.map_toArray, List.map_cons, List.map_nil]; rfl) ?_ (hK _ ?_); (focus (rintro W ⟨n, rfl⟩; refine (k0.out _).mono ?_; rintro e w' ⟨rfl, ⟨nd, rfl⟩⟩; exact ⟨rfl, _, World.drewN_drewN _ _ _⟩)); clear hK K) | quiet_step (fail))
  refine wpQuiet_nil ?_
  intro _ hw'
  obtain ⟨nq, hw''⟩ := hw'
  subst hw''
  go_wp2
  go_ret
  exact ⟨by first | rfl | (simp only [i64_w]; rfl), (by repeat (first | exact Drawn0.refl _ | apply Drawn0.step))⟩
set_option maxHeartbeats 8000000 in
set_option maxRecDepth 100000 in
theorem merged_no (F : Nat) (k : Nat) (A0 A1 : Option Addr) (c0 c1 : Nat) (l0 l1 : List (List Int)) (w : World) (hr0 : Kd.C (Kd.slice 3 (Kd.int .i64)) w A0 l0.length l0) (hc0 : l0.length ≤ c0) (hr1 : Kd.C (Kd.slice 3 (Kd.int .i64)) w A1 l1.length l1) (hc1 : l1.length ≤ c1) (hb : impl_arePair.f k l0 l1 = some false) :
    Calls Try.prog 66 #[.slice A0 l0.length c0, .slice A1 l1.length c1, .func (.func F) #[] #[]] w fun e w' => ∃ v0_ : Value, e = .returned (.tuple #[v0_, .bool false]) ∧ Kd.S (Kd.slice 3 (Kd.int .i64)) 41 w' w.heap.size (fun _ => True) v0_ [] ∧ Below w.heap.size w w' := by
  have HR0 := Aside0.mk hr0
  have HC0 := Aside0.mk hc0
  have HR1 := Aside0.mk hr1
  have HC1 := Aside0.mk hc1
  have HH := Aside0.mk hb
  have HB0 := Aside0.mk (Below.refl w.heap.size w)
  clear hr0 hc0 hr1 hc1 hb
  go_enter Try.func66, Try.ntmps66
  go_wp2_with (go_at_call 59; (with_reducible refine (impl_arePair.calls k _ _ l0 _ _ l1 false _ (Kd.C_alloc HR0.out _) HC0.out (Kd.C_alloc HR1.out _) HC1.out HH.out).mono ?_); rintro e w5 ⟨rfl, hb⟩; have HB := Aside0.mk (below_step (by repeat (first | exact HB0.out | apply below_alloc | apply pw_below_drewN | apply below_drew1)) hb); clear hb)
  go_ret2
  exact ⟨_, rfl, Kd.S_nil _ _ _ _ _, HB.out⟩
set_option maxHeartbeats 8000000 in
set_option maxRecDepth 100000 in
theorem merged_yes (F : Nat) (hE : Enters Try.prog F) (f : Int → Int → Int) (hF : ∀ (x y : Int) (W : World), Calls Try.prog F #[.int .i64 x, .int .i64 y] W fun e w' => e = .returned (.int .i64 (f x y)) ∧ Drawn0 W w')
    (k : Nat) (A0 A1 : Option Addr) (c0 c1 : Nat) (l0 l1 : List (List Int)) (w : World) (hr0 : Kd.C (Kd.slice 3 (Kd.int .i64)) w A0 l0.length l0) (hc0 : l0.length ≤ c0) (hr1 : Kd.C (Kd.slice 3 (Kd.int .i64)) w A1 l1.length l1) (hc1 : l1.length ≤ c1) (hb : impl_arePair.f k l0 l1 = some true)
    (a b r : List (List Int)) (n : Nat) (ha : impl_heights.f k l0 = some a) (hb2 : impl_heights.f k l1 = some b) (hn : n ≤ 1048576) (hla : a.length = n) (hlb : b.length = n) (hsa : ∀ x ∈ a, x.length = n) (hsb : ∀ x ∈ b, x.length = n) (hR : impl_fromHeights.f (tabOf n n fun i j => f (gd a i j) (gd b i j)) = some r) :
    Calls Try.prog 66 #[.slice A0 l0.length c0, .slice A1 l1.length c1, .func (.func F) #[] #[]] w fun e w' => ∃ v0_ : Value, e = .returned (.tuple #[v0_, .bool true]) ∧ Kd.S (Kd.slice 3 (Kd.int .i64)) 41 w' w.heap.size (fun _ => True) v0_ r ∧ Below w.heap.size w w' := by
  have HR0 := Aside0.mk hr0
  have HC0 := Aside0.mk hc0
  have HR1 := Aside0.mk hr1
  have HC1 := Aside0.mk hc1
  have HH := Aside0.mk hb
  have HA := Aside0.mk ha
  have HB2 := Aside0.mk hb2
  have HB0 := Aside0.mk (Below.refl w.heap.size w)
  have HT := Aside0.mk (fun (w2 : World) (A B : Option Addr) (c d : Nat) (Ca : Kd.C (Kd.slice 3 (Kd.int .i64)) w2 A a.length a) (Cb : Kd.C (Kd.slice 3 (Kd.int .i64)) w2 B b.length b) (W : World) (hb : Below w2.heap.size w2 W) (g1 g2 g3 : Addr) (h1 : W.cell? g1 = some (.func (.func F) #[] #[])) (h2 : W.cell? g2 = some (.slice A a.length c)) (h3 : W.cell? g3 = some (.slice B b.length d)) =>
    table_any 95 #[.pointer (some g1), .pointer (some g2), .pointer (some g3)] (fun i j => f (gd a i j) (gd b i j)) n n hn hn W (enters_of Try.func95 (by kernel_rfl) rfl)
      (fun W' hb' i j hi hj => merged_clo F hE f hF a b A B c d g1 g2 g3 W' (Kd.C_below (Kd.C_below Ca hb) hb') (Kd.C_below (Kd.C_below Cb hb) hb') n hla hlb hsa hsb (pw_cell_below hb' h1) (pw_cell_below hb' h2) (pw_cell_below hb' h3) i j hi hj))
  obtain ⟨T, hTT⟩ : ∃ T, T = tabOf n n fun i j => f (gd a i j) (gd b i j) := ⟨_, rfl⟩
  rw [← hTT] at HT hR
  have HRR := Aside0.mk hR
  subst hla
  clear hr0 hc0 hr1 hc1 hb ha hb2 hn hsa hsb hR hTT hF hE
  have hmf : ∀ (fn : Fn) (first cap : Array Value) (w : World), (Instr.makeFunc fn first cap).run Try.prog w = .ok (.func fn first cap) w := fun _ _ _ _ => rfl
  go_enter Try.func66, Try.ntmps66
  go_wp2_with (first | (go_at_call 59; (with_reducible refine (impl_arePair.calls k _ _ l0 _ _ l1 true _ (Kd.C_alloc HR0.out _) HC0.out (Kd.C_alloc HR1.out _) HC1.out HH.out).mono ?_); rintro e w5 ⟨rfl, hb⟩; have hx5 := pw_cell_below hb (show World.cell? _ ⟨w.heap.size, 0, none⟩ = some (.func (.func F) #[] #[]) by go_simp); have HB1 := Aside0.mk (below_step (by repeat (first | exact HB0.out | apply below_alloc | apply pw_below_drewN | apply below_drew1)) hb); clear hb) | (go_at_call 49; (with_reducible refine (impl_heights.calls k _ _ l0 a _ (Kd.C_below HR0.out HB1.out) HC0.out HA.out).mono ?_); rintro e w6 ⟨v6, rfl, hS, hb⟩; obtain ⟨Aa, ca, rfl⟩ := Kd.S_slice hS; have hx6 := pw_cell_below hb hx5; have HSa := Aside0.mk (Kd.S_reads' hS).2.2; have HBa := Aside0.mk (below_step HB1.out hb); clear hb hS) | (go_at_call 49; (with_reducible refine (impl_heights.calls k _ _ l1 b _ (Kd.C_below HR1.out HBa.out) HC1.out HB2.out).mono ?_); rintro e w7 ⟨v7, rfl, hS, hb⟩; obtain ⟨Ab, cb, rfl⟩ := Kd.S_slice hS; have hx7 := pw_cell_below hb hx6; have HSa7 := Aside0.mk (Kd.C_below HSa.out hb); have HSb7 := Aside0.mk (Kd.S_reads' hS).2.2; have HBb := Aside0.mk (below_step HBa.out hb); have HTT := Aside0.mk (HT.out w7 Aa Ab ca cb HSa7.out HSb7.out); have hx8 : ∀ o p, ((w7.alloc o).alloc p).cell? ⟨w.heap.size, 0, none⟩ = some (.func (.func F) #[] #[]) := fun o p => pw_cell_below (by repeat (first | exact Below.refl _ _ | apply below_alloc)) hx7; clear hb hS) | (go_at_call 83; (with_reducible refine (HTT.out _ ?hb ⟨w.heap.size, 0, none⟩ _ _ ?h1 ?h2 ?h3).mono ?_); (case hb => (repeat (first | exact Below.refl _ _ | apply below_alloc | apply pw_below_drewN | apply below_drew1))); (case h1 => exact hx8 _ _); (case h2 => go_simp); (case h3 => go_simp); rintro e w9 ⟨v9, rfl, hS, hb⟩; obtain ⟨At, ct, rfl⟩ := Kd.S_slice hS; have HRT := Aside0.mk (Kd.S_reads' hS); have HBT := Aside0.mk (below_step (by repeat (first | exact HBb.out | apply below_alloc | apply pw_below_drewN | apply below_drew1)) hb); clear hb hS) | (go_at_call 72; (with_reducible refine (impl_fromHeights.calls _ _ T r _ HRT.out.2.2 HRT.out.2.1 HRR.out).mono ?_); rintro e w' ⟨v, rfl, hS, hb⟩; have HS := Aside0.mk (Kd.S_lower hS (below_size HBT.out)); have HB := Aside0.mk (below_step HBT.out hb); clear hS hb))
  go_ret2
  exact ⟨_, rfl, HS.out, HB.out⟩
end Go.Proofs.Ytfoidmoiedokjaa.P
