-- By gp.py (this session's own driver over the kit's print). Not trusted: Lean checks it.
import Derived.Test.YtadepmjfhcmkoaaF0
import Derived.Test.YtadepmjfhcmkoaaB
import Derived.Laws.EntriesVeiled
import Derived.Test.YtadepmjfhcmkoaaFImplAllSigns
import Derived.Test.YtadepmjfhcmkoaaFImplDist
import Derived.Test.YtadepmjfhcmkoaaFImplGood
import Derived.Test.YtadepmjfhcmkoaaFImplAllSigns
import Derived.Test.YtadepmjfhcmkoaaFImplDist
import Derived.Test.YtadepmjfhcmkoaaFImplEach
import Derived.Test.YtadepmjfhcmkoaaFImplGood
namespace Go.Proofs.Ytadepmjfhcmkoaa.P
open Go.Proofs.Ytadepmjfhcmkoaa.B
open Go.RowKit Go.Proofs.YtadepmjfhcmkoaaW.PrintWords Go.Proofs.YtadepmjfhcmkoaaW.PrintLast Go.Proofs.YtadepmjfhcmkoaaW.PrintMore
attribute [local go_sem] max2_int min2_int max_two min_two max_three min_three max_four min_four   -- for this text's walks alone
set_option linter.unusedVariables false
set_option linter.unusedSimpArgs false

/-! ### impl_CountBetween: function 40 (given) -/
def cpB (n : Nat) : Bool := decide ((esAll n).length ≤ 1000000) && (esAll n).all fun M => decide (impl_copyTable.f 100 M = some M)
theorem cp_1 : cpB 1 = true := by kernel_rfl
theorem cp_2 : cpB 2 = true := by kernel_rfl
theorem cp_3 : cpB 3 = true := by kernel_rfl
theorem cp_4 : cpB 4 = true := by kernel_rfl
theorem cp_all {n : Nat} (h1 : 1 ≤ n) (h4 : n ≤ 4) : (esAll n).length ≤ 1000000 ∧ ∀ M ∈ esAll n, impl_copyTable.f 100 M = some M := by
  have h : cpB n = true := by
    have h5 : n = 1 ∨ n = 2 ∨ n = 3 ∨ n = 4 := by omega
    rcases h5 with rfl | rfl | rfl | rfl
    · exact cp_1
    · exact cp_2
    · exact cp_3
    · exact cp_4
  unfold cpB at h
  rw [Bool.and_eq_true, decide_eq_true_eq, List.all_eq_true] at h
  exact ⟨h.1, fun M hM => of_decide_eq_true (h.2 M hM)⟩
def accB (k : Nat) (m kk M : List (List Int)) : Bool := (impl_isBelow.f k m M).getD false && (impl_isBelow.f k M kk).getD false
def betOk (k : Nat) (m kk : List (List Int)) : Prop := ∀ M ∈ esAll m.length, (impl_isBelow.f k m M).isSome = true ∧ (impl_isBelow.f k M kk).isSome = true
instance (k : Nat) (m kk : List (List Int)) : Decidable (betOk k m kk) := by unfold betOk; exact inferInstance
def impl_CountBetween.f (k : Nat) (l0 l1 : List (List Int)) : Option (Int × Bool) := (impl_arePair.f k l0 l1).bind fun t => if t = true ∧ l0.length ≤ 4 then (if 1 ≤ l0.length ∧ betOk k l0 l1 then some ((((esAll l0.length).filter (accB k l0 l1)).length : Int), true) else none) else some (0, false)
theorem impl_CountBetween.mono : ∀ a0 a1 k, LeO (impl_CountBetween.f k a0 a1) (impl_CountBetween.f (k + 1) a0 a1) := by
  intro a0 a1 k
  unfold impl_CountBetween.f
  refine LeO.bind (impl_arePair.mono _ _ _) (fun t => ?_)
  by_cases ht : t = true ∧ a0.length ≤ 4
  · rw [if_pos ht, if_pos ht]
    intro r h
    by_cases c : 1 ≤ a0.length ∧ betOk k a0 a1
    · rw [if_pos c] at h
      have up : ∀ {x y : List (List Int)}, (impl_isBelow.f k x y).isSome = true → impl_isBelow.f (k + 1) x y = impl_isBelow.f k x y := by
        intro x y h
        obtain ⟨z, hz⟩ := Option.isSome_iff_exists.mp h
        rw [hz]
        exact impl_isBelow.mono x y k z hz
      have hs1 : ∀ M ∈ esAll a0.length, impl_isBelow.f (k + 1) a0 M = impl_isBelow.f k a0 M := fun M hM => up (c.2 M hM).1
      have hs2 : ∀ M ∈ esAll a0.length, impl_isBelow.f (k + 1) M a1 = impl_isBelow.f k M a1 := fun M hM => up (c.2 M hM).2
      have c2 : betOk (k + 1) a0 a1 := fun M hM => by rw [hs1 M hM, hs2 M hM]; exact c.2 M hM
      have e : (esAll a0.length).filter (accB (k + 1) a0 a1) = (esAll a0.length).filter (accB k a0 a1) := by
        refine List.filter_congr (fun M hM => ?_)
        unfold accB
        rw [hs1 M hM, hs2 M hM]
      rw [if_pos ⟨c.1, c2⟩, e]
      exact h
    · rw [if_neg c] at h
      cases h
  · rw [if_neg ht, if_neg ht]
    exact LeO.refl _
set_option maxHeartbeats 8000000 in
set_option maxRecDepth 100000 in
theorem between_clo (k : Nat) (m kk : List (List Int)) (Am Ak : Option Addr) (cm ck : Nat) (w0 : World) (p1 p2 : Nat) (hp1 : w0.cell? ⟨p1, 0, none⟩ = some (.slice Am m.length cm)) (hp2 : w0.cell? ⟨p2, 0, none⟩ = some (.slice Ak kk.length ck)) (hCm : Kd.C (Kd.slice 3 (Kd.int .i64)) w0 Am m.length m) (hcm : m.length ≤ cm) (hCk : Kd.C (Kd.slice 3 (Kd.int .i64)) w0 Ak kk.length kk) (hck : kk.length ≤ ck)
    (M : List (List Int)) (W : World) (v : Value) (hB : Below w0.heap.size w0 W) (hV : Kd.V (Kd.slice 3 (Kd.int .i64)) 39 W 0 (fun _ => True) v M) (b1 b2 : Bool) (h1 : impl_isBelow.f k m M = some b1) (h2 : impl_isBelow.f k M kk = some b2) :
    Calls Try.prog 92 (#[v] ++ #[.pointer (some ⟨p1, 0, none⟩), .pointer (some ⟨p2, 0, none⟩)]) W fun e w' => e = .returned (.bool (b1 && b2)) ∧ Below W.heap.size W w' := by
  obtain ⟨Av, cv, rfl⟩ := Kd.V_slice hV
  have hv := Kd.V_at hV
  have hc1 := pw_cell_below hB hp1
  have hc2 := pw_cell_below hB hp2
  have HC1 := Aside0.mk (impl_isBelow.calls k Am cm m Av cv M b1 W (Kd.C_below hCm hB) hcm (Kd.F_now hv.2.2) hv.2.1 h1)
  have HC2 := Aside0.mk (fun (W' : World) (hb : Below W.heap.size W W') => impl_isBelow.calls k Av cv M Ak ck kk b2 W' (Kd.C_below (Kd.F_now hv.2.2) hb) hv.2.1 (Kd.C_below (Kd.C_below hCk hB) hb) hck h2)
  clear hv hV hB hCm hCk hcm hck hp1 hp2 h1 h2
  cases b1 with
  | false =>
    go_enter Try.func92, Try.ntmps92
    go_wp2_with (go_at_call 93; (with_reducible refine HC1.out.mono ?_); rintro e w5 ⟨rfl, hb5⟩; have HB5 := Aside0.mk hb5; clear hb5)
    go_ret
    exact ⟨rfl, HB5.out⟩
  | true =>
    go_enter Try.func92, Try.ntmps92
    go_wp2_with (first | (go_at_call 93; (with_reducible refine HC1.out.mono ?_); rintro e w5 ⟨rfl, hb5⟩; have HB5 := Aside0.mk hb5; have hc2b := pw_cell_below hb5 hc2; clear hb5) | (go_at_call 93; (with_reducible refine (HC2.out _ HB5.out).mono ?_); rintro e w6 ⟨rfl, hb6⟩; have HB6 := Aside0.mk (below_step HB5.out hb6); clear hb6))
    go_ret
    exact ⟨by simp, HB6.out⟩
set_option maxHeartbeats 8000000 in
set_option maxRecDepth 100000 in
theorem impl_CountBetween.calls (k : Nat) (A0 : Option Addr) (c0 : Nat) (l0 : List (List Int)) (A1 : Option Addr) (c1 : Nat) (l1 : List (List Int)) (r1 : Int) (r2 : Bool) (w : World) (hr0 : Kd.C (Kd.slice 3 (Kd.int .i64)) w A0 l0.length l0) (hc0 : l0.length ≤ c0) (hr1 : Kd.C (Kd.slice 3 (Kd.int .i64)) w A1 l1.length l1) (hc1 : l1.length ≤ c1) (h : impl_CountBetween.f k l0 l1 = some (r1, r2)) :
    Calls Try.prog 40 #[.slice A0 l0.length c0, .slice A1 l1.length c1] w fun e w' => e = .returned (.tuple #[.int .i64 r1, .bool r2]) ∧ Below w.heap.size w w' := by
  have hmf : ∀ (fn : Fn) (first cap : Array Value) (w : World), (Instr.makeFunc fn first cap).run Try.prog w = .ok (.func fn first cap) w := fun _ _ _ _ => rfl
  obtain ⟨t, ht, h⟩ := Option.bind_eq_some_iff.mp h
  have hE := enters_of Try.func92 (by kernel_rfl) rfl
  obtain ⟨wa, hwa⟩ : ∃ wa : World, wa = (w.alloc (.cells #[.slice A0 l0.length c0] 22)).alloc (.cells #[.slice A1 l1.length c1] 22) := ⟨_, rfl⟩
  have hba : Below w.heap.size w wa := by rw [hwa]; exact below_alloc (below_alloc (Below.refl _ _) _) _
  have hca1 : wa.cell? ⟨w.heap.size, 0, none⟩ = some (.slice A0 l0.length c0) := by rw [hwa]; go_simp
  have hca2 : wa.cell? ⟨w.heap.size + 1, 0, none⟩ = some (.slice A1 l1.length c1) := by rw [hwa]; go_simp
  have HWA := Aside0.mk hba
  have HCALL := Aside0.mk (impl_arePair.calls k A0 c0 l0 A1 c1 l1 t wa (Kd.C_below hr0 hba) hc0 (Kd.C_below hr1 hba) hc1 ht)
  have HR0 := Aside0.mk (And.intro hr0 (And.intro hc0 (And.intro hr1 hc1)))
  clear hba ht hr0 hc0 hr1 hc1
  by_cases ct : t = true ∧ l0.length ≤ 4
  · rw [if_pos ct] at h
    obtain ⟨rfl, h4⟩ := ct
    by_cases hc : 1 ≤ l0.length ∧ betOk k l0 l1
    case neg =>
      rw [if_neg hc] at h
      cases h
    rw [if_pos hc] at h
    simp only [Option.some.injEq, Prod.mk.injEq] at h
    obtain ⟨h1, rfl⟩ := h
    have H1 := Aside0.mk h1
    have HC := Aside0.mk hc
    have HE := Aside0.mk hE
    have H4 := Aside0.mk h4
    have m4 : (l0.length : Int) ≤ 4 := by omega
    clear hc hE h1 h4
    go_enter Try.func40, Try.ntmps40
    go_wp2_with (go_at_call 91; rw [← hwa]; (with_reducible refine HCALL.out.mono ?_); rintro e w5 ⟨rfl, hb⟩; have hcb1 := pw_cell_below hb hca1; have hcb2 := pw_cell_below hb hca2; have HB := Aside0.mk hb; clear hb)
    have HBA := Aside0.mk (below_step HWA.out HB.out)
    refine (allSigns_any 92 HE.out #[.pointer (some ⟨w.heap.size, 0, none⟩), .pointer (some ⟨w.heap.size + 1, 0, none⟩)] l0.length HC.out.1 (by have := H4.out; omega) (cp_all HC.out.1 H4.out).1 (accB k l0 l1) (cp_all HC.out.1 H4.out).2 w5 ?acc).mono ?_
    case acc =>
      intro M hM W v hB hV
      obtain ⟨b1, hb1⟩ := Option.isSome_iff_exists.mp (HC.out.2 M hM).1
      obtain ⟨b2, hb2⟩ := Option.isSome_iff_exists.mp (HC.out.2 M hM).2
      have e : accB k l0 l1 M = (b1 && b2) := by unfold accB; rw [hb1, hb2]; rfl
      rw [e]
      exact between_clo k l0 l1 A0 A1 c0 c1 w5 w.heap.size (w.heap.size + 1) hcb1 hcb2 (Kd.C_below HR0.out.1 HBA.out) HR0.out.2.1 (Kd.C_below HR0.out.2.2.1 HBA.out) HR0.out.2.2.2 M W v hB hV b1 b2 hb1 hb2
    rintro e w6 ⟨v6, rfl, hs6, hb6⟩
    obtain ⟨xs, hxs⟩ : ∃ xs, xs = (esAll l0.length).filter (accB k l0 l1) := ⟨_, rfl⟩
    have h1 := H1.out
    rw [← hxs] at hs6 h1
    obtain ⟨A6, c6, rfl⟩ := Kd.S_slice hs6
    subst h1
    have H6 := Aside0.mk (below_step HBA.out hb6)
    clear hs6 hb6 hxs H1
    go_wp2
    go_ret2
    exact ⟨rfl, H6.out⟩
  · rw [if_neg ct] at h
    simp only [Option.some.injEq, Prod.mk.injEq] at h
    obtain ⟨rfl, rfl⟩ := h
    clear hE
    cases t with
    | false =>
      go_enter Try.func40, Try.ntmps40
      go_wp2_with (go_at_call 91; rw [← hwa]; (with_reducible refine HCALL.out.mono ?_); rintro e w5 ⟨rfl, hb⟩; have hcb1 := pw_cell_below hb hca1; have HB := Aside0.mk (below_step HWA.out hb); clear hb)
      go_ret2
      exact ⟨rfl, HB.out⟩
    | true =>
      have m4 : (4 : Int) < (l0.length : Int) := by
        have : ¬ l0.length ≤ 4 := fun h => ct ⟨rfl, h⟩
        omega
      clear ct
      go_enter Try.func40, Try.ntmps40
      go_wp2_with (go_at_call 91; rw [← hwa]; (with_reducible refine HCALL.out.mono ?_); rintro e w5 ⟨rfl, hb⟩; have hcb1 := pw_cell_below hb hca1; have HB := Aside0.mk (below_step HWA.out hb); clear hb)
      go_ret2
      exact ⟨rfl, HB.out⟩

end Go.Proofs.Ytadepmjfhcmkoaa.P
