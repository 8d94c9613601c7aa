-- By gp.py (this session's own driver over the kit's print). Not trusted: Lean checks it.
import Derived.Test.YthjiajkmaimbjaaF0
import Derived.Test.YthjiajkmaimbjaaB
import Derived.Test.YthjiajkmaimbjaaFImplCompareTables
import Derived.Test.YthjiajkmaimbjaaMinFuncTab
import Derived.Test.YthjiajkmaimbjaaFImplCompareTables
import Derived.Test.YthjiajkmaimbjaaFImplCopyTable
import Derived.Test.YthjiajkmaimbjaaFImplEight
import Derived.Test.YthjiajkmaimbjaaFImplGood
namespace Go.Proofs.Ythjiajkmaimbjaa.P
open Go.Proofs.Ythjiajkmaimbjaa.B
open Go.RowKit Go.Proofs.YthjiajkmaimbjaaW.PrintWords Go.Proofs.YthjiajkmaimbjaaW.PrintLast Go.Proofs.YthjiajkmaimbjaaW.PrintMore
attribute [local go_sem] max2_int min2_int max_two min_two max_three min_three max_four min_four   -- for this text's walks alone
set_option linter.unusedVariables false
set_option linter.unusedSimpArgs false

/-! ### impl_LeastOfTurns: function 39 (given) -/
/-- The first least one of a list of tables. -/
def leastT (k : Nat) : List (List (List Int)) → Option (List (List Int))
  | [] => none
  | x :: xs => if (∀ a ∈ x :: xs, ∀ b ∈ x :: xs, (impl_compareTables.f k a b).isSome = true) then some (minT (fun a b => (impl_compareTables.f k a b).getD 0) x xs) else none
theorem minT_congr {α : Type} {f g : α → α → Int} {s : List α} : ∀ (xs : List α) (m : α), m ∈ s → (∀ x ∈ xs, x ∈ s) → (∀ a ∈ s, ∀ b ∈ s, f a b = g a b) → minT f m xs = minT g m xs
  | [], _, _, _, _ => rfl
  | x :: xs, m, hm, hx, h => by
    simp only [minT]
    rw [h x (hx x (by simp)) m hm]
    have h1 : (if g x m < 0 then x else m) ∈ s := by
      by_cases c : g x m < 0
      · rw [if_pos c]; exact hx x (by simp)
      · rw [if_neg c]; exact hm
    exact minT_congr xs _ h1 (fun y hy => hx y (by simp [hy])) h
theorem leastT.mono (k : Nat) (l : List (List (List Int))) : LeO (leastT k l) (leastT (k + 1) l) := by
  intro r hr
  cases l with
  | nil => cases hr
  | cons x xs =>
    simp only [leastT] at hr ⊢
    by_cases c : ∀ a ∈ x :: xs, ∀ b ∈ x :: xs, (impl_compareTables.f k a b).isSome = true
    · have hs : ∀ a ∈ x :: xs, ∀ b ∈ x :: xs, impl_compareTables.f (k + 1) a b = impl_compareTables.f k a b := by
        intro a ha b hb
        obtain ⟨v, hv⟩ := Option.isSome_iff_exists.mp (c a ha b hb)
        rw [hv]
        exact impl_compareTables.mono _ _ _ _ hv
      rw [if_pos c] at hr
      rw [if_pos (fun a ha b hb => by rw [hs a ha b hb]; exact c a ha b hb), ← hr]
      congr 1
      exact minT_congr (s := x :: xs) xs x (by simp) (fun y hy => by simp [hy]) (fun a ha b hb => by rw [hs a ha b hb])
    · rw [if_neg c] at hr
      cases hr
def impl_LeastOfTurns.f (k : Nat) (l0 : List (List Int)) : Option (List (List Int) × Bool) := (impl_IsSignMatrix.f k l0).bind fun t => if t = true then (impl_eight.f k l0).bind fun q => (leastT k q).bind fun m => (impl_copyTable.f k m).bind fun r => some (r, true) else some (([] : List (List Int)), false)
theorem impl_LeastOfTurns.mono : ∀ a0 k, LeO (impl_LeastOfTurns.f k a0) (impl_LeastOfTurns.f (k + 1) a0) := by
  intro a0 k
  unfold impl_LeastOfTurns.f
  exact LeO.bind (impl_IsSignMatrix.mono _ _) (fun _ => LeO.ite (LeO.bind (impl_eight.mono _ _) (fun _ => LeO.bind (leastT.mono _ _) (fun _ => LeO.bind (impl_copyTable.mono _ _) (fun _ => LeO.refl _)))) (LeO.refl _))
set_option maxHeartbeats 8000000 in
set_option maxRecDepth 100000 in
theorem impl_LeastOfTurns.calls (k : Nat) (A0 : Option Addr) (c0 : Nat) (l0 : List (List Int)) (r1 : List (List Int)) (r2 : Bool) (w : World) (hr0 : Kd.C (Kd.slice 3 (Kd.int .i64)) w A0 l0.length l0) (hc0 : l0.length ≤ c0) (h : impl_LeastOfTurns.f k l0 = some (r1, r2)) :
    Calls Try.prog 39 #[.slice A0 l0.length c0] w fun e w' => ∃ v0_ : Value, e = .returned (.tuple #[v0_, .bool r2]) ∧ Kd.S (Kd.slice 3 (Kd.int .i64)) 22 w' w.heap.size (fun _ => True) v0_ r1 ∧ Below w.heap.size w w' := by
  have HR0 := Aside0.mk hr0
  have HC0 := Aside0.mk hc0
  have HB0 := Aside0.mk (Below.refl w.heap.size w)
  obtain ⟨b, hb, h⟩ := Option.bind_eq_some_iff.mp h
  have HH := Aside0.mk hb
  cases b with
  | false =>
    rw [if_neg (by decide)] at h
    simp only [Option.some.injEq, Prod.mk.injEq] at h
    obtain ⟨rfl, rfl⟩ := h
    clear hr0 hc0 hb
    go_enter Try.func39, Try.ntmps39
    go_wp2_with (go_at_call 68; (with_reducible refine (impl_IsSignMatrix.calls k _ _ l0 false _ HR0.out HC0.out HH.out).mono ?_); rintro e w5 ⟨rfl, hb⟩; have HB := Aside0.mk (below_step (by repeat (first | exact HB0.out | apply below_alloc | apply pw_below_drewN | apply below_drew1)) hb); clear hb)
    go_ret2
    exact ⟨_, rfl, Kd.S_nil _ _ _ _ _, HB.out⟩
  | true =>
    rw [if_pos rfl] at h
    obtain ⟨q, hq, h⟩ := Option.bind_eq_some_iff.mp h
    obtain ⟨m, hm, h⟩ := Option.bind_eq_some_iff.mp h
    obtain ⟨r, hr, h⟩ := Option.bind_eq_some_iff.mp h
    simp only [Option.some.injEq, Prod.mk.injEq] at h
    obtain ⟨rfl, rfl⟩ := h
    cases q with
    | nil => cases hm
    | cons x xs =>
      simp only [leastT] at hm
      by_cases c : ∀ a ∈ x :: xs, ∀ b ∈ x :: xs, (impl_compareTables.f k a b).isSome = true
      · rw [if_pos c] at hm
        obtain rfl := Option.some.inj hm
        obtain ⟨n, hn⟩ : ∃ n, n = xs.length + 1 := ⟨_, rfl⟩
        have HQ := Aside0.mk hq
        have HRR := Aside0.mk hr
        have HNN := Aside0.mk (show (x :: xs).length = n by rw [hn]; rfl)
        have HMIN := Aside0.mk (fun (W : World) (A : Option Addr) (cc : Nat) (hC : Kd.C (Kd.slice 22 (Kd.slice 3 (Kd.int .i64))) W A n (x :: xs)) => minFunc_tabs 80 #[] (fun a b => (impl_compareTables.f k a b).getD 0) A cc n x xs W hn hC (enters_of Try.func80 (by kernel_rfl) rfl)
          (fun a b A0 B0 c0 d0 q ha hb h1 h2 h3 h4 => by
            obtain ⟨v, hv⟩ := Option.isSome_iff_exists.mp (c a ha b hb)
            show Calls Try.prog _ _ _ fun e w' => e = .returned (.int .i64 ((impl_compareTables.f k a b).getD 0)) ∧ _
            rw [hv]
            exact impl_compareTables.calls k A0 c0 a B0 d0 b v (W.drewN q) (Kd.C_drewN h3 q) h1 (Kd.C_drewN h4 q) h2 hv))
        obtain ⟨mm, hmm⟩ : ∃ mm, mm = minT (fun a b => (impl_compareTables.f k a b).getD 0) x xs := ⟨_, rfl⟩
        rw [← hmm] at HMIN HRR
        clear hr0 hc0 hb c hq hr hn hm hmm
        go_enter Try.func39, Try.ntmps39
        go_wp2_with (first | (go_at_call 68; (with_reducible refine (impl_IsSignMatrix.calls k _ _ l0 true _ HR0.out HC0.out HH.out).mono ?_); rintro e w5 ⟨rfl, hb⟩; have HB1 := Aside0.mk (below_step (by repeat (first | exact HB0.out | apply below_alloc | apply pw_below_drewN | apply below_drew1)) hb); clear hb) | (go_at_call 79; (with_reducible refine (impl_eight.calls k (fun k_ => k_ < w5.heap.size) A0 c0 l0 (x :: xs) w5 ?hv HQ.out).mono ?_); (case hv => exact Kd.V_mk HC0.out (Kd.C_F (Kd.heap_slice _ (Kd.heap_int _)) (Kd.C_below HR0.out HB1.out))); rintro e w6 ⟨v6, rfl, hN, hb⟩; obtain ⟨A6, c6, e6⟩ := Kd.N_slice hN; subst e6; have HC6 := Aside0.mk (Kd.N_reads' hN).2.2; rw [HNN.out] at HC6 ⊢; have HB2 := Aside0.mk (below_step HB1.out hb); clear hN hb) | (go_at_call 78; (refine (HMIN.out w6 A6 c6 HC6.out).mono ?_); rintro e w7 ⟨B7, d7, rfl, hl7, hC7, ⟨n7, rfl⟩⟩; have HC7 := Aside0.mk (And.intro hl7 hC7); clear hl7 hC7) | (go_at_call 77; (with_reducible refine (impl_copyTable.calls k _ _ mm r _ (Kd.C_drewN HC7.out.2 _) HC7.out.1 HRR.out).mono ?_); rintro e w8 ⟨v8, rfl, hS, hb⟩; have HS := Aside0.mk (Kd.S_lower hS (by exact HB2.out.size)); have HB := Aside0.mk (below_step (pw_below_drewN HB2.out _) hb); clear hS hb))
        go_ret2
        exact ⟨_, rfl, HS.out, HB.out⟩
      · rw [if_neg c] at hm
        cases hm

end Go.Proofs.Ythjiajkmaimbjaa.P
