-- By gp.py (this session's own driver over the kit's print). Not trusted: Lean checks it.
import Derived.Test.YthjiajkmaimbjaaF0
import Derived.Test.YthjiajkmaimbjaaB
import Derived.Test.YthjiajkmaimbjaaCompareFuncRow
import Derived.Test.YthjiajkmaimbjaaTab
import Derived.Test.YthjiajkmaimbjaaFSlicesCompareIntInt
namespace Go.Proofs.Ythjiajkmaimbjaa.P
open Go.Proofs.Ythjiajkmaimbjaa.B
open Go.RowKit Go.Proofs.YthjiajkmaimbjaaW.PrintWords Go.Proofs.YthjiajkmaimbjaaW.PrintLast Go.Proofs.YthjiajkmaimbjaaW.PrintMore
attribute [local go_sem] max2_int min2_int max_two min_two max_three min_three max_four min_four   -- for this text's walks alone
set_option linter.unusedVariables false
set_option linter.unusedSimpArgs false

/-! ### impl_compareTables: function 80 (given) -/
def impl_compareTables.f (k : Nat) (l0 : List (List Int)) (l1 : List (List Int)) : Option Int := if (∀ x ∈ l0, ∀ y ∈ l1, (slices_Compare_int_int.f k x y).isSome = true) then some (cmpT (fun x y => (slices_Compare_int_int.f k x y).getD 0) l0 l1) else none
theorem cmpT_congr {α : Type} {f g : α → α → Int} : ∀ (l m : List α), (∀ x ∈ l, ∀ y ∈ m, f x y = g x y) → cmpT f l m = cmpT g l m
  | [], [], _ => rfl
  | [], _ :: _, _ => rfl
  | _ :: _, [], _ => rfl
  | x :: xs, y :: ys, h => by
    have h1 := h x (by simp) y (by simp)
    simp only [cmpT]
    rw [h1, cmpT_congr xs ys (fun a ha b hb => h a (by simp [ha]) b (by simp [hb]))]
theorem impl_compareTables.mono : ∀ a0 a1 k, LeO (impl_compareTables.f k a0 a1) (impl_compareTables.f (k + 1) a0 a1) := by
  intro a0 a1 k r hr
  unfold impl_compareTables.f at hr ⊢
  by_cases c : ∀ x ∈ a0, ∀ y ∈ a1, (slices_Compare_int_int.f k x y).isSome = true
  · have hs : ∀ x ∈ a0, ∀ y ∈ a1, slices_Compare_int_int.f (k + 1) x y = slices_Compare_int_int.f k x y := by
      intro x hx y hy
      obtain ⟨v, hv⟩ := Option.isSome_iff_exists.mp (c x hx y hy)
      rw [hv]
      exact slices_Compare_int_int.mono _ _ _ _ hv
    rw [if_pos c] at hr
    rw [if_pos (fun x hx y hy => by rw [hs x hx y hy]; exact c x hx y hy), ← hr]
    congr 1
    exact cmpT_congr _ _ (fun x hx y hy => by rw [hs x hx y hy])
  · rw [if_neg c] at hr
    cases hr
set_option maxHeartbeats 8000000 in
set_option maxRecDepth 100000 in
theorem impl_compareTables.clo (k : Nat) (x y : List Int) (A0 B0 : Option Addr) (c0 d0 : Nat) (v : Int) (w : World) (hx : x.length ≤ c0) (hy : y.length ≤ d0) (hr : Kd.C (Kd.int .i64) w A0 x.length x) (hs : Kd.C (Kd.int .i64) w B0 y.length y) (hv : slices_Compare_int_int.f k x y = some v) :
    Calls Try.prog 116 #[.slice A0 x.length c0, .slice B0 y.length d0] w fun e w' => e = .returned (.int .i64 v) ∧ Drawn0 w w' := by
  have HT := Aside0.mk (slices_Compare_int_int.calls k A0 c0 x B0 d0 y v w hr hx hs hy hv)
  clear hx hy hr hs hv
  go_enter Try.func116, Try.ntmps116
  go_wp2_with (go_at_call 117; (with_reducible refine HT.out.mono ?_); rintro e w5 ⟨rfl, ⟨n1, rfl⟩⟩)
  go_ret
  exact ⟨rfl, (by repeat (first | exact Drawn0.refl _ | apply Drawn0.step))⟩
set_option maxHeartbeats 8000000 in
set_option maxRecDepth 100000 in
theorem impl_compareTables.calls (k : Nat) (A0 : Option Addr) (c0 : Nat) (l0 : List (List Int)) (A1 : Option Addr) (c1 : Nat) (l1 : List (List Int)) (r : Int) (w : World) (hr0 : Kd.C (Kd.slice 3 (Kd.int .i64)) w A0 l0.length l0) (hc0 : l0.length ≤ c0) (hr1 : Kd.C (Kd.slice 3 (Kd.int .i64)) w A1 l1.length l1) (hc1 : l1.length ≤ c1) (h : impl_compareTables.f k l0 l1 = some r) :
    Calls Try.prog 80 #[.slice A0 l0.length c0, .slice A1 l1.length c1] w fun e w' => e = .returned (.int .i64 r) ∧ Drawn0 w w' := by
  unfold impl_compareTables.f at h
  by_cases c : ∀ x ∈ l0, ∀ y ∈ l1, (slices_Compare_int_int.f k x y).isSome = true
  · rw [if_pos c] at h
    obtain rfl := Option.some.inj h
    have HT := Aside0.mk (compareFunc_rows 116 #[] (fun x y => (slices_Compare_int_int.f k x y).getD 0) A0 A1 c0 c1 l0 l1 w hr0 hr1 (enters_of Try.func116 (by kernel_rfl) rfl)
      (fun x y A B a b n hx hy hxa hyb hrx hry => by
        obtain ⟨v, hv⟩ := Option.isSome_iff_exists.mp (c x hx y hy)
        have := impl_compareTables.clo k x y A B a b v (w.drewN n) hxa hyb (Kd.C_drewN hrx n) (Kd.C_drewN hry n) hv
        show Calls _ _ _ _ fun e w' => e = .returned (.int .i64 ((slices_Compare_int_int.f k x y).getD 0)) ∧ _
        rw [hv]
        exact this))
    obtain ⟨v, hv⟩ : ∃ v, v = cmpT (fun x y => (slices_Compare_int_int.f k x y).getD 0) l0 l1 := ⟨_, rfl⟩
    rw [← hv] at HT ⊢
    clear h c hr0 hr1 hv
    go_enter Try.func80, Try.ntmps80
    go_wp2_with (go_at_call 115; (with_reducible refine HT.out.mono ?_); rintro e w5 ⟨rfl, ⟨n1, rfl⟩⟩)
    go_ret
    exact ⟨rfl, (by repeat (first | exact Drawn0.refl _ | apply Drawn0.step))⟩
  · rw [if_neg c] at h
    cases h

end Go.Proofs.Ythjiajkmaimbjaa.P
