/- Triangles: program and reference tell alike which tables are some. -/
import Derived.Test.YthjiajkmaimbjaaFSpecTrGood
import Derived.Test.YthjiajkmaimbjaaFImplIsTriangle
import Derived.Test.YthjiajkmaimbjaaQIn
import Derived.Test.YthjiajkmaimbjaaPL
namespace Go.Proofs.Ythjiajkmaimbjaa.Pure
open Go.Proofs.Ythjiajkmaimbjaa.B Go.Proofs.Ythjiajkmaimbjaa.P
open Go.RowKit Go.Proofs.YthjiajkmaimbjaaW.PrintWords Go.Proofs.YthjiajkmaimbjaaW.PrintLast Go.Proofs.YthjiajkmaimbjaaW.PrintMore
set_option linter.unusedVariables false
set_option linter.unusedSimpArgs false
/-- From the place i on each number is greater than that before it. -/
def Rises (l : List Int) (i : Nat) : Prop := ∀ j : Nat, i ≤ j → j < l.length → 0 < j → rd l ((j : Int) - 1) < rd l (j : Int)
def Between (l : List Int) (lo up : Int) (i : Nat) : Prop := ∀ j : Nat, i ≤ j → j < l.length → lo ≤ rd l (j : Int) ∧ rd l (j : Int) ≤ up
def Fits (a r : List Int) (i : Nat) : Prop := ∀ j : Nat, i ≤ j → j < a.length → rd r (j : Int) ≤ rd a (j : Int) ∧ rd a (j : Int) ≤ rd r ((j : Int) + 1)
theorem between_all (l : List Int) (lo up : Int) : (l.all fun x => inB x lo up) = true ↔ Between l lo up 0 := by
  rw [List.all_eq_true]
  constructor
  · intro h j _ hj
    rw [rd_get l j hj]
    exact (inB_iff _ _ _).mp (h _ (List.getElem_mem _))
  · intro h x hx
    obtain ⟨j, hj, rfl⟩ := List.mem_iff_getElem.1 hx
    have := h j (Nat.zero_le _) hj
    rw [rd_get l j hj] at this
    exact (inB_iff _ _ _).mpr this
theorem l1Rising_tells (l : List Int) (lo up : Int) (hl : l.length ≤ 1048576) : EvB (fun k => spec_l1Rising.f k l lo up) (Rises l 0 ∧ Between l lo up 0) := by
  unfold spec_l1Rising.f
  suffices h : ∀ (d i : Nat), l.length = i + d → EvB (fun k => spec_l1Rising.l0 k l lo up l (l.length : Int) (i : Int)) (Rises l i ∧ Between l lo up i) from h l.length 0 (by omega)
  intro d
  induction d with
  | zero =>
    intro i hi
    refine EvB.succ ?_
    simp only [spec_l1Rising.l0]
    exact EvB.neg (by omega) (EvB.yes ⟨fun j h1 h2 => by omega, fun j h1 h2 => by omega⟩)
  | succ d ih =>
    intro i hi
    refine EvB.succ ?_
    simp only [spec_l1Rising.l0]
    refine EvB.pos (by omega) (EvB.pos (by omega) (EvB.pos (by omega) ?_))
    rw [l1In_eq, wrapN i (by omega)]
    simp only [Option.bind_some]
    refine EvB.test (fun h => ?_) (fun h => EvB.no (fun ⟨_, h2⟩ => h ((inB_iff _ _ _).mpr (h2 i (Nat.le_refl _) (by omega)))))
    have hin := (inB_iff _ _ _).mp h
    have hstep : (Rises l (i + 1) ∧ Between l lo up (i + 1)) → (0 < i → rd l ((i : Int) - 1) < rd l (i : Int)) → Rises l i ∧ Between l lo up i := by
      intro ⟨h1, h2⟩ h3
      refine ⟨fun j hj1 hj2 hj3 => ?_, fun j hj1 hj2 => ?_⟩
      · rcases Nat.eq_or_lt_of_le hj1 with rfl | hlt
        · exact h3 hj3
        · exact h1 j hlt hj2 hj3
      · rcases Nat.eq_or_lt_of_le hj1 with rfl | hlt
        · exact hin
        · exact h2 j hlt hj2
    have hback : Rises l i ∧ Between l lo up i → Rises l (i + 1) ∧ Between l lo up (i + 1) := fun ⟨h1, h2⟩ => ⟨fun j hj => h1 j (by omega), fun j hj => h2 j (by omega)⟩
    by_cases hi0 : (i : Int) > 0
    · refine EvB.pos hi0 ?_
      rw [wrapE ((i : Int) - 1) (by omega) (by omega)]
      refine EvB.pos (by omega) (EvB.pos (by omega) (EvB.test (fun h => EvB.no (fun ⟨h1, _⟩ => ?_)) (fun h => (ih (i + 1) (by omega)).iff ⟨fun hh => hstep hh (fun _ => by omega), hback⟩)))
      have := h1 i (Nat.le_refl _) (by omega) (by omega)
      omega
    · exact EvB.neg hi0 ((ih (i + 1) (by omega)).iff ⟨fun hh => hstep hh (fun h => by omega), hback⟩)
theorem isRow_tells (l : List Int) (hl : l.length ≤ 1048576) : EvB (fun k => impl_isRow.f k l) ((1 ≤ l.length ∧ l.length ≤ 6) ∧ Rises l 0 ∧ Between l 0 15 0) := by
  unfold impl_isRow.f
  suffices h : ∀ (d i : Nat), 1 ≤ i → l.length ≤ i + d → EvB (fun k => impl_isRow.l0 k l (i : Int)) ((1 ≤ l.length ∧ l.length ≤ 6) ∧ Rises l i ∧ Between l 0 15 0) by
    refine (h l.length 1 (by omega) (by omega)).iff ⟨fun ⟨a, b, c⟩ => ⟨a, fun j _ h2 h3 => b j h3 h2 h3, c⟩, fun ⟨a, b, c⟩ => ⟨a, fun j _ h2 h3 => b j (by omega) h2 h3, c⟩⟩
  have hend : ∀ i : Nat, l.length ≤ i → EvB (fun _ => (impl_isSide.f (l.length : Int)).bind fun t430 => (if t430 = true then ((impl_areWithin.f l 0 15).bind fun t431 => (some t431)) else (some false))) ((1 ≤ l.length ∧ l.length ≤ 6) ∧ Rises l i ∧ Between l 0 15 0) := by
    intro i hi
    rw [isSide_eq, areWithin_eq]
    simp only [Option.bind_some]
    refine EvB.test (fun h => ?_) (fun h => EvB.no (fun ⟨h1, _⟩ => h ((inB_iff _ _ _).mpr (by omega))))
    have h1 := (inB_iff _ _ _).mp h
    refine EvB.now _ ((between_all l 0 15).trans ⟨fun h2 => ⟨by omega, fun j hj1 hj2 => by omega, h2⟩, fun h2 => h2.2.2⟩)
  intro d
  induction d with
  | zero =>
    intro i h1 hi
    refine EvB.succ ?_
    simp only [impl_isRow.l0]
    exact EvB.neg (by omega) (hend i (by omega))
  | succ d ih =>
    intro i h1 hi
    refine EvB.succ ?_
    simp only [impl_isRow.l0]
    by_cases hlt : (i : Int) < (l.length : Int)
    · rw [wrapE ((i : Int) - 1) (by omega) (by omega), wrapN i (by omega)]
      refine EvB.pos hlt (EvB.pos (by omega) (EvB.pos (by omega) (EvB.pos (by omega) (EvB.test (fun h => EvB.no (fun ⟨_, h2, _⟩ => ?_)) (fun h => (ih (i + 1) (by omega) (by omega)).iff ⟨fun ⟨a, b, c⟩ => ⟨a, fun j hj1 hj2 hj3 => ?_, c⟩, fun ⟨a, b, c⟩ => ⟨a, fun j hj => b j (by omega), c⟩⟩)))))
      · have := h2 i (Nat.le_refl _) (by omega) (by omega)
        omega
      · rcases Nat.eq_or_lt_of_le hj1 with rfl | hlt2
        · omega
        · exact b j hlt2 hj2 hj3
    · exact EvB.neg hlt (hend i (by omega))
theorem trFits_tells (a r : List Int) (hl : a.length ≤ 1048576) (hr : r.length = a.length + 1) : EvB (fun k => spec_trFits.f k a r) (Fits a r 0) := by
  unfold spec_trFits.f
  suffices h : ∀ (d i : Nat), a.length = i + d → EvB (fun k => spec_trFits.l0 k r a (a.length : Int) (i : Int)) (Fits a r i) from h a.length 0 (by omega)
  intro d
  induction d with
  | zero =>
    intro i hi
    refine EvB.succ ?_
    simp only [spec_trFits.l0]
    exact EvB.neg (by omega) (EvB.yes (fun j h1 h2 => by omega))
  | succ d ih =>
    intro i hi
    refine EvB.succ ?_
    simp only [spec_trFits.l0]
    rw [wrapI (i : Int) (by omega) (by omega)]
    refine EvB.pos (by omega) (EvB.pos (by omega) (EvB.pos (by omega) (EvB.pos (by omega) (EvB.test (fun h => EvB.no (fun h2 => ?_)) (fun h => EvB.pos (by omega) (EvB.pos (by omega) (EvB.test (fun h3 => EvB.no (fun h2 => ?_)) (fun h3 => ?_))))))))
    · have := (h2 i (Nat.le_refl _) (by omega)).1
      omega
    · have := (h2 i (Nat.le_refl _) (by omega)).2
      omega
    · have hih := ih (i + 1) (by omega)
      rw [show ((i + 1 : Nat) : Int) = (i : Int) + 1 by omega] at hih
      refine hih.iff ⟨fun h2 j hj1 hj2 => ?_, fun h2 j hj => h2 j (by omega)⟩
      rcases Nat.eq_or_lt_of_le hj1 with rfl | hlt2
      · omega
      · exact h2 j hlt2 hj2
theorem fitsUnder_tells (a r : List Int) (hl : a.length ≤ 1048576) (hr : r.length = a.length + 1) : EvB (fun k => impl_fitsUnder.f k a r) (Fits a r 0) := by
  unfold impl_fitsUnder.f
  suffices h : ∀ (d i : Nat), a.length = i + d → EvB (fun k => impl_fitsUnder.l0 k r a (a.length : Int) (i : Int)) (Fits a r i) from h a.length 0 (by omega)
  intro d
  induction d with
  | zero =>
    intro i hi
    refine EvB.succ ?_
    simp only [impl_fitsUnder.l0]
    exact EvB.neg (by omega) (EvB.yes (fun j h1 h2 => by omega))
  | succ d ih =>
    intro i hi
    refine EvB.succ ?_
    simp only [impl_fitsUnder.l0]
    rw [wrapI (i : Int) (by omega) (by omega), within_eq]
    simp only [Option.bind_some]
    refine EvB.pos (by omega) (EvB.pos (by omega) (EvB.pos (by omega) (EvB.pos (by omega) (EvB.pos (by omega) (EvB.pos (by omega) (EvB.test (fun h => ?_) (fun h => EvB.no (fun h2 => h ((inB_iff _ _ _).mpr (h2 i (Nat.le_refl _) (by omega)))))))))))
    have hin := (inB_iff _ _ _).mp h
    have hih := ih (i + 1) (by omega)
    rw [show ((i + 1 : Nat) : Int) = (i : Int) + 1 by omega] at hih
    refine hih.iff ⟨fun h2 j hj1 hj2 => ?_, fun h2 j hj => h2 j (by omega)⟩
    rcases Nat.eq_or_lt_of_le hj1 with rfl | hlt2
    · exact hin
    · exact h2 j hlt2 hj2
/-- The row i of a table is one of a triangle. -/
def TriRow (t : List (List Int)) (i : Nat) : Prop := ∃ h : i < t.length, (t[i]).length = i + 1 ∧ (t[i]).length ≤ 6 ∧ Rises t[i] 0 ∧ Between t[i] 0 15 0 ∧ (∀ h0 : 0 < i, Fits (t[i - 1]'(by omega)) t[i] 0)
def TriFrom (t : List (List Int)) (i : Nat) : Prop := ∀ j, i ≤ j → j < t.length → TriRow t j
def Tri (t : List (List Int)) : Prop := 1 ≤ t.length ∧ t.length ≤ 6 ∧ TriFrom t 0
theorem triFrom_step {t : List (List Int)} {i : Nat} (h : i < t.length) : TriFrom t i ↔ TriRow t i ∧ TriFrom t (i + 1) := by
  constructor
  · exact fun h2 => ⟨h2 i (Nat.le_refl _) h, fun j hj => h2 j (by omega)⟩
  · rintro ⟨h1, h2⟩ j hj1 hj2
    rcases Nat.eq_or_lt_of_le hj1 with rfl | hlt
    · exact h1
    · exact h2 j hlt hj2
theorem trGood_tells (t : List (List Int)) (hl : t.length ≤ 1048576) (hr : ∀ x ∈ t, x.length ≤ 1048576) : EvB (fun k => spec_trGood.f k t) (Tri t) := by
  unfold spec_trGood.f
  rw [l1In_eq]
  simp only [Option.bind_some]
  refine EvB.test (fun h => ?_) (fun h => EvB.no (fun ⟨h1, h2, _⟩ => h ((inB_iff _ _ _).mpr (by omega))))
  have h6 := (inB_iff _ _ _).mp h
  suffices hs : ∀ (d i : Nat), t.length = i + d → (∀ j, j < i → TriRow t j) → EvB (fun k => spec_trGood.l0 k t t (t.length : Int) (i : Int)) (TriFrom t i) from (hs t.length 0 (by omega) (fun j hj => by omega)).iff ⟨fun h2 => ⟨by omega, by omega, h2⟩, fun h2 => h2.2.2⟩
  intro d
  induction d with
  | zero =>
    intro i hi _
    refine EvB.succ ?_
    simp only [spec_trGood.l0]
    exact EvB.neg (by omega) (EvB.yes (fun j h1 h2 => by omega))
  | succ d ih =>
    intro i hi hprev
    have hlt : i < t.length := by omega
    refine EvB.succ ?_
    simp only [spec_trGood.l0]
    rw [wrapI (i : Int) (by omega) (by omega), rdL_get t i hlt, triFrom_step hlt]
    refine EvB.pos (by omega) (EvB.pos (by omega) (EvB.pos (by omega) (EvB.test (fun hlen => ?_) (fun hlen => EvB.no (fun ⟨⟨_, h2, _⟩, _⟩ => hlen (by rw [h2]; omega))))))
    refine EvB.bind (l1Rising_tells t[i] 0 15 (hr _ (List.getElem_mem _))) (fun hrow => EvB.pos rfl ?_) (fun hrow => EvB.neg (by decide) (EvB.no (fun ⟨⟨_, _, _, h3, h4, _⟩, _⟩ => hrow ⟨h3, h4⟩)))
    by_cases hi0 : (i : Int) > 0
    · refine EvB.pos hi0 ?_
      rw [wrapE ((i : Int) - 1) (by omega) (by omega)]
      refine EvB.pos (by omega) (EvB.pos (by omega) ?_)
      have e : (i : Int) - 1 = ((i - 1 : Nat) : Int) := by omega
      rw [e, rdL_get t (i - 1) (by omega)]
      obtain ⟨_, hpl, _⟩ := hprev (i - 1) (by omega)
      refine EvB.bind (trFits_tells (t[i - 1]'(by omega)) t[i] (hr _ (List.getElem_mem _)) (by omega)) (fun hf => EvB.pos rfl ?_) (fun hf => EvB.neg (by decide) (EvB.no (fun ⟨⟨_, _, _, _, _, h5⟩, _⟩ => hf (h5 (by omega)))))
      have hrw : TriRow t i := ⟨hlt, by omega, by omega, hrow.1, hrow.2, fun _ => hf⟩
      have hih := ih (i + 1) (by omega) (fun j hj => if h1 : j < i then hprev j h1 else (show j = i by omega) ▸ hrw)
      rw [show ((i + 1 : Nat) : Int) = (i : Int) + 1 by omega] at hih
      exact hih.iff ⟨fun h2 => ⟨hrw, h2⟩, fun h2 => h2.2⟩
    · have hrw : TriRow t i := ⟨hlt, by omega, by omega, hrow.1, hrow.2, fun h0 => by omega⟩
      have hih := ih (i + 1) (by omega) (fun j hj => if h1 : j < i then hprev j h1 else (show j = i by omega) ▸ hrw)
      rw [show ((i + 1 : Nat) : Int) = (i : Int) + 1 by omega] at hih
      exact EvB.neg hi0 (hih.iff ⟨fun h2 => ⟨hrw, h2⟩, fun h2 => h2.2⟩)
theorem isTriangle_tells (t : List (List Int)) (hl : t.length ≤ 1048576) (hr : ∀ x ∈ t, x.length ≤ 1048576) : EvB (fun k => impl_IsTriangle.f k t) (Tri t) := by
  unfold impl_IsTriangle.f
  suffices hs : ∀ (d i : Nat), t.length = i + d → (∀ j, j < i → TriRow t j) → EvB (fun k => impl_IsTriangle.l0 k t t (t.length : Int) (i : Int)) ((1 ≤ t.length ∧ t.length ≤ 6) ∧ TriFrom t i) from (hs t.length 0 (by omega) (fun j hj => by omega)).iff ⟨fun h2 => ⟨h2.1.1, h2.1.2, h2.2⟩, fun h2 => ⟨⟨h2.1, h2.2.1⟩, h2.2.2⟩⟩
  intro d
  induction d with
  | zero =>
    intro i hi _
    refine EvB.succ ?_
    simp only [impl_IsTriangle.l0]
    rw [isSide_eq]
    refine EvB.neg (by omega) (EvB.now _ ⟨fun h => ⟨by have := (inB_iff _ _ _).mp h; omega, fun j h1 h2 => by omega⟩, fun h => (inB_iff _ _ _).mpr (by omega)⟩)
  | succ d ih =>
    intro i hi hprev
    have hlt : i < t.length := by omega
    refine EvB.succ ?_
    simp only [impl_IsTriangle.l0]
    rw [wrapI (i : Int) (by omega) (by omega), rdL_get t i hlt, triFrom_step hlt]
    refine EvB.pos (by omega) (EvB.pos (by omega) (EvB.pos (by omega) (EvB.test (fun hlen => ?_) (fun hlen => EvB.no (fun ⟨_, ⟨_, h2, _⟩, _⟩ => hlen (by rw [h2]; omega))))))
    refine EvB.bind (isRow_tells t[i] (hr _ (List.getElem_mem _))) (fun hrow => EvB.pos rfl ?_) (fun hrow => EvB.neg (by decide) (EvB.no (fun ⟨_, ⟨_, h1, h2, h3, h4, _⟩, _⟩ => hrow ⟨⟨by omega, h2⟩, h3, h4⟩)))
    by_cases hi0 : (i : Int) > 0
    · refine EvB.pos hi0 ?_
      rw [wrapE ((i : Int) - 1) (by omega) (by omega)]
      refine EvB.pos (by omega) (EvB.pos (by omega) ?_)
      have e : (i : Int) - 1 = ((i - 1 : Nat) : Int) := by omega
      rw [e, rdL_get t (i - 1) (by omega)]
      obtain ⟨_, hpl, _⟩ := hprev (i - 1) (by omega)
      refine EvB.bind (fitsUnder_tells (t[i - 1]'(by omega)) t[i] (hr _ (List.getElem_mem _)) (by omega)) (fun hf => EvB.pos rfl ?_) (fun hf => EvB.neg (by decide) (EvB.no (fun ⟨_, ⟨_, _, _, _, _, h5⟩, _⟩ => hf (h5 (by omega)))))
      have hrw : TriRow t i := ⟨hlt, by omega, hrow.1.2, hrow.2.1, hrow.2.2, fun _ => hf⟩
      have hih := ih (i + 1) (by omega) (fun j hj => if h1 : j < i then hprev j h1 else (show j = i by omega) ▸ hrw)
      rw [show ((i + 1 : Nat) : Int) = (i : Int) + 1 by omega] at hih
      exact hih.iff ⟨fun h2 => ⟨h2.1, hrw, h2.2⟩, fun h2 => ⟨h2.1, h2.2.2⟩⟩
    · have hrw : TriRow t i := ⟨hlt, by omega, hrow.1.2, hrow.2.1, hrow.2.2, fun h0 => by omega⟩
      have hih := ih (i + 1) (by omega) (fun j hj => if h1 : j < i then hprev j h1 else (show j = i by omega) ▸ hrw)
      rw [show ((i + 1 : Nat) : Int) = (i : Int) + 1 by omega] at hih
      exact EvB.neg hi0 (hih.iff ⟨fun h2 => ⟨h2.1, hrw, h2.2⟩, fun h2 => ⟨h2.1, h2.2.2⟩⟩)
end Go.Proofs.Ythjiajkmaimbjaa.Pure
