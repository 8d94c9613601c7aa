/- FnExactCountUnder returns true for every list of numbers: program and reference count alike, whatever each keeps of what it knows. No conditions. -/
import Derived.Test.YthjiajkmaimbjaaFLawsFnExactCountUnder
import Derived.Test.YthjiajkmaimbjaaQMask
namespace Go.Proofs.Ythjiajkmaimbjaa.Pure
open Go.Proofs.Ythjiajkmaimbjaa.B Go.Proofs.Ythjiajkmaimbjaa.P
open Go.RowKit Go.Proofs.YthjiajkmaimbjaaW.PrintWords Go.Proofs.YthjiajkmaimbjaaW.PrintLast Go.Proofs.YthjiajkmaimbjaaW.PrintMore
set_option linter.unusedVariables false
set_option linter.unusedSimpArgs false
/-- What is known is right. -/
def KnownOk (known : List Int) : Prop := known.length = 65536 ∧ ∀ (d : Nat) (row : List Int), Row row → row.length = d + 1 → rd known (mkO 0 row : Int) > 0 → rd known (mkO 0 row : Int) = cuV d row
theorem known_none : KnownOk (List.replicate 65536 0) := by
  refine ⟨List.length_replicate, fun d row hr hd h => ?_⟩
  have hm := mkO_lt 0 row (by decide) hr.mem
  rw [rd_get _ _ (by rw [List.length_replicate]; exact hm), List.getElem_replicate] at h
  omega
theorem known_set {known : List Int} (h : KnownOk known) {d : Nat} {row : List Int} (hr : Row row) (hd : row.length = d + 1) : KnownOk (known.set (mkO 0 row) (cuV d row)) := by
  refine ⟨by rw [List.length_set]; exact h.1, fun d' row' hr' hd' h' => ?_⟩
  have hm := mkO_lt 0 row (by decide) hr.mem
  have hm' := mkO_lt 0 row' (by decide) hr'.mem
  have hl := h.1
  rw [rd_get _ _ (by rw [List.length_set]; omega)] at h' ⊢
  by_cases c : mkO 0 row = mkO 0 row'
  · have e := mask_inj hr hr' c
    subst e
    rw [List.getElem_set_self]
    rw [show d' = d by omega]
  · rw [List.getElem_set_ne c] at h' ⊢
    have := h.2 d' row' hr' hd'
    rw [rd_get _ _ (by omega)] at this
    exact this h'
theorem own_row {row : List Int} {d : Nat} (h : Row row) (hl : row.length = d + 2) (own : List Int) (ho : own ∈ abvL row (d + 1) []) : own.length = d + 1 ∧ Row own := by
  have h1 := abv_own h.ok hl own ho
  refine ⟨h1.1, ⟨⟨h1.2.1, h1.2.2.1⟩, abvL_rises (d + 1) [] (fun j _ hj => by simp at hj) own ho, fun j _ hj => h1.2.2.2 j hj⟩⟩
theorem ev_count : ∀ (d : Nat) (row known : List Int), row.length = d + 1 → Row row → KnownOk known → ∃ known', Ev (fun k => spec_trCount.f k row known) (cuV d row, known') ∧ KnownOk known' := by
  intro d
  induction d with
  | zero =>
    intro row known hl hr hk
    refine ⟨known, Ev.succ ?_, hk⟩
    simp only [spec_trCount.f]
    exact Ev.pos (by omega) (Ev.now _)
  | succ d ih =>
    intro row known hl hr hk
    have hm := mkO_lt 0 row (by decide) hr.mem
    have evm := ev_mask (row := row) (by have := hr.1.2; omega) hr.mem
    have hkl := hk.1
    by_cases c : rd known (mkO 0 row : Int) > 0
    · refine ⟨known, Ev.succ ?_, hk⟩
      simp only [spec_trCount.f]
      refine Ev.neg (by omega) (Ev.bind evm (Ev.pos (by omega) (Ev.pos (by omega) (Ev.pos c ?_))))
      rw [hk.2 (d + 1) row hr hl c]
      exact Ev.now _
    · have evA := ev_trAbove hr (d + 1) [] (by simp; omega)
      obtain ⟨rs, hrs⟩ : ∃ rs, rs = abvL row (d + 1) [] := ⟨_, rfl⟩
      have hsm := (abvL_small hr).1
      rw [show row.length - 1 = d + 1 by omega, ← hrs] at hsm
      have loop : ∀ (m j : Nat) (acc : Int) (kn : List Int), j + m = rs.length → acc = (rs.take j).foldl (fun all own => wrap64 (all + cuV d own)) 0 → KnownOk kn → ∃ known', Ev (fun k => spec_trCount.l0 k row kn acc rs (rs.length : Int) (j : Int)) (cuV (d + 1) row, known') ∧ KnownOk known' := by
        intro m
        induction m with
        | zero =>
          intro j acc kn hj ha hk'
          have he : acc = cuV (d + 1) row := by
            rw [ha, List.take_of_length_le (by omega), hrs]
            rfl
          refine ⟨kn.set (mkO 0 row) (cuV (d + 1) row), Ev.succ ?_, known_set hk' hr hl⟩
          simp only [spec_trCount.l0]
          have hl' := hk'.1
          refine Ev.neg (by omega) (Ev.bind evm (Ev.pos (by omega) (Ev.pos (by omega) ?_)))
          rw [he, Int.toNat_natCast]
          exact Ev.now _
        | succ m ihm =>
          intro j acc kn hj ha hk'
          have hjl : j < rs.length := by omega
          have ho := own_row hr hl rs[j] (by rw [← hrs]; exact List.getElem_mem hjl)
          obtain ⟨kn2, ev2, hk2⟩ := ih rs[j] kn ho.1 ho.2 hk'
          obtain ⟨kn3, ev3, hk3⟩ := ihm (j + 1) (wrap64 (acc + cuV d rs[j])) kn2 (by omega) (by rw [List.take_succ_eq_append_getElem hjl, List.foldl_append, ← ha]; rfl) hk2
          refine ⟨kn3, Ev.succ ?_, hk3⟩
          simp only [spec_trCount.l0]
          refine Ev.pos (by omega) (Ev.pos (by omega) (Ev.pos (by omega) ?_))
          rw [rdL_get rs j hjl, wrapN j (by omega)]
          exact Ev.bind ev2 ev3
      obtain ⟨kn, ev, hk'⟩ := loop rs.length 0 0 known (by omega) rfl hk
      refine ⟨kn, Ev.succ ?_, hk'⟩
      simp only [spec_trCount.f]
      rw [← hrs] at evA
      exact Ev.neg (by omega) (Ev.bind evm (Ev.pos (by omega) (Ev.pos (by omega) (Ev.neg c (Ev.bind evA ev)))))
theorem FnExactCountUnder : laws_FnExactCountUnder.Pure := by
  intro l hl _
  obtain ⟨b, hb, e1, e2⟩ := row_both l hl
  have key : ∃ r : Int × Bool, Ev (fun k => spec_CountUnder.f k l) r ∧ Ev (fun k => impl_CountUnder.f k l) r := by
    unfold spec_CountUnder.f impl_CountUnder.f
    cases b with
    | false => exact ⟨(0, false), Ev.bind e1 (Ev.neg (by decide) (Ev.now _)), Ev.bind e2 (Ev.neg (by decide) (Ev.now _))⟩
    | true =>
      have h := hb.mp rfl
      obtain ⟨kn, ev, _⟩ := ev_count (l.length - 1) l _ (by have := h.1.1; omega) h known_none
      exact ⟨(cuV (l.length - 1) l, true), Ev.bind e1 (Ev.pos rfl (Ev.pos (by decide) (Ev.bind ev (Ev.now _)))), Ev.bind e2 (Ev.pos rfl (Ev.pos h.ok (Ev.now _)))⟩
  obtain ⟨r, h1, h2⟩ := key
  exact ⟨r.1, r.2, h1.rounds, h2.rounds⟩
end Go.Proofs.Ythjiajkmaimbjaa.Pure
