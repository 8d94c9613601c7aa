/- FnExactFlipAt returns true for every table and every place: program and reference answer alike, in memory of their own. No conditions. -/
import Derived.Test.YtfoidmoiedokjaaFLawsFnExactFlipAt
import Derived.Test.YtfoidmoiedokjaaQFollow
import Derived.Test.YtfoidmoiedokjaaFImplFollow
import Derived.Test.YtfoidmoiedokjaaFSpecFollow
namespace Go.Proofs.Ytfoidmoiedokjaa.Pure
open Go.Proofs.Ytfoidmoiedokjaa.B Go.Proofs.Ytfoidmoiedokjaa.P
open Go.RowKit Go.Proofs.YtfoidmoiedokjaaW.PrintWords Go.Proofs.YtfoidmoiedokjaaW.PrintLast Go.Proofs.YtfoidmoiedokjaaW.PrintMore
set_option linter.unusedVariables false
set_option linter.unusedSimpArgs false
theorem ev_FlipAtS {m : List (List Int)} (g : Good m) (i j : Int) (h : CellOk m.length [i, j]) : Ev (fun k => spec_FlipAt.j0 k m i j false) (followR m.length (htT m) [[i, j]]) := by
  have h1 := g.1.1
  have h6 := g.1.2.1
  have L := lip_ht g
  obtain ⟨_, a1, a2, b1, b2⟩ := id h
  have e0 : rd [i, j] 0 = i := rfl
  have e1 : rd [i, j] 1 = j := rfl
  rw [e0] at a1 a2
  rw [e1] at b1 b2
  obtain ⟨a, rfl⟩ := Int.eq_ofNat_of_zero_le (show 0 ≤ i by omega)
  obtain ⟨b, rfl⟩ := Int.eq_ofNat_of_zero_le (show 0 ≤ j by omega)
  refine Ev.succ ?_
  simp only [spec_FlipAt.j0, followR]
  rw [if_pos h, e0, e1, Int.toNat_natCast, Int.toNat_natCast]
  refine Ev.neg (by decide) (Ev.bind (ev_heOf m g.1) (Ev.bind (ev_heWay L h6 a b (by omega) (by omega) (by omega) (by omega)) ?_))
  by_cases e : wayV (htT m) a b = 0
  · rw [if_pos e]
    exact Ev.pos e (Ev.now _)
  · rw [if_neg e]
    have hr := L.rows a (by omega)
    have hw := wayV_cases (htT m) a b
    have L2 := L.flip a b (by omega) (by omega) (by omega) (by omega)
    rw [row_eq, hr, L.len, rd_row, wrapE (2 * wayV (htT m) a b) (by omega) (by omega), flipT_small L h6 a b (by omega) (by omega) _ rfl]
    refine Ev.neg e (Ev.pos (by omega) (Ev.pos (by omega) (Ev.pos (by omega) (Ev.pos (by omega) ?_))))
    exact Ev.bind (ev_heFrom _ m.length h1 h6 L2.len L2.rows L2.bord) (Ev.now _)
theorem FnExactFlipAt : laws_FnExactFlipAt.Pure := by
  intro m i j hl _ _ _ _
  obtain ⟨r, h1, h2, h3, h4⟩ := follow_both m [[i, j]] hl
  refine ⟨r.1, r.2, ?_, ?_, h3, h4⟩
  · obtain ⟨b, hb, e1, e2⟩ := good_both m hl
    have sbad : Ev (fun k => spec_FlipAt.j0 k m i j true) (([] : List (List Int)), false) := by
      refine Ev.succ ?_
      simp only [spec_FlipAt.j0]
      exact Ev.pos trivial (Ev.now _)
    refine Ev.rounds ?_
    unfold spec_FlipAt.f
    unfold spec_FollowFlips.f at h1
    cases b with
    | false =>
      have h5 : Ev (fun k => spec_FollowFlips.j0 k m [[i, j]] true) (([] : List (List Int)), false) := by
        refine Ev.succ ?_
        simp only [spec_FollowFlips.j0]
        exact Ev.pos trivial (Ev.now _)
      have h6 := Ev.inj h1 (Ev.bind e1 (Ev.neg (by decide) h5))
      rw [h6]
      exact Ev.bind e1 (Ev.neg (by decide) sbad)
    | true =>
      have g := hb.mp rfl
      have g1 := g.1.1
      have g6 := g.1.2.1
      have L := lip_ht g
      have h5 : Ev (fun k => spec_FollowFlips.j0 k m [[i, j]] (decide (([[i, j]] : List (List Int)).length > (200 : Int)))) (followR m.length (htT m) [[i, j]]) := by
        refine Ev.succ ?_
        simp only [spec_FollowFlips.j0]
        have := ev_followS g6 g1 m rfl [[i, j]] (by simp) 1 0 (htT m) (by simp) L
        rw [List.drop_zero] at this
        exact Ev.neg (by simp) (Ev.bind (ev_heOf m g.1) this)
      have h6 := Ev.inj h1 (Ev.bind e1 (Ev.pos rfl h5))
      rw [h6]
      refine Ev.bind e1 (Ev.pos rfl (Ev.bind0 (heCell_eq m.length g6 i j) ?_))
      by_cases hok : CellOk m.length [i, j]
      · have h7 : (inB i 1 ((m.length : Int) - 1) && inB j 1 ((m.length : Int) - 1)) = true := ((cellOk_iff m.length [i, j]).mp hok).2
        rw [h7]
        exact ev_FlipAtS g i j hok
      · have h7 : (inB i 1 ((m.length : Int) - 1) && inB j 1 ((m.length : Int) - 1)) = false := Bool.eq_false_iff.mpr (fun x => hok ((cellOk_iff m.length [i, j]).mpr ⟨rfl, x⟩))
        rw [h7, followR_bad _ _ _ ⟨[i, j], by simp, hok⟩]
        exact sbad
  · refine Ev.rounds ?_
    unfold impl_FlipAt.f
    exact h2
end Go.Proofs.Ytfoidmoiedokjaa.Pure
