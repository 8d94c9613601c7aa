/- FnExactFlipPath returns true for every two tables: program and reference list the same cells, in memory of their own. No conditions. -/
import Derived.Test.YthjiajkmaimbjaaFLawsFnExactFlipPath
import Derived.Test.YthjiajkmaimbjaaQFlip
namespace Go.Proofs.Ythjiajkmaimbjaa.Pure
open Go.Proofs.Ythjiajkmaimbjaa.B Go.Proofs.Ythjiajkmaimbjaa.P
open Go.RowKit Go.Proofs.YthjiajkmaimbjaaW.PrintWords Go.Proofs.YthjiajkmaimbjaaW.PrintLast Go.Proofs.YthjiajkmaimbjaaW.PrintMore
set_option linter.unusedVariables false
set_option linter.unusedSimpArgs false
theorem FnExactFlipPath : laws_FnExactFlipPath.Pure := by
 intro m k hm _ _ hk _ _
 have h : EvP (fun r => total r.1 ≤ 1048576 ∧ r.1.length ≤ 1048576) (fun n => spec_FlipPath.f n m k) (fun n => impl_FlipPath.f n m k) := by
  unfold spec_FlipPath.f impl_FlipPath.f; refine pair_start m k hm hk _ (by simp [total]) (fun p => ?_); obtain ⟨g1, g2, e⟩ := p; have L := lip_ht g1; have G := lip_ht g2; rw [← e] at G; have h6 := g1.1.2.1; refine EvP.bind (ev_heOf m g1.1) (ev_heights m g1.1) (EvP.bind (ev_heOf k g2.1) (ev_heights k g2.1) ?_); have hp := pot_small L G h6; refine EvP.then_ (path_both h6 g1.1.1 G 9800 (htT m) [] L (same_edge g1 g2 e) hp (by simp) (by simp [total])) (fun o ho => EvP.now _ ?_); have := ho.1; have := ho.2; show total o ≤ _ ∧ o.length ≤ _; omega
 obtain ⟨b, hb, e1, e2⟩ := h; exact ⟨b.1, b.2, e1.rounds, e2.rounds, hb⟩
end Go.Proofs.Ythjiajkmaimbjaa.Pure
