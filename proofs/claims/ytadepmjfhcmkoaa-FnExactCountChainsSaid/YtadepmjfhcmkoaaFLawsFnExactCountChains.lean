-- By gp.py (this session's own driver over the kit's print). Not trusted: Lean checks it.
import Derived.Test.YtadepmjfhcmkoaaF0
import Derived.Test.YtadepmjfhcmkoaaB
import Derived.Test.YtadepmjfhcmkoaaPL
import Derived.Test.YtadepmjfhcmkoaaFImplCountChains
import Derived.Test.YtadepmjfhcmkoaaFSpecCountChains
namespace Go.Proofs.Ytadepmjfhcmkoaa.P
open Go.Proofs.Ytadepmjfhcmkoaa.B
open Go.RowKit Go.Proofs.YtadepmjfhcmkoaaW.PrintWords Go.Proofs.YtadepmjfhcmkoaaW.PrintLast Go.Proofs.YtadepmjfhcmkoaaW.PrintMore
attribute [local go_sem] max2_int min2_int max_two min_two max_three min_three max_four min_four   -- for this text's walks alone
set_option linter.unusedVariables false
set_option linter.unusedSimpArgs false
def laws_FnExactCountChains.Pure : Prop := ∀ (a0 : Int), (Lit.int .i64 a0).wf = true → ∃ (r1 : Int) (r2 : Bool), (spec_CountChains.f a0 = some (r1, r2)) ∧ (impl_CountChains.f a0 = some (r1, r2))
set_option maxHeartbeats 16000000 in
set_option maxRecDepth 100000 in
theorem laws_FnExactCountChains.walk (P : laws_FnExactCountChains.Pure) (a0 : Int) (w : World) (hw0 : (Lit.int .i64 a0).wf = true) :
  Calls Try.prog 11 #[.int .i64 a0] w fun e w' => e = .returned (.bool true) ∧ Below w.heap.size w w' := by
 have HB0 := Aside0.mk (Below.refl w.heap.size w); obtain ⟨r1, r2, hs, hi⟩ := P a0 hw0; have HS := Aside0.mk hs; have HI := Aside0.mk hi; clear hs hi; go_enter Try.func11, Try.ntmps11
 go_wp2_with fail
 (with_reducible refine (spec_CountChains.calls  a0 r1 r2 _  HS.out).mono ?_)
 rintro e W1 ⟨rfl, hb_⟩; have HB_W1 := Aside0.mk (below_then HB0.out HB0.out.size hb_); clear hb_
 go_wp2_with fail
 (with_reducible refine (impl_CountChains.calls  a0 r1 r2 _  HI.out).mono ?_)
 rintro e W2 ⟨rfl, hb_⟩; have HB_W2 := Aside0.mk (below_then HB_W1.out HB_W1.out.size hb_); clear HB_W1; clear hb_; go_wp2; go_ret; exact ⟨rfl, HB_W2.out⟩
end Go.Proofs.Ytadepmjfhcmkoaa.P
