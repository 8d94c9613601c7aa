-- By gp.py (this session's own driver over the kit's print). Not trusted: Lean checks it.
import Derived.Test.YthjiajkmaimbjaaF0
import Derived.Test.YthjiajkmaimbjaaB
import Derived.Test.YthjiajkmaimbjaaPL
import Derived.Test.YthjiajkmaimbjaaFImplCountPatterns
import Derived.Test.YthjiajkmaimbjaaFSpecCountPatterns
namespace Go.Proofs.Ythjiajkmaimbjaa.P
open Go.Proofs.Ythjiajkmaimbjaa.B
open Go.RowKit Go.Proofs.YthjiajkmaimbjaaW.PrintWords Go.Proofs.YthjiajkmaimbjaaW.PrintLast Go.Proofs.YthjiajkmaimbjaaW.PrintMore
attribute [local go_sem] max2_int min2_int max_two min_two max_three min_three max_four min_four   -- for this text's walks alone
set_option linter.unusedVariables false
set_option linter.unusedSimpArgs false

/-- The law over lists alone: program and reference answer the same. -/
def laws_FnExactCountPatterns.Pure : Prop := ∀ (a0 : Int), (Lit.int .i64 a0).wf = true → ∃ (r1 : Int) (r2 : Bool), (∃ k, spec_CountPatterns.f k a0 = some (r1, r2)) ∧ (impl_CountPatterns.f a0 = some (r1, r2))
set_option maxHeartbeats 16000000 in
set_option maxRecDepth 100000 in
theorem laws_FnExactCountPatterns.walk (P : laws_FnExactCountPatterns.Pure) (a0 : Int) (w : World) (hw0 : (Lit.int .i64 a0).wf = true) :
    Calls Try.prog 6 #[.int .i64 a0] w fun e w' => e = .returned (.bool true) ∧ Below w.heap.size w w' := by
  have HB0 := Aside0.mk (Below.refl w.heap.size w)
  obtain ⟨r1, r2, ⟨ks, hs⟩, hi⟩ := P a0 hw0
  have HS := Aside0.mk hs
  have HI := Aside0.mk hi
  clear hs hi
  go_enter Try.func6, Try.ntmps6
  go_wp2_with fail
  (with_reducible refine (spec_CountPatterns.calls ks a0 r1 r2 _  HS.out).mono ?_)
  rintro e W1 ⟨rfl, hd_⟩
  have hb_ := hd_.below
  clear hd_
  have HB_W1 := Aside0.mk (below_then HB0.out HB0.out.size hb_)
  clear hb_
  go_wp2_with fail
  (with_reducible refine (impl_CountPatterns.calls  a0 r1 r2 _  HI.out).mono ?_)
  rintro e W2 ⟨rfl, hb_⟩
  have HB_W2 := Aside0.mk (below_then HB_W1.out HB_W1.out.size hb_)
  clear HB_W1
  clear hb_
  go_wp2
  go_ret
  exact ⟨rfl, HB_W2.out⟩
end Go.Proofs.Ythjiajkmaimbjaa.P
