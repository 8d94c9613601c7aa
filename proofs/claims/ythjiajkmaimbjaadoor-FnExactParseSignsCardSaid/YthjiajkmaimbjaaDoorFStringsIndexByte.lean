-- By gp.py (this session's own driver over the kit's print). Not trusted: Lean checks it.
import Derived.Test.YthjiajkmaimbjaaDoorF0
import Derived.Test.YthjiajkmaimbjaaDoorB
import Derived.Test.YthjiajkmaimbjaaDoorShelf
namespace Go.Proofs.YthjiajkmaimbjaaDoor.P
open Go.Proofs.YthjiajkmaimbjaaDoor.B
open Go.RowKit Go.Proofs.YthjiajkmaimbjaaDoorW.PrintWords Go.Proofs.YthjiajkmaimbjaaDoorW.PrintLast Go.Proofs.YthjiajkmaimbjaaDoorW.PrintMore
attribute [local go_sem] max2_int min2_int max_two min_two max_three min_three max_four min_four   -- for this text's walks alone
set_option linter.unusedVariables false
set_option linter.unusedSimpArgs false

/-! ### strings_IndexByte: function 11 (given) -/
def strings_IndexByte.f (s0 : ByteArray) (a1 : Int) : Option Int := some (Lib.indexByte s0.data.toList a1.toNat.toUInt8)
theorem strings_IndexByte.calls (s0 : ByteArray) (a1 : Int) (r : Int) (w : World) (h : strings_IndexByte.f s0 a1 = some r) :
    Calls Tryd.prog 11 #[.string s0, .int .u8 a1] w fun e w' => e = .returned (.int .i64 r) ∧ Drawn0 w w' := by
  obtain rfl := Option.some.inj h
  refine (Tryd.strings_IndexByte s0 a1 w).mono ?_
  rintro e w' ⟨rfl, rfl⟩
  exact ⟨rfl, Drawn0.refl _⟩

end Go.Proofs.YthjiajkmaimbjaaDoor.P
