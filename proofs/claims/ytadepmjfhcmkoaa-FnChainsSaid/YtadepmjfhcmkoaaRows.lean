/-
  No cell of these rows narrows 'for every input' (looked for: loops, veiled, ifaces, maps, wideKeys, modest, calm, conditions, laid).
  DERIVED. THE GIVEN ROWS OF THIS SEAT. 11 by the template 'for every input the law returns true; each argument reads behind the call as it read before'; 0 by the template 'total and deterministic' (their statements: YtadepmjfhcmkoaaTotals.lean).
  GIVEN WITH THE SEED: the statements are not yours to turn. If you find one false, say at which input.
  Laid BY PROGRAM, IN A SANDBOX (cutbox-rows.mjs): the forced cells as the released guide's own fill.sh prints them over the translation 65f26d80bfc4095f… (all of the seat's roots in one cut). By AI agents, Wed Nov 11 2026. No macro, syntax, notation, axiom, sorry.
-/
import Derived.Test.YtadepmjfhcmkoaaChecked
import GoSem.Claim
import GoSem.ClaimJoined
import GoSem.ClaimMapViews
import Derived.JoinedTies
import Derived.KernelRfl
namespace Go.Proofs.Ytadepmjfhcmkoaa
/- THE CELL 'sum', in the pinned program and in every row, IS THE sha256 OF THE DUMP (.gsa) THAT YtadepmjfhcmkoaaProg.lean LOADS. Nothing in Lean hashes anything: it is a label: what it is worth is what the hold of that sum in a sandbox is worth. -/
noncomputable def Try.pinned : Pinned := { name := "ytadepmjfhcmkoaa", sum := "65f26d80bfc4095f93a39b8da23e73500337d3b2ee08cf92605cf011f9f1060d", checked := Try.checked }
namespace Rows
def none {H : Type} : Left H := { results := [], args := [] }

/-- 'laws.FnExactSignsAt': WHATEVER THE INPUT: true; the input reads as it did. -/
def fnExactSignsAtSpec : ChangeSpec := { name := "fnExactSignsAt", fn := fun _ => fun
  | [d1, d2] => { results := [.lit (.bool true)], args := [d1, d2] }
  | _ => none }
def fnExactSignsAtRow : OpenClaim := { program := "ytadepmjfhcmkoaa", sum := "65f26d80bfc4095f93a39b8da23e73500337d3b2ee08cf92605cf011f9f1060d", func := "loop.example/g01123/laws.FnExactSignsAt", spec := "fnExactSignsAt", unfollowed := true, recurses := true, apart := false }
def FnExactSignsAtSaid : Prop := fnExactSignsAtRow.holds Try.pinned (OpenSpec.ofChange fnExactSignsAtSpec)

/-- ITS FALSE NEIGHBOUR: 'it returns false'. Refute it at one input. -/
def fnExactSignsAtWrong : ChangeSpec := { name := "fnExactSignsAt", fn := fun _ => fun
  | [d1, d2] => { results := [.lit (.bool false)], args := [d1, d2] }
  | _ => none }
def FnExactSignsAtWrongFalsely : Prop := fnExactSignsAtRow.holds Try.pinned (OpenSpec.ofChange fnExactSignsAtWrong)

/-- 'laws.FnExactNextSigns': WHATEVER THE INPUT: true; the input reads as it did. -/
def fnExactNextSignsSpec : ChangeSpec := { name := "fnExactNextSigns", fn := fun _ => fun
  | [d] => { results := [.lit (.bool true)], args := [d] }
  | _ => none }
def fnExactNextSignsRow : OpenClaim := { program := "ytadepmjfhcmkoaa", sum := "65f26d80bfc4095f93a39b8da23e73500337d3b2ee08cf92605cf011f9f1060d", func := "loop.example/g01123/laws.FnExactNextSigns", spec := "fnExactNextSigns", unfollowed := true, recurses := true, apart := false }
def FnExactNextSignsSaid : Prop := fnExactNextSignsRow.holds Try.pinned (OpenSpec.ofChange fnExactNextSignsSpec)

/-- ITS FALSE NEIGHBOUR: 'it returns false'. Refute it at one input. -/
def fnExactNextSignsWrong : ChangeSpec := { name := "fnExactNextSigns", fn := fun _ => fun
  | [d] => { results := [.lit (.bool false)], args := [d] }
  | _ => none }
def FnExactNextSignsWrongFalsely : Prop := fnExactNextSignsRow.holds Try.pinned (OpenSpec.ofChange fnExactNextSignsWrong)

/-- 'laws.FnExactRankSigns': WHATEVER THE INPUT: true; the input reads as it did. -/
def fnExactRankSignsSpec : ChangeSpec := { name := "fnExactRankSigns", fn := fun _ => fun
  | [d] => { results := [.lit (.bool true)], args := [d] }
  | _ => none }
def fnExactRankSignsRow : OpenClaim := { program := "ytadepmjfhcmkoaa", sum := "65f26d80bfc4095f93a39b8da23e73500337d3b2ee08cf92605cf011f9f1060d", func := "loop.example/g01123/laws.FnExactRankSigns", spec := "fnExactRankSigns", unfollowed := true, recurses := true, apart := false }
def FnExactRankSignsSaid : Prop := fnExactRankSignsRow.holds Try.pinned (OpenSpec.ofChange fnExactRankSignsSpec)

/-- ITS FALSE NEIGHBOUR: 'it returns false'. Refute it at one input. -/
def fnExactRankSignsWrong : ChangeSpec := { name := "fnExactRankSigns", fn := fun _ => fun
  | [d] => { results := [.lit (.bool false)], args := [d] }
  | _ => none }
def FnExactRankSignsWrongFalsely : Prop := fnExactRankSignsRow.holds Try.pinned (OpenSpec.ofChange fnExactRankSignsWrong)

/-- 'laws.FnExactAllSigns': WHATEVER THE INPUT: true; the input reads as it did. -/
def fnExactAllSignsSpec : ChangeSpec := { name := "fnExactAllSigns", fn := fun _ => fun
  | [d] => { results := [.lit (.bool true)], args := [d] }
  | _ => none }
def fnExactAllSignsRow : OpenClaim := { program := "ytadepmjfhcmkoaa", sum := "65f26d80bfc4095f93a39b8da23e73500337d3b2ee08cf92605cf011f9f1060d", func := "loop.example/g01123/laws.FnExactAllSigns", spec := "fnExactAllSigns", unfollowed := true, recurses := true, apart := false }
def FnExactAllSignsSaid : Prop := fnExactAllSignsRow.holds Try.pinned (OpenSpec.ofChange fnExactAllSignsSpec)

/-- ITS FALSE NEIGHBOUR: 'it returns false'. Refute it at one input. -/
def fnExactAllSignsWrong : ChangeSpec := { name := "fnExactAllSigns", fn := fun _ => fun
  | [d] => { results := [.lit (.bool false)], args := [d] }
  | _ => none }
def FnExactAllSignsWrongFalsely : Prop := fnExactAllSignsRow.holds Try.pinned (OpenSpec.ofChange fnExactAllSignsWrong)

/-- 'laws.FnExactCountByFirst': WHATEVER THE INPUT: true; the input reads as it did. -/
def fnExactCountByFirstSpec : ChangeSpec := { name := "fnExactCountByFirst", fn := fun _ => fun
  | [d] => { results := [.lit (.bool true)], args := [d] }
  | _ => none }
def fnExactCountByFirstRow : OpenClaim := { program := "ytadepmjfhcmkoaa", sum := "65f26d80bfc4095f93a39b8da23e73500337d3b2ee08cf92605cf011f9f1060d", func := "loop.example/g01123/laws.FnExactCountByFirst", spec := "fnExactCountByFirst", unfollowed := true, recurses := true, apart := false }
def FnExactCountByFirstSaid : Prop := fnExactCountByFirstRow.holds Try.pinned (OpenSpec.ofChange fnExactCountByFirstSpec)

/-- ITS FALSE NEIGHBOUR: 'it returns false'. Refute it at one input. -/
def fnExactCountByFirstWrong : ChangeSpec := { name := "fnExactCountByFirst", fn := fun _ => fun
  | [d] => { results := [.lit (.bool false)], args := [d] }
  | _ => none }
def FnExactCountByFirstWrongFalsely : Prop := fnExactCountByFirstRow.holds Try.pinned (OpenSpec.ofChange fnExactCountByFirstWrong)

/-- 'laws.FnExactCountByMinus': WHATEVER THE INPUT: true; the input reads as it did. -/
def fnExactCountByMinusSpec : ChangeSpec := { name := "fnExactCountByMinus", fn := fun _ => fun
  | [d] => { results := [.lit (.bool true)], args := [d] }
  | _ => none }
def fnExactCountByMinusRow : OpenClaim := { program := "ytadepmjfhcmkoaa", sum := "65f26d80bfc4095f93a39b8da23e73500337d3b2ee08cf92605cf011f9f1060d", func := "loop.example/g01123/laws.FnExactCountByMinus", spec := "fnExactCountByMinus", unfollowed := true, recurses := true, apart := false }
def FnExactCountByMinusSaid : Prop := fnExactCountByMinusRow.holds Try.pinned (OpenSpec.ofChange fnExactCountByMinusSpec)

/-- ITS FALSE NEIGHBOUR: 'it returns false'. Refute it at one input. -/
def fnExactCountByMinusWrong : ChangeSpec := { name := "fnExactCountByMinus", fn := fun _ => fun
  | [d] => { results := [.lit (.bool false)], args := [d] }
  | _ => none }
def FnExactCountByMinusWrongFalsely : Prop := fnExactCountByMinusRow.holds Try.pinned (OpenSpec.ofChange fnExactCountByMinusWrong)

/-- 'laws.FnExactCountByInversions': WHATEVER THE INPUT: true; the input reads as it did. -/
def fnExactCountByInversionsSpec : ChangeSpec := { name := "fnExactCountByInversions", fn := fun _ => fun
  | [d] => { results := [.lit (.bool true)], args := [d] }
  | _ => none }
def fnExactCountByInversionsRow : OpenClaim := { program := "ytadepmjfhcmkoaa", sum := "65f26d80bfc4095f93a39b8da23e73500337d3b2ee08cf92605cf011f9f1060d", func := "loop.example/g01123/laws.FnExactCountByInversions", spec := "fnExactCountByInversions", unfollowed := true, recurses := true, apart := false }
def FnExactCountByInversionsSaid : Prop := fnExactCountByInversionsRow.holds Try.pinned (OpenSpec.ofChange fnExactCountByInversionsSpec)

/-- ITS FALSE NEIGHBOUR: 'it returns false'. Refute it at one input. -/
def fnExactCountByInversionsWrong : ChangeSpec := { name := "fnExactCountByInversions", fn := fun _ => fun
  | [d] => { results := [.lit (.bool false)], args := [d] }
  | _ => none }
def FnExactCountByInversionsWrongFalsely : Prop := fnExactCountByInversionsRow.holds Try.pinned (OpenSpec.ofChange fnExactCountByInversionsWrong)

/-- 'laws.FnExactCountBetween': WHATEVER THE INPUT: true; the input reads as it did. -/
def fnExactCountBetweenSpec : ChangeSpec := { name := "fnExactCountBetween", fn := fun _ => fun
  | [d1, d2] => { results := [.lit (.bool true)], args := [d1, d2] }
  | _ => none }
def fnExactCountBetweenRow : OpenClaim := { program := "ytadepmjfhcmkoaa", sum := "65f26d80bfc4095f93a39b8da23e73500337d3b2ee08cf92605cf011f9f1060d", func := "loop.example/g01123/laws.FnExactCountBetween", spec := "fnExactCountBetween", unfollowed := true, recurses := true, apart := false }
def FnExactCountBetweenSaid : Prop := fnExactCountBetweenRow.holds Try.pinned (OpenSpec.ofChange fnExactCountBetweenSpec)

/-- ITS FALSE NEIGHBOUR: 'it returns false'. Refute it at one input. -/
def fnExactCountBetweenWrong : ChangeSpec := { name := "fnExactCountBetween", fn := fun _ => fun
  | [d1, d2] => { results := [.lit (.bool false)], args := [d1, d2] }
  | _ => none }
def FnExactCountBetweenWrongFalsely : Prop := fnExactCountBetweenRow.holds Try.pinned (OpenSpec.ofChange fnExactCountBetweenWrong)

/-- 'laws.FnExactCountChains': WHATEVER THE INPUT: true; the input reads as it did. -/
def fnExactCountChainsSpec : ChangeSpec := { name := "fnExactCountChains", fn := fun _ => fun
  | [d] => { results := [.lit (.bool true)], args := [d] }
  | _ => none }
def fnExactCountChainsRow : OpenClaim := { program := "ytadepmjfhcmkoaa", sum := "65f26d80bfc4095f93a39b8da23e73500337d3b2ee08cf92605cf011f9f1060d", func := "loop.example/g01123/laws.FnExactCountChains", spec := "fnExactCountChains", inPlace := ["internal/abi.NoEscape", "internal/bytealg.MakeNoZero"], unfollowed := true, recurses := true, apart := false }
def FnExactCountChainsSaid : Prop := fnExactCountChainsRow.holds Try.pinned (OpenSpec.ofChange fnExactCountChainsSpec)

/-- ITS FALSE NEIGHBOUR: 'it returns false'. Refute it at one input. -/
def fnExactCountChainsWrong : ChangeSpec := { name := "fnExactCountChains", fn := fun _ => fun
  | [d] => { results := [.lit (.bool false)], args := [d] }
  | _ => none }
def FnExactCountChainsWrongFalsely : Prop := fnExactCountChainsRow.holds Try.pinned (OpenSpec.ofChange fnExactCountChainsWrong)

/-- 'laws.FnChains': WHATEVER THE INPUT: true; the input reads as it did. -/
def fnChainsSpec : ChangeSpec := { name := "fnChains", fn := fun _ => fun
  | [d1, d2] => { results := [.lit (.bool true)], args := [d1, d2] }
  | _ => none }
def fnChainsRow : OpenClaim := { program := "ytadepmjfhcmkoaa", sum := "65f26d80bfc4095f93a39b8da23e73500337d3b2ee08cf92605cf011f9f1060d", func := "loop.example/g01123/laws.FnChains", spec := "fnChains", inPlace := ["internal/abi.NoEscape", "internal/bytealg.MakeNoZero"], unfollowed := true, recurses := true, apart := false }
def FnChainsSaid : Prop := fnChainsRow.holds Try.pinned (OpenSpec.ofChange fnChainsSpec)

/-- ITS FALSE NEIGHBOUR: 'it returns false'. Refute it at one input. -/
def fnChainsWrong : ChangeSpec := { name := "fnChains", fn := fun _ => fun
  | [d1, d2] => { results := [.lit (.bool false)], args := [d1, d2] }
  | _ => none }
def FnChainsWrongFalsely : Prop := fnChainsRow.holds Try.pinned (OpenSpec.ofChange fnChainsWrong)

/-- 'laws.FnSignsCounted': WHATEVER THE INPUT: true; the input reads as it did. -/
def fnSignsCountedSpec : ChangeSpec := { name := "fnSignsCounted", fn := fun _ => fun
  | [d1, d2] => { results := [.lit (.bool true)], args := [d1, d2] }
  | _ => none }
def fnSignsCountedRow : OpenClaim := { program := "ytadepmjfhcmkoaa", sum := "65f26d80bfc4095f93a39b8da23e73500337d3b2ee08cf92605cf011f9f1060d", func := "loop.example/g01123/laws.FnSignsCounted", spec := "fnSignsCounted", unfollowed := true, recurses := true, apart := false }
def FnSignsCountedSaid : Prop := fnSignsCountedRow.holds Try.pinned (OpenSpec.ofChange fnSignsCountedSpec)

/-- ITS FALSE NEIGHBOUR: 'it returns false'. Refute it at one input. -/
def fnSignsCountedWrong : ChangeSpec := { name := "fnSignsCounted", fn := fun _ => fun
  | [d1, d2] => { results := [.lit (.bool false)], args := [d1, d2] }
  | _ => none }
def FnSignsCountedWrongFalsely : Prop := fnSignsCountedRow.holds Try.pinned (OpenSpec.ofChange fnSignsCountedWrong)

/- THE SECOND FORM. 'bulk': how many values and letters a reading holds, each counted each time it is reached (what is shared counts as often as it is met; a slice's spare places count too). A statement '..UptoSaid' is the law's where the arguments, and the package variables that the reading takes, are together of bulk at most 1048576: NARROWER than '..Said'. Prove '..Said' where nothing that the law and all that it calls make is longer than what came in: it says more and counts as full. Else prove '..UptoSaid'. A law counts once. -/
mutual
def uptoBulk {H : Type} : DataW H → Nat
  | .lit (.string bytes) => bytes.length + 1
  | .lit _ => 1
  | .nil => 1
  | .ptr d => uptoBulk d + 1
  | .slice elems spare => uptoBulkAll elems + uptoBulkAll spare + 1
  | .agg parts => uptoBulkAll parts + 1
  | .iface _ d => uptoBulk d + 1
  | .map entries => uptoBulkEntries entries + 1
  | .held _ => 1
def uptoBulkAll {H : Type} : List (DataW H) → Nat
  | [] => 0
  | d :: r => uptoBulk d + uptoBulkAll r
def uptoBulkEntries {H : Type} : List (Lit × DataW H) → Nat
  | [] => 0
  | x :: r => uptoBulkEntry x + uptoBulkEntries r
def uptoBulkEntry {H : Type} : Lit × DataW H → Nat
  | (.string bytes, d) => bytes.length + uptoBulk d + 1
  | (_, d) => uptoBulk d + 1
 end
def uptoSmall : (H : Type) → List (DataW H) → Bool := fun _ ds => decide (uptoBulkAll ds ≤ 1048576)
def OpenSpec.upto (s : _root_.Go.ChangeSpec) : _root_.Go.OpenSpec := { _root_.Go.OpenSpec.ofChange s with cond := some uptoSmall }

/-- 'laws.FnExactSignsAt', WHERE WHAT IT READS IS OF BULK AT MOST 1048576: true; the input reads as it did. -/
def fnExactSignsAtUptoRow : OpenClaim := { program := "ytadepmjfhcmkoaa", sum := "65f26d80bfc4095f93a39b8da23e73500337d3b2ee08cf92605cf011f9f1060d", func := "loop.example/g01123/laws.FnExactSignsAt", spec := "fnExactSignsAt", unfollowed := true, recurses := true, apart := false, narrowed := true }
def FnExactSignsAtUptoSaid : Prop := fnExactSignsAtUptoRow.holds Try.pinned (OpenSpec.upto fnExactSignsAtSpec)

/-- 'laws.FnExactNextSigns', WHERE WHAT IT READS IS OF BULK AT MOST 1048576: true; the input reads as it did. -/
def fnExactNextSignsUptoRow : OpenClaim := { program := "ytadepmjfhcmkoaa", sum := "65f26d80bfc4095f93a39b8da23e73500337d3b2ee08cf92605cf011f9f1060d", func := "loop.example/g01123/laws.FnExactNextSigns", spec := "fnExactNextSigns", unfollowed := true, recurses := true, apart := false, narrowed := true }
def FnExactNextSignsUptoSaid : Prop := fnExactNextSignsUptoRow.holds Try.pinned (OpenSpec.upto fnExactNextSignsSpec)

/-- 'laws.FnExactRankSigns', WHERE WHAT IT READS IS OF BULK AT MOST 1048576: true; the input reads as it did. -/
def fnExactRankSignsUptoRow : OpenClaim := { program := "ytadepmjfhcmkoaa", sum := "65f26d80bfc4095f93a39b8da23e73500337d3b2ee08cf92605cf011f9f1060d", func := "loop.example/g01123/laws.FnExactRankSigns", spec := "fnExactRankSigns", unfollowed := true, recurses := true, apart := false, narrowed := true }
def FnExactRankSignsUptoSaid : Prop := fnExactRankSignsUptoRow.holds Try.pinned (OpenSpec.upto fnExactRankSignsSpec)

/-- 'laws.FnExactAllSigns', WHERE WHAT IT READS IS OF BULK AT MOST 1048576: true; the input reads as it did. -/
def fnExactAllSignsUptoRow : OpenClaim := { program := "ytadepmjfhcmkoaa", sum := "65f26d80bfc4095f93a39b8da23e73500337d3b2ee08cf92605cf011f9f1060d", func := "loop.example/g01123/laws.FnExactAllSigns", spec := "fnExactAllSigns", unfollowed := true, recurses := true, apart := false, narrowed := true }
def FnExactAllSignsUptoSaid : Prop := fnExactAllSignsUptoRow.holds Try.pinned (OpenSpec.upto fnExactAllSignsSpec)

/-- 'laws.FnExactCountByFirst', WHERE WHAT IT READS IS OF BULK AT MOST 1048576: true; the input reads as it did. -/
def fnExactCountByFirstUptoRow : OpenClaim := { program := "ytadepmjfhcmkoaa", sum := "65f26d80bfc4095f93a39b8da23e73500337d3b2ee08cf92605cf011f9f1060d", func := "loop.example/g01123/laws.FnExactCountByFirst", spec := "fnExactCountByFirst", unfollowed := true, recurses := true, apart := false, narrowed := true }
def FnExactCountByFirstUptoSaid : Prop := fnExactCountByFirstUptoRow.holds Try.pinned (OpenSpec.upto fnExactCountByFirstSpec)

/-- 'laws.FnExactCountByMinus', WHERE WHAT IT READS IS OF BULK AT MOST 1048576: true; the input reads as it did. -/
def fnExactCountByMinusUptoRow : OpenClaim := { program := "ytadepmjfhcmkoaa", sum := "65f26d80bfc4095f93a39b8da23e73500337d3b2ee08cf92605cf011f9f1060d", func := "loop.example/g01123/laws.FnExactCountByMinus", spec := "fnExactCountByMinus", unfollowed := true, recurses := true, apart := false, narrowed := true }
def FnExactCountByMinusUptoSaid : Prop := fnExactCountByMinusUptoRow.holds Try.pinned (OpenSpec.upto fnExactCountByMinusSpec)

/-- 'laws.FnExactCountByInversions', WHERE WHAT IT READS IS OF BULK AT MOST 1048576: true; the input reads as it did. -/
def fnExactCountByInversionsUptoRow : OpenClaim := { program := "ytadepmjfhcmkoaa", sum := "65f26d80bfc4095f93a39b8da23e73500337d3b2ee08cf92605cf011f9f1060d", func := "loop.example/g01123/laws.FnExactCountByInversions", spec := "fnExactCountByInversions", unfollowed := true, recurses := true, apart := false, narrowed := true }
def FnExactCountByInversionsUptoSaid : Prop := fnExactCountByInversionsUptoRow.holds Try.pinned (OpenSpec.upto fnExactCountByInversionsSpec)

/-- 'laws.FnExactCountBetween', WHERE WHAT IT READS IS OF BULK AT MOST 1048576: true; the input reads as it did. -/
def fnExactCountBetweenUptoRow : OpenClaim := { program := "ytadepmjfhcmkoaa", sum := "65f26d80bfc4095f93a39b8da23e73500337d3b2ee08cf92605cf011f9f1060d", func := "loop.example/g01123/laws.FnExactCountBetween", spec := "fnExactCountBetween", unfollowed := true, recurses := true, apart := false, narrowed := true }
def FnExactCountBetweenUptoSaid : Prop := fnExactCountBetweenUptoRow.holds Try.pinned (OpenSpec.upto fnExactCountBetweenSpec)

/-- 'laws.FnExactCountChains', WHERE WHAT IT READS IS OF BULK AT MOST 1048576: true; the input reads as it did. -/
def fnExactCountChainsUptoRow : OpenClaim := { program := "ytadepmjfhcmkoaa", sum := "65f26d80bfc4095f93a39b8da23e73500337d3b2ee08cf92605cf011f9f1060d", func := "loop.example/g01123/laws.FnExactCountChains", spec := "fnExactCountChains", inPlace := ["internal/abi.NoEscape", "internal/bytealg.MakeNoZero"], unfollowed := true, recurses := true, apart := false, narrowed := true }
def FnExactCountChainsUptoSaid : Prop := fnExactCountChainsUptoRow.holds Try.pinned (OpenSpec.upto fnExactCountChainsSpec)

/-- 'laws.FnChains', WHERE WHAT IT READS IS OF BULK AT MOST 1048576: true; the input reads as it did. -/
def fnChainsUptoRow : OpenClaim := { program := "ytadepmjfhcmkoaa", sum := "65f26d80bfc4095f93a39b8da23e73500337d3b2ee08cf92605cf011f9f1060d", func := "loop.example/g01123/laws.FnChains", spec := "fnChains", inPlace := ["internal/abi.NoEscape", "internal/bytealg.MakeNoZero"], unfollowed := true, recurses := true, apart := false, narrowed := true }
def FnChainsUptoSaid : Prop := fnChainsUptoRow.holds Try.pinned (OpenSpec.upto fnChainsSpec)

/-- 'laws.FnSignsCounted', WHERE WHAT IT READS IS OF BULK AT MOST 1048576: true; the input reads as it did. -/
def fnSignsCountedUptoRow : OpenClaim := { program := "ytadepmjfhcmkoaa", sum := "65f26d80bfc4095f93a39b8da23e73500337d3b2ee08cf92605cf011f9f1060d", func := "loop.example/g01123/laws.FnSignsCounted", spec := "fnSignsCounted", unfollowed := true, recurses := true, apart := false, narrowed := true }
def FnSignsCountedUptoSaid : Prop := fnSignsCountedUptoRow.holds Try.pinned (OpenSpec.upto fnSignsCountedSpec)

end Rows
end Go.Proofs.Ytadepmjfhcmkoaa
