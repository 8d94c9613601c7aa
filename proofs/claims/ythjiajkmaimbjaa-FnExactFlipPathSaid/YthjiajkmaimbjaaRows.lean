/-
  No cell of these rows narrows 'for every input' (looked for: loops, veiled, ifaces, maps, wideKeys, modest, calm, conditions, laid).
  DERIVED. THE GIVEN ROWS OF THIS SEAT. 11 by the template 'for every input the law returns true; each argument reads behind the call as it read before'; 0 by the template 'total and deterministic' (their statements: YthjiajkmaimbjaaTotals.lean).
  GIVEN WITH THE SEED: the statements are not yours to turn. If you find one false, say at which input.
  Laid BY PROGRAM, IN A SANDBOX (cutbox-rows.mjs): the forced cells as the released guide's own fill.sh prints them over the translation f3b93a84db4fc3df… (all of the seat's roots in one cut). By AI agents, Wed Nov 11 2026. No macro, syntax, notation, axiom, sorry.
-/
import Derived.Test.YthjiajkmaimbjaaChecked
import GoSem.Claim
import GoSem.ClaimJoined
import GoSem.ClaimMapViews
import Derived.JoinedTies
import Derived.KernelRfl
namespace Go.Proofs.Ythjiajkmaimbjaa
/- THE CELL 'sum', in the pinned program and in every row, IS THE sha256 OF THE DUMP (.gsa) THAT YthjiajkmaimbjaaProg.lean LOADS. Nothing in Lean hashes anything: it is a label: what it is worth is what the hold of that sum in a sandbox is worth. -/
noncomputable def Try.pinned : Pinned := { name := "ythjiajkmaimbjaa", sum := "f3b93a84db4fc3dfd438c8fa1deb9ec0b5d5e937f788cc6da0d459d3de1492a3", checked := Try.checked }
namespace Rows
def none {H : Type} : Left H := { results := [], args := [] }

/-- 'laws.FnExactRowsAbove': WHATEVER THE INPUT: true; the input reads as it did. -/
def fnExactRowsAboveSpec : ChangeSpec := { name := "fnExactRowsAbove", fn := fun _ => fun
  | [d] => { results := [.lit (.bool true)], args := [d] }
  | _ => none }
def fnExactRowsAboveRow : OpenClaim := { program := "ythjiajkmaimbjaa", sum := "f3b93a84db4fc3dfd438c8fa1deb9ec0b5d5e937f788cc6da0d459d3de1492a3", func := "loop.example/g01123/laws.FnExactRowsAbove", spec := "fnExactRowsAbove", unfollowed := true, recurses := true, apart := false }
def FnExactRowsAboveSaid : Prop := fnExactRowsAboveRow.holds Try.pinned (OpenSpec.ofChange fnExactRowsAboveSpec)

/-- ITS FALSE NEIGHBOUR: 'it returns false'. Refute it at one input. -/
def fnExactRowsAboveWrong : ChangeSpec := { name := "fnExactRowsAbove", fn := fun _ => fun
  | [d] => { results := [.lit (.bool false)], args := [d] }
  | _ => none }
def FnExactRowsAboveWrongFalsely : Prop := fnExactRowsAboveRow.holds Try.pinned (OpenSpec.ofChange fnExactRowsAboveWrong)

/-- 'laws.FnExactFirstUnder': WHATEVER THE INPUT: true; the input reads as it did. -/
def fnExactFirstUnderSpec : ChangeSpec := { name := "fnExactFirstUnder", fn := fun _ => fun
  | [d] => { results := [.lit (.bool true)], args := [d] }
  | _ => none }
def fnExactFirstUnderRow : OpenClaim := { program := "ythjiajkmaimbjaa", sum := "f3b93a84db4fc3dfd438c8fa1deb9ec0b5d5e937f788cc6da0d459d3de1492a3", func := "loop.example/g01123/laws.FnExactFirstUnder", spec := "fnExactFirstUnder", unfollowed := true, recurses := true, apart := false }
def FnExactFirstUnderSaid : Prop := fnExactFirstUnderRow.holds Try.pinned (OpenSpec.ofChange fnExactFirstUnderSpec)

/-- ITS FALSE NEIGHBOUR: 'it returns false'. Refute it at one input. -/
def fnExactFirstUnderWrong : ChangeSpec := { name := "fnExactFirstUnder", fn := fun _ => fun
  | [d] => { results := [.lit (.bool false)], args := [d] }
  | _ => none }
def FnExactFirstUnderWrongFalsely : Prop := fnExactFirstUnderRow.holds Try.pinned (OpenSpec.ofChange fnExactFirstUnderWrong)

/-- 'laws.FnExactCountUnder': WHATEVER THE INPUT: true; the input reads as it did. -/
def fnExactCountUnderSpec : ChangeSpec := { name := "fnExactCountUnder", fn := fun _ => fun
  | [d] => { results := [.lit (.bool true)], args := [d] }
  | _ => none }
def fnExactCountUnderRow : OpenClaim := { program := "ythjiajkmaimbjaa", sum := "f3b93a84db4fc3dfd438c8fa1deb9ec0b5d5e937f788cc6da0d459d3de1492a3", func := "loop.example/g01123/laws.FnExactCountUnder", spec := "fnExactCountUnder", unfollowed := true, recurses := true, apart := false }
def FnExactCountUnderSaid : Prop := fnExactCountUnderRow.holds Try.pinned (OpenSpec.ofChange fnExactCountUnderSpec)

/-- ITS FALSE NEIGHBOUR: 'it returns false'. Refute it at one input. -/
def fnExactCountUnderWrong : ChangeSpec := { name := "fnExactCountUnder", fn := fun _ => fun
  | [d] => { results := [.lit (.bool false)], args := [d] }
  | _ => none }
def FnExactCountUnderWrongFalsely : Prop := fnExactCountUnderRow.holds Try.pinned (OpenSpec.ofChange fnExactCountUnderWrong)

/-- 'laws.FnExactCountPatterns': WHATEVER THE INPUT: true; the input reads as it did. -/
def fnExactCountPatternsSpec : ChangeSpec := { name := "fnExactCountPatterns", fn := fun _ => fun
  | [d] => { results := [.lit (.bool true)], args := [d] }
  | _ => none }
def fnExactCountPatternsRow : OpenClaim := { program := "ythjiajkmaimbjaa", sum := "f3b93a84db4fc3dfd438c8fa1deb9ec0b5d5e937f788cc6da0d459d3de1492a3", func := "loop.example/g01123/laws.FnExactCountPatterns", spec := "fnExactCountPatterns", unfollowed := true, recurses := true, apart := false }
def FnExactCountPatternsSaid : Prop := fnExactCountPatternsRow.holds Try.pinned (OpenSpec.ofChange fnExactCountPatternsSpec)

/-- ITS FALSE NEIGHBOUR: 'it returns false'. Refute it at one input. -/
def fnExactCountPatternsWrong : ChangeSpec := { name := "fnExactCountPatterns", fn := fun _ => fun
  | [d] => { results := [.lit (.bool false)], args := [d] }
  | _ => none }
def FnExactCountPatternsWrongFalsely : Prop := fnExactCountPatternsRow.holds Try.pinned (OpenSpec.ofChange fnExactCountPatternsWrong)

/-- 'laws.FnExactFromTriangle': WHATEVER THE INPUT: true; the input reads as it did. -/
def fnExactFromTriangleSpec : ChangeSpec := { name := "fnExactFromTriangle", fn := fun _ => fun
  | [d] => { results := [.lit (.bool true)], args := [d] }
  | _ => none }
def fnExactFromTriangleRow : OpenClaim := { program := "ythjiajkmaimbjaa", sum := "f3b93a84db4fc3dfd438c8fa1deb9ec0b5d5e937f788cc6da0d459d3de1492a3", func := "loop.example/g01123/laws.FnExactFromTriangle", spec := "fnExactFromTriangle", unfollowed := true, recurses := true, apart := false }
def FnExactFromTriangleSaid : Prop := fnExactFromTriangleRow.holds Try.pinned (OpenSpec.ofChange fnExactFromTriangleSpec)

/-- ITS FALSE NEIGHBOUR: 'it returns false'. Refute it at one input. -/
def fnExactFromTriangleWrong : ChangeSpec := { name := "fnExactFromTriangle", fn := fun _ => fun
  | [d] => { results := [.lit (.bool false)], args := [d] }
  | _ => none }
def FnExactFromTriangleWrongFalsely : Prop := fnExactFromTriangleRow.holds Try.pinned (OpenSpec.ofChange fnExactFromTriangleWrong)

/-- 'laws.FnExactTriangleOf': WHATEVER THE INPUT: true; the input reads as it did. -/
def fnExactTriangleOfSpec : ChangeSpec := { name := "fnExactTriangleOf", fn := fun _ => fun
  | [d] => { results := [.lit (.bool true)], args := [d] }
  | _ => none }
def fnExactTriangleOfRow : OpenClaim := { program := "ythjiajkmaimbjaa", sum := "f3b93a84db4fc3dfd438c8fa1deb9ec0b5d5e937f788cc6da0d459d3de1492a3", func := "loop.example/g01123/laws.FnExactTriangleOf", spec := "fnExactTriangleOf", unfollowed := true, recurses := true, apart := false }
def FnExactTriangleOfSaid : Prop := fnExactTriangleOfRow.holds Try.pinned (OpenSpec.ofChange fnExactTriangleOfSpec)

/-- ITS FALSE NEIGHBOUR: 'it returns false'. Refute it at one input. -/
def fnExactTriangleOfWrong : ChangeSpec := { name := "fnExactTriangleOf", fn := fun _ => fun
  | [d] => { results := [.lit (.bool false)], args := [d] }
  | _ => none }
def FnExactTriangleOfWrongFalsely : Prop := fnExactTriangleOfRow.holds Try.pinned (OpenSpec.ofChange fnExactTriangleOfWrong)

/-- 'laws.FnExactStackMatrices': WHATEVER THE INPUT: true; the input reads as it did. -/
def fnExactStackMatricesSpec : ChangeSpec := { name := "fnExactStackMatrices", fn := fun _ => fun
  | [d1, d2] => { results := [.lit (.bool true)], args := [d1, d2] }
  | _ => none }
def fnExactStackMatricesRow : OpenClaim := { program := "ythjiajkmaimbjaa", sum := "f3b93a84db4fc3dfd438c8fa1deb9ec0b5d5e937f788cc6da0d459d3de1492a3", func := "loop.example/g01123/laws.FnExactStackMatrices", spec := "fnExactStackMatrices", unfollowed := true, recurses := true, apart := false }
def FnExactStackMatricesSaid : Prop := fnExactStackMatricesRow.holds Try.pinned (OpenSpec.ofChange fnExactStackMatricesSpec)

/-- ITS FALSE NEIGHBOUR: 'it returns false'. Refute it at one input. -/
def fnExactStackMatricesWrong : ChangeSpec := { name := "fnExactStackMatrices", fn := fun _ => fun
  | [d1, d2] => { results := [.lit (.bool false)], args := [d1, d2] }
  | _ => none }
def FnExactStackMatricesWrongFalsely : Prop := fnExactStackMatricesRow.holds Try.pinned (OpenSpec.ofChange fnExactStackMatricesWrong)

/-- 'laws.FnExactSignText': WHATEVER THE INPUT: true; the input reads as it did. -/
def fnExactSignTextSpec : ChangeSpec := { name := "fnExactSignText", fn := fun _ => fun
  | [d] => { results := [.lit (.bool true)], args := [d] }
  | _ => none }
def fnExactSignTextRow : OpenClaim := { program := "ythjiajkmaimbjaa", sum := "f3b93a84db4fc3dfd438c8fa1deb9ec0b5d5e937f788cc6da0d459d3de1492a3", func := "loop.example/g01123/laws.FnExactSignText", spec := "fnExactSignText", inPlace := ["internal/abi.NoEscape", "internal/bytealg.MakeNoZero"], unfollowed := true, recurses := true, apart := false }
def FnExactSignTextSaid : Prop := fnExactSignTextRow.holds Try.pinned (OpenSpec.ofChange fnExactSignTextSpec)

/-- ITS FALSE NEIGHBOUR: 'it returns false'. Refute it at one input. -/
def fnExactSignTextWrong : ChangeSpec := { name := "fnExactSignText", fn := fun _ => fun
  | [d] => { results := [.lit (.bool false)], args := [d] }
  | _ => none }
def FnExactSignTextWrongFalsely : Prop := fnExactSignTextRow.holds Try.pinned (OpenSpec.ofChange fnExactSignTextWrong)

/-- 'laws.FnExactLeastOfTurns': WHATEVER THE INPUT: true; the input reads as it did. -/
def fnExactLeastOfTurnsSpec : ChangeSpec := { name := "fnExactLeastOfTurns", fn := fun _ => fun
  | [d] => { results := [.lit (.bool true)], args := [d] }
  | _ => none }
def fnExactLeastOfTurnsRow : OpenClaim := { program := "ythjiajkmaimbjaa", sum := "f3b93a84db4fc3dfd438c8fa1deb9ec0b5d5e937f788cc6da0d459d3de1492a3", func := "loop.example/g01123/laws.FnExactLeastOfTurns", spec := "fnExactLeastOfTurns", unfollowed := true, recurses := true, apart := false }
def FnExactLeastOfTurnsSaid : Prop := fnExactLeastOfTurnsRow.holds Try.pinned (OpenSpec.ofChange fnExactLeastOfTurnsSpec)

/-- ITS FALSE NEIGHBOUR: 'it returns false'. Refute it at one input. -/
def fnExactLeastOfTurnsWrong : ChangeSpec := { name := "fnExactLeastOfTurns", fn := fun _ => fun
  | [d] => { results := [.lit (.bool false)], args := [d] }
  | _ => none }
def FnExactLeastOfTurnsWrongFalsely : Prop := fnExactLeastOfTurnsRow.holds Try.pinned (OpenSpec.ofChange fnExactLeastOfTurnsWrong)

/-- 'laws.FnExactFromPlacing': WHATEVER THE INPUT: true; the input reads as it did. -/
def fnExactFromPlacingSpec : ChangeSpec := { name := "fnExactFromPlacing", fn := fun _ => fun
  | [d] => { results := [.lit (.bool true)], args := [d] }
  | _ => none }
def fnExactFromPlacingRow : OpenClaim := { program := "ythjiajkmaimbjaa", sum := "f3b93a84db4fc3dfd438c8fa1deb9ec0b5d5e937f788cc6da0d459d3de1492a3", func := "loop.example/g01123/laws.FnExactFromPlacing", spec := "fnExactFromPlacing", unfollowed := true, recurses := true, apart := false }
def FnExactFromPlacingSaid : Prop := fnExactFromPlacingRow.holds Try.pinned (OpenSpec.ofChange fnExactFromPlacingSpec)

/-- ITS FALSE NEIGHBOUR: 'it returns false'. Refute it at one input. -/
def fnExactFromPlacingWrong : ChangeSpec := { name := "fnExactFromPlacing", fn := fun _ => fun
  | [d] => { results := [.lit (.bool false)], args := [d] }
  | _ => none }
def FnExactFromPlacingWrongFalsely : Prop := fnExactFromPlacingRow.holds Try.pinned (OpenSpec.ofChange fnExactFromPlacingWrong)

/-- 'laws.FnExactFlipPath': WHATEVER THE INPUT: true; the input reads as it did. -/
def fnExactFlipPathSpec : ChangeSpec := { name := "fnExactFlipPath", fn := fun _ => fun
  | [d1, d2] => { results := [.lit (.bool true)], args := [d1, d2] }
  | _ => none }
def fnExactFlipPathRow : OpenClaim := { program := "ythjiajkmaimbjaa", sum := "f3b93a84db4fc3dfd438c8fa1deb9ec0b5d5e937f788cc6da0d459d3de1492a3", func := "loop.example/g01123/laws.FnExactFlipPath", spec := "fnExactFlipPath", unfollowed := true, recurses := true, apart := false }
def FnExactFlipPathSaid : Prop := fnExactFlipPathRow.holds Try.pinned (OpenSpec.ofChange fnExactFlipPathSpec)

/-- ITS FALSE NEIGHBOUR: 'it returns false'. Refute it at one input. -/
def fnExactFlipPathWrong : ChangeSpec := { name := "fnExactFlipPath", fn := fun _ => fun
  | [d1, d2] => { results := [.lit (.bool false)], args := [d1, d2] }
  | _ => none }
def FnExactFlipPathWrongFalsely : Prop := fnExactFlipPathRow.holds Try.pinned (OpenSpec.ofChange fnExactFlipPathWrong)

/- THE SECOND FORM. 'bulk': how many values and letters a reading holds, each counted each time it is reached (what is shared counts as often as it is met; a slice's spare places count too). A statement '..UptoSaid' is the law's where the arguments, and the package variables that the reading takes, are together of bulk at most 1048576: NARROWER than '..Said'. Prove '..Said' where nothing that the law and all that it calls make is longer than what came in: it says more and counts as full. Else prove '..UptoSaid'. A law counts once. -/
mutual
def uptoBulk {H : Type} : DataW H → Nat
  | .lit (.string bytes) => bytes.length + 1
  | .lit _ => 1
  | .nil => 1
  | .ptr d => uptoBulk d + 1
  | .slice elems spare => uptoBulkAll elems + uptoBulkAll spare + 1
  | .agg parts => uptoBulkAll parts + 1
  | .iface _ d => uptoBulk d + 1
  | .map entries => uptoBulkEntries entries + 1
  | .held _ => 1
def uptoBulkAll {H : Type} : List (DataW H) → Nat
  | [] => 0
  | d :: r => uptoBulk d + uptoBulkAll r
def uptoBulkEntries {H : Type} : List (Lit × DataW H) → Nat
  | [] => 0
  | x :: r => uptoBulkEntry x + uptoBulkEntries r
def uptoBulkEntry {H : Type} : Lit × DataW H → Nat
  | (.string bytes, d) => bytes.length + uptoBulk d + 1
  | (_, d) => uptoBulk d + 1
 end
def uptoSmall : (H : Type) → List (DataW H) → Bool := fun _ ds => decide (uptoBulkAll ds ≤ 1048576)
def OpenSpec.upto (s : _root_.Go.ChangeSpec) : _root_.Go.OpenSpec := { _root_.Go.OpenSpec.ofChange s with cond := some uptoSmall }

/-- 'laws.FnExactRowsAbove', WHERE WHAT IT READS IS OF BULK AT MOST 1048576: true; the input reads as it did. -/
def fnExactRowsAboveUptoRow : OpenClaim := { program := "ythjiajkmaimbjaa", sum := "f3b93a84db4fc3dfd438c8fa1deb9ec0b5d5e937f788cc6da0d459d3de1492a3", func := "loop.example/g01123/laws.FnExactRowsAbove", spec := "fnExactRowsAbove", unfollowed := true, recurses := true, apart := false, narrowed := true }
def FnExactRowsAboveUptoSaid : Prop := fnExactRowsAboveUptoRow.holds Try.pinned (OpenSpec.upto fnExactRowsAboveSpec)

/-- 'laws.FnExactFirstUnder', WHERE WHAT IT READS IS OF BULK AT MOST 1048576: true; the input reads as it did. -/
def fnExactFirstUnderUptoRow : OpenClaim := { program := "ythjiajkmaimbjaa", sum := "f3b93a84db4fc3dfd438c8fa1deb9ec0b5d5e937f788cc6da0d459d3de1492a3", func := "loop.example/g01123/laws.FnExactFirstUnder", spec := "fnExactFirstUnder", unfollowed := true, recurses := true, apart := false, narrowed := true }
def FnExactFirstUnderUptoSaid : Prop := fnExactFirstUnderUptoRow.holds Try.pinned (OpenSpec.upto fnExactFirstUnderSpec)

/-- 'laws.FnExactCountUnder', WHERE WHAT IT READS IS OF BULK AT MOST 1048576: true; the input reads as it did. -/
def fnExactCountUnderUptoRow : OpenClaim := { program := "ythjiajkmaimbjaa", sum := "f3b93a84db4fc3dfd438c8fa1deb9ec0b5d5e937f788cc6da0d459d3de1492a3", func := "loop.example/g01123/laws.FnExactCountUnder", spec := "fnExactCountUnder", unfollowed := true, recurses := true, apart := false, narrowed := true }
def FnExactCountUnderUptoSaid : Prop := fnExactCountUnderUptoRow.holds Try.pinned (OpenSpec.upto fnExactCountUnderSpec)

/-- 'laws.FnExactCountPatterns', WHERE WHAT IT READS IS OF BULK AT MOST 1048576: true; the input reads as it did. -/
def fnExactCountPatternsUptoRow : OpenClaim := { program := "ythjiajkmaimbjaa", sum := "f3b93a84db4fc3dfd438c8fa1deb9ec0b5d5e937f788cc6da0d459d3de1492a3", func := "loop.example/g01123/laws.FnExactCountPatterns", spec := "fnExactCountPatterns", unfollowed := true, recurses := true, apart := false, narrowed := true }
def FnExactCountPatternsUptoSaid : Prop := fnExactCountPatternsUptoRow.holds Try.pinned (OpenSpec.upto fnExactCountPatternsSpec)

/-- 'laws.FnExactFromTriangle', WHERE WHAT IT READS IS OF BULK AT MOST 1048576: true; the input reads as it did. -/
def fnExactFromTriangleUptoRow : OpenClaim := { program := "ythjiajkmaimbjaa", sum := "f3b93a84db4fc3dfd438c8fa1deb9ec0b5d5e937f788cc6da0d459d3de1492a3", func := "loop.example/g01123/laws.FnExactFromTriangle", spec := "fnExactFromTriangle", unfollowed := true, recurses := true, apart := false, narrowed := true }
def FnExactFromTriangleUptoSaid : Prop := fnExactFromTriangleUptoRow.holds Try.pinned (OpenSpec.upto fnExactFromTriangleSpec)

/-- 'laws.FnExactTriangleOf', WHERE WHAT IT READS IS OF BULK AT MOST 1048576: true; the input reads as it did. -/
def fnExactTriangleOfUptoRow : OpenClaim := { program := "ythjiajkmaimbjaa", sum := "f3b93a84db4fc3dfd438c8fa1deb9ec0b5d5e937f788cc6da0d459d3de1492a3", func := "loop.example/g01123/laws.FnExactTriangleOf", spec := "fnExactTriangleOf", unfollowed := true, recurses := true, apart := false, narrowed := true }
def FnExactTriangleOfUptoSaid : Prop := fnExactTriangleOfUptoRow.holds Try.pinned (OpenSpec.upto fnExactTriangleOfSpec)

/-- 'laws.FnExactStackMatrices', WHERE WHAT IT READS IS OF BULK AT MOST 1048576: true; the input reads as it did. -/
def fnExactStackMatricesUptoRow : OpenClaim := { program := "ythjiajkmaimbjaa", sum := "f3b93a84db4fc3dfd438c8fa1deb9ec0b5d5e937f788cc6da0d459d3de1492a3", func := "loop.example/g01123/laws.FnExactStackMatrices", spec := "fnExactStackMatrices", unfollowed := true, recurses := true, apart := false, narrowed := true }
def FnExactStackMatricesUptoSaid : Prop := fnExactStackMatricesUptoRow.holds Try.pinned (OpenSpec.upto fnExactStackMatricesSpec)

/-- 'laws.FnExactSignText', WHERE WHAT IT READS IS OF BULK AT MOST 1048576: true; the input reads as it did. -/
def fnExactSignTextUptoRow : OpenClaim := { program := "ythjiajkmaimbjaa", sum := "f3b93a84db4fc3dfd438c8fa1deb9ec0b5d5e937f788cc6da0d459d3de1492a3", func := "loop.example/g01123/laws.FnExactSignText", spec := "fnExactSignText", inPlace := ["internal/abi.NoEscape", "internal/bytealg.MakeNoZero"], unfollowed := true, recurses := true, apart := false, narrowed := true }
def FnExactSignTextUptoSaid : Prop := fnExactSignTextUptoRow.holds Try.pinned (OpenSpec.upto fnExactSignTextSpec)

/-- 'laws.FnExactLeastOfTurns', WHERE WHAT IT READS IS OF BULK AT MOST 1048576: true; the input reads as it did. -/
def fnExactLeastOfTurnsUptoRow : OpenClaim := { program := "ythjiajkmaimbjaa", sum := "f3b93a84db4fc3dfd438c8fa1deb9ec0b5d5e937f788cc6da0d459d3de1492a3", func := "loop.example/g01123/laws.FnExactLeastOfTurns", spec := "fnExactLeastOfTurns", unfollowed := true, recurses := true, apart := false, narrowed := true }
def FnExactLeastOfTurnsUptoSaid : Prop := fnExactLeastOfTurnsUptoRow.holds Try.pinned (OpenSpec.upto fnExactLeastOfTurnsSpec)

/-- 'laws.FnExactFromPlacing', WHERE WHAT IT READS IS OF BULK AT MOST 1048576: true; the input reads as it did. -/
def fnExactFromPlacingUptoRow : OpenClaim := { program := "ythjiajkmaimbjaa", sum := "f3b93a84db4fc3dfd438c8fa1deb9ec0b5d5e937f788cc6da0d459d3de1492a3", func := "loop.example/g01123/laws.FnExactFromPlacing", spec := "fnExactFromPlacing", unfollowed := true, recurses := true, apart := false, narrowed := true }
def FnExactFromPlacingUptoSaid : Prop := fnExactFromPlacingUptoRow.holds Try.pinned (OpenSpec.upto fnExactFromPlacingSpec)

/-- 'laws.FnExactFlipPath', WHERE WHAT IT READS IS OF BULK AT MOST 1048576: true; the input reads as it did. -/
def fnExactFlipPathUptoRow : OpenClaim := { program := "ythjiajkmaimbjaa", sum := "f3b93a84db4fc3dfd438c8fa1deb9ec0b5d5e937f788cc6da0d459d3de1492a3", func := "loop.example/g01123/laws.FnExactFlipPath", spec := "fnExactFlipPath", unfollowed := true, recurses := true, apart := false, narrowed := true }
def FnExactFlipPathUptoSaid : Prop := fnExactFlipPathUptoRow.holds Try.pinned (OpenSpec.upto fnExactFlipPathSpec)

end Rows
end Go.Proofs.Ythjiajkmaimbjaa
