/-
  No cell of these rows narrows 'for every input' (looked for: loops, veiled, ifaces, maps, wideKeys, modest, calm, conditions, laid).
  DERIVED. THE GIVEN ROWS OF THIS SEAT. 12 by the template 'for every input the law returns true; each argument reads behind the call as it read before'; 0 by the template 'total and deterministic' (their statements: YtbfgcpjkagbmdaaTotals.lean).
  GIVEN WITH THE SEED: the statements are not yours to turn. If you find one false, say at which input.
  Laid BY PROGRAM, IN A SANDBOX (cutbox-rows.mjs): the forced cells as the released guide's own fill.sh prints them over the translation ceb0950bc2928a74… (all of the seat's roots in one cut). By AI agents, Wed Nov 11 2026. No macro, syntax, notation, axiom, sorry.
-/
import Derived.Test.YtbfgcpjkagbmdaaChecked
import GoSem.Claim
import GoSem.ClaimJoined
import GoSem.ClaimMapViews
import Derived.JoinedTies
import Derived.KernelRfl
namespace Go.Proofs.Ytbfgcpjkagbmdaa
/- THE CELL 'sum', in the pinned program and in every row, IS THE sha256 OF THE DUMP (.gsa) THAT YtbfgcpjkagbmdaaProg.lean LOADS. Nothing in Lean hashes anything: it is a label: what it is worth is what the hold of that sum in a sandbox is worth. -/
noncomputable def Try.pinned : Pinned := { name := "ytbfgcpjkagbmdaa", sum := "ceb0950bc2928a74f19a69708d994d4a898057bbd74a1804de69a2e308fdcdde", checked := Try.checked }
namespace Rows
def none {H : Type} : Left H := { results := [], args := [] }

/-- 'laws.FnExactConstants': WHATEVER THE INPUT: true; the input reads as it did. -/
def fnExactConstantsSpec : ChangeSpec := { name := "fnExactConstants", fn := fun _ => fun
  | [] => { results := [.lit (.bool true)], args := [] }
  | _ => none }
def fnExactConstantsRow : OpenClaim := { program := "ytbfgcpjkagbmdaa", sum := "ceb0950bc2928a74f19a69708d994d4a898057bbd74a1804de69a2e308fdcdde", func := "loop.example/g01123/laws.FnExactConstants", spec := "fnExactConstants", apart := false }
def FnExactConstantsSaid : Prop := fnExactConstantsRow.holds Try.pinned (OpenSpec.ofChange fnExactConstantsSpec)

/-- ITS FALSE NEIGHBOUR: 'it returns false'. Refute it at one input. -/
def fnExactConstantsWrong : ChangeSpec := { name := "fnExactConstants", fn := fun _ => fun
  | [] => { results := [.lit (.bool false)], args := [] }
  | _ => none }
def FnExactConstantsWrongFalsely : Prop := fnExactConstantsRow.holds Try.pinned (OpenSpec.ofChange fnExactConstantsWrong)

/-- 'laws.FnExactCountSigns': WHATEVER THE INPUT: true; the input reads as it did. -/
def fnExactCountSignsSpec : ChangeSpec := { name := "fnExactCountSigns", fn := fun _ => fun
  | [d] => { results := [.lit (.bool true)], args := [d] }
  | _ => none }
def fnExactCountSignsRow : OpenClaim := { program := "ytbfgcpjkagbmdaa", sum := "ceb0950bc2928a74f19a69708d994d4a898057bbd74a1804de69a2e308fdcdde", func := "loop.example/g01123/laws.FnExactCountSigns", spec := "fnExactCountSigns", recurses := true, apart := false }
def FnExactCountSignsSaid : Prop := fnExactCountSignsRow.holds Try.pinned (OpenSpec.ofChange fnExactCountSignsSpec)

/-- ITS FALSE NEIGHBOUR: 'it returns false'. Refute it at one input. -/
def fnExactCountSignsWrong : ChangeSpec := { name := "fnExactCountSigns", fn := fun _ => fun
  | [d] => { results := [.lit (.bool false)], args := [d] }
  | _ => none }
def FnExactCountSignsWrongFalsely : Prop := fnExactCountSignsRow.holds Try.pinned (OpenSpec.ofChange fnExactCountSignsWrong)

/-- 'laws.FnExactIsPattern': WHATEVER THE INPUT: true; the input reads as it did. -/
def fnExactIsPatternSpec : ChangeSpec := { name := "fnExactIsPattern", fn := fun _ => fun
  | [d] => { results := [.lit (.bool true)], args := [d] }
  | _ => none }
def fnExactIsPatternRow : OpenClaim := { program := "ytbfgcpjkagbmdaa", sum := "ceb0950bc2928a74f19a69708d994d4a898057bbd74a1804de69a2e308fdcdde", func := "loop.example/g01123/laws.FnExactIsPattern", spec := "fnExactIsPattern", unfollowed := true, recurses := true, apart := false }
def FnExactIsPatternSaid : Prop := fnExactIsPatternRow.holds Try.pinned (OpenSpec.ofChange fnExactIsPatternSpec)

/-- ITS FALSE NEIGHBOUR: 'it returns false'. Refute it at one input. -/
def fnExactIsPatternWrong : ChangeSpec := { name := "fnExactIsPattern", fn := fun _ => fun
  | [d] => { results := [.lit (.bool false)], args := [d] }
  | _ => none }
def FnExactIsPatternWrongFalsely : Prop := fnExactIsPatternRow.holds Try.pinned (OpenSpec.ofChange fnExactIsPatternWrong)

/-- 'laws.FnExactLeastSigns': WHATEVER THE INPUT: true; the input reads as it did. -/
def fnExactLeastSignsSpec : ChangeSpec := { name := "fnExactLeastSigns", fn := fun _ => fun
  | [d] => { results := [.lit (.bool true)], args := [d] }
  | _ => none }
def fnExactLeastSignsRow : OpenClaim := { program := "ytbfgcpjkagbmdaa", sum := "ceb0950bc2928a74f19a69708d994d4a898057bbd74a1804de69a2e308fdcdde", func := "loop.example/g01123/laws.FnExactLeastSigns", spec := "fnExactLeastSigns", unfollowed := true, recurses := true, apart := false }
def FnExactLeastSignsSaid : Prop := fnExactLeastSignsRow.holds Try.pinned (OpenSpec.ofChange fnExactLeastSignsSpec)

/-- ITS FALSE NEIGHBOUR: 'it returns false'. Refute it at one input. -/
def fnExactLeastSignsWrong : ChangeSpec := { name := "fnExactLeastSigns", fn := fun _ => fun
  | [d] => { results := [.lit (.bool false)], args := [d] }
  | _ => none }
def FnExactLeastSignsWrongFalsely : Prop := fnExactLeastSignsRow.holds Try.pinned (OpenSpec.ofChange fnExactLeastSignsWrong)

/-- 'laws.FnExactMirrorPattern': WHATEVER THE INPUT: true; the input reads as it did. -/
def fnExactMirrorPatternSpec : ChangeSpec := { name := "fnExactMirrorPattern", fn := fun _ => fun
  | [d] => { results := [.lit (.bool true)], args := [d] }
  | _ => none }
def fnExactMirrorPatternRow : OpenClaim := { program := "ytbfgcpjkagbmdaa", sum := "ceb0950bc2928a74f19a69708d994d4a898057bbd74a1804de69a2e308fdcdde", func := "loop.example/g01123/laws.FnExactMirrorPattern", spec := "fnExactMirrorPattern", unfollowed := true, recurses := true, apart := false }
def FnExactMirrorPatternSaid : Prop := fnExactMirrorPatternRow.holds Try.pinned (OpenSpec.ofChange fnExactMirrorPatternSpec)

/-- ITS FALSE NEIGHBOUR: 'it returns false'. Refute it at one input. -/
def fnExactMirrorPatternWrong : ChangeSpec := { name := "fnExactMirrorPattern", fn := fun _ => fun
  | [d] => { results := [.lit (.bool false)], args := [d] }
  | _ => none }
def FnExactMirrorPatternWrongFalsely : Prop := fnExactMirrorPatternRow.holds Try.pinned (OpenSpec.ofChange fnExactMirrorPatternWrong)

/-- 'laws.FnExactPatternText': WHATEVER THE INPUT: true; the input reads as it did. -/
def fnExactPatternTextSpec : ChangeSpec := { name := "fnExactPatternText", fn := fun _ => fun
  | [d] => { results := [.lit (.bool true)], args := [d] }
  | _ => none }
def fnExactPatternTextRow : OpenClaim := { program := "ytbfgcpjkagbmdaa", sum := "ceb0950bc2928a74f19a69708d994d4a898057bbd74a1804de69a2e308fdcdde", func := "loop.example/g01123/laws.FnExactPatternText", spec := "fnExactPatternText", unfollowed := true, recurses := true, apart := false }
def FnExactPatternTextSaid : Prop := fnExactPatternTextRow.holds Try.pinned (OpenSpec.ofChange fnExactPatternTextSpec)

/-- ITS FALSE NEIGHBOUR: 'it returns false'. Refute it at one input. -/
def fnExactPatternTextWrong : ChangeSpec := { name := "fnExactPatternText", fn := fun _ => fun
  | [d] => { results := [.lit (.bool false)], args := [d] }
  | _ => none }
def FnExactPatternTextWrongFalsely : Prop := fnExactPatternTextRow.holds Try.pinned (OpenSpec.ofChange fnExactPatternTextWrong)

/-- 'laws.FnExactEndsOf': WHATEVER THE INPUT: true; the input reads as it did. -/
def fnExactEndsOfSpec : ChangeSpec := { name := "fnExactEndsOf", fn := fun _ => fun
  | [d] => { results := [.lit (.bool true)], args := [d] }
  | _ => none }
def fnExactEndsOfRow : OpenClaim := { program := "ytbfgcpjkagbmdaa", sum := "ceb0950bc2928a74f19a69708d994d4a898057bbd74a1804de69a2e308fdcdde", func := "loop.example/g01123/laws.FnExactEndsOf", spec := "fnExactEndsOf", apart := false }
def FnExactEndsOfSaid : Prop := fnExactEndsOfRow.holds Try.pinned (OpenSpec.ofChange fnExactEndsOfSpec)

/-- ITS FALSE NEIGHBOUR: 'it returns false'. Refute it at one input. -/
def fnExactEndsOfWrong : ChangeSpec := { name := "fnExactEndsOf", fn := fun _ => fun
  | [d] => { results := [.lit (.bool false)], args := [d] }
  | _ => none }
def FnExactEndsOfWrongFalsely : Prop := fnExactEndsOfRow.holds Try.pinned (OpenSpec.ofChange fnExactEndsOfWrong)

/-- 'laws.FnExactGreatestSigns': WHATEVER THE INPUT: true; the input reads as it did. -/
def fnExactGreatestSignsSpec : ChangeSpec := { name := "fnExactGreatestSigns", fn := fun _ => fun
  | [d] => { results := [.lit (.bool true)], args := [d] }
  | _ => none }
def fnExactGreatestSignsRow : OpenClaim := { program := "ytbfgcpjkagbmdaa", sum := "ceb0950bc2928a74f19a69708d994d4a898057bbd74a1804de69a2e308fdcdde", func := "loop.example/g01123/laws.FnExactGreatestSigns", spec := "fnExactGreatestSigns", unfollowed := true, recurses := true, apart := false }
def FnExactGreatestSignsSaid : Prop := fnExactGreatestSignsRow.holds Try.pinned (OpenSpec.ofChange fnExactGreatestSignsSpec)

/-- ITS FALSE NEIGHBOUR: 'it returns false'. Refute it at one input. -/
def fnExactGreatestSignsWrong : ChangeSpec := { name := "fnExactGreatestSigns", fn := fun _ => fun
  | [d] => { results := [.lit (.bool false)], args := [d] }
  | _ => none }
def FnExactGreatestSignsWrongFalsely : Prop := fnExactGreatestSignsRow.holds Try.pinned (OpenSpec.ofChange fnExactGreatestSignsWrong)

/-- 'laws.FnExactTurnPattern': WHATEVER THE INPUT: true; the input reads as it did. -/
def fnExactTurnPatternSpec : ChangeSpec := { name := "fnExactTurnPattern", fn := fun _ => fun
  | [d1, d2] => { results := [.lit (.bool true)], args := [d1, d2] }
  | _ => none }
def fnExactTurnPatternRow : OpenClaim := { program := "ytbfgcpjkagbmdaa", sum := "ceb0950bc2928a74f19a69708d994d4a898057bbd74a1804de69a2e308fdcdde", func := "loop.example/g01123/laws.FnExactTurnPattern", spec := "fnExactTurnPattern", unfollowed := true, recurses := true, apart := false }
def FnExactTurnPatternSaid : Prop := fnExactTurnPatternRow.holds Try.pinned (OpenSpec.ofChange fnExactTurnPatternSpec)

/-- ITS FALSE NEIGHBOUR: 'it returns false'. Refute it at one input. -/
def fnExactTurnPatternWrong : ChangeSpec := { name := "fnExactTurnPattern", fn := fun _ => fun
  | [d1, d2] => { results := [.lit (.bool false)], args := [d1, d2] }
  | _ => none }
def FnExactTurnPatternWrongFalsely : Prop := fnExactTurnPatternRow.holds Try.pinned (OpenSpec.ofChange fnExactTurnPatternWrong)

/-- 'laws.FnExactIsTriangle': WHATEVER THE INPUT: true; the input reads as it did. -/
def fnExactIsTriangleSpec : ChangeSpec := { name := "fnExactIsTriangle", fn := fun _ => fun
  | [d] => { results := [.lit (.bool true)], args := [d] }
  | _ => none }
def fnExactIsTriangleRow : OpenClaim := { program := "ytbfgcpjkagbmdaa", sum := "ceb0950bc2928a74f19a69708d994d4a898057bbd74a1804de69a2e308fdcdde", func := "loop.example/g01123/laws.FnExactIsTriangle", spec := "fnExactIsTriangle", unfollowed := true, recurses := true, apart := false }
def FnExactIsTriangleSaid : Prop := fnExactIsTriangleRow.holds Try.pinned (OpenSpec.ofChange fnExactIsTriangleSpec)

/-- ITS FALSE NEIGHBOUR: 'it returns false'. Refute it at one input. -/
def fnExactIsTriangleWrong : ChangeSpec := { name := "fnExactIsTriangle", fn := fun _ => fun
  | [d] => { results := [.lit (.bool false)], args := [d] }
  | _ => none }
def FnExactIsTriangleWrongFalsely : Prop := fnExactIsTriangleRow.holds Try.pinned (OpenSpec.ofChange fnExactIsTriangleWrong)

/-- 'laws.FnExactParsePattern': WHATEVER THE INPUT: true; the input reads as it did. -/
def fnExactParsePatternSpec : ChangeSpec := { name := "fnExactParsePattern", fn := fun _ => fun
  | [d] => { results := [.lit (.bool true)], args := [d] }
  | _ => none }
def fnExactParsePatternRow : OpenClaim := { program := "ytbfgcpjkagbmdaa", sum := "ceb0950bc2928a74f19a69708d994d4a898057bbd74a1804de69a2e308fdcdde", func := "loop.example/g01123/laws.FnExactParsePattern", spec := "fnExactParsePattern", unfollowed := true, recurses := true, apart := false }
def FnExactParsePatternSaid : Prop := fnExactParsePatternRow.holds Try.pinned (OpenSpec.ofChange fnExactParsePatternSpec)

/-- ITS FALSE NEIGHBOUR: 'it returns false'. Refute it at one input. -/
def fnExactParsePatternWrong : ChangeSpec := { name := "fnExactParsePattern", fn := fun _ => fun
  | [d] => { results := [.lit (.bool false)], args := [d] }
  | _ => none }
def FnExactParsePatternWrongFalsely : Prop := fnExactParsePatternRow.holds Try.pinned (OpenSpec.ofChange fnExactParsePatternWrong)

/-- 'laws.FnExactDescendsOf': WHATEVER THE INPUT: true; the input reads as it did. -/
def fnExactDescendsOfSpec : ChangeSpec := { name := "fnExactDescendsOf", fn := fun _ => fun
  | [d] => { results := [.lit (.bool true)], args := [d] }
  | _ => none }
def fnExactDescendsOfRow : OpenClaim := { program := "ytbfgcpjkagbmdaa", sum := "ceb0950bc2928a74f19a69708d994d4a898057bbd74a1804de69a2e308fdcdde", func := "loop.example/g01123/laws.FnExactDescendsOf", spec := "fnExactDescendsOf", unfollowed := true, recurses := true, apart := false }
def FnExactDescendsOfSaid : Prop := fnExactDescendsOfRow.holds Try.pinned (OpenSpec.ofChange fnExactDescendsOfSpec)

/-- ITS FALSE NEIGHBOUR: 'it returns false'. Refute it at one input. -/
def fnExactDescendsOfWrong : ChangeSpec := { name := "fnExactDescendsOf", fn := fun _ => fun
  | [d] => { results := [.lit (.bool false)], args := [d] }
  | _ => none }
def FnExactDescendsOfWrongFalsely : Prop := fnExactDescendsOfRow.holds Try.pinned (OpenSpec.ofChange fnExactDescendsOfWrong)

/- THE SECOND FORM. 'bulk': how many values and letters a reading holds, each counted each time it is reached (what is shared counts as often as it is met; a slice's spare places count too). A statement '..UptoSaid' is the law's where the arguments, and the package variables that the reading takes, are together of bulk at most 1048576: NARROWER than '..Said'. Prove '..Said' where nothing that the law and all that it calls make is longer than what came in: it says more and counts as full. Else prove '..UptoSaid'. A law counts once. -/
mutual
def uptoBulk {H : Type} : DataW H → Nat
  | .lit (.string bytes) => bytes.length + 1
  | .lit _ => 1
  | .nil => 1
  | .ptr d => uptoBulk d + 1
  | .slice elems spare => uptoBulkAll elems + uptoBulkAll spare + 1
  | .agg parts => uptoBulkAll parts + 1
  | .iface _ d => uptoBulk d + 1
  | .map entries => uptoBulkEntries entries + 1
  | .held _ => 1
def uptoBulkAll {H : Type} : List (DataW H) → Nat
  | [] => 0
  | d :: r => uptoBulk d + uptoBulkAll r
def uptoBulkEntries {H : Type} : List (Lit × DataW H) → Nat
  | [] => 0
  | x :: r => uptoBulkEntry x + uptoBulkEntries r
def uptoBulkEntry {H : Type} : Lit × DataW H → Nat
  | (.string bytes, d) => bytes.length + uptoBulk d + 1
  | (_, d) => uptoBulk d + 1
 end
def uptoSmall : (H : Type) → List (DataW H) → Bool := fun _ ds => decide (uptoBulkAll ds ≤ 1048576)
def OpenSpec.upto (s : _root_.Go.ChangeSpec) : _root_.Go.OpenSpec := { _root_.Go.OpenSpec.ofChange s with cond := some uptoSmall }

/-- 'laws.FnExactConstants', WHERE WHAT IT READS IS OF BULK AT MOST 1048576: true; the input reads as it did. -/
def fnExactConstantsUptoRow : OpenClaim := { program := "ytbfgcpjkagbmdaa", sum := "ceb0950bc2928a74f19a69708d994d4a898057bbd74a1804de69a2e308fdcdde", func := "loop.example/g01123/laws.FnExactConstants", spec := "fnExactConstants", apart := false, narrowed := true }
def FnExactConstantsUptoSaid : Prop := fnExactConstantsUptoRow.holds Try.pinned (OpenSpec.upto fnExactConstantsSpec)

/-- 'laws.FnExactCountSigns', WHERE WHAT IT READS IS OF BULK AT MOST 1048576: true; the input reads as it did. -/
def fnExactCountSignsUptoRow : OpenClaim := { program := "ytbfgcpjkagbmdaa", sum := "ceb0950bc2928a74f19a69708d994d4a898057bbd74a1804de69a2e308fdcdde", func := "loop.example/g01123/laws.FnExactCountSigns", spec := "fnExactCountSigns", recurses := true, apart := false, narrowed := true }
def FnExactCountSignsUptoSaid : Prop := fnExactCountSignsUptoRow.holds Try.pinned (OpenSpec.upto fnExactCountSignsSpec)

/-- 'laws.FnExactIsPattern', WHERE WHAT IT READS IS OF BULK AT MOST 1048576: true; the input reads as it did. -/
def fnExactIsPatternUptoRow : OpenClaim := { program := "ytbfgcpjkagbmdaa", sum := "ceb0950bc2928a74f19a69708d994d4a898057bbd74a1804de69a2e308fdcdde", func := "loop.example/g01123/laws.FnExactIsPattern", spec := "fnExactIsPattern", unfollowed := true, recurses := true, apart := false, narrowed := true }
def FnExactIsPatternUptoSaid : Prop := fnExactIsPatternUptoRow.holds Try.pinned (OpenSpec.upto fnExactIsPatternSpec)

/-- 'laws.FnExactLeastSigns', WHERE WHAT IT READS IS OF BULK AT MOST 1048576: true; the input reads as it did. -/
def fnExactLeastSignsUptoRow : OpenClaim := { program := "ytbfgcpjkagbmdaa", sum := "ceb0950bc2928a74f19a69708d994d4a898057bbd74a1804de69a2e308fdcdde", func := "loop.example/g01123/laws.FnExactLeastSigns", spec := "fnExactLeastSigns", unfollowed := true, recurses := true, apart := false, narrowed := true }
def FnExactLeastSignsUptoSaid : Prop := fnExactLeastSignsUptoRow.holds Try.pinned (OpenSpec.upto fnExactLeastSignsSpec)

/-- 'laws.FnExactMirrorPattern', WHERE WHAT IT READS IS OF BULK AT MOST 1048576: true; the input reads as it did. -/
def fnExactMirrorPatternUptoRow : OpenClaim := { program := "ytbfgcpjkagbmdaa", sum := "ceb0950bc2928a74f19a69708d994d4a898057bbd74a1804de69a2e308fdcdde", func := "loop.example/g01123/laws.FnExactMirrorPattern", spec := "fnExactMirrorPattern", unfollowed := true, recurses := true, apart := false, narrowed := true }
def FnExactMirrorPatternUptoSaid : Prop := fnExactMirrorPatternUptoRow.holds Try.pinned (OpenSpec.upto fnExactMirrorPatternSpec)

/-- 'laws.FnExactPatternText', WHERE WHAT IT READS IS OF BULK AT MOST 1048576: true; the input reads as it did. -/
def fnExactPatternTextUptoRow : OpenClaim := { program := "ytbfgcpjkagbmdaa", sum := "ceb0950bc2928a74f19a69708d994d4a898057bbd74a1804de69a2e308fdcdde", func := "loop.example/g01123/laws.FnExactPatternText", spec := "fnExactPatternText", unfollowed := true, recurses := true, apart := false, narrowed := true }
def FnExactPatternTextUptoSaid : Prop := fnExactPatternTextUptoRow.holds Try.pinned (OpenSpec.upto fnExactPatternTextSpec)

/-- 'laws.FnExactEndsOf', WHERE WHAT IT READS IS OF BULK AT MOST 1048576: true; the input reads as it did. -/
def fnExactEndsOfUptoRow : OpenClaim := { program := "ytbfgcpjkagbmdaa", sum := "ceb0950bc2928a74f19a69708d994d4a898057bbd74a1804de69a2e308fdcdde", func := "loop.example/g01123/laws.FnExactEndsOf", spec := "fnExactEndsOf", apart := false, narrowed := true }
def FnExactEndsOfUptoSaid : Prop := fnExactEndsOfUptoRow.holds Try.pinned (OpenSpec.upto fnExactEndsOfSpec)

/-- 'laws.FnExactGreatestSigns', WHERE WHAT IT READS IS OF BULK AT MOST 1048576: true; the input reads as it did. -/
def fnExactGreatestSignsUptoRow : OpenClaim := { program := "ytbfgcpjkagbmdaa", sum := "ceb0950bc2928a74f19a69708d994d4a898057bbd74a1804de69a2e308fdcdde", func := "loop.example/g01123/laws.FnExactGreatestSigns", spec := "fnExactGreatestSigns", unfollowed := true, recurses := true, apart := false, narrowed := true }
def FnExactGreatestSignsUptoSaid : Prop := fnExactGreatestSignsUptoRow.holds Try.pinned (OpenSpec.upto fnExactGreatestSignsSpec)

/-- 'laws.FnExactTurnPattern', WHERE WHAT IT READS IS OF BULK AT MOST 1048576: true; the input reads as it did. -/
def fnExactTurnPatternUptoRow : OpenClaim := { program := "ytbfgcpjkagbmdaa", sum := "ceb0950bc2928a74f19a69708d994d4a898057bbd74a1804de69a2e308fdcdde", func := "loop.example/g01123/laws.FnExactTurnPattern", spec := "fnExactTurnPattern", unfollowed := true, recurses := true, apart := false, narrowed := true }
def FnExactTurnPatternUptoSaid : Prop := fnExactTurnPatternUptoRow.holds Try.pinned (OpenSpec.upto fnExactTurnPatternSpec)

/-- 'laws.FnExactIsTriangle', WHERE WHAT IT READS IS OF BULK AT MOST 1048576: true; the input reads as it did. -/
def fnExactIsTriangleUptoRow : OpenClaim := { program := "ytbfgcpjkagbmdaa", sum := "ceb0950bc2928a74f19a69708d994d4a898057bbd74a1804de69a2e308fdcdde", func := "loop.example/g01123/laws.FnExactIsTriangle", spec := "fnExactIsTriangle", unfollowed := true, recurses := true, apart := false, narrowed := true }
def FnExactIsTriangleUptoSaid : Prop := fnExactIsTriangleUptoRow.holds Try.pinned (OpenSpec.upto fnExactIsTriangleSpec)

/-- 'laws.FnExactParsePattern', WHERE WHAT IT READS IS OF BULK AT MOST 1048576: true; the input reads as it did. -/
def fnExactParsePatternUptoRow : OpenClaim := { program := "ytbfgcpjkagbmdaa", sum := "ceb0950bc2928a74f19a69708d994d4a898057bbd74a1804de69a2e308fdcdde", func := "loop.example/g01123/laws.FnExactParsePattern", spec := "fnExactParsePattern", unfollowed := true, recurses := true, apart := false, narrowed := true }
def FnExactParsePatternUptoSaid : Prop := fnExactParsePatternUptoRow.holds Try.pinned (OpenSpec.upto fnExactParsePatternSpec)

/-- 'laws.FnExactDescendsOf', WHERE WHAT IT READS IS OF BULK AT MOST 1048576: true; the input reads as it did. -/
def fnExactDescendsOfUptoRow : OpenClaim := { program := "ytbfgcpjkagbmdaa", sum := "ceb0950bc2928a74f19a69708d994d4a898057bbd74a1804de69a2e308fdcdde", func := "loop.example/g01123/laws.FnExactDescendsOf", spec := "fnExactDescendsOf", unfollowed := true, recurses := true, apart := false, narrowed := true }
def FnExactDescendsOfUptoSaid : Prop := fnExactDescendsOfUptoRow.holds Try.pinned (OpenSpec.upto fnExactDescendsOfSpec)

end Rows
end Go.Proofs.Ytbfgcpjkagbmdaa
