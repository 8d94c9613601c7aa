/- FnExactConstants returns true: each exported constant has the value that the specification gives. No conditions. -/
import Derived.Test.YtbfgcpjkagbmdaaPFnExactConstantsx1
namespace Go.Proofs.Ytbfgcpjkagbmdaa.Pure
open Go.RowKit Go.Proofs.Ytbfgcpjkagbmdaa.PFnExactConstants Go.Proofs.YtbfgcpjkagbmdaaW.PrintWords Go.Proofs.YtbfgcpjkagbmdaaW.PrintLast

/-- YOURS: laws_FnExactConstants.f  = some true
What it reaches (each with k first where it has rounds; `.mono`: more rounds tell the same; `.l0`, ..: its loops, with `.mono_l`): laws_FnExactConstants.f -/
theorem FnExactConstants : laws_FnExactConstants.Pure := by
  rfl

end Go.Proofs.Ytbfgcpjkagbmdaa.Pure
