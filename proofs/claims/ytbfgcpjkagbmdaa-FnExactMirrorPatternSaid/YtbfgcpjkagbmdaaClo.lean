/- A call of a function value that stands in a slot, as one step of a region that draws its order. -/
import Derived.Test.YtbfgcpjkagbmdaaF0
import Derived.Test.YtbfgcpjkagbmdaaB
namespace Go.Proofs.Ytbfgcpjkagbmdaa.P
open Go.Proofs.Ytbfgcpjkagbmdaa.B
open Go.RowKit Go.Proofs.YtbfgcpjkagbmdaaW.PrintWords Go.Proofs.YtbfgcpjkagbmdaaW.PrintLast Go.Proofs.YtbfgcpjkagbmdaaW.PrintMore
set_option linter.unusedVariables false
set_option linter.unusedSimpArgs false
theorem goesF_ {P : Program} {ops : Array Oper} {Q : Exit → Act → World → Prop} {oi : Oper} {N : Option Tmp} {a : Act} {w : World} {K0 : Act → World → Prop} {K : FuncId} (caps : Array Value) (hE : Enters P K) (args : Array Value)
    (hw : Region.wanted oi (yielded ops a.tmps) = true) (hN : oi.dst = N) {t : Tmp} {xs : Array Operand} {ts : Array TypeId} (hop : oi.op = .call { callee := .value (.tmp t), args := xs, argTypes := ts }) (ht : a.eval (.tmp t) = .func (.func K) #[] caps) (hargs : xs.map a.eval ++ caps = args)
    (h : Calls P K args w fun e w' => ∃ v, e = .returned v ∧ K0 (a.put N v) w') : if Region.wanted oi (yielded ops a.tmps) = true then Oper.wp P oi a w K0 Q else K0 (a.put N undef) w := by
  refine call_ K args hw hN ?_ h
  have he := hE args w
  unfold execOp
  simp [hop, resolve, Deferred.ofValue, invoke, ht, hargs, he]
end Go.Proofs.Ytbfgcpjkagbmdaa.P
