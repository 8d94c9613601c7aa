/- A call of a function value in a region that draws its order and only reads. -/
import Derived.Test.YtanikglfkhheaaaTab
import Derived.Deep.QuietTactic
import Derived.BigQuiet
namespace Go.Proofs.Ytanikglfkhheaaa.P
open Go.Proofs.Ytanikglfkhheaaa.B
open Go.RowKit Go.Proofs.YtanikglfkhheaaaW.PrintWords Go.Proofs.YtanikglfkhheaaaW.PrintLast Go.Proofs.YtanikglfkhheaaaW.PrintMore
set_option linter.unusedVariables false
set_option linter.unusedSimpArgs false
theorem quietF_ {P : Program} {ops : Array Oper} {C : World → Prop} {oi : Oper} {a : Act} {K : Act → Prop} {v : Value} (F : FuncId) (caps args : Array Value) (hE : Enters P F)
    (hw : Region.wanted oi (yielded ops a.tmps) = true) {t : Tmp} {xs : Array Operand} {ts : Array TypeId} (hop : oi.op = .call { callee := .value (.tmp t), args := xs, argTypes := ts }) (ht : a.eval (.tmp t) = .func (.func F) #[] caps) (hargs : xs.map a.eval ++ caps = args)
    (hc : ∀ w, C w → Calls P F args w fun e w' => e = .returned v ∧ C w') (hn : K (a.put oi.dst v)) : if Region.wanted oi (yielded ops a.tmps) = true then oi.quiet P a C K else K (a.put oi.dst undef) := by
  rw [if_pos hw]
  refine ⟨v, fun w hw' => ?_, hn⟩
  unfold Oper.quietAt
  have he := hE args w
  have := hc w hw'
  unfold execOp
  simp [hop, resolve, Deferred.ofValue, invoke, ht, hargs, he, Oper.quietUpon]
  exact this
end Go.Proofs.Ytanikglfkhheaaa.P
