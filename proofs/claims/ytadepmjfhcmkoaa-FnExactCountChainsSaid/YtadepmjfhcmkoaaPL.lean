import Derived.Test.YtadepmjfhcmkoaaFLaws
import Derived.Test.YtadepmjfhcmkoaaTab
import Derived.Test.YtadepmjfhcmkoaaB
import Derived.Test.YtadepmjfhcmkoaaF0
import Derived.ProofKit
import Derived.Deep.Matrix
/- What the laws' own helpers answer, over lists alone. -/
namespace Go.Proofs.Ytadepmjfhcmkoaa.P
open Go.Proofs.Ytadepmjfhcmkoaa.B
open Go.RowKit Go.Proofs.YtadepmjfhcmkoaaW.PrintWords Go.Proofs.YtadepmjfhcmkoaaW.PrintLast Go.Proofs.YtadepmjfhcmkoaaW.PrintMore
set_option linter.unusedVariables false
set_option linter.unusedSimpArgs false
def SegN (w : World) (lo hi : Nat) (v : Value) (xs : List (List Int)) : Prop := Kd.N (Kd.slice 3 (Kd.int .i64)) 39 w lo (fun k => lo ≤ k ∧ k < hi) v xs
theorem SegN.move {w w' : World} {lo hi lo' hi' : Nat} {v : Value} {xs : List (List Int)} (h : SegN w lo hi v xs) (hm : Moved w w' lo' hi') (hd : hi ≤ lo' ∨ hi' ≤ lo) : SegN w' lo hi v xs := Kd.N_step h (fun k hk hlt => hm.block k hlt (by omega))
theorem SegN.below {w w' : World} {lo hi : Nat} {v : Value} {xs : List (List Int)} (h : SegN w lo hi v xs) (hb : Below w.heap.size w w') : SegN w' lo hi v xs := Kd.N_below h hb
theorem SegN.slice {w : World} {lo hi : Nat} {v : Value} {xs : List (List Int)} (h : SegN w lo hi v xs) : ∃ A c, v = .slice A xs.length c := Kd.N_slice h
theorem SegN.reads {w : World} {lo hi : Nat} {A : Option Addr} {n c : Nat} {xs : List (List Int)} (h : SegN w lo hi (.slice A n c) xs) : n = xs.length ∧ n ≤ c ∧ Kd.C (Kd.slice 3 (Kd.int .i64)) w A xs.length xs := Kd.N_reads' h
end Go.Proofs.Ytadepmjfhcmkoaa.P
namespace Go.Proofs.Ytadepmjfhcmkoaa.P
open Go.Proofs.Ytadepmjfhcmkoaa.B
open Go.RowKit Go.Proofs.YtadepmjfhcmkoaaW.PrintWords Go.Proofs.YtadepmjfhcmkoaaW.PrintLast Go.Proofs.YtadepmjfhcmkoaaW.PrintMore
set_option linter.unusedVariables false
set_option linter.unusedSimpArgs false
open Go.ChangeShapes Go.WideShapes
end Go.Proofs.Ytadepmjfhcmkoaa.P
