-- By gp.py (this session's own driver over the kit's print). Not trusted: Lean checks it.
import Derived.Test.YtadepmjfhcmkoaaF0
import Derived.Test.YtadepmjfhcmkoaaB
import Derived.Deep.RegionHeld3
import Derived.KernelRfl
import Derived.Test.YtadepmjfhcmkoaaFImplDist
import Derived.Test.YtadepmjfhcmkoaaFImplFollow
import Derived.Test.YtadepmjfhcmkoaaFImplSignText
import Derived.Test.YtadepmjfhcmkoaaFImplWay
import Derived.Test.YtadepmjfhcmkoaaMapKit
import Derived.Test.YtadepmjfhcmkoaaFImplDist
import Derived.Test.YtadepmjfhcmkoaaFImplFollow
import Derived.Test.YtadepmjfhcmkoaaFImplIn
import Derived.Test.YtadepmjfhcmkoaaFImplSignText
import Derived.Test.YtadepmjfhcmkoaaFImplWay
namespace Go.Proofs.Ytadepmjfhcmkoaa.P
open Go.Proofs.Ytadepmjfhcmkoaa.B
open Go.RowKit Go.Proofs.YtadepmjfhcmkoaaW.PrintWords Go.Proofs.YtadepmjfhcmkoaaW.PrintLast Go.Proofs.YtadepmjfhcmkoaaW.PrintMore
attribute [local go_sem] max2_int min2_int max_two min_two max_three min_three max_four min_four   -- for this text's walks alone
set_option linter.unusedVariables false
set_option linter.unusedSimpArgs false
/-! ### impl_CountChains: function 42 (given) -/
structure ChEnt where
 m : List (List Int)
 s : ByteArray
 fl : List (List Int)
 ns : List Nat
 v : Int
 d : Nat
def chNone : ChEnt := ⟨[], ByteArray.empty, [], [], 0, 0⟩
def chStep (T : List ChEnt) (all : Int) (i : Nat) : Int := mn (wrap64 (all + (T.getD i chNone).v)) 1000000001
def chSum (T : List ChEnt) (ns : List Nat) : Int := ns.foldl (chStep T) 0
def byEq (a b : ByteArray) : Bool := decide (a.data.toList = b.data.toList)
theorem byEq_eq {a b : ByteArray} (h : byEq a b = true) : a = b := kyS_inj (by unfold kyS; rw [of_decide_eq_true h])
def txtIs (o : Option ByteArray) (s : ByteArray) : Bool := match o with
 | some t => byEq t s
 | none => false
theorem txtIs_eq {o : Option ByteArray} {s : ByteArray} (h : txtIs o s = true) : o = some s := by
 cases o with
 | none => cases h
 | some t => rw [byEq_eq h]
def chFlip (k : Nat) (T : List ChEnt) (e : ChEnt) (j : Nat) : Bool := decide ((e.fl.getD j []).length = 2) && decide (impl_FlipAt.f k e.m (rd (e.fl.getD j []) 0) (rd (e.fl.getD j []) 1) = some ((T.getD (e.ns.getD j 0) chNone).m, true)) && decide ((T.getD (e.ns.getD j 0) chNone).d + 1 = e.d) && decide (e.ns.getD j 0 < T.length)
def chE (k : Nat) (T : List ChEnt) (e : ChEnt) : Bool := decide (impl_flips.f k e.m true = some e.fl) && decide (e.m.length ≤ 4) && decide (e.fl.length ≤ 9) && decide (e.d ≤ 10) && decide (0 ≤ e.v ∧ e.v ≤ 1000000001) && decide (e.s.size ≤ 1000) &&
 (if e.fl.length = 0 then decide (e.v = 1) else txtIs (impl_signText.f k e.m) e.s && decide (e.ns.length = e.fl.length) && (List.range e.fl.length).all (chFlip k T e) && decide (e.v = chSum T e.ns))
def chU (T : List ChEnt) : Bool := T.all fun e => T.all fun e' => !byEq e.s e'.s || decide (e.v = e'.v)
def chOk (T : List ChEnt) : Prop := T.all (chE 60 T) = true ∧ chU T = true
def chT1 : List ChEnt := [⟨[[1]], ⟨#[43]⟩, [], [], 1, 0⟩]
def chT2 : List ChEnt := [⟨[[1, 0], [0, 1]], ⟨#[43, 48, 47, 48, 43]⟩, [[1, 1]], [1], 1, 1⟩,
 ⟨[[0, 1], [1, 0]], ⟨#[48, 43, 47, 43, 48]⟩, [], [], 1, 0⟩]
def chT3 : List ChEnt := [⟨[[1, 0, 0], [0, 1, 0], [0, 0, 1]], ⟨#[43, 48, 48, 47, 48, 43, 48, 47, 48, 48, 43]⟩, [[1, 1], [2, 2]], [1, 2], 4, 4⟩,
 ⟨[[0, 1, 0], [1, 0, 0], [0, 0, 1]], ⟨#[48, 43, 48, 47, 43, 48, 48, 47, 48, 48, 43]⟩, [[2, 2]], [3], 2, 3⟩,
 ⟨[[1, 0, 0], [0, 0, 1], [0, 1, 0]], ⟨#[43, 48, 48, 47, 48, 48, 43, 47, 48, 43, 48]⟩, [[1, 1]], [3], 2, 3⟩,
 ⟨[[0, 1, 0], [1, -1, 1], [0, 1, 0]], ⟨#[48, 43, 48, 47, 43, 45, 43, 47, 48, 43, 48]⟩, [[1, 2], [2, 1]], [4, 5], 2, 2⟩,
 ⟨[[0, 0, 1], [1, 0, 0], [0, 1, 0]], ⟨#[48, 48, 43, 47, 43, 48, 48, 47, 48, 43, 48]⟩, [[2, 1]], [6], 1, 1⟩,
 ⟨[[0, 1, 0], [0, 0, 1], [1, 0, 0]], ⟨#[48, 43, 48, 47, 48, 48, 43, 47, 43, 48, 48]⟩, [[1, 2]], [6], 1, 1⟩,
 ⟨[[0, 0, 1], [0, 1, 0], [1, 0, 0]], ⟨#[48, 48, 43, 47, 48, 43, 48, 47, 43, 48, 48]⟩, [], [], 1, 0⟩]
def chT4 : List ChEnt := [⟨[[1, 0, 0, 0], [0, 1, 0, 0], [0, 0, 1, 0], [0, 0, 0, 1]], ⟨#[43, 48, 48, 48, 47, 48, 43, 48, 48, 47, 48, 48, 43, 48, 47, 48, 48, 48, 43]⟩, [[1, 1], [2, 2], [3, 3]], [1, 2, 3], 1792, 10⟩,
 ⟨[[0, 1, 0, 0], [1, 0, 0, 0], [0, 0, 1, 0], [0, 0, 0, 1]], ⟨#[48, 43, 48, 48, 47, 43, 48, 48, 48, 47, 48, 48, 43, 48, 47, 48, 48, 48, 43]⟩, [[2, 2], [3, 3]], [4, 5], 552, 9⟩,
 ⟨[[1, 0, 0, 0], [0, 0, 1, 0], [0, 1, 0, 0], [0, 0, 0, 1]], ⟨#[43, 48, 48, 48, 47, 48, 48, 43, 48, 47, 48, 43, 48, 48, 47, 48, 48, 48, 43]⟩, [[1, 1], [3, 3]], [4, 6], 688, 9⟩,
 ⟨[[1, 0, 0, 0], [0, 1, 0, 0], [0, 0, 0, 1], [0, 0, 1, 0]], ⟨#[43, 48, 48, 48, 47, 48, 43, 48, 48, 47, 48, 48, 48, 43, 47, 48, 48, 43, 48]⟩, [[1, 1], [2, 2]], [5, 6], 552, 9⟩,
 ⟨[[0, 1, 0, 0], [1, -1, 1, 0], [0, 1, 0, 0], [0, 0, 0, 1]], ⟨#[48, 43, 48, 48, 47, 43, 45, 43, 48, 47, 48, 43, 48, 48, 47, 48, 48, 48, 43]⟩, [[1, 2], [2, 1], [3, 3]], [7, 8, 9], 344, 8⟩,
 ⟨[[0, 1, 0, 0], [1, 0, 0, 0], [0, 0, 0, 1], [0, 0, 1, 0]], ⟨#[48, 43, 48, 48, 47, 43, 48, 48, 48, 47, 48, 48, 48, 43, 47, 48, 48, 43, 48]⟩, [[2, 2]], [9], 208, 8⟩,
 ⟨[[1, 0, 0, 0], [0, 0, 1, 0], [0, 1, -1, 1], [0, 0, 1, 0]], ⟨#[43, 48, 48, 48, 47, 48, 48, 43, 48, 47, 48, 43, 45, 43, 47, 48, 48, 43, 48]⟩, [[1, 1], [2, 3], [3, 2]], [9, 10, 11], 344, 8⟩,
 ⟨[[0, 0, 1, 0], [1, 0, 0, 0], [0, 1, 0, 0], [0, 0, 0, 1]], ⟨#[48, 48, 43, 48, 47, 43, 48, 48, 48, 47, 48, 43, 48, 48, 47, 48, 48, 48, 43]⟩, [[2, 1], [3, 3]], [12, 13], 68, 7⟩,
 ⟨[[0, 1, 0, 0], [0, 0, 1, 0], [1, 0, 0, 0], [0, 0, 0, 1]], ⟨#[48, 43, 48, 48, 47, 48, 48, 43, 48, 47, 43, 48, 48, 48, 47, 48, 48, 48, 43]⟩, [[1, 2], [3, 3]], [12, 14], 68, 7⟩,
 ⟨[[0, 1, 0, 0], [1, -1, 1, 0], [0, 1, -1, 1], [0, 0, 1, 0]], ⟨#[48, 43, 48, 48, 47, 43, 45, 43, 48, 47, 48, 43, 45, 43, 47, 48, 48, 43, 48]⟩, [[1, 2], [2, 1], [2, 3], [3, 2]], [13, 14, 15, 16], 208, 7⟩,
 ⟨[[1, 0, 0, 0], [0, 0, 0, 1], [0, 1, 0, 0], [0, 0, 1, 0]], ⟨#[43, 48, 48, 48, 47, 48, 48, 48, 43, 47, 48, 43, 48, 48, 47, 48, 48, 43, 48]⟩, [[1, 1], [3, 2]], [15, 17], 68, 7⟩,
 ⟨[[1, 0, 0, 0], [0, 0, 1, 0], [0, 0, 0, 1], [0, 1, 0, 0]], ⟨#[43, 48, 48, 48, 47, 48, 48, 43, 48, 47, 48, 48, 48, 43, 47, 48, 43, 48, 48]⟩, [[1, 1], [2, 3]], [16, 17], 68, 7⟩,
 ⟨[[0, 0, 1, 0], [0, 1, 0, 0], [1, 0, 0, 0], [0, 0, 0, 1]], ⟨#[48, 48, 43, 48, 47, 48, 43, 48, 48, 47, 43, 48, 48, 48, 47, 48, 48, 48, 43]⟩, [[3, 3]], [18], 16, 6⟩,
 ⟨[[0, 0, 1, 0], [1, 0, 0, 0], [0, 1, -1, 1], [0, 0, 1, 0]], ⟨#[48, 48, 43, 48, 47, 43, 48, 48, 48, 47, 48, 43, 45, 43, 47, 48, 48, 43, 48]⟩, [[2, 1], [2, 3], [3, 2]], [18, 19, 20], 52, 6⟩,
 ⟨[[0, 1, 0, 0], [0, 0, 1, 0], [1, 0, -1, 1], [0, 0, 1, 0]], ⟨#[48, 43, 48, 48, 47, 48, 48, 43, 48, 47, 43, 48, 45, 43, 47, 48, 48, 43, 48]⟩, [[1, 2], [2, 3], [3, 2]], [18, 21, 22], 52, 6⟩,
 ⟨[[0, 1, 0, 0], [1, -1, 0, 1], [0, 1, 0, 0], [0, 0, 1, 0]], ⟨#[48, 43, 48, 48, 47, 43, 45, 48, 43, 47, 48, 43, 48, 48, 47, 48, 48, 43, 48]⟩, [[1, 2], [2, 1], [3, 2]], [19, 21, 23], 52, 6⟩,
 ⟨[[0, 1, 0, 0], [1, -1, 1, 0], [0, 0, 0, 1], [0, 1, 0, 0]], ⟨#[48, 43, 48, 48, 47, 43, 45, 43, 48, 47, 48, 48, 48, 43, 47, 48, 43, 48, 48]⟩, [[1, 2], [2, 1], [2, 3]], [20, 22, 23], 52, 6⟩,
 ⟨[[1, 0, 0, 0], [0, 0, 0, 1], [0, 0, 1, 0], [0, 1, 0, 0]], ⟨#[43, 48, 48, 48, 47, 48, 48, 48, 43, 47, 48, 48, 43, 48, 47, 48, 43, 48, 48]⟩, [[1, 1]], [23], 16, 6⟩,
 ⟨[[0, 0, 1, 0], [0, 1, 0, 0], [1, 0, -1, 1], [0, 0, 1, 0]], ⟨#[48, 48, 43, 48, 47, 48, 43, 48, 48, 47, 43, 48, 45, 43, 47, 48, 48, 43, 48]⟩, [[2, 3], [3, 2]], [24, 25], 16, 5⟩,
 ⟨[[0, 0, 1, 0], [1, 0, -1, 1], [0, 1, 0, 0], [0, 0, 1, 0]], ⟨#[48, 48, 43, 48, 47, 43, 48, 45, 43, 47, 48, 43, 48, 48, 47, 48, 48, 43, 48]⟩, [[1, 3], [2, 1], [3, 2]], [26, 24, 27], 20, 5⟩,
 ⟨[[0, 0, 1, 0], [1, 0, 0, 0], [0, 0, 0, 1], [0, 1, 0, 0]], ⟨#[48, 48, 43, 48, 47, 43, 48, 48, 48, 47, 48, 48, 48, 43, 47, 48, 43, 48, 48]⟩, [[2, 1], [2, 3]], [25, 27], 16, 5⟩,
 ⟨[[0, 1, 0, 0], [0, 0, 0, 1], [1, 0, 0, 0], [0, 0, 1, 0]], ⟨#[48, 43, 48, 48, 47, 48, 48, 48, 43, 47, 43, 48, 48, 48, 47, 48, 48, 43, 48]⟩, [[1, 2], [3, 2]], [24, 28], 16, 5⟩,
 ⟨[[0, 1, 0, 0], [0, 0, 1, 0], [1, -1, 0, 1], [0, 1, 0, 0]], ⟨#[48, 43, 48, 48, 47, 48, 48, 43, 48, 47, 43, 45, 48, 43, 47, 48, 43, 48, 48]⟩, [[1, 2], [2, 3], [3, 1]], [25, 28, 29], 20, 5⟩,
 ⟨[[0, 1, 0, 0], [1, -1, 0, 1], [0, 0, 1, 0], [0, 1, 0, 0]], ⟨#[48, 43, 48, 48, 47, 43, 45, 48, 43, 47, 48, 48, 43, 48, 47, 48, 43, 48, 48]⟩, [[1, 2], [2, 1]], [27, 28], 16, 5⟩,
 ⟨[[0, 0, 1, 0], [0, 1, -1, 1], [1, 0, 0, 0], [0, 0, 1, 0]], ⟨#[48, 48, 43, 48, 47, 48, 43, 45, 43, 47, 43, 48, 48, 48, 47, 48, 48, 43, 48]⟩, [[1, 3], [3, 2]], [30, 31], 8, 4⟩,
 ⟨[[0, 0, 1, 0], [0, 1, 0, 0], [1, -1, 0, 1], [0, 1, 0, 0]], ⟨#[48, 48, 43, 48, 47, 48, 43, 48, 48, 47, 43, 45, 48, 43, 47, 48, 43, 48, 48]⟩, [[2, 3], [3, 1]], [31, 32], 8, 4⟩,
 ⟨[[0, 0, 0, 1], [1, 0, 0, 0], [0, 1, 0, 0], [0, 0, 1, 0]], ⟨#[48, 48, 48, 43, 47, 43, 48, 48, 48, 47, 48, 43, 48, 48, 47, 48, 48, 43, 48]⟩, [[2, 1], [3, 2]], [30, 33], 4, 4⟩,
 ⟨[[0, 0, 1, 0], [1, 0, -1, 1], [0, 0, 1, 0], [0, 1, 0, 0]], ⟨#[48, 48, 43, 48, 47, 43, 48, 45, 43, 47, 48, 48, 43, 48, 47, 48, 43, 48, 48]⟩, [[1, 3], [2, 1]], [33, 31], 8, 4⟩,
 ⟨[[0, 1, 0, 0], [0, 0, 0, 1], [1, -1, 1, 0], [0, 1, 0, 0]], ⟨#[48, 43, 48, 48, 47, 48, 48, 48, 43, 47, 43, 45, 43, 48, 47, 48, 43, 48, 48]⟩, [[1, 2], [3, 1]], [31, 34], 8, 4⟩,
 ⟨[[0, 1, 0, 0], [0, 0, 1, 0], [0, 0, 0, 1], [1, 0, 0, 0]], ⟨#[48, 43, 48, 48, 47, 48, 48, 43, 48, 47, 48, 48, 48, 43, 47, 43, 48, 48, 48]⟩, [[1, 2], [2, 3]], [32, 34], 4, 4⟩,
 ⟨[[0, 0, 0, 1], [0, 1, 0, 0], [1, 0, 0, 0], [0, 0, 1, 0]], ⟨#[48, 48, 48, 43, 47, 48, 43, 48, 48, 47, 43, 48, 48, 48, 47, 48, 48, 43, 48]⟩, [[3, 2]], [35], 2, 3⟩,
 ⟨[[0, 0, 1, 0], [0, 1, -1, 1], [1, -1, 1, 0], [0, 1, 0, 0]], ⟨#[48, 48, 43, 48, 47, 48, 43, 45, 43, 47, 43, 45, 43, 48, 47, 48, 43, 48, 48]⟩, [[1, 3], [2, 2], [3, 1]], [35, 36, 37], 6, 3⟩,
 ⟨[[0, 0, 1, 0], [0, 1, 0, 0], [0, 0, 0, 1], [1, 0, 0, 0]], ⟨#[48, 48, 43, 48, 47, 48, 43, 48, 48, 47, 48, 48, 48, 43, 47, 43, 48, 48, 48]⟩, [[2, 3]], [37], 2, 3⟩,
 ⟨[[0, 0, 0, 1], [1, 0, 0, 0], [0, 0, 1, 0], [0, 1, 0, 0]], ⟨#[48, 48, 48, 43, 47, 43, 48, 48, 48, 47, 48, 48, 43, 48, 47, 48, 43, 48, 48]⟩, [[2, 1]], [35], 2, 3⟩,
 ⟨[[0, 1, 0, 0], [0, 0, 0, 1], [0, 0, 1, 0], [1, 0, 0, 0]], ⟨#[48, 43, 48, 48, 47, 48, 48, 48, 43, 47, 48, 48, 43, 48, 47, 43, 48, 48, 48]⟩, [[1, 2]], [37], 2, 3⟩,
 ⟨[[0, 0, 0, 1], [0, 1, 0, 0], [1, -1, 1, 0], [0, 1, 0, 0]], ⟨#[48, 48, 48, 43, 47, 48, 43, 48, 48, 47, 43, 45, 43, 48, 47, 48, 43, 48, 48]⟩, [[2, 2], [3, 1]], [38, 39], 2, 2⟩,
 ⟨[[0, 0, 1, 0], [0, 0, 0, 1], [1, 0, 0, 0], [0, 1, 0, 0]], ⟨#[48, 48, 43, 48, 47, 48, 48, 48, 43, 47, 43, 48, 48, 48, 47, 48, 43, 48, 48]⟩, [[1, 3], [3, 1]], [38, 40], 2, 2⟩,
 ⟨[[0, 0, 1, 0], [0, 1, -1, 1], [0, 0, 1, 0], [1, 0, 0, 0]], ⟨#[48, 48, 43, 48, 47, 48, 43, 45, 43, 47, 48, 48, 43, 48, 47, 43, 48, 48, 48]⟩, [[1, 3], [2, 2]], [39, 40], 2, 2⟩,
 ⟨[[0, 0, 0, 1], [0, 0, 1, 0], [1, 0, 0, 0], [0, 1, 0, 0]], ⟨#[48, 48, 48, 43, 47, 48, 48, 43, 48, 47, 43, 48, 48, 48, 47, 48, 43, 48, 48]⟩, [[3, 1]], [41], 1, 1⟩,
 ⟨[[0, 0, 0, 1], [0, 1, 0, 0], [0, 0, 1, 0], [1, 0, 0, 0]], ⟨#[48, 48, 48, 43, 47, 48, 43, 48, 48, 47, 48, 48, 43, 48, 47, 43, 48, 48, 48]⟩, [[2, 2]], [41], 1, 1⟩,
 ⟨[[0, 0, 1, 0], [0, 0, 0, 1], [0, 1, 0, 0], [1, 0, 0, 0]], ⟨#[48, 48, 43, 48, 47, 48, 48, 48, 43, 47, 48, 43, 48, 48, 47, 43, 48, 48, 48]⟩, [[1, 3]], [41], 1, 1⟩,
 ⟨[[0, 0, 0, 1], [0, 0, 1, 0], [0, 1, 0, 0], [1, 0, 0, 0]], ⟨#[48, 48, 48, 43, 47, 48, 48, 43, 48, 47, 48, 43, 48, 48, 47, 43, 48, 48, 48]⟩, [], [], 1, 0⟩]
theorem chk1 : chOk chT1 := ⟨by kernel_rfl, by kernel_rfl⟩
theorem chk2 : chOk chT2 := ⟨by kernel_rfl, by kernel_rfl⟩
theorem chk3 : chOk chT3 := ⟨by kernel_rfl, by kernel_rfl⟩
theorem chk4 : chOk chT4 := ⟨by kernel_rfl, by kernel_rfl⟩
def chVal (a0 : Int) : Int := if a0 = 1 then 1 else if a0 = 2 then 1 else if a0 = 3 then 4 else 1792
def impl_CountChains.f (a0 : Int) : Option (Int × Bool) := some (if 1 ≤ a0 ∧ a0 ≤ 4 then (chVal a0, true) else (0, false))
def chGood (T : List ChEnt) (s : ByteArray) (v : Int) : Prop := ∀ e ∈ T, e.fl.length ≠ 0 → e.s = s → v = e.v
theorem ch_good {T : List ChEnt} (h : chOk T) {e : ChEnt} (he : e ∈ T) : chGood T e.s e.v := by
 intro e' he' _ hs; have h1 := List.all_eq_true.mp (List.all_eq_true.mp h.2 e he) e' he'
 have h2 : byEq e.s e'.s = true := by rw [hs]; exact decide_eq_true rfl
 rw [h2] at h1
 simpa using h1
def chN : Nat → Nat
 | 0 => 1
 | d + 1 => 1 + 9 * chN d
theorem chN_succ {d : Nat} (h : 1 ≤ d) : chN d = 1 + 9 * chN (d - 1) := by
 cases d with
 | zero => omega
 | succ d => rfl
theorem ch_fit {n n1 jj L d : Nat} (hj : jj < L) (hL : L ≤ 9) (hd : 1 ≤ d) (h1 : n1 ≤ n + jj * chN (d - 1)) (h : n + chN d ≤ 9000000000000000000) : n1 + chN (d - 1) ≤ 9000000000000000000 ∧ n1 + chN (d - 1) ≤ n + (jj + 1) * chN (d - 1) := by
 rw [chN_succ hd] at h; have h2 : (jj + 1) * chN (d - 1) ≤ 9 * chN (d - 1) := Nat.mul_le_mul_right _ (by omega); rw [Nat.succ_mul] at h2 ⊢; omega
theorem ch_end {n n1 L d : Nat} (hL : L ≤ 9) (hd : 1 ≤ d) (h1 : n1 ≤ n + L * chN (d - 1)) : n1 + 1 ≤ n + chN d := by
 rw [chN_succ hd]; have h2 : L * chN (d - 1) ≤ 9 * chN (d - 1) := Nat.mul_le_mul_right _ hL; omega
theorem ch_at {T : List ChEnt} (h : chOk T) {e : ChEnt} (he : e ∈ T) : impl_flips.f 60 e.m true = some e.fl ∧ e.m.length ≤ 4 ∧ e.fl.length ≤ 9 ∧ e.d ≤ 10 ∧ (0 ≤ e.v ∧ e.v ≤ 1000000001) ∧ e.s.size ≤ 1000 ∧ (e.fl.length = 0 → e.v = 1) ∧ (e.fl.length ≠ 0 → impl_signText.f 60 e.m = some e.s ∧ e.ns.length = e.fl.length ∧ (∀ j, j < e.fl.length → chFlip 60 T e j = true) ∧ e.v = chSum T e.ns) := by
 have h1 := List.all_eq_true.mp h.1 e he; unfold chE at h1; simp only [Bool.and_eq_true, decide_eq_true_eq] at h1; obtain ⟨⟨⟨⟨⟨⟨a1, a2⟩, a3⟩, a4⟩, a5⟩, a6⟩, a7⟩ := h1; refine ⟨a1, a2, a3, a4, a5, a6, fun c => ?_, fun c => ?_⟩
 ·rw [if_pos c] at a7; exact of_decide_eq_true a7
 ·rw [if_neg c] at a7; simp only [Bool.and_eq_true, decide_eq_true_eq] at a7; obtain ⟨⟨⟨b1, b2⟩, b3⟩, b4⟩ := a7; exact ⟨txtIs_eq b1, b2, fun j hj => List.all_eq_true.mp b3 j (List.mem_range.mpr hj), b4⟩
theorem ch_next {T : List ChEnt} {e : ChEnt} {j : Nat} (h : chFlip 60 T e j = true) : ∃ e', e' ∈ T ∧ e' = T.getD (e.ns.getD j 0) chNone ∧ (e.fl.getD j []).length = 2 ∧ impl_FlipAt.f 60 e.m (rd (e.fl.getD j []) 0) (rd (e.fl.getD j []) 1) = some (e'.m, true) ∧ e'.d + 1 = e.d := by
 unfold chFlip at h; simp only [Bool.and_eq_true, decide_eq_true_eq] at h; obtain ⟨⟨⟨a1, a2⟩, a3⟩, a4⟩ := h; refine ⟨_, ?_, rfl, a1, a2, a3⟩; rw [List.getD_eq_getElem?_getD, List.getElem?_eq_getElem a4]; exact List.getElem_mem a4
theorem chSum_step (T : List ChEnt) (ns : List Nat) (j : Nat) (hj : j < ns.length) : (ns.take (j + 1)).foldl (chStep T) 0 = mn (wrap64 ((ns.take j).foldl (chStep T) 0 + (T.getD (ns.getD j 0) chNone).v)) 1000000001 := by
 have e : ns.getD j 0 = ns[j] := by rw [List.getD_eq_getElem?_getD, List.getElem?_eq_getElem hj]; rfl
 rw [List.take_succ_eq_append_getElem hj, List.foldl_append, e]; rfl
attribute [local go_sem] max2_int min2_int max_two min_two
set_option maxHeartbeats 8000000 in
set_option maxRecDepth 100000 in
theorem ch_count (T : List ChEnt) (hT : chOk T) (w0 : World) (b1 b2 bk : Nat) (h2k : b2 ≠ bk) : ∀ (d : Nat) (e : ChEnt) (W : World) (A : Option Addr) (c n q : Nat) (D : DataW Unit),
  e ∈ T → e.d ≤ d → e.m.length = q → n + chN d ≤ 9000000000000000000 → q ≤ c → Kd.V (Kd.slice 3 (Kd.int .i64)) 39 W 0 (fun k => k ≠ bk) (.slice A q c) e.m → MSt w0 W b1 bk n (chGood T) D →
  W.cell? ⟨b2, 0, none⟩ = some (.func (.func 100) #[] #[.pointer (some ⟨b1, 0, none⟩), .pointer (some ⟨b2, 0, none⟩)]) →
  Calls Try.prog 100 (#[.slice A q c] ++ #[.pointer (some ⟨b1, 0, none⟩), .pointer (some ⟨b2, 0, none⟩)]) W fun e_ W' => e_ = .returned (.int .i64 e.v) ∧ ∃ (n' : Nat) (D' : DataW Unit), n' ≤ n + chN d ∧ MSt w0 W' b1 bk n' (chGood T) D' ∧ W.grownBy W' (some bk) := by
 have hE := enters_of Try.func100 (by kernel_rfl) rfl; intro d
 induction d using Nat.strongRecOn with
 | _ d ih =>
  intro e W A c n q D he hd hq hn hc hC hst hc2; have hat := ch_at hT he
  obtain ⟨fl, hfl⟩ : ∃ fl, fl = e.fl := ⟨_, rfl⟩
  have HFL : Aside0 (∀ W1 : World, Below W.heap.size W W1 → Calls Try.prog 101 #[.slice A q c, .bool true] W1 fun e_ w' => ∃ v0_ : Value, e_ = .returned (v0_) ∧ Kd.S (Kd.slice 3 (Kd.int .i64)) 39 w' W1.heap.size (fun _ => True) v0_ fl ∧ Below W1.heap.size W1 w') := ⟨fun W1 hW1 => by
   have h3 := impl_flips.calls 60 A c e.m true fl W1 (Kd.V_reads' (Kd.V_below hC hW1)).2.2 (by rw [hq]; exact hc) (by rw [hfl]; exact hat.1); rw [hq] at h3
   exact h3⟩
  have HST := Aside0.mk hst; have HC := Aside0.mk hC; have HC2 := Aside0.mk hc2; have HF := Aside0.mk (And.intro he (And.intro hd (And.intro hq (And.intro hn hc)))); have HIH := Aside0.mk ih; have HAT := Aside0.mk hat; have NFL := Aside0.mk hfl; have HB := Aside0.mk (Below.refl W.heap.size W)
  have hq4 : q ≤ 4 := by rw [← hq]; exact hat.2.1
  have hl9 : fl.length ≤ 9 := by rw [hfl]; exact hat.2.2.1
  have hlk := hst.own.lt; have HLK := Aside0.mk hlk
  by_cases hz : fl.length = 0
  ·have z1 : (fl.length == 0) = true := by simp [hz]
   have z2 : decide (fl.length = 0) = true := decide_eq_true hz
   have z3 : ((fl.length : Int) == 0) = true := by rw [hz]; rfl
   have HV := Aside0.mk (hat.2.2.2.2.2.2.1 (by rw [← hfl]; exact hz)); clear hC hst hc2 he hd hq hn hc ih hE hfl hat hlk; go_enter Try.func100, Try.ntmps100
   go_wp2_with (go_at_call 101; (refine (HFL.out _ HB.out).mono ?_); rintro e_ w4 ⟨v4, rfl, hS, hb⟩; have HB4 := Aside0.mk hb; obtain ⟨Ar, cr, er⟩ := Kd.S_slice hS; subst er; clear hb hS)
   go_ret; exact ⟨by rw [HV.out]; rfl, n, D, Nat.le_add_right _ _, HST.out.move HB4.out, grown_of_below HB4.out _⟩
  ·have z1 : (fl.length == 0) = false := by simp [hz]
   have z2 : decide (fl.length = 0) = false := decide_eq_false hz; have z3 : ((fl.length : Int) == 0) = false := beq_false_of_ne (by omega)
   have hnz : e.fl.length ≠ 0 := by rw [← hfl]; exact hz
   have hmore := hat.2.2.2.2.2.2.2 hnz
   obtain ⟨s, hs⟩ : ∃ s, s = e.s := ⟨_, rfl⟩
   have HTX : Aside0 (∀ W1 : World, Below W.heap.size W W1 → Calls Try.prog 102 #[.slice A q c] W1 fun e_ w' => e_ = .returned (.string s) ∧ Below W1.heap.size W1 w') := ⟨fun W1 hW1 => by
    have h3 := impl_signText.calls 60 A c e.m s W1 (Kd.V_reads' (Kd.V_below hC hW1)).2.2 (by rw [hq]; exact hc) (by rw [hs]; exact hmore.1); rw [hq] at h3
    exact h3⟩
   have HMORE := Aside0.mk hmore; have NS := Aside0.mk hs
   have hssz : s.size ≤ 1000 := by rw [hs]; exact hat.2.2.2.2.2.1
   have hkey := map_key (s := s) (by omega); have HNZ := Aside0.mk hnz
   cases hh : Maps.has D (kyS s) with
   | true =>
    have HH := Aside0.mk hh; clear hh hC hst hc2 he hd hq hn hc ih hE hfl hat hlk hmore hnz hs hz; go_enter Try.func100, Try.ntmps100
    go_wp2_with (first | (go_at_call 101; (refine (HFL.out _ HB.out).mono ?_); rintro e_ w4 ⟨v4, rfl, hS, hb⟩; have HB4 := Aside0.mk hb; obtain ⟨Ar, cr, er⟩ := Kd.S_slice hS; subst er; clear hb hS) | (go_at_call 102; (refine (HTX.out _ HB4.out).mono ?_); rintro e_ w5 ⟨rfl, hb⟩; have HB5 := Aside0.mk (below_step HB4.out hb); clear hb; have hbx := (HST.out.move HB5.out).box) | (at_lookup; refine wpList_lookup_own_ok_int _ rfl _ _ 71 rfl 9 3 .i64 map_law Try.underlying71 Try.underlying3 (map_zero _) bk n D rfl (HST.out.move HB5.out).own _ _ rfl hkey ?_; intro vc hat hwc; rw [HH.out]))
    go_ret; exact ⟨by rw [HST.out.good.at HH.out hat e HF.out.1 HNZ.out NS.out.symm]; rfl, n, D, Nat.le_add_right _ _, HST.out.move HB5.out, grown_of_below HB5.out _⟩
   | false =>
    have HH := Aside0.mk hh; clear hh hC hst hc2 he hd hq hn hc ih hE hfl hat hmore hnz hs hz; go_enter Try.func100, Try.ntmps100
    go_wp2_with (first | (go_at_call 101; (refine (HFL.out _ HB.out).mono ?_); rintro e_ w4 ⟨v4, rfl, hS, hb⟩; have HB4 := Aside0.mk hb; have V4 := Aside0.mk (Kd.V_mono (ok' := fun k => k ≠ bk) (Kd.S_V (base' := W.heap.size) (Kd.S_bound hS)) (fun k hk e => by have := hk.2.1; omega)); obtain ⟨Ar, cr, er⟩ := Kd.S_slice hS; subst er; clear hb hS) | (go_at_call 102; (refine (HTX.out _ HB4.out).mono ?_); rintro e_ w5 ⟨rfl, hb⟩; have HB5 := Aside0.mk (below_step HB4.out hb); have V5 := Aside0.mk (Kd.V_below V4.out hb); clear hb; have hbx := (HST.out.move HB5.out).box) | (at_lookup; refine wpList_lookup_own_ok_int _ rfl _ _ 71 rfl 9 3 .i64 map_law Try.underlying71 Try.underlying3 (map_zero _) bk n D rfl (HST.out.move HB5.out).own _ _ rfl hkey ?_; intro vc hat hwc; rw [HH.out]))
    clear hlk
    go_loopg [9, 31] (fl.length + 1) (fun kq v9 v31 w' => ∃ (jj : Nat) (acc : Int) (n1 : Nat) (D1 : DataW Unit), v9 = .int .i64 acc ∧ v31 = .int .i64 (jj : Int) ∧ Aside0 (acc = (e.ns.take jj).foldl (chStep T) 0 ∧ (0 ≤ acc ∧ acc ≤ 1000000001 + 0) ∧ jj ≤ fl.length ∧ kq = fl.length + 1 - jj ∧ n1 ≤ n + jj * chN (d - 1)) ∧ Aside0 (MSt w0 w' b1 bk n1 (chGood T) D1) ∧ Aside0 (W.grownBy w' (some bk)) ∧ Aside0 (Kd.V (Kd.slice 3 (Kd.int .i64)) 39 w' W.heap.size (fun k => k ≠ bk) (.slice Ar fl.length cr) fl))
    case atStart => exact ⟨0, 0, n, D, rfl, rfl, ⟨⟨rfl, by omega, Nat.zero_le _, rfl, by omega⟩⟩, ⟨HST.out.move HB5.out⟩, ⟨grown_of_below HB5.out _⟩, V5⟩
    case round =>
     clear HB4 V4 HB5 V5 hbx; obtain ⟨jj, acc, n1, D1, rfl, rfl, HJJ, ST, G, V⟩ := hrel; have hc2 := cell_grown G.out HC2.out (fun e => h2k (by injection e))
     by_cases cj : jj < fl.length
     ·have bj : decide ((jj : Int) < (fl.length : Int)) = true := decide_eq_true (by omega)
      have bj2 : decide (jj < fl.length) = true := decide_eq_true cj; obtain ⟨ar, A1, c1, e1, hx, hc1, hr1⟩ := at_row (Kd.V_reads' V.out).2.2 jj cj; subst e1; obtain ⟨e', he', hed, hl2, hfa, hdd⟩ := ch_next (HMORE.out.2.2.1 jj (by rw [← NFL.out]; exact cj))
      obtain ⟨row, hrow⟩ : ∃ row, row = fl.getD jj [] := ⟨_, rfl⟩
      rw [← NFL.out, ← hrow] at hl2 hfa; rw [← hrow, hl2] at hx hr1; obtain ⟨cd, e2, hx0⟩ := Kd.at_int hr1 0 (by omega) (by omega); obtain ⟨cd2, e3, hx1⟩ := Kd.at_int hr1 1 (by omega) (by omega); rw [e2] at e3; injection e3 with e3; subst e3; subst e2; rw [show (0 : Int).toNat = 0 from rfl, Addr.add_zero'] at hx0; rw [show (1 : Int).toNat = 1 from rfl] at hx1; rw [Addr.add_succ' cd 0] at hx1; replace hx1 : wr.cell? ⟨cd.block, cd.off + 1, none⟩ = some (.int .i64 (rd row 1)) := hx1
      obtain ⟨i0, hi0⟩ : ∃ i0, i0 = rd row 0 := ⟨_, rfl⟩
      obtain ⟨i1, hi1⟩ : ∃ i1, i1 = rd row 1 := ⟨_, rfl⟩
      rw [← hi0] at hx0 hfa; rw [← hi1] at hx1 hfa
      have HFA : Aside0 (∀ W1 : World, Below wr.heap.size wr W1 → Calls Try.prog 103 #[.slice A q c, .int .i64 i0, .int .i64 i1] W1 fun e_ w' => ∃ v0_ : Value, e_ = .returned (.tuple #[v0_, .bool true]) ∧ Kd.S (Kd.slice 3 (Kd.int .i64)) 39 w' W1.heap.size (fun _ => True) v0_ e'.m ∧ Below W1.heap.size W1 w') := ⟨fun W1 hW1 => by
       have h3 := impl_FlipAt.calls 60 A c e.m i0 i1 e'.m true W1 (Kd.V_reads' (Kd.V_below (Kd.V_grown HC.out G.out (fun k hk e => hk (by injection e))) hW1)).2.2 (by rw [HF.out.2.2.1]; exact HF.out.2.2.2.2) hfa; rw [HF.out.2.2.1] at h3
       exact h3⟩
      have hd1 : 1 ≤ d := by have := HF.out.2.1; omega
      have hfit := ch_fit cj (by omega) hd1 HJJ.out.2.2.2.2 HF.out.2.2.2.1; have hst3 := ST.out
      have IH : Aside0 (∀ (W5 : World) (A5 : Option Addr) (c5 : Nat), Below wr.heap.size wr W5 → e'.m.length ≤ c5 → Kd.V (Kd.slice 3 (Kd.int .i64)) 39 W5 0 (fun k => k ≠ bk) (.slice A5 e'.m.length c5) e'.m → Calls Try.prog 100 (#[.slice A5 e'.m.length c5] ++ #[.pointer (some ⟨b1, 0, none⟩), .pointer (some ⟨b2, 0, none⟩)]) W5 fun e_ W' => e_ = .returned (.int .i64 e'.v) ∧ ∃ (n' : Nat) (D' : DataW Unit), n' ≤ n1 + chN (d - 1) ∧ MSt w0 W' b1 bk n' (chGood T) D' ∧ W5.grownBy W' (some bk)) := ⟨fun W5 A5 c5 hb5 hc5 hC5 => HIH.out (d - 1) (by omega) e' W5 A5 c5 n1 e'.m.length D1 he' (by have := HF.out.2.1; omega) rfl hfit.1 hc5 hC5 (hst3.move hb5) (pw_cell_below hb5 hc2)⟩
      have hev := (ch_at hT he').2.2.2.2.1
      obtain ⟨ev, hev'⟩ : ∃ ev, ev = e'.v := ⟨_, rfl⟩
      have HEV := Aside0.mk (And.intro hev' (And.intro hed (And.intro hev (And.intro hfit.2 cj)))); rw [← hev'] at IH; have HROW := Aside0.mk hrow
      obtain ⟨m', hm'⟩ : ∃ m', m' = e'.m := ⟨_, rfl⟩
      rw [← hm'] at IH HFA; clear hed hdd hfit hst3 hd1 hl2 hfa hrow hr1 hc1 hi0 hi1 hev he' hev' hm'; go_wp2; refine start_ (n := 13) (S := fun w' => Below wr.heap.size wr w' ∧ w'.cell? cd = some (.int .i64 i0) ∧ w'.cell? ⟨cd.block, cd.off + 1, none⟩ = some (.int .i64 i1)) (ds := []) #[fF, fF, fF, fF, fF, fF, fF, fF, fF, fF, fF, fF, fF] (by kernel_rfl) rfl rfl ⟨(below_drew (Below.refl _ _)), hx0, hx1⟩ (fun hHeld => ?_); refine pure_ (i := 0) (N := some 36) (v := ?_) (a' := ?_) #[tT, fF, fF, fF, fF, fF, fF, fF, fF, fF, fF, fF, fF] rfl rfl (by kernel_rfl) (fun _ _ _ h => h) (Or.inl ⟨by rfl, ?_⟩) ?_ ?_; rotate_left
      ·intro w'; go_simp; with_reducible rfl
      rotate_left
      ·simp only [Act.put, List.setIfInBounds_toArray, List.set_cons_zero, List.set_cons_succ, i64_w, i32_w]; rfl
      refine pure_ (i := 1) (N := some 37) (v := ?_) (a' := ?_) #[tT, tT, fF, fF, fF, fF, fF, fF, fF, fF, fF, fF, fF] rfl rfl (by kernel_rfl) (fun _ _ _ h => h) (Or.inl ⟨by rfl, ?_⟩) ?_ ?_; rotate_left
      ·intro w'; go_simp; with_reducible rfl
      rotate_left
      ·simp only [Act.put, List.setIfInBounds_toArray, List.set_cons_zero, List.set_cons_succ, i64_w, i32_w]; rfl
      refine pure_ (i := 2) (N := some 38) (v := ?_) (a' := ?_) #[tT, tT, tT, fF, fF, fF, fF, fF, fF, fF, fF, fF, fF] rfl rfl (by kernel_rfl) (fun _ _ _ h => h) (Or.inl ⟨by rfl, ?_⟩) ?_ ?_; rotate_left
      ·intro w'; go_simp; with_reducible rfl
      rotate_left
      ·simp only [Act.put, List.setIfInBounds_toArray, List.set_cons_zero, List.set_cons_succ, i64_w, i32_w]; rfl
      refine pure_ (i := 4) (N := some 40) (v := ?_) (a' := ?_) #[tT, tT, tT, fF, tT, fF, fF, fF, fF, fF, fF, fF, fF] rfl rfl (by kernel_rfl) (fun _ _ _ h => h) (Or.inl ⟨by rfl, ?_⟩) ?_ ?_; rotate_left
      ·intro w'; go_simp; with_reducible rfl
      rotate_left
      ·simp only [Act.put, List.setIfInBounds_toArray, List.set_cons_zero, List.set_cons_succ, i64_w, i32_w]; rfl
      refine pure_ (i := 5) (N := some 41) (v := ?_) (a' := ?_) #[tT, tT, tT, fF, tT, tT, fF, fF, fF, fF, fF, fF, fF] rfl rfl (by kernel_rfl) (fun _ _ _ h => h) (Or.inl ⟨by rfl, ?_⟩) ?_ ?_; rotate_left
      ·intro w'; go_simp; with_reducible rfl
      rotate_left
      ·simp only [Act.put, List.setIfInBounds_toArray, List.set_cons_zero, List.set_cons_succ, i64_w, i32_w]; rfl
      refine take_ (i := 3) (N := some 39) (v := ?_) (a' := ?_) #[tT, tT, tT, tT, tT, tT, fF, fF, fF, fF, fF, fF, fF] rfl rfl (by kernel_rfl) (fun _ _ _ h => h) (Or.inl ⟨by rfl, ?_⟩) hHeld ?_ ?_; rotate_left
      ·rintro w' ⟨s0, s1, s2⟩; go_simp; with_reducible rfl
      rotate_left
      ·simp only [Act.put, List.setIfInBounds_toArray, List.set_cons_zero, List.set_cons_succ, i64_w, i32_w]; rfl
      refine take_ (i := 6) (N := some 42) (v := ?_) (a' := ?_) #[tT, tT, tT, tT, tT, tT, tT, fF, fF, fF, fF, fF, fF] rfl rfl (by kernel_rfl) (fun _ _ _ h => h) (Or.inl ⟨by rfl, ?_⟩) hHeld ?_ ?_; rotate_left
      ·rintro w' ⟨s0, s1, s2⟩; go_simp; with_reducible rfl
      rotate_left
      ·simp only [Act.put, List.setIfInBounds_toArray, List.set_cons_zero, List.set_cons_succ, i64_w, i32_w]; rfl
      refine one_ (i := 7) (N := some 43) #[tT, tT, tT, tT, tT, tT, tT, tT, fF, fF, fF, fF, fF] rfl rfl (by kernel_rfl) (by decide) (fun K hK => ?_); refine goes_ Try.func103 (by kernel_rfl) rfl #[.slice A q c, .int .i64 i0, .int .i64 i1] (by rfl) rfl rfl (by simp only [List.map_toArray, List.map_cons, List.map_nil]; rfl) ?_
      with_reducible refine (HFA.out _ hHeld.1).mono ?_
      rintro e_ w3 ⟨v3, rfl, hS, hb⟩; refine ⟨_, rfl, ?_⟩; have V5 := Aside0.mk (Kd.V_mono (ok' := fun k => k ≠ bk) (Kd.S_V (base' := 0) (Kd.S_bound hS)) (fun k hk e => by have h1 := hk.2.1; have h2 := HLK.out; have h3 := G.out.size; have h4 := hHeld.1.size; omega)); have HB5 := Aside0.mk (below_step hHeld.1 hb); obtain ⟨A5, c5, e5⟩ := Kd.V_slice V5.out; subst e5; clear hS; refine hK.out _ _ ⟨below_step hHeld.1 hb, pw_cell_below hb hHeld.2.1, pw_cell_below hb hHeld.2.2⟩ (fun hHeld => ?_); clear hK K; refine norm_ (a' := ?_) ?_ ?_; rotate_left
      ·show Act.put _ (some 43) _ = _; simp only [Act.put, List.setIfInBounds_toArray, List.set_cons_zero, List.set_cons_succ, i64_w, i32_w]; rfl
      refine pure_ (i := 8) (N := some 35) (v := ?_) (a' := ?_) #[tT, tT, tT, tT, tT, tT, tT, tT, tT, fF, fF, fF, fF] rfl rfl (by kernel_rfl) (fun _ _ _ h => h) (Or.inl ⟨by rfl, ?_⟩) ?_ ?_; rotate_left
      ·intro w'; go_simp; with_reducible rfl
      rotate_left
      ·simp only [Act.put, List.setIfInBounds_toArray, List.set_cons_zero, List.set_cons_succ, i64_w, i32_w]; rfl
      refine pure_ (i := 9) (N := some 44) (v := ?_) (a' := ?_) #[tT, tT, tT, tT, tT, tT, tT, tT, tT, tT, fF, fF, fF] rfl rfl (by kernel_rfl) (fun _ _ _ h => h) (Or.inl ⟨by rfl, ?_⟩) ?_ ?_; rotate_left
      ·intro w'; go_simp; with_reducible rfl
      rotate_left
      ·simp only [Act.put, List.setIfInBounds_toArray, List.set_cons_zero, List.set_cons_succ, i64_w, i32_w]; rfl
      refine pure_ (i := 10) (N := some 45) (v := ?_) (a' := ?_) #[tT, tT, tT, tT, tT, tT, tT, tT, tT, tT, tT, fF, fF] rfl rfl (by kernel_rfl) (fun _ _ _ h => h) (Or.inl ⟨by rfl, ?_⟩) ?_ ?_; rotate_left
      ·intro w'; go_simp; with_reducible rfl
      rotate_left
      ·simp only [Act.put, List.setIfInBounds_toArray, List.set_cons_zero, List.set_cons_succ, i64_w, i32_w]; rfl
      refine pure_ (i := 11) (N := some 12) (v := ?_) (a' := ?_) #[tT, tT, tT, tT, tT, tT, tT, tT, tT, tT, tT, tT, fF] rfl rfl (by kernel_rfl) (fun _ _ _ h => h) (Or.inl ⟨by rfl, ?_⟩) ?_ ?_; rotate_left
      ·intro w'; go_simp; with_reducible rfl
      rotate_left
      ·simp only [Act.put, List.setIfInBounds_toArray, List.set_cons_zero, List.set_cons_succ, i64_w, i32_w]; rfl
      refine pure_ (i := 12) (N := some 13) (v := ?_) (a' := ?_) #[tT, tT, tT, tT, tT, tT, tT, tT, tT, tT, tT, tT, tT] rfl rfl (by kernel_rfl) (fun _ _ _ h => h) (Or.inl ⟨by rfl, ?_⟩) ?_ ?_; rotate_left
      ·intro w'; go_simp; with_reducible rfl
      rotate_left
      ·simp only [Act.put, List.setIfInBounds_toArray, List.set_cons_zero, List.set_cons_succ, i64_w, i32_w]; rfl
      refine done_ (by kernel_rfl) ?_; have hc25 := pw_cell_below HB5.out hc2; clear hc2 hx hx0 hx1
      go_wp2_with fail
      refine (IH.out _ A5 c5 HB5.out (Kd.V_reads' V5.out).2.1 V5.out).mono ?_; rintro e_ w6 ⟨rfl, n2, D2, hn2, hst2, hg2⟩; have ST2 := Aside0.mk hst2; have G2 := Aside0.mk (grown_trans (grown_trans G.out (grown_of_below HB5.out _)) hg2); have V2 := Aside0.mk (Kd.V_grown (Kd.V_below V.out HB5.out) hg2 (fun k hk e => hk (by injection e))); have HN2 := Aside0.mk hn2; clear hst2 hg2 hn2
      have hstep : Aside0 ((e.ns.take (jj + 1)).foldl (chStep T) 0 = mn (wrap64 (acc + ev)) 1000000001) := ⟨by rw [chSum_step T e.ns jj (by rw [HMORE.out.2.1, ← NFL.out]; exact HEV.out.2.2.2.2), ← HJJ.out.1, ← HEV.out.2.1, ← HEV.out.1]⟩
      have hbound : Aside0 (0 ≤ mn (wrap64 (acc + ev)) 1000000001 ∧ mn (wrap64 (acc + ev)) 1000000001 ≤ 1000000001 + 0) := ⟨by have h1 := HJJ.out.2.1; have h2 := HEV.out.2.2.1; rw [← HEV.out.1] at h2; unfold mn wrap64; split <;> omega⟩
      by_cases hm : (1000000001 : Int) < wrap64 (acc + ev)
      ·have bm : decide ((1000000001 : Int) < wrap64 (acc + ev)) = true := decide_eq_true hm
       have HMN := Aside0.mk (show mn (wrap64 (acc + ev)) 1000000001 = 1000000001 by unfold mn; rw [if_pos hm]); go_wp2
       go_roundg (gk - 1)
       case measure => have := HJJ.out; omega
       case rel => exact ⟨jj + 1, mn (wrap64 (acc + ev)) 1000000001, n2, D2, by rw [HMN.out], by first | rfl | go_num, ⟨hstep.out.symm, hbound.out, by have := HEV.out.2.2.2.2; omega, by have := HJJ.out; omega, by have h1 := HN2.out; have h2 := HEV.out.2.2.2.1; omega⟩, ST2, G2, V2⟩
      ·have bm : decide ((1000000001 : Int) < wrap64 (acc + ev)) = false := decide_eq_false hm
       have HMN := Aside0.mk (show mn (wrap64 (acc + ev)) 1000000001 = wrap64 (acc + ev) by unfold mn; rw [if_neg hm]); go_wp2
       go_roundg (gk - 1)
       case measure => have := HJJ.out; omega
       case rel => exact ⟨jj + 1, mn (wrap64 (acc + ev)) 1000000001, n2, D2, by rw [HMN.out], by first | rfl | go_num, ⟨hstep.out.symm, hbound.out, by have := HEV.out.2.2.2.2; omega, by have := HJJ.out; omega, by have h1 := HN2.out; have h2 := HEV.out.2.2.2.1; omega⟩, ST2, G2, V2⟩
     ·have hjm : jj = fl.length := by have := HJJ.out; omega
      subst hjm; have bj : decide ((fl.length : Int) < (fl.length : Int)) = false := decide_eq_false (by omega); have bj2 : decide (fl.length < fl.length) = false := decide_eq_false (by omega); have hbx := ST.out.box
      have hacc : acc = e.v := by
       have h1 := HJJ.out.1; rw [List.take_of_length_le (by rw [HMORE.out.2.1, ← NFL.out]; exact Nat.le_refl _)] at h1; rw [h1, HMORE.out.2.2.2]; rfl
      have hn1 : n1 + 1 ≤ n + chN d := ch_end (by omega) (by have h1 := (ch_next (HMORE.out.2.2.1 0 (by rw [← NFL.out]; have := HNZ.out; rw [← NFL.out] at this; omega))); obtain ⟨e', _, _, _, _, hdd⟩ := h1; have := HF.out.2.1; omega) HJJ.out.2.2.2.2; have HACC := Aside0.mk (And.intro hacc (And.intro hn1 (show (Lit.int .i64 acc).wf = true from Go.WalkArith.wf_i64 (by have h1 := HJJ.out.2.1; omega)))); clear hacc hn1 cj
      go_wp2_with (first | (at_mapUpdate; refine wpList_mapUpdate_own _ rfl _ _ _ 71 rfl 9 3 map_law Try.underlying71 _ bk n1 D1 rfl ST.out.own (by have := HACC.out.2.1; have := HF.out.2.2.2.1; unfold maxLen; omega) _ _ _ rfl rfl hkey _ [] (plainElem_int Try.underlying3 HACC.out.2.2) ?_; intro w6 hown6 hgrow6; have ST6 := Aside0.mk (ST.out.put (by rw [NS.out, HACC.out.1]; exact ch_good hT HF.out.1) hown6 hgrow6); have G6 := Aside0.mk (grown_trans G.out hgrow6); clear hown6 hgrow6) | go_in)
      go_ret; exact ⟨by rw [HACC.out.1]; rfl, n1 + 1, _, HACC.out.2.1, ST6.out, G6.out⟩
set_option maxHeartbeats 8000000 in
set_option maxRecDepth 100000 in
theorem impl_CountChains.calls (a0 : Int) (r1 : Int) (r2 : Bool) (w : World) (h : impl_CountChains.f a0 = some (r1, r2)) :
  Calls Try.prog 42 #[.int .i64 a0] w fun e w' => e = .returned (.tuple #[.int .i64 r1, .bool r2]) ∧ Below w.heap.size w w' := by
 have HB := Aside0.mk (Below.refl w.heap.size w); unfold impl_CountChains.f at h; obtain h := Option.some.inj h
 by_cases ha : 1 ≤ a0 ∧ a0 ≤ 4
 case neg =>
  rw [if_neg ha] at h
  obtain ⟨rfl, rfl⟩ : (0 : Int) = r1 ∧ false = r2 := by simpa using h
  have HW := Aside0.mk (impl_within.calls a0 1 4 false w (by unfold impl_within.f; by_cases c : 1 ≤ a0 <;> simp [c]; omega)); clear h ha; go_enter Try.func42, Try.ntmps42
  go_wp2_with (first | (go_at_call 79; (refine (HW.out).mono ?_); rintro e w1 ⟨rfl, ⟨m1, rfl⟩⟩) | fail)
  go_ret2; exact ⟨rfl, (by repeat (first | (with_reducible first | exact HB.out | apply below_alloc | apply pw_below_drewN | apply below_drew1) | exact HB.out))⟩
 case pos =>
  rw [if_pos ha] at h
  obtain ⟨rfl, rfl⟩ : chVal a0 = r1 ∧ true = r2 := by simpa using h
  have HW := Aside0.mk (impl_within.calls a0 1 4 true w (by unfold impl_within.f; simp [ha.1, ha.2]))
  obtain ⟨T, e, hT, he, hm, hv, hd⟩ : ∃ (T : List ChEnt) (e : ChEnt), chOk T ∧ e ∈ T ∧ impl_least.f a0 = some e.m ∧ e.v = chVal a0 ∧ e.d ≤ 10 := by
   have ha1 := ha.1; have ha2 := ha.2
   have h4 : a0 = 1 ∨ a0 = 2 ∨ a0 = 3 ∨ a0 = 4 := by omega
   rcases h4 with rfl | rfl | rfl | rfl
   ·exact ⟨chT1, _, chk1, List.mem_cons_self, by kernel_rfl, by kernel_rfl, by decide⟩
   ·exact ⟨chT2, _, chk2, List.mem_cons_self, by kernel_rfl, by kernel_rfl, by decide⟩
   ·exact ⟨chT3, _, chk3, List.mem_cons_self, by kernel_rfl, by kernel_rfl, by decide⟩
   ·exact ⟨chT4, _, chk4, List.mem_cons_self, by kernel_rfl, by kernel_rfl, by decide⟩
  have hvb : chVal a0 ≤ 1792 := by unfold chVal; repeat' split <;> omega
  have bv : decide ((1000000000 : Int) < chVal a0) = false := decide_eq_false (by omega)
  obtain ⟨V, hV⟩ : ∃ V, V = chVal a0 := ⟨_, rfl⟩
  rw [← hV] at hv bv hvb ⊢; have HT := Aside0.mk (And.intro hT (And.intro he (And.intro hm (And.intro hv hd))))
  have hmf : ∀ (fn : Fn) (first cap : Array Value) (w : World), (Instr.makeFunc fn first cap).run Try.prog w = .ok (.func fn first cap) w := fun _ _ _ _ => rfl
  have hmm := @run_makeMap Try.prog; have HE := Aside0.mk (enters_of Try.func100 (by kernel_rfl) rfl); clear h ha hT he hm hv hd hV; go_enter Try.func42, Try.ntmps42
  go_wp2_with (first | (go_at_call 79; (refine (HW.out).mono ?_); rintro e w1 ⟨rfl, ⟨m1, rfl⟩⟩) | fail)
  obtain ⟨wr, hwr⟩ : ∃ wr : World, wr = ((((w.drewN m1).alloc (Obj.map #[] 0)).alloc (Obj.cells #[Value.map (some w.heap.size)] 71)).alloc (Obj.cells #[Value.func (Fn.func 100) #[] #[Value.pointer (some { block := w.heap.size + 1, off := 0 }), Value.pointer (some { block := w.heap.size + 1 + 1, off := 0 })]] 66)) := ⟨_, rfl⟩
  rw [← hwr]
  have hsz : wr.heap.size = w.heap.size + 1 + 1 + 1 := by rw [hwr]; simp
  have hbw : Below w.heap.size w wr := by rw [hwr]; exact below_alloc (below_alloc (below_alloc (pw_below_drewN (Below.refl _ _) _) _) _) _
  have hst : MSt w wr (w.heap.size + 1) w.heap.size 0 (chGood T) (.map []) := ⟨hbw, by rw [hwr]; go_simp, by rw [hwr]; exact ((World.ownsMap_made (w.drewN m1) _ _ _).alloc _).alloc _, by omega, Nat.le_refl _, GoodD.none _⟩
  have hc2 : wr.cell? ⟨w.heap.size + 1 + 1, 0, none⟩ = some (.func (.func 100) #[] #[.pointer (some ⟨w.heap.size + 1, 0, none⟩), .pointer (some ⟨w.heap.size + 1 + 1, 0, none⟩)]) := by rw [hwr]; go_simp
  have HST := Aside0.mk hst; have HSZ := Aside0.mk (show w.heap.size < wr.heap.size by omega); clear hst hwr hbw hsz; refine start_ (n := 5) (S := fun w' => Below wr.heap.size wr w' ∧ w'.cell? ⟨w.heap.size + 1 + 1, 0, none⟩ = some (.func (.func 100) #[] #[.pointer (some ⟨w.heap.size + 1, 0, none⟩), .pointer (some ⟨w.heap.size + 1 + 1, 0, none⟩)])) (ds := [3]) #[false, false, false, false, false] (by kernel_rfl) rfl rfl ⟨below_drew (Below.refl _ _), hc2⟩ (fun hHeld => ?_); refine pure_ (i := 1) (N := some 13) (v := ?_) (a' := ?_) #[false, true, false, false, false] rfl rfl (by kernel_rfl) (fun _ _ _ h => h) (Or.inl ⟨by rfl, ?_⟩) ?_ ?_; rotate_left
  ·intro w'; go_simp; with_reducible rfl
  rotate_left
  ·simp only [Act.put, List.setIfInBounds_toArray, List.set_cons_zero, List.set_cons_succ, i64_w, i32_w]; rfl
  refine take_ (i := 0) (N := some 12) (v := ?_) (a' := ?_) #[true, true, false, false, false] rfl rfl (by kernel_rfl) (fun _ _ _ h => h) (Or.inl ⟨by rfl, ?_⟩) hHeld ?_ ?_; rotate_left
  ·rintro w' ⟨s0, s1⟩; go_simp; with_reducible rfl
  rotate_left
  ·simp only [Act.put, List.setIfInBounds_toArray, List.set_cons_zero, List.set_cons_succ, i64_w, i32_w]; rfl
  refine one_ (i := 2) (N := some 14) #[true, true, true, false, false] rfl rfl (by kernel_rfl) (by decide) (fun K hK => ?_); refine goes_ Try.func104 (by kernel_rfl) rfl #[.int .i64 a0] (by rfl) rfl rfl (by simp only [List.map_toArray, List.map_cons, List.map_nil]; rfl) ?_
  with_reducible refine (impl_least.calls a0 e.m _ HT.out.2.2.1).mono ?_
  rintro e_ w3 ⟨v3, rfl, hS, hb⟩; refine ⟨_, rfl, ?_⟩; have V5 := Aside0.mk (Kd.V_mono (ok' := fun k => k ≠ w.heap.size) (Kd.S_V (base' := 0) (Kd.S_bound hS)) (fun k hk e => by have h1 := hk.2.1; have h2 := HSZ.out; have h4 := hHeld.1.size; omega)); have HB5 := Aside0.mk (below_step hHeld.1 hb); have HC5 := Aside0.mk (pw_cell_below hb hHeld.2); obtain ⟨A5, c5, e5⟩ := Kd.V_slice V5.out; subst e5; clear hS; refine hK.out _ _ ⟨below_step hHeld.1 hb, pw_cell_below hb hHeld.2⟩ (fun hHeld => ?_); clear hK K; refine norm_ (a' := ?_) ?_ ?_; rotate_left
  ·show Act.put _ (some 14) _ = _; simp only [Act.put, List.setIfInBounds_toArray, List.set_cons_zero, List.set_cons_succ, i64_w, i32_w]; rfl
  refine last_ (i := 3) (N := some 15) #[true, true, true, true, false] rfl rfl (by kernel_rfl) (by decide) (fun K hK => ?_); refine goesF_ #[.pointer (some ⟨w.heap.size + 1, 0, none⟩), .pointer (some ⟨w.heap.size + 1 + 1, 0, none⟩)] HE.out (#[.slice A5 e.m.length c5] ++ #[.pointer (some ⟨w.heap.size + 1, 0, none⟩), .pointer (some ⟨w.heap.size + 1 + 1, 0, none⟩)]) (by rfl) rfl rfl (by rfl) (by simp only [List.map_toArray, List.map_cons, List.map_nil]; rfl) ?_; refine (ch_count T HT.out.1 w (w.heap.size + 1) (w.heap.size + 1 + 1) w.heap.size (by omega) 10 e w3 A5 c5 0 e.m.length (.map []) HT.out.2.1 HT.out.2.2.2.2 rfl (by decide) (Kd.V_reads' V5.out).2.1 V5.out (HST.out.move HB5.out) HC5.out).mono ?_; rintro e_ w6 ⟨rfl, n6, D6, hn6, hst6, hg6⟩; refine ⟨_, rfl, ?_⟩; have HB6 := Aside0.mk hst6.below; clear hn6 hst6 hg6; rw [HT.out.2.2.2.1]; refine hK.out _ _ ?_; clear hK K; refine norm_ (a' := ?_) ?_ ?_; rotate_left
  ·show Act.put _ (some 15) _ = _; simp only [Act.put, List.setIfInBounds_toArray, List.set_cons_zero, List.set_cons_succ, i64_w, i32_w]; rfl
  refine pure_ (i := 4) (N := some 6) (v := ?_) (a' := ?_) #[true, true, true, true, true] rfl rfl (by kernel_rfl) (fun _ _ _ h => h) (Or.inl ⟨by rfl, ?_⟩) ?_ ?_; rotate_left
  ·intro w'; go_simp; with_reducible rfl
  rotate_left
  ·simp only [Act.put, List.setIfInBounds_toArray, List.set_cons_zero, List.set_cons_succ, i64_w, i32_w]; rfl
  refine done_ (by kernel_rfl) ?_; go_wp2; go_ret2; exact ⟨rfl, HB6.out⟩
end Go.Proofs.Ytadepmjfhcmkoaa.P
