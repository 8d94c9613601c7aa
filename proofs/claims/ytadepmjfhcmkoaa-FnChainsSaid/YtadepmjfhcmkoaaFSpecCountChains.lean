-- By gp.py (this session's own driver over the kit's print). Not trusted: Lean checks it.
import Derived.Test.YtadepmjfhcmkoaaF0
import Derived.Test.YtadepmjfhcmkoaaB
import Derived.Deep.RegionHeld3
import Derived.KernelRfl
import Derived.Test.YtadepmjfhcmkoaaFSpecCorn
import Derived.Test.YtadepmjfhcmkoaaFSpecDist
import Derived.Test.YtadepmjfhcmkoaaFSpecFrom
import Derived.Test.YtadepmjfhcmkoaaFSpecIn
import Derived.Test.YtadepmjfhcmkoaaFSpecTrMore
import Derived.Test.YtadepmjfhcmkoaaFSpecWay
import Derived.Test.YtadepmjfhcmkoaaTab
import Derived.Test.YtadepmjfhcmkoaaFSpecCorn
import Derived.Test.YtadepmjfhcmkoaaFSpecDist
import Derived.Test.YtadepmjfhcmkoaaFSpecFrom
import Derived.Test.YtadepmjfhcmkoaaFSpecIn
import Derived.Test.YtadepmjfhcmkoaaFSpecTrMore
import Derived.Test.YtadepmjfhcmkoaaFSpecWay
namespace Go.Proofs.Ytadepmjfhcmkoaa.P
open Go.Proofs.Ytadepmjfhcmkoaa.B
open Go.RowKit Go.Proofs.YtadepmjfhcmkoaaW.PrintWords Go.Proofs.YtadepmjfhcmkoaaW.PrintLast Go.Proofs.YtadepmjfhcmkoaaW.PrintMore
attribute [local go_sem] max2_int min2_int max_two min_two max_three min_three max_four min_four   -- for this text's walks alone
set_option linter.unusedVariables false
set_option linter.unusedSimpArgs false
/-! ### spec_CountChains: function 41 (given) -/
structure SpE where
 m : List (List Int)
 r : Int
 fl : List (List Int)
 ns : List Nat
def spNone : SpE := ⟨[], 0, [], []⟩
def spNx (k : Nat) (T : List SpE) (e : SpE) (j : Nat) : Bool := decide ((e.fl.getD j []).length = 2) && decide (e.ns.getD j 0 < T.length) && (match spec_FlipAt.f k e.m (rd (e.fl.getD j []) 0) (rd (e.fl.getD j []) 1) with
 | some (nx, true) => (List.range T.length).all fun i => decide (spec_heSame.f k (T.getD i spNone).m nx = some (decide (i = e.ns.getD j 0)))
 | _ => false)
def spE1 (k : Nat) (T : List SpE) (hl : List (List Int)) (e : SpE) : Bool := (match spec_heOf.f k e.m with
 | some H => decide (spec_heApart.f k H hl = some e.r) && decide (spec_heFlips.f k H 1 = some e.fl)
 | none => false) && decide (e.ns.length = e.fl.length) && decide (e.fl.length ≤ 9) && (List.range e.fl.length).all (spNx k T e)
def spMir (k : Nat) (least hl : List (List Int)) (most : Int) : Bool := match spec_sgMirror.f k least with
 | some mir => (match spec_heOf.f k mir with
  | some hm => decide (spec_heApart.f k hm hl = some most)
  | none => false)
 | none => false
def spChk (k : Nat) (a0 : Int) (T : List SpE) (most : Nat) (least hl : List (List Int)) : Bool := decide (spec_trAll.f k [] [] a0 = some (T.map SpE.m)) && decide (spec_heLeast.f k a0 = some least) && spMir k least hl most && decide (1 ≤ T.length ∧ T.length ≤ 42) && decide (most ≤ 10) && decide (spec_heOf.f k least = some hl) && T.all (spE1 k T hl)
def spAdd (i : Nat) (ways : List Int) (nx : Nat) : List Int := ways.set nx (wrap64 (rd ways (nx : Int) + rd ways (i : Int)))
def spRow (T : List SpE) (most : Nat) (rank : Nat) (s : List Int × Int) (i : Nat) : List Int × Int :=
 if (T.getD i spNone).r = (rank : Int) then
  (let w1 := if rank = 0 then s.1.set i 1 else s.1
   ((T.getD i spNone).ns.foldl (spAdd i) w1, if rank = most then rd w1 (i : Int) else s.2))
 else s
def spRank (T : List SpE) (most : Nat) (s : List Int × Int) (rank : Nat) : List Int × Int := (List.range T.length).foldl (spRow T most rank) s
def spAll (T : List SpE) (most : Nat) (c : Nat) : List Int × Int := (List.range c).foldl (spRank T most) (List.replicate T.length 0, 0)
def spT1 : List SpE := [⟨[[1]], 0, [], []⟩]
def spT2 : List SpE := [⟨[[0, 1], [1, 0]], 1, [], []⟩,
 ⟨[[1, 0], [0, 1]], 0, [[1, 1]], [0]⟩]
def spT3 : List SpE := [⟨[[0, 0, 1], [0, 1, 0], [1, 0, 0]], 4, [], []⟩,
 ⟨[[0, 0, 1], [1, 0, 0], [0, 1, 0]], 3, [[2, 1]], [0]⟩,
 ⟨[[0, 1, 0], [0, 0, 1], [1, 0, 0]], 3, [[1, 2]], [0]⟩,
 ⟨[[0, 1, 0], [1, -1, 1], [0, 1, 0]], 2, [[1, 2], [2, 1]], [1, 2]⟩,
 ⟨[[0, 1, 0], [1, 0, 0], [0, 0, 1]], 1, [[2, 2]], [3]⟩,
 ⟨[[1, 0, 0], [0, 0, 1], [0, 1, 0]], 1, [[1, 1]], [3]⟩,
 ⟨[[1, 0, 0], [0, 1, 0], [0, 0, 1]], 0, [[1, 1], [2, 2]], [4, 5]⟩]
def spT4 : List SpE := [⟨[[0, 0, 0, 1], [0, 0, 1, 0], [0, 1, 0, 0], [1, 0, 0, 0]], 10, [], []⟩,
 ⟨[[0, 0, 0, 1], [0, 0, 1, 0], [1, 0, 0, 0], [0, 1, 0, 0]], 9, [[3, 1]], [0]⟩,
 ⟨[[0, 0, 0, 1], [0, 1, 0, 0], [0, 0, 1, 0], [1, 0, 0, 0]], 9, [[2, 2]], [0]⟩,
 ⟨[[0, 0, 0, 1], [0, 1, 0, 0], [1, -1, 1, 0], [0, 1, 0, 0]], 8, [[2, 2], [3, 1]], [1, 2]⟩,
 ⟨[[0, 0, 0, 1], [0, 1, 0, 0], [1, 0, 0, 0], [0, 0, 1, 0]], 7, [[3, 2]], [3]⟩,
 ⟨[[0, 0, 0, 1], [1, 0, 0, 0], [0, 0, 1, 0], [0, 1, 0, 0]], 7, [[2, 1]], [3]⟩,
 ⟨[[0, 0, 0, 1], [1, 0, 0, 0], [0, 1, 0, 0], [0, 0, 1, 0]], 6, [[2, 1], [3, 2]], [4, 5]⟩,
 ⟨[[0, 0, 1, 0], [0, 0, 0, 1], [0, 1, 0, 0], [1, 0, 0, 0]], 9, [[1, 3]], [0]⟩,
 ⟨[[0, 0, 1, 0], [0, 0, 0, 1], [1, 0, 0, 0], [0, 1, 0, 0]], 8, [[1, 3], [3, 1]], [1, 7]⟩,
 ⟨[[0, 0, 1, 0], [0, 1, -1, 1], [0, 0, 1, 0], [1, 0, 0, 0]], 8, [[1, 3], [2, 2]], [2, 7]⟩,
 ⟨[[0, 0, 1, 0], [0, 1, -1, 1], [1, -1, 1, 0], [0, 1, 0, 0]], 7, [[1, 3], [2, 2], [3, 1]], [3, 8, 9]⟩,
 ⟨[[0, 0, 1, 0], [0, 1, -1, 1], [1, 0, 0, 0], [0, 0, 1, 0]], 6, [[1, 3], [3, 2]], [4, 10]⟩,
 ⟨[[0, 0, 1, 0], [0, 1, 0, 0], [0, 0, 0, 1], [1, 0, 0, 0]], 7, [[2, 3]], [9]⟩,
 ⟨[[0, 0, 1, 0], [0, 1, 0, 0], [1, -1, 0, 1], [0, 1, 0, 0]], 6, [[2, 3], [3, 1]], [10, 12]⟩,
 ⟨[[0, 0, 1, 0], [0, 1, 0, 0], [1, 0, -1, 1], [0, 0, 1, 0]], 5, [[2, 3], [3, 2]], [11, 13]⟩,
 ⟨[[0, 0, 1, 0], [0, 1, 0, 0], [1, 0, 0, 0], [0, 0, 0, 1]], 4, [[3, 3]], [14]⟩,
 ⟨[[0, 0, 1, 0], [1, 0, -1, 1], [0, 0, 1, 0], [0, 1, 0, 0]], 6, [[1, 3], [2, 1]], [5, 10]⟩,
 ⟨[[0, 0, 1, 0], [1, 0, -1, 1], [0, 1, 0, 0], [0, 0, 1, 0]], 5, [[1, 3], [2, 1], [3, 2]], [6, 11, 16]⟩,
 ⟨[[0, 0, 1, 0], [1, 0, 0, 0], [0, 0, 0, 1], [0, 1, 0, 0]], 5, [[2, 1], [2, 3]], [13, 16]⟩,
 ⟨[[0, 0, 1, 0], [1, 0, 0, 0], [0, 1, -1, 1], [0, 0, 1, 0]], 4, [[2, 1], [2, 3], [3, 2]], [14, 17, 18]⟩,
 ⟨[[0, 0, 1, 0], [1, 0, 0, 0], [0, 1, 0, 0], [0, 0, 0, 1]], 3, [[2, 1], [3, 3]], [15, 19]⟩,
 ⟨[[0, 1, 0, 0], [0, 0, 0, 1], [0, 0, 1, 0], [1, 0, 0, 0]], 7, [[1, 2]], [9]⟩,
 ⟨[[0, 1, 0, 0], [0, 0, 0, 1], [1, -1, 1, 0], [0, 1, 0, 0]], 6, [[1, 2], [3, 1]], [10, 21]⟩,
 ⟨[[0, 1, 0, 0], [0, 0, 0, 1], [1, 0, 0, 0], [0, 0, 1, 0]], 5, [[1, 2], [3, 2]], [11, 22]⟩,
 ⟨[[0, 1, 0, 0], [0, 0, 1, 0], [0, 0, 0, 1], [1, 0, 0, 0]], 6, [[1, 2], [2, 3]], [12, 21]⟩,
 ⟨[[0, 1, 0, 0], [0, 0, 1, 0], [1, -1, 0, 1], [0, 1, 0, 0]], 5, [[1, 2], [2, 3], [3, 1]], [13, 22, 24]⟩,
 ⟨[[0, 1, 0, 0], [0, 0, 1, 0], [1, 0, -1, 1], [0, 0, 1, 0]], 4, [[1, 2], [2, 3], [3, 2]], [14, 23, 25]⟩,
 ⟨[[0, 1, 0, 0], [0, 0, 1, 0], [1, 0, 0, 0], [0, 0, 0, 1]], 3, [[1, 2], [3, 3]], [15, 26]⟩,
 ⟨[[0, 1, 0, 0], [1, -1, 0, 1], [0, 0, 1, 0], [0, 1, 0, 0]], 5, [[1, 2], [2, 1]], [16, 22]⟩,
 ⟨[[0, 1, 0, 0], [1, -1, 0, 1], [0, 1, 0, 0], [0, 0, 1, 0]], 4, [[1, 2], [2, 1], [3, 2]], [17, 23, 28]⟩,
 ⟨[[0, 1, 0, 0], [1, -1, 1, 0], [0, 0, 0, 1], [0, 1, 0, 0]], 4, [[1, 2], [2, 1], [2, 3]], [18, 25, 28]⟩,
 ⟨[[0, 1, 0, 0], [1, -1, 1, 0], [0, 1, -1, 1], [0, 0, 1, 0]], 3, [[1, 2], [2, 1], [2, 3], [3, 2]], [19, 26, 29, 30]⟩,
 ⟨[[0, 1, 0, 0], [1, -1, 1, 0], [0, 1, 0, 0], [0, 0, 0, 1]], 2, [[1, 2], [2, 1], [3, 3]], [20, 27, 31]⟩,
 ⟨[[0, 1, 0, 0], [1, 0, 0, 0], [0, 0, 0, 1], [0, 0, 1, 0]], 2, [[2, 2]], [31]⟩,
 ⟨[[0, 1, 0, 0], [1, 0, 0, 0], [0, 0, 1, 0], [0, 0, 0, 1]], 1, [[2, 2], [3, 3]], [32, 33]⟩,
 ⟨[[1, 0, 0, 0], [0, 0, 0, 1], [0, 0, 1, 0], [0, 1, 0, 0]], 4, [[1, 1]], [28]⟩,
 ⟨[[1, 0, 0, 0], [0, 0, 0, 1], [0, 1, 0, 0], [0, 0, 1, 0]], 3, [[1, 1], [3, 2]], [29, 35]⟩,
 ⟨[[1, 0, 0, 0], [0, 0, 1, 0], [0, 0, 0, 1], [0, 1, 0, 0]], 3, [[1, 1], [2, 3]], [30, 35]⟩,
 ⟨[[1, 0, 0, 0], [0, 0, 1, 0], [0, 1, -1, 1], [0, 0, 1, 0]], 2, [[1, 1], [2, 3], [3, 2]], [31, 36, 37]⟩,
 ⟨[[1, 0, 0, 0], [0, 0, 1, 0], [0, 1, 0, 0], [0, 0, 0, 1]], 1, [[1, 1], [3, 3]], [32, 38]⟩,
 ⟨[[1, 0, 0, 0], [0, 1, 0, 0], [0, 0, 0, 1], [0, 0, 1, 0]], 1, [[1, 1], [2, 2]], [33, 38]⟩,
 ⟨[[1, 0, 0, 0], [0, 1, 0, 0], [0, 0, 1, 0], [0, 0, 0, 1]], 0, [[1, 1], [2, 2], [3, 3]], [34, 39, 40]⟩]
theorem spk1 : spChk 100 1 spT1 0 [[1]] [[0, 1], [1, 0]] = true := by kernel_rfl
theorem spv1 : (spAll spT1 0 1).2 = 1 := by kernel_rfl
theorem spk2 : spChk 100 2 spT2 1 [[1, 0], [0, 1]] [[0, 1, 2], [1, 0, 1], [2, 1, 0]] = true := by kernel_rfl
theorem spv2 : (spAll spT2 1 2).2 = 1 := by kernel_rfl
theorem spk3 : spChk 100 3 spT3 4 [[1, 0, 0], [0, 1, 0], [0, 0, 1]] [[0, 1, 2, 3], [1, 0, 1, 2], [2, 1, 0, 1], [3, 2, 1, 0]] = true := by kernel_rfl
theorem spv3 : (spAll spT3 4 5).2 = 4 := by kernel_rfl
theorem spk4 : spChk 100 4 spT4 10 [[1, 0, 0, 0], [0, 1, 0, 0], [0, 0, 1, 0], [0, 0, 0, 1]] [[0, 1, 2, 3, 4], [1, 0, 1, 2, 3], [2, 1, 0, 1, 2], [3, 2, 1, 0, 1], [4, 3, 2, 1, 0]] = true := by kernel_rfl
theorem spv4 : (spAll spT4 10 11).2 = 1792 := by kernel_rfl
def spVal (a0 : Int) : Int := if a0 = 1 then 1 else if a0 = 2 then 1 else if a0 = 3 then 4 else 1792
def spec_CountChains.f (a0 : Int) : Option (Int × Bool) := some (if 1 ≤ a0 ∧ a0 ≤ 4 then (spVal a0, true) else (0, false))
theorem sp_tab (a0 : Int) (h : 1 ≤ a0 ∧ a0 ≤ 4) : ∃ (T : List SpE) (most : Nat) (least hl : List (List Int)), spChk 100 a0 T most least hl = true ∧ (spAll T most (most + 1)).2 = spVal a0 := by
 have h4 : a0 = 1 ∨ a0 = 2 ∨ a0 = 3 ∨ a0 = 4 := by omega
 rcases h4 with rfl | rfl | rfl | rfl
 ·exact ⟨_, _, _, _, spk1, spv1⟩
 ·exact ⟨_, _, _, _, spk2, spv2⟩
 ·exact ⟨_, _, _, _, spk3, spv3⟩
 ·exact ⟨_, _, _, _, spk4, spv4⟩
theorem sp_of {a0 : Int} {T : List SpE} {most : Nat} {least hl : List (List Int)} (h : spChk 100 a0 T most least hl = true) : spec_trAll.f 100 [] [] a0 = some (T.map SpE.m) ∧ spec_heLeast.f 100 a0 = some least ∧ (∃ mir hm, spec_sgMirror.f 100 least = some mir ∧ spec_heOf.f 100 mir = some hm ∧ spec_heApart.f 100 hm hl = some (most : Int)) ∧ (1 ≤ T.length ∧ T.length ≤ 42) ∧ most ≤ 10 ∧ spec_heOf.f 100 least = some hl ∧ ∀ e ∈ T, spE1 100 T hl e = true := by
 unfold spChk at h; simp only [Bool.and_eq_true, decide_eq_true_eq] at h; obtain ⟨⟨⟨⟨⟨⟨a1, a2⟩, a3⟩, a4⟩, a5⟩, a6⟩, a7⟩ := h; refine ⟨a1, a2, ?_, a4, a5, a6, List.all_eq_true.mp a7⟩; unfold spMir at a3
 split at a3
 ·rename_i mir hmir
  split at a3
  ·rename_i hm hhm
   exact ⟨mir, hm, hmir, hhm, of_decide_eq_true a3⟩
  ·cases a3
 ·cases a3
theorem sp_e {T : List SpE} {hl : List (List Int)} {e : SpE} (h : spE1 100 T hl e = true) : (∃ H, spec_heOf.f 100 e.m = some H ∧ spec_heApart.f 100 H hl = some e.r ∧ spec_heFlips.f 100 H 1 = some e.fl) ∧ e.ns.length = e.fl.length ∧ e.fl.length ≤ 9 ∧ ∀ j, j < e.fl.length → spNx 100 T e j = true := by
 unfold spE1 at h; simp only [Bool.and_eq_true, decide_eq_true_eq] at h; obtain ⟨⟨⟨a1, a2⟩, a3⟩, a4⟩ := h; refine ⟨?_, a2, a3, fun j hj => List.all_eq_true.mp a4 j (List.mem_range.mpr hj)⟩
 split at a1
 ·rename_i H hH
  rw [Bool.and_eq_true, decide_eq_true_eq, decide_eq_true_eq] at a1; exact ⟨H, hH, a1.1, a1.2⟩
 ·cases a1
theorem sp_nx {T : List SpE} {e : SpE} {j : Nat} (h : spNx 100 T e j = true) : (e.fl.getD j []).length = 2 ∧ e.ns.getD j 0 < T.length ∧ ∃ nx, spec_FlipAt.f 100 e.m (rd (e.fl.getD j []) 0) (rd (e.fl.getD j []) 1) = some (nx, true) ∧ ∀ i, i < T.length → spec_heSame.f 100 (T.getD i spNone).m nx = some (decide (i = e.ns.getD j 0)) := by
 unfold spNx at h; simp only [Bool.and_eq_true, decide_eq_true_eq] at h; obtain ⟨⟨a1, a2⟩, a3⟩ := h; refine ⟨a1, a2, ?_⟩
 split at a3
 ·rename_i nx hnx
  exact ⟨nx, hnx, fun i hi => of_decide_eq_true (List.all_eq_true.mp a3 i (List.mem_range.mpr hi))⟩
 ·cases a3
theorem range_step {α : Type} (f : α → Nat → α) (s : α) (i : Nat) : (List.range (i + 1)).foldl f s = f ((List.range i).foldl f s) i := by rw [List.range_succ, List.foldl_append]; rfl
theorem take_step {α β : Type} (f : α → β → α) (s : α) (l : List β) (d : β) (i : Nat) (hi : i < l.length) : (l.take (i + 1)).foldl f s = f ((l.take i).foldl f s) (l.getD i d) := by
 have e : l.getD i d = l[i] := by rw [List.getD_eq_getElem?_getD, List.getElem?_eq_getElem hi]; rfl
 rw [List.take_succ_eq_append_getElem hi, List.foldl_append, e]; rfl
theorem V_elem {α : Type} {d : Kd α} {e2 e1 : Nat} {W : World} {ok : Nat → Prop} {A : Option Addr} {n c : Nat} {xs : List (List α)} (h : Kd.V (Kd.slice e1 d) e2 W 0 ok (.slice A n c) xs) (i : Nat) (hi : i < n) :
  ∃ ad A1 c1, A = some ad ∧ W.cell? (ad.add i) = some (.slice A1 (xs.getD i []).length c1) ∧ Kd.V d e1 W 0 ok (.slice A1 (xs.getD i []).length c1) (xs.getD i []) := by
 obtain ⟨hn, hc, hF⟩ := Kd.V_at h; obtain ⟨ad, cells, eA, hcl, hFK, hcc, _⟩ := Kd.F_get hF ([] : List α) (i : Int) (by omega) (by omega); rw [Int.toNat_natCast] at hFK hcc; obtain ⟨A1, c1, rfl, hl, hf⟩ := Kd.FK_slice_open hFK; have h9 : W.cell? (ad.add (i * 1 + 0)) = some _ := hcc 0 _ rfl; rw [Nat.mul_one, Nat.add_zero] at h9; exact ⟨ad, A1, c1, eA, h9, Kd.V_mk hl hf⟩
theorem sp_mem {T : List SpE} {i : Nat} (h : i < T.length) : T.getD i spNone ∈ T := by
 rw [List.getD_eq_getElem?_getD, List.getElem?_eq_getElem h]; exact List.getElem_mem h
structure SpSt (w W : World) (g cw : Nat) (Aa : Option Addr) (ca : Nat) (A : List (List (List Int))) (Al : Option Addr) (cl : Nat) (least : List (List Int)) (L : Nat) (ways : List Int) : Prop where
 below : Below w.heap.size w W
 lo : w.heap.size ≤ g
 len : ways.length = L
 own : Kd.R (Kd.int .i64) 3 W w.heap.size (fun _ => True) (.slice (some ⟨g, 0, none⟩) L cw) ways
 all : Kd.V (Kd.slice 39 (Kd.slice 3 (Kd.int .i64))) 22 W 0 (fun k => k ≠ g) (.slice Aa A.length ca) A
 lst : Kd.V (Kd.slice 3 (Kd.int .i64)) 39 W 0 (fun k => k ≠ g) (.slice Al least.length cl) least
section
variable {w W W' : World} {g cw ca cl L : Nat} {Aa Al : Option Addr} {A : List (List (List Int))} {least : List (List Int)} {ways : List Int}
theorem SpSt.move (h : SpSt w W g cw Aa ca A Al cl least L ways) (hb : Below W.heap.size W W') : SpSt w W' g cw Aa ca A Al cl least L ways := ⟨below_step h.below hb, h.lo, h.len, Kd.R_below h.own hb, Kd.V_below h.all hb, Kd.V_below h.lst hb⟩
theorem SpSt.put (h : SpSt w W g cw Aa ca A Al cl least L ways) (i : Nat) (v : Int) : SpSt w (W.setCell ⟨g, i, none⟩ (.int .i64 v)) g cw Aa ca A Al cl least L (ways.set i v) := by
 have hp := Kd.R_putg h.own (i : Int) v; rw [Int.toNat_natCast] at hp; exact ⟨h.below.setCell (p := ⟨g, i, none⟩) h.lo _, h.lo, by rw [List.length_set]; exact h.len, hp.1, Kd.V_grown h.all hp.2 (fun k hk e => hk (by injection e)), Kd.V_grown h.lst hp.2 (fun k hk e => hk (by injection e))⟩
theorem SpSt.grown (h : SpSt w W g cw Aa ca A Al cl least L ways) (i : Nat) (v : Int) : W.grownBy (W.setCell ⟨g, i, none⟩ (.int .i64 v)) (some g) := by
 have hp := Kd.R_putg h.own (i : Int) v; rw [Int.toNat_natCast] at hp; exact hp.2
theorem SpSt.cell (h : SpSt w W g cw Aa ca A Al cl least L ways) (i : Nat) (hi : i < L) : W.cell? ⟨g, i, none⟩ = some (.int .i64 (rd ways (i : Int))) ∧ W.frozen? ⟨g, i, none⟩ = false := by
 have h1 := Kd.R_celln 0 h.own (i : Int) (by omega) (by have := h.len; omega); rw [Int.toNat_natCast] at h1; refine ⟨?_, h1.2⟩; have h2 := h1.1; unfold rd; rw [Int.toNat_natCast]; exact h2
end
set_option maxHeartbeats 8000000 in
set_option maxRecDepth 100000 in
theorem spec_CountChains.calls (a0 : Int) (r1 : Int) (r2 : Bool) (w : World) (h : spec_CountChains.f a0 = some (r1, r2)) :
  Calls Try.prog 41 #[.int .i64 a0] w fun e w' => e = .returned (.tuple #[.int .i64 r1, .bool r2]) ∧ Below w.heap.size w w' := by
 have HB := Aside0.mk (Below.refl w.heap.size w); unfold spec_CountChains.f at h; obtain h := Option.some.inj h
 by_cases ha : 1 ≤ a0 ∧ a0 ≤ 4
 case neg =>
  rw [if_neg ha] at h
  obtain ⟨rfl, rfl⟩ : (0 : Int) = r1 ∧ false = r2 := by simpa using h
  have HW := Aside0.mk (spec_l1In.calls a0 1 4 false w (by unfold spec_l1In.f; by_cases c : 1 ≤ a0 <;> simp [c]; omega)); clear h ha; go_enter Try.func41, Try.ntmps41
  go_wp2_with (first | (go_at_call 58; (refine (HW.out).mono ?_); rintro e w1 ⟨rfl, ⟨m1, rfl⟩⟩) | fail)
  go_ret2; exact ⟨rfl, (by repeat (first | (with_reducible first | exact HB.out | apply below_alloc | apply pw_below_drewN | apply below_drew1) | exact HB.out))⟩
 case pos =>
  rw [if_pos ha] at h
  obtain ⟨rfl, rfl⟩ : spVal a0 = r1 ∧ true = r2 := by simpa using h
  have HW := Aside0.mk (spec_l1In.calls a0 1 4 true w (by unfold spec_l1In.f; simp [ha.1, ha.2]))
  have hvb : spVal a0 ≤ 1792 := by unfold spVal; repeat' split <;> omega
  have bv : decide ((1000000000 : Int) < spVal a0) = false := decide_eq_false (by omega); obtain ⟨T, most, least, hl, hok, hval⟩ := sp_tab a0 ha
  obtain ⟨V, hV⟩ : ∃ V, V = spVal a0 := ⟨_, rfl⟩
  rw [← hV] at hval bv hvb ⊢; obtain ⟨o1, o2, ⟨mir, hm, o3, o4, o5⟩, o6, o7, o8, o9⟩ := sp_of hok
  obtain ⟨A, hA⟩ : ∃ A, A = T.map SpE.m := ⟨_, rfl⟩
  obtain ⟨L, hL⟩ : ∃ L, L = A.length := ⟨_, rfl⟩
  have hLT : L = T.length := by rw [hL, hA, List.length_map]
  rw [← hA] at o1; have H1 := Aside0.mk (And.intro o1 o2); have H3 := Aside0.mk (And.intro o3 (And.intro o4 (And.intro o5 o8))); have H9 := Aside0.mk o9; have hmost : most ≤ 10 := o7
  have hL1 : 1 ≤ L := by omega
  have hL42 : L ≤ 42 := by omega
  have HV := Aside0.mk hval; have HLT := Aside0.mk (And.intro hLT (And.intro hA hL))
  have HAT := Aside0.mk (fun (i : Nat) (hi : i < L) => show A.getD i [] = (T.getD i spNone).m by
   rw [hA, List.getD_eq_getElem?_getD, List.getD_eq_getElem?_getD, List.getElem?_map, List.getElem?_eq_getElem (by omega)]
   rfl)
  clear h ha hok hval hV o1 o2 o3 o4 o5 o6 o7 o8 o9 hA hLT hL; go_enter Try.func41, Try.ntmps41
  go_wp2_with (first | (go_at_call 58; (refine (HW.out).mono ?_); rintro e w1 ⟨rfl, ⟨m1, rfl⟩⟩) | fail)
  refine (spec_trAll.calls 100 none 0 [] (fun _ => True) none 0 [] a0 A _ (Kd.C_nil _ _) (Nat.zero_le _) (Kd.V_nil _ _ _ _ _) H1.out.1).mono ?_; rintro e w2 ⟨v2, rfl, hN, hb⟩; have HB2 := Aside0.mk (below_step (by repeat (first | (with_reducible first | exact HB.out | apply below_alloc | apply pw_below_drewN | apply below_drew1) | exact HB.out)) hb); have VA := Aside0.mk (Kd.V_bound (Kd.N_V (base' := 0) hN)); obtain ⟨Aa, ca, e2⟩ := Kd.V_slice VA.out; subst e2; clear hN hb HB; rw [← HLT.out.2.2] at VA ⊢
  go_wp2_with (first | ((with_reducible refine gate_dst (N := 26) rfl ?_); go_loud (refine Kd.R_make (Kd.int .i64) _ 3 rfl (N := 26) rfl 39 _ _ rfl (L : Int) rfl rfl Try.underlying39 (.int .i64 0) 8 info3 rfl (by decide) (by omega) 0 (ok := fun _ => True) (okp := fun _ => True) rfl (fun _ hk => hk) trivial (Int.natCast_nonneg _) (Nat.le_trans (Nat.mul_le_mul_right _ (show (L : Int).toNat ≤ 35184372088832 by rw [Int.toNat_natCast]; omega)) (by omega)) (Below.refl _ _) (Nat.le_refl _) ?_); intro v5 w3 ho hb hg_ hnew_; clear hg_ hnew_; rw [Int.toNat_natCast] at ho; have HO := Aside0.mk ho; have HB3 := Aside0.mk hb; clear ho hb))
  obtain ⟨g, cw, e5, hg1, hg2, _⟩ := Kd.R_form HO.out (by rw [List.length_replicate]; omega); subst e5; have HST := Aside0.mk (show SpSt w w3 g cw Aa ca A none 0 [] L (List.replicate L 0) from ⟨below_step HB2.out HB3.out, by have := HB2.out.size; omega, List.length_replicate, by have h1 := Kd.R_lower HO.out HB2.out.size; rw [List.length_replicate] at h1; exact h1, by rw [← HLT.out.2.2]; exact Kd.V_mono (Kd.V_below VA.out HB3.out) (fun k hk e => by have h1 := hk.2; omega), Kd.V_nil _ _ _ _ _⟩); rw [List.length_replicate]; clear HO HB3 VA HB2
  go_wp2_with fail
  refine (spec_heLeast.calls 100 a0 least _ H1.out.2).mono ?_; rintro e w4 ⟨v6, rfl, hS, hb⟩; have hst := HST.out.move hb; have VL := Aside0.mk (Kd.V_mono (ok' := fun k => k ≠ g) (Kd.S_V (base' := 0) (Kd.S_bound hS)) (fun k hk e => by have h1 := hk.2.1; omega)); obtain ⟨Al, cl, e6⟩ := Kd.V_slice VL.out; subst e6; have HST4 := Aside0.mk (show SpSt w w4 g cw Aa ca A Al cl least L (List.replicate L 0) from ⟨hst.below, hst.lo, hst.len, hst.own, hst.all, VL.out⟩); clear hS hb hst HST VL
  go_wp2_with fail
  refine (spec_sgMirror.calls 100 Al cl least mir _ (Kd.V_reads' HST4.out.lst).2.2 (Kd.V_reads' HST4.out.lst).2.1 H3.out.1).mono ?_; rintro e w5 ⟨v30, rfl, hS, hb⟩; have HST5 := Aside0.mk (HST4.out.move hb); have V30 := Aside0.mk (Kd.S_V (base' := 0) hS); obtain ⟨Am, cm, em⟩ := Kd.V_slice V30.out; subst em; clear hS hb HST4
  go_wp2_with fail
  refine (spec_heOf.calls 100 Am cm mir hm _ (Kd.V_reads' V30.out).2.2 (Kd.V_reads' V30.out).2.1 H3.out.2.1).mono ?_; rintro e w6 ⟨v31, rfl, hS, hb⟩; have HST6 := Aside0.mk (HST5.out.move hb); have V31 := Aside0.mk (Kd.S_V (base' := 0) hS); obtain ⟨Ah, ch, eh⟩ := Kd.V_slice V31.out; subst eh; clear hS hb HST5 V30
  go_wp2_with fail
  refine (spec_heOf.calls 100 Al cl least hl _ (Kd.V_reads' HST6.out.lst).2.2 (Kd.V_reads' HST6.out.lst).2.1 H3.out.2.2.2).mono ?_; rintro e w7 ⟨v33, rfl, hS, hb⟩; have HST7 := Aside0.mk (HST6.out.move hb); have V31b := Aside0.mk (Kd.V_below V31.out hb); have V33 := Aside0.mk (Kd.S_V (base' := 0) hS); obtain ⟨Ak, ck, ek⟩ := Kd.V_slice V33.out; subst ek; clear hS hb HST6 V31
  go_wp2_with fail
  refine (spec_heApart.calls 100 Ah ch hm Ak ck hl (most : Int) _ (Kd.V_reads' V31b.out).2.2 (Kd.V_reads' V31b.out).2.1 (Kd.V_reads' V33.out).2.2 (Kd.V_reads' V33.out).2.1 H3.out.2.2.1).mono ?_; rintro e w8 ⟨rfl, ⟨m8, rfl⟩⟩; have HST8 := Aside0.mk (HST7.out.move (pw_below_drewN (Below.refl _ _) m8)); clear HST7 V31b V33
  go_wp2_with fail
  go_loopg [8, 9] (most + 2) (fun kq v8 v9 w' => ∃ (rank : Nat) (ways : List Int) (total : Int), v8 = .int .i64 total ∧ v9 = .int .i64 (rank : Int) ∧ Aside0 ((ways, total) = (List.range rank).foldl (spRank T most) (List.replicate L 0, 0) ∧ rank ≤ most + 1 ∧ kq = most + 2 - rank) ∧ Aside0 (SpSt w w' g cw Aa ca A Al cl least L ways))
  case atStart => exact ⟨0, _, 0, rfl, rfl, ⟨⟨rfl, Nat.zero_le _, rfl⟩⟩, HST8⟩
  case round =>
   clear HST8; obtain ⟨rank, ways, total, rfl, rfl, HR, HST⟩ := hrel
   by_cases cr : rank ≤ most
   ·have br : decide ((rank : Int) ≤ (most : Int)) = true := decide_eq_true (by omega)
    have br2 : decide (rank ≤ most) = true := decide_eq_true cr
    have hrk : rank ≤ 10 := by omega
    have HG := Aside0.mk (show gk = most + 2 - rank from HR.out.2.2)
    go_wp2_with fail
    go_loopg [8, 42] (L + 1) (fun kq v8 v42 w' => ∃ (i : Nat) (ways1 : List Int) (total1 : Int), v8 = .int .i64 total1 ∧ v42 = .int .i64 (i : Int) ∧ Aside0 ((ways1, total1) = (List.range i).foldl (spRow T most rank) (ways, total) ∧ i ≤ L ∧ kq = L + 1 - i) ∧ Aside0 (SpSt w w' g cw Aa ca A Al cl least L ways1))
    case atStart => exact ⟨0, ways, total, rfl, rfl, ⟨⟨rfl, Nat.zero_le _, rfl⟩⟩, HST⟩
    case round =>
     clear HST; obtain ⟨i, ways1, total1, rfl, rfl, HI, HST⟩ := hrel
     by_cases ci : i < L
     ·have bi : decide ((i : Int) < (L : Int)) = true := decide_eq_true (by omega)
      have bi2 : decide (i < L) = true := decide_eq_true ci; have hall := HST.out.all; rw [← HLT.out.2.2] at hall; obtain ⟨aa, Ai, c_i, ea, hxi, Vi⟩ := V_elem hall i ci
      cases ea
      obtain ⟨e, he⟩ : ∃ e, e = T.getD i spNone := ⟨_, rfl⟩
      rw [HAT.out i ci, ← he] at hxi Vi; obtain ⟨⟨H, h1, h2, h3⟩, h4, h5, h6⟩ := sp_e (H9.out e (by rw [he]; exact sp_mem (by rw [← HLT.out.1]; exact ci))); have HEF := Aside0.mk (And.intro h1 (And.intro h2 (And.intro h3 (And.intro h4 (And.intro h5 (And.intro h6 he)))))); have VI := Aside0.mk Vi
      obtain ⟨er, her⟩ : ∃ er, er = e.r := ⟨_, rfl⟩
      have HER := Aside0.mk her; have hfl9 : e.fl.length ≤ 9 := h5; clear hall Vi h1 h2 h3 h4 h5 h6 he her
      go_wp2_with fail
      refine (spec_heOf.calls 100 Ai c_i e.m H _ (Kd.V_reads' VI.out).2.2 (Kd.V_reads' VI.out).2.1 HEF.out.1).mono ?_; rintro e_ w2 ⟨vH, rfl, hS, hb⟩; have HST2 := Aside0.mk (HST.out.move hb); have VI2 := Aside0.mk (Kd.V_below VI.out hb); have VH := Aside0.mk (Kd.V_mono (ok' := fun k => k ≠ g) (Kd.S_V (base' := 0) (Kd.S_bound hS)) (fun k hk e => by have h1 := hk.2.1; have h2 := Kd.R_lt HST.out.own g rfl; omega)); obtain ⟨Ah, ch, eh⟩ := Kd.V_slice VH.out; subst eh; clear hS hb HST VI
      go_wp2_with fail
      refine (spec_heOf.calls 100 Al cl least hl _ (Kd.V_reads' HST2.out.lst).2.2 (Kd.V_reads' HST2.out.lst).2.1 H3.out.2.2.2).mono ?_; rintro e_ w3 ⟨vK, rfl, hS, hb⟩; have HST3 := Aside0.mk (HST2.out.move hb); have VI3 := Aside0.mk (Kd.V_below VI2.out hb); have VH3 := Aside0.mk (Kd.V_below VH.out hb); have VK := Aside0.mk (Kd.S_V (base' := 0) hS); obtain ⟨Ak, ck, ek⟩ := Kd.V_slice VK.out; subst ek; clear hS hb HST2 VI2 VH
      go_wp2_with fail
      refine (spec_heApart.calls 100 Ah ch H Ak ck hl er _ (Kd.V_reads' VH3.out).2.2 (Kd.V_reads' VH3.out).2.1 (Kd.V_reads' VK.out).2.2 (Kd.V_reads' VK.out).2.1 (by rw [HER.out]; exact HEF.out.2.1)).mono ?_; rintro e_ w4 ⟨rfl, ⟨m4, rfl⟩⟩; have HST4 := Aside0.mk (HST3.out.move (pw_below_drewN (Below.refl _ _) m4)); have VI4 := Aside0.mk (Kd.V_drewN VI3.out m4); have VH4 := Aside0.mk (Kd.V_drewN VH3.out m4); clear HST3 VI3 VH3 VK
      obtain ⟨w5, hw5⟩ : ∃ w5, w5 = w3.drewN m4 := ⟨_, rfl⟩
      rw [← hw5] at HST4 VI4 VH4 ⊢; clear hw5
      by_cases cq : er = (rank : Int)
      case neg =>
       have b1 : (er == (rank : Int)) = false := beq_false_of_ne cq
       have b2 : (er != (rank : Int)) = true := by simp [bne, b1]
       have b3 : decide (er = (rank : Int)) = false := decide_eq_false cq; go_wp2
       go_roundg (L - i)
       case measure => have := HI.out.2.2; omega
       case rel =>
        refine ⟨i + 1, ways1, total1, rfl, by first | rfl | go_num, ⟨?_, by omega, by omega⟩, HST4⟩; rw [range_step, ← HI.out.1]; unfold spRow; rw [← HEF.out.2.2.2.2.2.2, ← HER.out, if_neg cq]
      case pos =>
       have b1 : (er == (rank : Int)) = true := by rw [cq]; exact beq_self_eq_true _
       have b2 : (er != (rank : Int)) = false := by simp [bne, b1]
       have b3 : decide (er = (rank : Int)) = true := decide_eq_true cq; have HCQ := Aside0.mk cq
       go_upto_if 56 with (fail)
       go_cut [] (fun wc => ∃ (ways2 : List Int), Aside0 (ways2 = if rank = 0 then ways1.set i 1 else ways1) ∧ Aside0 (SpSt w wc g cw (some aa) ca A Al cl least L ways2) ∧ Aside0 (Kd.V (Kd.slice 3 (Kd.int .i64)) 39 wc 0 (fun k => k ≠ g) (.slice Ai e.m.length c_i) e.m) ∧ Aside0 (Kd.V (Kd.slice 3 (Kd.int .i64)) 39 wc 0 (fun k => k ≠ g) (.slice Ah H.length ch) H))
       case first =>
        by_cases c0 : rank = 0
        ·have z1 : ((rank : Int) == 0) = true := by rw [c0]; rfl
         have z2 : decide ((rank : Int) = 0) = true := decide_eq_true (by omega); have z3 : decide (rank = 0) = true := decide_eq_true c0
         have z4 : (rank == 0) = true := by rw [c0]; rfl
         obtain ⟨hx, hf⟩ := HST4.out.cell i ci
         go_wp2_with ((with_reducible refine gate_store (t := 3) (p := 59) rfl ?_); refine store_event (t := 3) (p := 59) (v := ?vo) (w1 := (w5.setCell ⟨g, i, none⟩ (.int .i64 1))) ?hg ?ho ?hn ?hr ?_; (case ho => rfl); (case hg => rfl); (case hn => rfl); (case hr => first | (go_simp; done) | (go_simp; rfl)); intro w6 hw; have HST6 : Aside0 (SpSt w w6 g cw (some aa) ca A Al cl least L (ways1.set i 1)) := ⟨by rw [hw]; exact HST4.out.put i 1⟩; have hgr : w5.grownBy w6 (some g) := (by rw [hw]; exact HST4.out.grown i 1); have VI6 := Aside0.mk (Kd.V_grown VI4.out hgr (fun k hk e => hk (by injection e))); have VH6 := Aside0.mk (Kd.V_grown VH4.out hgr (fun k hk e => hk (by injection e))); clear hgr hw)
         go_meet
         case rel => exact ⟨_, ⟨by rw [if_pos c0]⟩, HST6, VI6, VH6⟩
        ·have z1 : ((rank : Int) == 0) = false := beq_false_of_ne (by omega)
         have z2 : decide ((rank : Int) = 0) = false := decide_eq_false (by omega); have z3 : decide (rank = 0) = false := decide_eq_false c0; have z4 : (rank == 0) = false := beq_false_of_ne c0; go_wp2; go_meet
         case rel => exact ⟨_, ⟨by rw [if_neg c0]⟩, HST4, VI4, VH4⟩
       case rest =>
       clear HST4 VI4 VH4; obtain ⟨ways2, HW2, HST6, VI6, VH6⟩ := hcut
       go_upto_if 62 with (fail)
       go_cut [8] (fun v8 wc => ∃ (total2 : Int), v8 = .int .i64 total2 ∧ Aside0 (total2 = if rank = most then rd ways2 (i : Int) else total1) ∧ Aside0 (SpSt w wc g cw (some aa) ca A Al cl least L ways2) ∧ Aside0 (Kd.V (Kd.slice 3 (Kd.int .i64)) 39 wc 0 (fun k => k ≠ g) (.slice Ai e.m.length c_i) e.m) ∧ Aside0 (Kd.V (Kd.slice 3 (Kd.int .i64)) 39 wc 0 (fun k => k ≠ g) (.slice Ah H.length ch) H))
       case first =>
        by_cases c0 : rank = most
        ·have z1 : ((rank : Int) == (most : Int)) = true := by rw [c0]; exact beq_self_eq_true _
         have z2 : decide ((rank : Int) = (most : Int)) = true := decide_eq_true (by omega); have z3 : decide (rank = most) = true := decide_eq_true c0
         have z4 : (rank == most) = true := by rw [c0]; exact beq_self_eq_true _
         obtain ⟨hx, hf⟩ := HST6.out.cell i ci; go_wp2; go_meet
         case rel => exact ⟨_, rfl, ⟨by rw [if_pos c0]⟩, HST6, VI6, VH6⟩
        ·have z1 : ((rank : Int) == (most : Int)) = false := beq_false_of_ne (by omega)
         have z2 : decide ((rank : Int) = (most : Int)) = false := decide_eq_false (by omega); have z3 : decide (rank = most) = false := decide_eq_false c0; have z4 : (rank == most) = false := beq_false_of_ne c0; go_wp2; go_meet
         case rel => exact ⟨_, rfl, ⟨by rw [if_neg c0]⟩, HST6, VI6, VH6⟩
       case rest =>
       clear HST6 VI6 VH6; obtain ⟨total2, rfl, HT2, HST7, VI7, VH7⟩ := hcut
       go_wp2_with fail
       refine (spec_heFlips.calls 100 Ah ch H 1 e.fl _ (Kd.V_reads' VH7.out).2.2 (Kd.V_reads' VH7.out).2.1 HEF.out.2.2.1).mono ?_; rintro e_ w8 ⟨vF, rfl, hS, hb⟩; have HST8 := Aside0.mk (HST7.out.move hb); have VI8 := Aside0.mk (Kd.V_below VI7.out hb); have VF := Aside0.mk (Kd.V_mono (ok' := fun k => k ≠ g) (Kd.S_V (base' := 0) (Kd.S_bound hS)) (fun k hk e => by have h1 := hk.2.1; have h2 := Kd.R_lt HST7.out.own g rfl; omega)); obtain ⟨Af, cf, ef⟩ := Kd.V_slice VF.out; subst ef; clear hS hb HST7 VI7 VH7
       obtain ⟨F, hF⟩ : ∃ F, F = e.fl.length := ⟨_, rfl⟩
       have HF := Aside0.mk hF; rw [← hF] at VF hfl9 ⊢; clear hF; have HGI := Aside0.mk (show gk = L + 1 - i from HI.out.2.2)
       go_wp2_with fail
       go_loopg [70] (F + 1) (fun kq v70 w' => ∃ (c : Nat) (ways3 : List Int), v70 = .int .i64 (c : Int) ∧ Aside0 (ways3 = (e.ns.take c).foldl (spAdd i) ways2 ∧ c ≤ F ∧ kq = F + 1 - c) ∧ Aside0 (SpSt w w' g cw (some aa) ca A Al cl least L ways3) ∧ Aside0 (Kd.V (Kd.slice 3 (Kd.int .i64)) 39 w' 0 (fun k => k ≠ g) (.slice Ai e.m.length c_i) e.m) ∧ Aside0 (Kd.V (Kd.slice 3 (Kd.int .i64)) 39 w' 0 (fun k => k ≠ g) (.slice Af F cf) e.fl))
       case atStart => exact ⟨0, ways2, rfl, ⟨⟨rfl, Nat.zero_le _, rfl⟩⟩, HST8, VI8, VF⟩
       case round =>
        clear HST8 VI8 VF; obtain ⟨c, ways3, rfl, HC3, HST, VI, VF⟩ := hrel
        by_cases cc : c < F
        ·have bc : decide ((c : Int) < (F : Int)) = true := decide_eq_true (by omega)
         have bc2 : decide (c < F) = true := decide_eq_true cc; have HGC := Aside0.mk (show gk = F + 1 - c from HC3.out.2.2); obtain ⟨af, Ac, cc_, ef, hxc, Vc⟩ := V_elem VF.out c cc
         cases ef
         obtain ⟨hl2, hnl, nx, hfa, hsm⟩ := sp_nx (HEF.out.2.2.2.2.2.1 c (by rw [← HF.out]; exact cc))
         obtain ⟨row, hrow⟩ : ∃ row, row = e.fl.getD c [] := ⟨_, rfl⟩
         rw [← hrow] at hl2 hfa hxc Vc; rw [hl2] at hxc Vc; have hrC := (Kd.V_reads' Vc).2.2; obtain ⟨cd, e2, hx0⟩ := Kd.at_int hrC 0 (by omega) (by omega); obtain ⟨cd2, e3, hx1⟩ := Kd.at_int hrC 1 (by omega) (by omega); rw [e2] at e3; injection e3 with e3; subst e3; subst e2; rw [show (0 : Int).toNat = 0 from rfl, Addr.add_zero'] at hx0; rw [show (1 : Int).toNat = 1 from rfl] at hx1; rw [Addr.add_succ' cd 0] at hx1; replace hx1 : wr.cell? ⟨cd.block, cd.off + 1, none⟩ = some (.int .i64 (rd row 1)) := hx1
         obtain ⟨i0, hi0⟩ : ∃ i0, i0 = rd row 0 := ⟨_, rfl⟩
         obtain ⟨i1, hi1⟩ : ∃ i1, i1 = rd row 1 := ⟨_, rfl⟩
         rw [← hi0] at hx0 hfa; rw [← hi1] at hx1 hfa
         obtain ⟨t, ht⟩ : ∃ t, t = e.ns.getD c 0 := ⟨_, rfl⟩
         rw [← ht] at hnl hsm; have HNX := Aside0.mk (And.intro hfa (And.intro hsm (And.intro hnl ht))); clear hrow hl2 hfa hsm hnl ht hi0 hi1 Vc hrC
         go_wp2_with fail
         refine start_ (n := 13) (S := fun w' => Below wr.heap.size wr w' ∧ w'.cell? cd = some (.int .i64 i0) ∧ w'.cell? ⟨cd.block, cd.off + 1, none⟩ = some (.int .i64 i1)) (ds := []) #[fF, fF, fF, fF, fF, fF, fF, fF, fF, fF, fF, fF, fF] (by kernel_rfl) rfl rfl ⟨(below_drew (Below.refl _ _)), hx0, hx1⟩ (fun hHeld => ?_); refine pure_ (i := 0) (N := some 75) (v := ?_) (a' := ?_) #[tT, fF, fF, fF, fF, fF, fF, fF, fF, fF, fF, fF, fF] rfl rfl (by kernel_rfl) (fun _ _ _ h => h) (Or.inl ⟨by rfl, ?_⟩) ?_ ?_; rotate_left
         ·intro w'; go_simp; with_reducible rfl
         rotate_left
         ·simp only [Act.put, List.setIfInBounds_toArray, List.set_cons_zero, List.set_cons_succ, i64_w, i32_w]; rfl
         refine pure_ (i := 1) (N := some 76) (v := ?_) (a' := ?_) #[tT, tT, fF, fF, fF, fF, fF, fF, fF, fF, fF, fF, fF] rfl rfl (by kernel_rfl) (fun _ _ _ h => h) (Or.inl ⟨by rfl, ?_⟩) ?_ ?_; rotate_left
         ·intro w'; go_simp; with_reducible rfl
         rotate_left
         ·simp only [Act.put, List.setIfInBounds_toArray, List.set_cons_zero, List.set_cons_succ, i64_w, i32_w]; rfl
         refine pure_ (i := 2) (N := some 77) (v := ?_) (a' := ?_) #[tT, tT, tT, fF, fF, fF, fF, fF, fF, fF, fF, fF, fF] rfl rfl (by kernel_rfl) (fun _ _ _ h => h) (Or.inl ⟨by rfl, ?_⟩) ?_ ?_; rotate_left
         ·intro w'; go_simp; with_reducible rfl
         rotate_left
         ·simp only [Act.put, List.setIfInBounds_toArray, List.set_cons_zero, List.set_cons_succ, i64_w, i32_w]; rfl
         refine pure_ (i := 4) (N := some 79) (v := ?_) (a' := ?_) #[tT, tT, tT, fF, tT, fF, fF, fF, fF, fF, fF, fF, fF] rfl rfl (by kernel_rfl) (fun _ _ _ h => h) (Or.inl ⟨by rfl, ?_⟩) ?_ ?_; rotate_left
         ·intro w'; go_simp; with_reducible rfl
         rotate_left
         ·simp only [Act.put, List.setIfInBounds_toArray, List.set_cons_zero, List.set_cons_succ, i64_w, i32_w]; rfl
         refine pure_ (i := 5) (N := some 80) (v := ?_) (a' := ?_) #[tT, tT, tT, fF, tT, tT, fF, fF, fF, fF, fF, fF, fF] rfl rfl (by kernel_rfl) (fun _ _ _ h => h) (Or.inl ⟨by rfl, ?_⟩) ?_ ?_; rotate_left
         ·intro w'; go_simp; with_reducible rfl
         rotate_left
         ·simp only [Act.put, List.setIfInBounds_toArray, List.set_cons_zero, List.set_cons_succ, i64_w, i32_w]; rfl
         refine take_ (i := 3) (N := some 78) (v := ?_) (a' := ?_) #[tT, tT, tT, tT, tT, tT, fF, fF, fF, fF, fF, fF, fF] rfl rfl (by kernel_rfl) (fun _ _ _ h => h) (Or.inl ⟨by rfl, ?_⟩) hHeld ?_ ?_; rotate_left
         ·rintro w' ⟨s0, s1, s2⟩; go_simp; with_reducible rfl
         rotate_left
         ·simp only [Act.put, List.setIfInBounds_toArray, List.set_cons_zero, List.set_cons_succ, i64_w, i32_w]; rfl
         refine take_ (i := 6) (N := some 81) (v := ?_) (a' := ?_) #[tT, tT, tT, tT, tT, tT, tT, fF, fF, fF, fF, fF, fF] rfl rfl (by kernel_rfl) (fun _ _ _ h => h) (Or.inl ⟨by rfl, ?_⟩) hHeld ?_ ?_; rotate_left
         ·rintro w' ⟨s0, s1, s2⟩; go_simp; with_reducible rfl
         rotate_left
         ·simp only [Act.put, List.setIfInBounds_toArray, List.set_cons_zero, List.set_cons_succ, i64_w, i32_w]; rfl
         refine one_ (i := 7) (N := some 82) #[tT, tT, tT, tT, tT, tT, tT, tT, fF, fF, fF, fF, fF] rfl rfl (by kernel_rfl) (by decide) (fun K hK => ?_); refine goes_ Try.func98 (by kernel_rfl) rfl #[.slice Ai e.m.length c_i, .int .i64 i0, .int .i64 i1] (by rfl) rfl rfl (by simp only [List.map_toArray, List.map_cons, List.map_nil]; rfl) ?_
         with_reducible refine (spec_FlipAt.calls 100 Ai c_i e.m i0 i1 nx true _ (Kd.V_reads' (Kd.V_below VI.out hHeld.1)).2.2 (Kd.V_reads' VI.out).2.1 HNX.out.1).mono ?_
         rintro e_ w3 ⟨v3, rfl, hS, hb⟩; refine ⟨_, rfl, ?_⟩; have V5 := Aside0.mk (Kd.V_mono (ok' := fun k => k ≠ g) (Kd.S_V (base' := 0) (Kd.S_bound hS)) (fun k hk e => by have h1 := hk.2.1; have h2 := Kd.R_lt HST.out.own g rfl; have h4 := hHeld.1.size; omega)); have HB5 := Aside0.mk (below_step hHeld.1 hb); obtain ⟨A5, c5, e5⟩ := Kd.V_slice V5.out; subst e5; clear hS; refine hK.out _ _ ⟨below_step hHeld.1 hb, pw_cell_below hb hHeld.2.1, pw_cell_below hb hHeld.2.2⟩ (fun hHeld => ?_); clear hK K; refine norm_ (a' := ?_) ?_ ?_; rotate_left
         ·show Act.put _ (some 82) _ = _; simp only [Act.put, List.setIfInBounds_toArray, List.set_cons_zero, List.set_cons_succ, i64_w, i32_w]; rfl
         refine pure_ (i := 8) (N := some 74) (v := ?_) (a' := ?_) #[tT, tT, tT, tT, tT, tT, tT, tT, tT, fF, fF, fF, fF] rfl rfl (by kernel_rfl) (fun _ _ _ h => h) (Or.inl ⟨by rfl, ?_⟩) ?_ ?_; rotate_left
         ·intro w'; go_simp; with_reducible rfl
         rotate_left
         ·simp only [Act.put, List.setIfInBounds_toArray, List.set_cons_zero, List.set_cons_succ, i64_w, i32_w]; rfl
         refine pure_ (i := 9) (N := some 83) (v := ?_) (a' := ?_) #[tT, tT, tT, tT, tT, tT, tT, tT, tT, tT, fF, fF, fF] rfl rfl (by kernel_rfl) (fun _ _ _ h => h) (Or.inl ⟨by rfl, ?_⟩) ?_ ?_; rotate_left
         ·intro w'; go_simp; with_reducible rfl
         rotate_left
         ·simp only [Act.put, List.setIfInBounds_toArray, List.set_cons_zero, List.set_cons_succ, i64_w, i32_w]; rfl
         refine pure_ (i := 10) (N := some 84) (v := ?_) (a' := ?_) #[tT, tT, tT, tT, tT, tT, tT, tT, tT, tT, tT, fF, fF] rfl rfl (by kernel_rfl) (fun _ _ _ h => h) (Or.inl ⟨by rfl, ?_⟩) ?_ ?_; rotate_left
         ·intro w'; go_simp; with_reducible rfl
         rotate_left
         ·simp only [Act.put, List.setIfInBounds_toArray, List.set_cons_zero, List.set_cons_succ, i64_w, i32_w]; rfl
         refine pure_ (i := 11) (N := some 15) (v := ?_) (a' := ?_) #[tT, tT, tT, tT, tT, tT, tT, tT, tT, tT, tT, tT, fF] rfl rfl (by kernel_rfl) (fun _ _ _ h => h) (Or.inl ⟨by rfl, ?_⟩) ?_ ?_; rotate_left
         ·intro w'; go_simp; with_reducible rfl
         rotate_left
         ·simp only [Act.put, List.setIfInBounds_toArray, List.set_cons_zero, List.set_cons_succ, i64_w, i32_w]; rfl
         refine pure_ (i := 12) (N := some 16) (v := ?_) (a' := ?_) #[tT, tT, tT, tT, tT, tT, tT, tT, tT, tT, tT, tT, tT] rfl rfl (by kernel_rfl) (fun _ _ _ h => h) (Or.inl ⟨by rfl, ?_⟩) ?_ ?_; rotate_left
         ·intro w'; go_simp; with_reducible rfl
         rotate_left
         ·simp only [Act.put, List.setIfInBounds_toArray, List.set_cons_zero, List.set_cons_succ, i64_w, i32_w]; rfl
         refine done_ (by kernel_rfl) ?_; have HST5 := Aside0.mk (HST.out.move HB5.out); have VI5 := Aside0.mk (Kd.V_below VI.out HB5.out); have VF5 := Aside0.mk (Kd.V_below VF.out HB5.out); clear HST VI VF HB5 hx0 hx1 hxc
         go_wp2_with fail
         go_loopg [87] (L + 1) (fun kq v87 w' => ∃ (j : Nat) (ways4 : List Int), v87 = .int .i64 (j : Int) ∧ Aside0 (ways4 = (if t < j then spAdd i ways3 t else ways3) ∧ j ≤ L ∧ kq = L + 1 - j) ∧ Aside0 (SpSt w w' g cw (some aa) ca A Al cl least L ways4) ∧ Aside0 (Kd.V (Kd.slice 3 (Kd.int .i64)) 39 w' 0 (fun k => k ≠ g) (.slice A5 nx.length c5) nx) ∧ Aside0 (Kd.V (Kd.slice 3 (Kd.int .i64)) 39 w' 0 (fun k => k ≠ g) (.slice Ai e.m.length c_i) e.m) ∧ Aside0 (Kd.V (Kd.slice 3 (Kd.int .i64)) 39 w' 0 (fun k => k ≠ g) (.slice (some af) F cf) e.fl))
         case atStart => exact ⟨0, ways3, rfl, ⟨⟨by rw [if_neg (by omega)], Nat.zero_le _, rfl⟩⟩, HST5, V5, VI5, VF5⟩
         case round =>
          clear HST5 V5 VI5 VF5; obtain ⟨j, ways4, rfl, HJ, HST, VX, VI, VF⟩ := hrel
          by_cases cj : j < L
          ·have bj : decide ((j : Int) < (L : Int)) = true := decide_eq_true (by omega)
           have bj2 : decide (j < L) = true := decide_eq_true cj; have hall := HST.out.all; rw [← HLT.out.2.2] at hall; obtain ⟨ab, Aj, c_j, ea, hxj, Vj⟩ := V_elem hall j cj
           cases ea
           rw [HAT.out j cj] at hxj Vj
           obtain ⟨mj, hmj⟩ : ∃ mj, mj = (T.getD j spNone).m := ⟨_, rfl⟩
           have hsm := HNX.out.2.1 j (by rw [← HLT.out.1]; exact cj); rw [← hmj] at hxj Vj hsm; have VJ := Aside0.mk Vj; have HSM := Aside0.mk hsm; clear hall Vj hmj hsm
           by_cases ct : j = t
           ·rw [decide_eq_true ct] at HSM
            have HCT := Aside0.mk ct; have hx := (HST.out.cell j cj).1; have hf := (HST.out.cell j cj).2; have hy := (HST.out.cell i ci).1
            obtain ⟨x, hxx⟩ : ∃ x, x = rd ways4 (j : Int) := ⟨_, rfl⟩
            obtain ⟨y, hyy⟩ : ∃ y, y = rd ways4 (i : Int) := ⟨_, rfl⟩
            rw [← hxx] at hx; rw [← hyy] at hy; have HXY := Aside0.mk (And.intro hxx hyy); clear hxx hyy ct
            go_wp2_with (go_at_call 99; (refine (spec_heSame.calls 100 Aj c_j mj A5 c5 nx true _ (Kd.V_reads' VJ.out).2.2 (Kd.V_reads' VJ.out).2.1 (Kd.V_reads' VX.out).2.2 (Kd.V_reads' VX.out).2.1 HSM.out).mono ?_); rintro e_ w9 ⟨rfl, ⟨m9, rfl⟩⟩)
            refine start_ (n := 11) (S := fun w' => Below wr.heap.size wr w' ∧ w'.cell? ⟨g, j, none⟩ = some (.int .i64 x) ∧ w'.cell? ⟨g, i, none⟩ = some (.int .i64 y) ∧ w'.frozen? ⟨g, j, none⟩ = false) (ds := [10]) #[fF, fF, fF, fF, fF, fF, fF, fF, fF, fF, fF] (by kernel_rfl) rfl rfl ⟨(below_drew (pw_below_drewN (Below.refl _ _) m9)), hx, hy, hf⟩ (fun hHeld => ?_); refine pure_ (i := 0) (N := some 95) (v := ?_) (a' := ?_) #[tT, fF, fF, fF, fF, fF, fF, fF, fF, fF, fF] rfl rfl (by kernel_rfl) (fun _ _ _ h => h) (Or.inl ⟨by rfl, ?_⟩) ?_ ?_; rotate_left
            ·intro w'; go_simp; with_reducible rfl
            rotate_left
            ·simp only [Act.put, List.setIfInBounds_toArray, List.set_cons_zero, List.set_cons_succ, i64_w, i32_w]; rfl
            refine pure_ (i := 1) (N := some 96) (v := ?_) (a' := ?_) #[tT, tT, fF, fF, fF, fF, fF, fF, fF, fF, fF] rfl rfl (by kernel_rfl) (fun _ _ _ h => h) (Or.inl ⟨by rfl, ?_⟩) ?_ ?_; rotate_left
            ·intro w'; go_simp; with_reducible rfl
            rotate_left
            ·simp only [Act.put, List.setIfInBounds_toArray, List.set_cons_zero, List.set_cons_succ, i64_w, i32_w]; rfl
            refine pure_ (i := 2) (N := some 97) (v := ?_) (a' := ?_) #[tT, tT, tT, fF, fF, fF, fF, fF, fF, fF, fF] rfl rfl (by kernel_rfl) (fun _ _ _ h => h) (Or.inl ⟨by rfl, ?_⟩) ?_ ?_; rotate_left
            ·intro w'; go_simp; with_reducible rfl
            rotate_left
            ·simp only [Act.put, List.setIfInBounds_toArray, List.set_cons_zero, List.set_cons_succ, i64_w, i32_w]; rfl
            refine pure_ (i := 4) (N := some 99) (v := ?_) (a' := ?_) #[tT, tT, tT, fF, tT, fF, fF, fF, fF, fF, fF] rfl rfl (by kernel_rfl) (fun _ _ _ h => h) (Or.inl ⟨by rfl, ?_⟩) ?_ ?_; rotate_left
            ·intro w'; go_simp; with_reducible rfl
            rotate_left
            ·simp only [Act.put, List.setIfInBounds_toArray, List.set_cons_zero, List.set_cons_succ, i64_w, i32_w]; rfl
            refine pure_ (i := 5) (N := some 100) (v := ?_) (a' := ?_) #[tT, tT, tT, fF, tT, tT, fF, fF, fF, fF, fF] rfl rfl (by kernel_rfl) (fun _ _ _ h => h) (Or.inl ⟨by rfl, ?_⟩) ?_ ?_; rotate_left
            ·intro w'; go_simp; with_reducible rfl
            rotate_left
            ·simp only [Act.put, List.setIfInBounds_toArray, List.set_cons_zero, List.set_cons_succ, i64_w, i32_w]; rfl
            refine pure_ (i := 6) (N := some 101) (v := ?_) (a' := ?_) #[tT, tT, tT, fF, tT, tT, tT, fF, fF, fF, fF] rfl rfl (by kernel_rfl) (fun _ _ _ h => h) (Or.inl ⟨by rfl, ?_⟩) ?_ ?_; rotate_left
            ·intro w'; go_simp; with_reducible rfl
            rotate_left
            ·simp only [Act.put, List.setIfInBounds_toArray, List.set_cons_zero, List.set_cons_succ, i64_w, i32_w]; rfl
            refine take_ (i := 3) (N := some 98) (v := ?_) (a' := ?_) #[tT, tT, tT, tT, tT, tT, tT, fF, fF, fF, fF] rfl rfl (by kernel_rfl) (fun _ _ _ h => h) (Or.inl ⟨by rfl, ?_⟩) hHeld ?_ ?_; rotate_left
            ·rintro w' ⟨s0, s1, s2, s3⟩; go_simp; with_reducible rfl
            rotate_left
            ·simp only [Act.put, List.setIfInBounds_toArray, List.set_cons_zero, List.set_cons_succ, i64_w, i32_w]; rfl
            refine take_ (i := 7) (N := some 102) (v := ?_) (a' := ?_) #[tT, tT, tT, tT, tT, tT, tT, tT, fF, fF, fF] rfl rfl (by kernel_rfl) (fun _ _ _ h => h) (Or.inl ⟨by rfl, ?_⟩) hHeld ?_ ?_; rotate_left
            ·rintro w' ⟨s0, s1, s2, s3⟩; go_simp; with_reducible rfl
            rotate_left
            ·simp only [Act.put, List.setIfInBounds_toArray, List.set_cons_zero, List.set_cons_succ, i64_w, i32_w]; rfl
            refine pure_ (i := 8) (N := some 103) (v := ?_) (a' := ?_) #[tT, tT, tT, tT, tT, tT, tT, tT, tT, fF, fF] rfl rfl (by kernel_rfl) (fun _ _ _ h => h) (Or.inl ⟨by rfl, ?_⟩) ?_ ?_; rotate_left
            ·intro w'; go_simp; with_reducible rfl
            rotate_left
            ·simp only [Act.put, List.setIfInBounds_toArray, List.set_cons_zero, List.set_cons_succ, i64_w, i32_w]; rfl
            refine pure_ (i := 9) (N := some 104) (v := ?_) (a' := ?_) #[tT, tT, tT, tT, tT, tT, tT, tT, tT, tT, fF] rfl rfl (by kernel_rfl) (fun _ _ _ h => h) (Or.inl ⟨by rfl, ?_⟩) ?_ ?_; rotate_left
            ·intro w'; go_simp; with_reducible rfl
            rotate_left
            ·simp only [Act.put, List.setIfInBounds_toArray, List.set_cons_zero, List.set_cons_succ, i64_w, i32_w]; rfl
            refine last_ (i := 10) (N := none) #[tT, tT, tT, tT, tT, tT, tT, tT, tT, tT, tT] rfl rfl (by kernel_rfl) (by decide) (fun K hK => ?_); have hx3 := hHeld.2.1; have hf3 := hHeld.2.2.2; have HST9 := Aside0.mk ((HST.out.move hHeld.1).put j (wrap64 (x + y))); have hgr := (HST.out.move hHeld.1).grown j (wrap64 (x + y)); have VX9 := Aside0.mk (Kd.V_grown (Kd.V_below VX.out hHeld.1) hgr (fun k hk e => hk (by injection e))); have VI9 := Aside0.mk (Kd.V_grown (Kd.V_below VI.out hHeld.1) hgr (fun k hk e => hk (by injection e))); have VF9 := Aside0.mk (Kd.V_grown (Kd.V_below VF.out hHeld.1) hgr (fun k hk e => hk (by injection e))); clear hgr; refine skip_ (w1 := ?_) (by rfl) rfl ?_ ?_; rotate_left
            ·go_simp; rfl
            refine hK.out _ _ ?_; clear hK K; refine done_ (by kernel_rfl) ?_; go_wp2
            go_roundg (L - j)
            case measure => have := HJ.out.2.2; omega
            case rel =>
             refine ⟨j + 1, _, by first | rfl | go_num, ⟨?_, by omega, by omega⟩, HST9, VX9, VI9, VF9⟩; have h1 := HJ.out.1; have h2 := HCT.out; rw [if_neg (by omega)] at h1; rw [if_pos (by omega), HXY.out.1, HXY.out.2, h1, h2]; rfl
           ·rw [decide_eq_false ct] at HSM
            go_wp2_with (go_at_call 99; (refine (spec_heSame.calls 100 Aj c_j mj A5 c5 nx false _ (Kd.V_reads' VJ.out).2.2 (Kd.V_reads' VJ.out).2.1 (Kd.V_reads' VX.out).2.2 (Kd.V_reads' VX.out).2.1 HSM.out).mono ?_); rintro e_ w9 ⟨rfl, ⟨m9, rfl⟩⟩; have HST9 := Aside0.mk (HST.out.move (pw_below_drewN (Below.refl _ _) m9)); have VX9 := Aside0.mk (Kd.V_drewN VX.out m9); have VI9 := Aside0.mk (Kd.V_drewN VI.out m9); have VF9 := Aside0.mk (Kd.V_drewN VF.out m9))
            go_roundg (L - j)
            case measure => have := HJ.out.2.2; omega
            case rel =>
             refine ⟨j + 1, ways4, by first | rfl | go_num, ⟨?_, by omega, by omega⟩, HST9, VX9, VI9, VF9⟩; rw [HJ.out.1]
             by_cases c8 : t < j
             ·rw [if_pos c8, if_pos (by omega)]
             ·rw [if_neg c8, if_neg (by omega)]
          ·have hjm : j = L := by have := HJ.out.2.1; omega
           subst hjm; have bj : decide ((j : Int) < (j : Int)) = false := decide_eq_false (by omega); have bj2 : decide (j < j) = false := decide_eq_false (by omega); go_wp2
           go_roundg (F - c)
           case measure => have := HGC.out; omega
           case rel =>
            refine ⟨c + 1, ways4, by first | rfl | go_num, ⟨?_, by omega, by omega⟩, HST, VI, VF⟩; have h1 := HJ.out.1; rw [if_pos (by rw [HLT.out.1]; exact HNX.out.2.2.1), HC3.out.1] at h1; rw [h1, HNX.out.2.2.2]; exact (take_step (spAdd i) ways2 e.ns 0 c (by rw [HEF.out.2.2.2.1, ← HF.out]; exact cc)).symm
        ·have hcm : c = F := by have := HC3.out.2.1; omega
         subst hcm; have bc : decide ((c : Int) < (c : Int)) = false := decide_eq_false (by omega); have bc2 : decide (c < c) = false := decide_eq_false (by omega); go_wp2
         go_roundg (L - i)
         case measure => have := HGI.out; omega
         case rel =>
          refine ⟨i + 1, ways3, total2, rfl, by first | rfl | go_num, ⟨?_, by omega, by omega⟩, HST⟩; rw [range_step, ← HI.out.1]; have h1 := HC3.out.1; rw [List.take_of_length_le (by rw [HEF.out.2.2.2.1, ← HF.out]; exact Nat.le_refl _)] at h1; unfold spRow; rw [← HEF.out.2.2.2.2.2.2, ← HER.out, if_pos HCQ.out, h1, HT2.out, HW2.out]
     ·have him : i = L := by have := HI.out; omega
      subst him; have bi : decide ((i : Int) < (i : Int)) = false := decide_eq_false (by omega); have bi2 : decide (i < i) = false := decide_eq_false (by omega); go_wp2
      go_roundg (most + 1 - rank)
      case measure => have := HG.out; omega
      case rel =>
       refine ⟨rank + 1, ways1, total1, rfl, by first | rfl | go_num, ⟨?_, by omega, by omega⟩, HST⟩; rw [range_step, ← HR.out.1, HI.out.1]; unfold spRank; rw [← HLT.out.1]
   ·have hrm : rank = most + 1 := by have := HR.out; omega
    have br : decide ((rank : Int) ≤ (most : Int)) = false := decide_eq_false (by omega); have br2 : decide (rank ≤ most) = false := decide_eq_false cr
    have htv : total = V := by
     have h1 := HV.out; unfold spAll at h1; rw [← HLT.out.1, ← hrm, ← HR.out.1] at h1; exact h1
    subst htv; have HB9 := Aside0.mk HST.out.below; clear HST hrm; go_wp2; go_ret2; exact ⟨rfl, HB9.out⟩
end Go.Proofs.Ytadepmjfhcmkoaa.P
