/- Tables that are heights: program and reference tell them alike. -/
import Derived.Test.YtfoidmoiedokjaaQCmp
import Derived.Test.YtfoidmoiedokjaaQHFrom
import Derived.Test.YtfoidmoiedokjaaQHeight
import Derived.Test.YtfoidmoiedokjaaFSpecHeGood
import Derived.Test.YtfoidmoiedokjaaFSpecHeSame
import Derived.Test.YtfoidmoiedokjaaFSpecL1Same
import Derived.Test.YtfoidmoiedokjaaFImplFromHeights
namespace Go.Proofs.Ytfoidmoiedokjaa.Pure
open Go.Proofs.Ytfoidmoiedokjaa.B Go.Proofs.Ytfoidmoiedokjaa.P
open Go.RowKit Go.Proofs.YtfoidmoiedokjaaW.PrintWords Go.Proofs.YtfoidmoiedokjaaW.PrintLast Go.Proofs.YtfoidmoiedokjaaW.PrintMore
set_option linter.unusedVariables false
set_option linter.unusedSimpArgs false
theorem corn_full {m : List (List Int)} (g : Good m) (j : Nat) (hj : j ≤ m.length) : cornZ m m.length j = j := by
  unfold cornZ
  rw [sumTo_comm]
  rw [sumTo_congr (g := fun _ => 1) (fun b hb => by
    have hl : (colOf m b).length = m.length := by simp [colOf]
    have h := (g.2.2 b (by omega)).sum m.length (by omega)
    have h2 := (g.2.2 b (by omega)).2
    rw [hl] at h2
    rw [h2, sumTo_congr (fun a ha => col_rd m b a (by omega))] at h
    exact h.1.symm)]
  clear hj
  induction j with
  | zero => rfl
  | succ j ih => simp only [sumTo]; rw [ih]; omega
theorem ht_top {m : List (List Int)} (g : Good m) (i j : Nat) (hi : i ≤ m.length) (hj : j ≤ m.length) : 0 ≤ gd (htT m) i j ∧ gd (htT m) i j ≤ m.length := by
  have L := lip_ht g
  have low : ∀ b : Nat, b ≤ m.length → (i : Int) - (b : Int) ≤ gd (htT m) i b := by
    intro b
    induction b with
    | zero => intro _; have := (L.bord i hi).2; omega
    | succ b ih => intro hb; have h1 := ih (by omega); have h2 := L.dh i hi b (by omega); omega
  have up : ∀ d a : Nat, a + d = m.length → gd (htT m) a j ≤ (m.length : Int) - (j : Int) + (d : Int) := by
    intro d
    induction d with
    | zero =>
      intro a ha
      have e : a = m.length := by omega
      rw [e, htT_gd _ _ _ (Nat.le_refl _) hj, (htV_small g m.length j (Nat.le_refl _) hj).1, corn_full g j hj]
      omega
    | succ d ih =>
      intro a ha
      have h1 := ih (a + 1) (by omega)
      have h2 := L.dv a (by omega) j hj
      omega
  have h1 := L.num i j hi hj
  have h2 := low j hj
  have h3 := up (m.length - i) i (by omega)
  omega
theorem list_same (l m : List Int) (h : l.length = m.length) (k : ∀ i, i < l.length → rd l (i : Int) = rd m (i : Int)) : l = m := by
  refine List.ext_getElem h (fun i h1 h2 => ?_)
  have := k i h1
  rwa [rd_get l i h1, rd_get m i h2] at this
theorem ev_l1Same (l m : List Int) (hl : l.length ≤ 1048576) : EvB (fun k => spec_l1Same.f k l m) (l = m) := by
  unfold spec_l1Same.f
  by_cases h : l.length = m.length
  · refine EvB.pos (by omega) ?_
    refine (EvB.all (E := True) (fun i k => spec_l1Same.l0 k l m (l.length : Int) (i : Int)) l.length (fun i => rd l (i : Int) = rd m (i : Int)) (fun i hi R ih => ?_) ?_).iff ⟨fun g => list_same l m h g.1, fun g => ⟨fun i _ => by rw [g], trivial⟩⟩
    · refine EvB.succ ?_
      simp only [spec_l1Same.l0]
      rw [wrapN i (by omega)]
      refine EvB.pos (by omega) (EvB.pos (by omega) (EvB.pos (by omega) (EvB.pos (by omega) ?_)))
      exact EvB.and_ (fun _ => ih)
    · refine EvB.succ ?_
      simp only [spec_l1Same.l0]
      exact EvB.neg (by omega) (EvB.yes trivial)
  · exact EvB.neg (by omega) (EvB.no fun e => h (by rw [e]))
theorem tab_same (a b : List (List Int)) (h : a.length = b.length) (k : ∀ i, i < a.length → row a i = row b i) : a = b := by
  refine List.ext_getElem h (fun i h1 h2 => ?_)
  have := k i h1
  unfold row at this
  rwa [List.getD_eq_getElem?_getD, List.getD_eq_getElem?_getD, List.getElem?_eq_getElem h1, List.getElem?_eq_getElem h2] at this
theorem ev_heSame (a b : List (List Int)) (ha : a.length ≤ 1048576) (hr : ∀ i, i < a.length → (row a i).length ≤ 1048576) : EvB (fun k => spec_heSame.f k a b) (a = b) := by
  unfold spec_heSame.f
  by_cases h : a.length = b.length
  · refine EvB.pos (by omega) ?_
    refine (EvB.all (E := True) (fun i k => spec_heSame.l0 k b a (a.length : Int) (i : Int)) a.length (fun i => row a i = row b i) (fun i hi R ih => ?_) ?_).iff ⟨fun g => tab_same a b h g.1, fun g => ⟨fun i _ => by rw [g], trivial⟩⟩
    · refine EvB.succ ?_
      simp only [spec_heSame.l0]
      rw [wrapN i (by omega), row_eq, row_eq]
      refine EvB.pos (by omega) (EvB.pos (by omega) (EvB.pos (by omega) (EvB.pos (by omega) ?_)))
      exact EvB.bindAnd (ev_l1Same (row a i) (row b i) (hr i hi)) (fun _ => ih)
    · refine EvB.succ ?_
      simp only [spec_heSame.l0]
      exact EvB.neg (by omega) (EvB.yes trivial)
  · exact EvB.neg (by omega) (EvB.no fun e => h (by rw [e]))
def outI (h : List (List Int)) (n : Nat) : List (List Int) := tabOf n n (fhV h)
def outS (h : List (List Int)) (n : Nat) : List (List Int) := tabOf n n (outV (tabOf n n fun i j => cnV h (i + 1) (j + 1)))
theorem out_same {h : List (List Int)} {n : Nat} (hb : Bord h n) : outS h n = outI h n := tabOf_congr (fun i hi j hj => out_fh hb i j hi hj)
/-- A table of heights: its size, and a sign matrix that has them. -/
def HGood (h : List (List Int)) (n : Nat) : Prop := Good (outI h n) ∧ htT (outI h n) = h
theorem bord_of {h T : List (List Int)} {n : Nat} (hT : T.length = n) (g : Good T) (e : htT T = h) : Bord h n := by
  rw [← e, ← hT]
  exact (lip_ht g).bord
theorem hgood_s (h : List (List Int)) (n : Nat) : HGood h n ↔ Good (outS h n) ∧ htT (outS h n) = h := by
  constructor
  · rintro ⟨g, e⟩
    have hb := bord_of (tabOf_length _ _ _) g e
    rw [out_same hb]
    exact ⟨g, e⟩
  · rintro ⟨g, e⟩
    have hb := bord_of (tabOf_length _ _ _) g e
    rw [out_same hb] at g e
    exact ⟨g, e⟩
end Go.Proofs.Ytfoidmoiedokjaa.Pure
