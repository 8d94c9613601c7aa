import Derived.Test.YthjiajkmaimbjaaFSpecGood
import Derived.Test.YthjiajkmaimbjaaFImplGood
import Derived.Test.YthjiajkmaimbjaaQIn
import Derived.Test.YthjiajkmaimbjaaPL
import Derived.Test.YthjiajkmaimbjaaTab
import Derived.Test.YthjiajkmaimbjaaFSpecDist
import Derived.Test.YthjiajkmaimbjaaFSpecCorn
/- Sign matrices: program and reference test them alike; what is known of one. -/
namespace Go.Proofs.Ythjiajkmaimbjaa.Pure
open Go.Proofs.Ythjiajkmaimbjaa.B Go.Proofs.Ythjiajkmaimbjaa.P
open Go.RowKit Go.Proofs.YthjiajkmaimbjaaW.PrintWords Go.Proofs.YthjiajkmaimbjaaW.PrintLast Go.Proofs.YthjiajkmaimbjaaW.PrintMore
set_option linter.unusedVariables false
set_option linter.unusedSimpArgs false
def ws (l : List Int) : Nat → Int
 | 0 => 0
 | i + 1 => wrap64 (ws l i + rd l (i : Int))
def Alt (l : List Int) : Prop := (∀ j, j < l.length → inB (rd l (j : Int)) (-1) 1 = true ∧ inB (ws l (j + 1)) 0 1 = true) ∧ ws l l.length = 1
def row (m : List (List Int)) (i : Nat) : List Int := m.getD i []
theorem row_eq (m : List (List Int)) (i : Nat) : rd_L1 m (i : Int) = row m i := rfl
theorem rd_gd (m : List (List Int)) (i j : Nat) : rd (rd_L1 m (i : Int)) (j : Int) = gd m i j := rfl
theorem rd_row (m : List (List Int)) (i j : Nat) : rd (row m i) (j : Int) = gd m i j := rfl
def colOf (m : List (List Int)) (j : Nat) : List Int := (List.range m.length).map fun i => gd m i j
def Sq (m : List (List Int)) : Prop := 1 ≤ m.length ∧ m.length ≤ 6 ∧ ∀ x ∈ m, x.length = m.length
theorem Sq.row {m : List (List Int)} (h : Sq m) {i : Nat} (hi : i < m.length) : (row m i).length = m.length := getD_row h.2.2 hi
def Good (m : List (List Int)) : Prop := Sq m ∧ (∀ i, i < m.length → Alt (row m i)) ∧ (∀ j, j < m.length → Alt (colOf m j))
theorem ev_sgSquare (m : List (List Int)) (hl : m.length ≤ 1048576) : EvB (fun k => spec_sgSquare.f k m) (Sq m) := by
 unfold spec_sgSquare.f; rw [l1In_eq]; simp only [Option.bind_some]
 have h0 := EvB.all (E := True) (fun i k => spec_sgSquare.l0 k m m (m.length : Int) (i : Int)) m.length (fun i => (row m i).length = m.length) (fun i hi R ih => by
  refine EvB.succ ?_; simp only [spec_sgSquare.l0]; rw [wrapN i (by omega)]
  (repeat (first | refine EvB.pos (by omega) ?_ | refine EvB.neg (by omega) ?_))
  rw [row_eq]; refine (EvB.and_ (fun _ => ih)).iff ?_; constructor
  ·rintro ⟨a, b⟩; exact ⟨by omega, b⟩
  ·rintro ⟨a, b⟩; exact ⟨by omega, b⟩) (by
  refine EvB.succ ?_; simp only [spec_sgSquare.l0]
  (repeat (first | refine EvB.pos (by omega) ?_ | refine EvB.neg (by omega) ?_))
  exact EvB.yes trivial)
 refine (EvB.and_ (fun _ => h0)).iff ?_; rw [inB_iff]; constructor
 ·rintro ⟨⟨a, b⟩, c, _⟩
  refine ⟨by omega, by omega, fun x hx => ?_⟩; obtain ⟨i, hi, rfl⟩ := List.mem_iff_getElem.mp hx; have := c i hi; unfold row at this
  rwa [List.getD_eq_getElem?_getD, List.getElem?_eq_getElem hi] at this
 ·rintro ⟨a, b, c⟩; exact ⟨⟨by omega, by omega⟩, fun i hi => getD_row c hi, trivial⟩
theorem ev_sgRows (m : List (List Int)) (hl : m.length ≤ 1048576) (hr : ∀ i, i < m.length → (row m i).length ≤ 1048576) : EvB (fun k => spec_sgRows.f k m) (∀ i, i < m.length → Alt (row m i)) := by
 unfold spec_sgRows.f; refine (EvB.all (E := True) (fun i k => spec_sgRows.l0 k m (m.length : Int) (i : Int)) m.length (fun i => Alt (row m i)) (fun i hi R ih => ?_) ?_).iff ⟨fun h => h.1, fun h => ⟨h, trivial⟩⟩
 ·refine EvB.succ ?_
  simp only [spec_sgRows.l0]
  (repeat (first | refine EvB.pos (by omega) ?_ | refine EvB.neg (by omega) ?_))
  rw [row_eq]; have hl := hr i hi; refine (EvB.all (E := ws (row m i) (row m i).length = 1 ∧ R) (fun j k => spec_sgRows.l1 k (ws (row m i) j) m (m.length : Int) (i : Int) (row m i) ((row m i).length : Int) (j : Int)) (row m i).length (fun j => inB (rd (row m i) (j : Int)) (-1) 1 = true ∧ inB (ws (row m i) (j + 1)) 0 1 = true) (fun j hj S ihj => ?_) ?_).iff and_assoc.symm
  ·refine EvB.succ ?_
   simp only [spec_sgRows.l1, l1In_eq, Option.bind_some]; rw [wrapN j (by omega)]
   (repeat (first | refine EvB.pos (by omega) ?_ | refine EvB.neg (by omega) ?_))
   exact (EvB.and_ (fun _ => EvB.and_ (fun _ => ihj))).iff and_assoc.symm
  ·refine EvB.succ ?_; simp only [spec_sgRows.l1]; refine EvB.neg (by omega) ?_; rw [wrapN i (by omega)]; exact EvB.and_ (fun _ => ih)
 ·refine EvB.succ ?_
  simp only [spec_sgRows.l0]
  (repeat (first | refine EvB.pos (by omega) ?_ | refine EvB.neg (by omega) ?_))
  exact EvB.yes trivial
theorem ev_sgTurn (m : List (List Int)) (h : Sq m) : Ev (fun k => spec_sgTurn.f k m) ((List.range m.length).map (colOf m)) := by
 have h6 := h.2.1; unfold spec_sgTurn.f; refine Ev.thru (fun j k => spec_sgTurn.l0 k m ((List.range j).map (colOf m)) (m.length : Int) (j : Int)) m.length (fun j hj ih => ?_) ?_
 ·refine Ev.succ ?_
  simp only [spec_sgTurn.l0]
  (repeat (first | refine Ev.pos (by omega) ?_ | refine Ev.neg (by omega) ?_))
  refine Ev.thru (fun i k => spec_sgTurn.l1 k m ((List.range j).map (colOf m)) (j : Int) ((List.range i).map fun i => gd m i j) (m.length : Int) (j : Int) m (m.length : Int) (i : Int)) m.length (fun i hi ihi => ?_) ?_
  ·refine Ev.succ ?_
   have hri : (rd_L1 m (i : Int)).length = m.length := h.row hi
   have hll : ((List.range i).map fun i => gd m i j).length = i := by simp
   simp only [spec_sgTurn.l1]; rw [hri, hll, wrapN i (by omega)]
   (repeat (first | refine Ev.pos (by omega) ?_ | refine Ev.neg (by omega) ?_))
   rw [List.range_succ, List.map_append] at ihi; exact ihi
  ·refine Ev.succ ?_
   have hll : ((List.range j).map (colOf m)).length = j := by simp
   simp only [spec_sgTurn.l1]; rw [hll]; refine Ev.neg (by omega) (Ev.pos (by omega) ?_); rw [wrapN j (by omega)]; rw [List.range_succ, List.map_append] at ih; exact ih
 ·refine Ev.succ ?_
  simp only [spec_sgTurn.l0]
  (repeat (first | refine Ev.pos (by omega) ?_ | refine Ev.neg (by omega) ?_))
  exact Ev.now _
theorem row_map (n : Nat) (f : Nat → List Int) (j : Nat) (hj : j < n) : row ((List.range n).map f) j = f j := by
 unfold row; rw [List.getD_eq_getElem?_getD, List.getElem?_eq_getElem (by simpa using hj)]
 simp
theorem ev_sgGood (m : List (List Int)) (hl : m.length ≤ 1048576) : EvB (fun k => spec_sgGood.f k m) (Good m) := by
 unfold spec_sgGood.f; refine EvB.bindAnd (ev_sgSquare m hl) (fun h => ?_); have h6 := h.2.1; refine EvB.bindAnd (ev_sgRows m hl (fun i hi => by rw [h.row hi]; omega)) (fun _ => ?_); refine EvB.read (ev_sgTurn m h) ?_
 have := ev_sgRows ((List.range m.length).map (colOf m)) (by simpa using hl) (fun i hi => by
  rw [List.length_map, List.length_range] at hi; rw [row_map _ _ _ hi]
  simp [colOf]
  omega)
 obtain ⟨b, hb, hb2⟩ := this; refine ⟨b, hb.trans ?_, Ev.bind hb2 (Ev.now b)⟩; rw [List.length_map, List.length_range]; exact ⟨fun h j hj => by have := h j hj; rwa [row_map _ _ _ hj] at this, fun h j hj => by rw [row_map _ _ _ hj]; exact h j hj⟩
theorem ev_alternate (l : List Int) (hl : l.length ≤ 1048576) : EvB (fun k => impl_alternate.f k l) (Alt l) := by
 unfold impl_alternate.f; refine EvB.all (fun j k => impl_alternate.l0 k (ws l j) l (l.length : Int) (j : Int)) l.length _ (fun j hj S ih => ?_) ?_
 ·refine EvB.succ ?_
  simp only [impl_alternate.l0, within_eq, Option.bind_some]; rw [wrapN j (by omega)]
  (repeat (first | refine EvB.pos (by omega) ?_ | refine EvB.neg (by omega) ?_))
  exact (EvB.and_ (fun _ => EvB.and_ (fun _ => ih))).iff and_assoc.symm
 ·refine EvB.succ ?_
  simp only [impl_alternate.l0]
  (repeat (first | refine EvB.pos (by omega) ?_ | refine EvB.neg (by omega) ?_))
  exact EvB.now _ (by simp)
theorem ev_column (m : List (List Int)) (h : Sq m) (j : Nat) (hj : j < m.length) : Ev (fun k => impl_column.f k m (j : Int)) (colOf m j) := by
 have h6 := h.2.1; unfold impl_column.f; refine Ev.thru (fun i k => impl_column.l0 k (j : Int) ((List.range i).map fun i => gd m i j) m (m.length : Int) (i : Int)) m.length (fun i hi ihi => ?_) ?_
 ·refine Ev.succ ?_
  have hri : (rd_L1 m (i : Int)).length = m.length := h.row hi
  have hll : ((List.range i).map fun i => gd m i j).length = i := by simp
  simp only [impl_column.l0]; rw [hri, hll, wrapN i (by omega)]
  (repeat (first | refine Ev.pos (by omega) ?_ | refine Ev.neg (by omega) ?_))
  rw [List.range_succ, List.map_append] at ihi; exact ihi
 ·refine Ev.succ ?_
  simp only [impl_column.l0]
  (repeat (first | refine Ev.pos (by omega) ?_ | refine Ev.neg (by omega) ?_))
  exact Ev.now _
theorem isSquare_iff (m : List (List Int)) : (!m.any fun x => !decide (x.length = m.length)) = true ↔ ∀ x ∈ m, x.length = m.length := by
 simp
theorem ev_IsSignMatrix (m : List (List Int)) (hl : m.length ≤ 1048576) : EvB (fun k => impl_IsSignMatrix.f k m) (Good m) := by
 unfold impl_IsSignMatrix.f; rw [isSide_eq]; simp only [Option.bind_some]
 have hj0 : ¬ Sq m → EvB (fun k => impl_IsSignMatrix.j0 k m true) (Good m) := by
  intro h; refine EvB.succ ?_; simp only [impl_IsSignMatrix.j0]; exact EvB.pos trivial (EvB.no fun g => h g.1)
 by_cases h1 : inB (m.length : Int) 1 6 = true
 ·refine EvB.pos h1 ?_
  unfold impl_isSquare.f; simp only [Option.bind_some, Bool.not_not]; have h1' := (inB_iff _ _ _).mp h1
  by_cases h2 : ∀ x ∈ m, x.length = m.length
  ·have h : Sq m := ⟨by omega, by omega, h2⟩
   have hb : (m.any fun x => !decide (x.length = m.length)) = false := by
    have := (isSquare_iff m).mpr h2
    simpa using this
   rw [hb]; refine EvB.succ ?_; simp only [impl_IsSignMatrix.j0]; refine EvB.neg (by decide) ?_; refine (EvB.all (E := True) (fun i k => impl_IsSignMatrix.l0 k m (m.length : Int) (i : Int)) m.length (fun i => Alt (row m i) ∧ Alt (colOf m i)) (fun i hi R ih => ?_) ?_).iff ⟨fun g => ⟨h, fun i hi => (g.1 i hi).1, fun i hi => (g.1 i hi).2⟩, fun g => ⟨fun i hi => ⟨g.2.1 i hi, g.2.2 i hi⟩, trivial⟩⟩
   ·refine EvB.succ ?_
    simp only [impl_IsSignMatrix.l0]
    (repeat (first | refine EvB.pos (by omega) ?_ | refine EvB.neg (by omega) ?_))
    rw [row_eq, wrapN i (by omega)]; refine (EvB.bindAnd (ev_alternate (row m i) (by rw [h.row hi]; omega)) (fun _ => ?_)).iff and_assoc.symm; refine EvB.read (ev_column m h i hi) ?_; exact EvB.bindAnd (ev_alternate (colOf m i) (by simp [colOf]; omega)) (fun _ => ih)
   ·refine EvB.succ ?_
    simp only [impl_IsSignMatrix.l0]
    (repeat (first | refine EvB.pos (by omega) ?_ | refine EvB.neg (by omega) ?_))
    exact EvB.yes trivial
  ·have hb : (m.any fun x => !decide (x.length = m.length)) = true := by
    rw [← Bool.not_eq_false]; intro c; exact h2 ((isSquare_iff m).mp (by rw [c]; rfl))
   rw [hb]; exact hj0 (fun g => h2 g.2.2)
 ·refine EvB.neg h1 (hj0 (fun g => h1 ((inB_iff _ _ _).mpr ⟨by have := g.1; omega, by have := g.2.1; omega⟩)))
theorem Good.num {m : List (List Int)} (h : Good m) {i j : Nat} (hi : i < m.length) (hj : j < m.length) : -1 ≤ gd m i j ∧ gd m i j ≤ 1 := by
 have := ((h.2.1 i hi).1 j (by rw [h.1.row hi]; exact hj)).1; exact (inB_iff _ _ _).mp this
end Go.Proofs.Ythjiajkmaimbjaa.Pure
namespace Go.Proofs.Ythjiajkmaimbjaa.Pure
open Go.Proofs.Ythjiajkmaimbjaa.B Go.Proofs.Ythjiajkmaimbjaa.P
open Go.RowKit Go.Proofs.YthjiajkmaimbjaaW.PrintWords Go.Proofs.YthjiajkmaimbjaaW.PrintLast Go.Proofs.YthjiajkmaimbjaaW.PrintMore
set_option linter.unusedVariables false
set_option linter.unusedSimpArgs false
theorem row_tab (n m : Nat) (f : Nat → Nat → Int) (i : Nat) (hi : i < n) : row (tabOf n m f) i = (List.range m).map (f i) := row_map n (fun i => (List.range m).map fun j => f i j) i hi
theorem row_tab_length (n m : Nat) (f : Nat → Nat → Int) (i : Nat) (hi : i < n) : (row (tabOf n m f) i).length = m := by
 rw [row_tab _ _ _ _ hi]; simp
theorem get_map (m : Nat) (g : Nat → Int) (j : Nat) (hj : j < m) : ((List.range m).map g).getD j 0 = g j := by
 rw [List.getD_eq_getElem?_getD, List.getElem?_eq_getElem (by simpa using hj)]
 simp
theorem tab_gd (n m : Nat) (f : Nat → Nat → Int) (i j : Nat) (hi : i < n) (hj : j < m) : gd (tabOf n m f) i j = f i j := by
 have := row_tab n m f i hi; unfold row at this; unfold B.gd; rw [this, get_map _ _ _ hj]
theorem tab_succ (i m : Nat) (f : Nat → Nat → Int) : tabOf (i + 1) m f = tabOf i m f ++ [(List.range m).map (f i)] := by
 unfold tabOf; rw [List.range_succ, List.map_append]; rfl
theorem tab_set (n m : Nat) (g : Nat → Nat → Int) (i j : Nat) (hi : i < n) (hj : j < m) (v : Int) : (tabOf n m g).set i ((row (tabOf n m g) i).set j v) = tabOf n m fun a b => if a = i ∧ b = j then v else g a b := by
 rw [row_tab _ _ _ _ hi]; refine List.ext_getElem (by simp [tabOf]) (fun a h1 h2 => ?_); rw [List.getElem_set]
 have ha : a < n := by simpa [tabOf] using h2
 by_cases e : i = a
 ·subst e
  rw [if_pos rfl]; refine List.ext_getElem (by simp [tabOf]) (fun b h3 h4 => ?_); rw [List.getElem_set]
  by_cases e2 : j = b
  ·subst e2; simp [tabOf]
  ·have e3 : ¬ b = j := fun h => e2 h.symm
   simp [tabOf, e2, e3]
 ·have e3 : ¬ a = i := fun h => e h.symm
  rw [if_neg e]
  simp [tabOf, e3]
def fillF (f : Nat → Nat → Int) (i j a b : Nat) : Int := if a < i ∨ (a = i ∧ b < j) then f a b else 0
theorem fill_step (n m : Nat) (f : Nat → Nat → Int) (i j : Nat) (hi : i < n) (hj : j < m) {v : Int} (hv : v = f i j) : (tabOf n m (fillF f i j)).set i ((row (tabOf n m (fillF f i j)) i).set j v) = tabOf n m (fillF f i (j + 1)) := by
 rw [tab_set _ _ _ _ _ hi hj]; refine tabOf_congr (fun a _ b _ => ?_); show (if a = i ∧ b = j then v else fillF f i j a b) = fillF f i (j + 1) a b; unfold fillF
 by_cases c : a = i ∧ b = j
 ·rw [if_pos c, if_pos (by omega), hv, c.1, c.2]
 ·rw [if_neg c]
  by_cases c2 : a < i ∨ (a = i ∧ b < j)
  ·rw [if_pos c2, if_pos (by omega)]
  ·rw [if_neg c2, if_neg (by omega)]
theorem fill_row (n m : Nat) (f : Nat → Nat → Int) (i : Nat) : tabOf n m (fillF f i m) = tabOf n m (fillF f (i + 1) 0) := by
 refine tabOf_congr (fun a _ b hb => ?_); unfold fillF
 by_cases c : a < i ∨ (a = i ∧ b < m)
 ·rw [if_pos c, if_pos (by omega)]
 ·rw [if_neg c, if_neg (by omega)]
theorem fill_all (n m : Nat) (f : Nat → Nat → Int) : tabOf n m (fillF f n 0) = tabOf n m f := by
 refine tabOf_congr (fun a ha b hb => ?_); unfold fillF; rw [if_pos (by omega)]
theorem fill_none (n m : Nat) (f : Nat → Nat → Int) : tabOf n m (fun _ _ => 0) = tabOf n m (fillF f 0 0) := by
 refine tabOf_congr (fun a ha b hb => ?_); unfold fillF; rw [if_neg (by omega)]
theorem zeros_eq (n : Nat) : List.replicate n (0 : Int) = (List.range n).map fun _ => 0 := by
 refine List.ext_getElem (by simp) (fun j h1 h2 => ?_)
 simp
theorem ev_sgZero (n : Nat) (hn : n ≤ 1048576) : Ev (fun k => spec_sgZero.f k (n : Int)) (tabOf n n fun _ _ => 0) := by
 unfold spec_sgZero.f; refine Ev.thru (fun i k => spec_sgZero.l0 k (n : Int) (tabOf i n fun _ _ => 0) (i : Int)) n (fun i hi ih => ?_) ?_
 ·refine Ev.succ ?_
  have hll : (tabOf i n fun _ _ => 0).length = i := tabOf_length _ _ _; simp only [spec_sgZero.l0]; rw [hll]
  (repeat (first | refine Ev.pos (by omega) ?_ | refine Ev.neg (by omega) ?_))
  rw [wrapN i (by omega), Int.toNat_natCast, zeros_eq]; unfold tabOf at ih; rw [List.range_succ, List.map_append] at ih; exact ih
 ·refine Ev.succ ?_
  simp only [spec_sgZero.l0]
  (repeat (first | refine Ev.pos (by omega) ?_ | refine Ev.neg (by omega) ?_))
  exact Ev.now _
end Go.Proofs.Ythjiajkmaimbjaa.Pure
namespace Go.Proofs.Ythjiajkmaimbjaa.Pure
open Go.Proofs.Ythjiajkmaimbjaa.B Go.Proofs.Ythjiajkmaimbjaa.P
open Go.RowKit Go.Proofs.YthjiajkmaimbjaaW.PrintWords Go.Proofs.YthjiajkmaimbjaaW.PrintLast Go.Proofs.YthjiajkmaimbjaaW.PrintMore
set_option linter.unusedVariables false
set_option linter.unusedSimpArgs false
def Pair (m k : List (List Int)) : Prop := Good m ∧ Good k ∧ m.length = k.length
theorem pair_both (m k : List (List Int)) (hm : m.length ≤ 1048576) (hk : k.length ≤ 1048576) : ∃ b : Bool, (b = true ↔ Pair m k) ∧ Ev (fun n => spec_hePair.f n m k) b ∧ Ev (fun n => impl_arePair.f n m k) b := by
 have h : ∀ {f g : Nat → Option Bool}, EvB f (Good m) → EvB g (Good k) → EvB (fun n => (f n).bind fun t => if t = true then ((g n).bind fun t => if t = true then some ((m.length : Int) == (k.length : Int)) else some false) else some false) (Pair m k) := by
  intro f g hf hg; exact EvB.bindAnd hf (fun _ => EvB.bindAnd hg (fun _ => EvB.now _ (by simp; omega)))
 exact EvB.same (h (ev_sgGood m hm) (ev_sgGood k hk)) (h (ev_IsSignMatrix m hm) (ev_IsSignMatrix k hk))
theorem pair_start {α : Type} {p : α → Prop} (m k : List (List Int)) (hm : m.length ≤ 1048576) (hk : k.length ≤ 1048576) (z : α) (hz : p z) {f g : Nat → Option α} (h : Pair m k → EvP p f g) :
  EvP p (fun n => (spec_hePair.f n m k).bind fun t => if t = true then f n else some z) (fun n => (impl_arePair.f n m k).bind fun t => if t = true then g n else some z) := by
 obtain ⟨b, hb, h1, h2⟩ := pair_both m k hm hk; refine EvP.bind h1 h2 ?_
 cases b with
 | true => exact EvP.pos rfl rfl (h (hb.mp rfl))
 | false => exact EvP.neg (by decide) (by decide) (EvP.now z hz)
end Go.Proofs.Ythjiajkmaimbjaa.Pure
