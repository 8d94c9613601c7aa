/- Flips of cells, one after the other: program and reference follow them alike. -/
import Derived.Test.YtfoidmoiedokjaaQWay
import Derived.Test.YtfoidmoiedokjaaQHFrom
import Derived.Test.YtfoidmoiedokjaaFImplFollow
import Derived.Test.YtfoidmoiedokjaaFSpecFollow
namespace Go.Proofs.Ytfoidmoiedokjaa.Pure
open Go.Proofs.Ytfoidmoiedokjaa.B Go.Proofs.Ytfoidmoiedokjaa.P
open Go.RowKit Go.Proofs.YtfoidmoiedokjaaW.PrintWords Go.Proofs.YtfoidmoiedokjaaW.PrintLast Go.Proofs.YtfoidmoiedokjaaW.PrintMore
set_option linter.unusedVariables false
set_option linter.unusedSimpArgs false
/-- The heights behind a flip. -/
def flipT (h : List (List Int)) (i j : Nat) : List (List Int) := h.set i ((row h i).set j (gd h i j + 2 * wayV h i j))
theorem flipT_row {h : List (List Int)} {n : Nat} (L : Lip h n) (i j a : Nat) (hi : i ≤ n) (ha : a ≤ n) : row (flipT h i j) a = if a = i then (row h i).set j (gd h i j + 2 * wayV h i j) else row h a := by
  unfold flipT row
  rw [List.getD_eq_getElem?_getD, List.getElem?_set]
  have := L.len
  by_cases e : i = a
  · subst e
    rw [if_pos rfl, if_pos rfl, if_pos (by omega)]
    rfl
  · have e2 : ¬ a = i := fun x => e x.symm
    rw [if_neg e, if_neg e2]
    rfl
theorem flipT_gd {h : List (List Int)} {n : Nat} (L : Lip h n) (i j a b : Nat) (hi : i ≤ n) (hj : j ≤ n) (ha : a ≤ n) (hb : b ≤ n) : gd (flipT h i j) a b = if a = i ∧ b = j then gd h i j + 2 * wayV h i j else gd h a b := by
  have e : gd (flipT h i j) a b = (row (flipT h i j) a).getD b 0 := rfl
  rw [e, flipT_row L i j a hi ha]
  by_cases c : a = i
  · subst c
    rw [if_pos rfl, List.getD_eq_getElem?_getD, List.getElem?_set]
    have hr := L.rows a ha
    by_cases d : j = b
    · subst d
      rw [if_pos rfl, if_pos (by omega), if_pos ⟨rfl, rfl⟩]
      rfl
    · rw [if_neg d, if_neg (fun x => d x.2.symm)]
      rfl
  · rw [if_neg c, if_neg (fun x => c x.1)]
    rfl
theorem wayV_cases (h : List (List Int)) (i j : Nat) : (wayV h i j = 1 ∧ gd h (i - 1) j = gd h i j + 1 ∧ gd h (i + 1) j = gd h i j + 1 ∧ gd h i (j - 1) = gd h i j + 1 ∧ gd h i (j + 1) = gd h i j + 1) ∨ (wayV h i j = -1 ∧ gd h (i - 1) j = gd h i j - 1 ∧ gd h (i + 1) j = gd h i j - 1 ∧ gd h i (j - 1) = gd h i j - 1 ∧ gd h i (j + 1) = gd h i j - 1) ∨ wayV h i j = 0 := by
  unfold wayV
  by_cases p : gd h (i - 1) j = gd h i j + 1 ∧ gd h (i + 1) j = gd h i j + 1 ∧ gd h i (j - 1) = gd h i j + 1 ∧ gd h i (j + 1) = gd h i j + 1
  · exact .inl ⟨if_pos p, p⟩
  · by_cases q : gd h (i - 1) j = gd h i j - 1 ∧ gd h (i + 1) j = gd h i j - 1 ∧ gd h i (j - 1) = gd h i j - 1 ∧ gd h i (j + 1) = gd h i j - 1
    · exact .inr (.inl ⟨by rw [if_neg p, if_pos q], q⟩)
    · exact .inr (.inr (by rw [if_neg p, if_neg q]))
theorem Lip.flip {h : List (List Int)} {n : Nat} (L : Lip h n) (i j : Nat) (hi1 : 1 ≤ i) (hi : i < n) (hj1 : 1 ≤ j) (hj : j < n) : Lip (flipT h i j) n where
  len := by unfold flipT; rw [List.length_set]; exact L.len
  rows := fun a ha => by
    rw [flipT_row L i j a (by omega) ha]
    split
    · rw [List.length_set]; exact L.rows i (by omega)
    · exact L.rows a ha
  dv := fun a ha b hb => by
    rw [flipT_gd L i j (a + 1) b (by omega) (by omega) (by omega) hb, flipT_gd L i j a b (by omega) (by omega) (by omega) hb]
    have hd := L.dv a ha b hb
    have hw := wayV_cases h i j
    by_cases c1 : a + 1 = i ∧ b = j
    · obtain ⟨c, d⟩ := c1
      subst d
      subst c
      rw [if_pos ⟨rfl, rfl⟩, if_neg (by omega)]
      rw [Nat.add_sub_cancel] at hw
      omega
    · rw [if_neg c1]
      by_cases c2 : a = i ∧ b = j
      · obtain ⟨c, d⟩ := c2
        subst d
        subst c
        rw [if_pos ⟨rfl, rfl⟩]
        omega
      · rw [if_neg c2]
        exact hd
  dh := fun a ha b hb => by
    rw [flipT_gd L i j a (b + 1) (by omega) (by omega) ha (by omega), flipT_gd L i j a b (by omega) (by omega) ha (by omega)]
    have hd := L.dh a ha b hb
    have hw := wayV_cases h i j
    by_cases c1 : a = i ∧ b + 1 = j
    · obtain ⟨c, d⟩ := c1
      subst d
      subst c
      rw [if_pos ⟨rfl, rfl⟩, if_neg (by omega)]
      rw [Nat.add_sub_cancel] at hw
      omega
    · rw [if_neg c1]
      by_cases c2 : a = i ∧ b = j
      · obtain ⟨c, d⟩ := c2
        subst d
        subst c
        rw [if_pos ⟨rfl, rfl⟩]
        omega
      · rw [if_neg c2]
        exact hd
  bord := fun b hb => by
    rw [flipT_gd L i j 0 b (by omega) (by omega) (by omega) hb, flipT_gd L i j b 0 (by omega) (by omega) hb (by omega), if_neg (by omega), if_neg (by omega)]
    exact L.bord b hb
/-- A cell of a matrix of n rows. -/
def CellOk (n : Nat) (c : List Int) : Prop := c.length = 2 ∧ 1 ≤ rd c 0 ∧ rd c 0 ≤ (n : Int) - 1 ∧ 1 ≤ rd c 1 ∧ rd c 1 ≤ (n : Int) - 1
instance (n : Nat) (c : List Int) : Decidable (CellOk n c) := by unfold CellOk; exact inferInstance
theorem isCell_eq (n : Nat) (hn : n ≤ 6) (i j : Int) : impl_isCell.f (n : Int) i j = some (inB i 1 ((n : Int) - 1) && inB j 1 ((n : Int) - 1)) := by
  unfold impl_isCell.f
  rw [wrapE ((n : Int) - 1) (by omega) (by omega), within_eq]
  simp only [Option.bind_some]
  cases inB i 1 ((n : Int) - 1) with
  | true => rw [if_pos rfl, within_eq]; rfl
  | false => rfl
theorem heCell_eq (n : Nat) (hn : n ≤ 6) (i j : Int) : spec_heCell.f (n : Int) i j = some (inB i 1 ((n : Int) - 1) && inB j 1 ((n : Int) - 1)) := by
  unfold spec_heCell.f
  rw [wrapE ((n : Int) - 1) (by omega) (by omega), l1In_eq]
  simp only [Option.bind_some]
  cases inB i 1 ((n : Int) - 1) with
  | true => rw [if_pos rfl, l1In_eq]; rfl
  | false => rfl
theorem cellOk_iff (n : Nat) (c : List Int) : CellOk n c ↔ c.length = 2 ∧ (inB (rd c 0) 1 ((n : Int) - 1) && inB (rd c 1) 1 ((n : Int) - 1)) = true := by
  unfold CellOk
  rw [Bool.and_eq_true, inB_iff, inB_iff, and_assoc]
theorem badCell_eq (n : Nat) (hn : n ≤ 6) (c : List Int) : badCell (n : Int) c = !decide (CellOk n c) := by
  unfold badCell
  rw [isCell_eq n hn, Option.getD_some]
  congr 1
  rw [Bool.eq_iff_iff, Bool.and_eq_true, decide_eq_true_iff, decide_eq_true_iff, cellOk_iff]
/-- What following the cells answers. -/
def followR (n : Nat) : List (List Int) → List (List Int) → List (List Int) × Bool
  | h, [] => (tabOf n n (fhV h), true)
  | h, c :: cs => if CellOk n c then (if wayV h (rd c 0).toNat (rd c 1).toNat = 0 then ([], false) else followR n (flipT h (rd c 0).toNat (rd c 1).toNat) cs) else ([], false)
theorem followR_bad (n : Nat) (cs : List (List Int)) (h : List (List Int)) (hb : ∃ c ∈ cs, ¬ CellOk n c) : followR n h cs = ([], false) := by
  induction cs generalizing h with
  | nil => obtain ⟨c, hc, _⟩ := hb; cases hc
  | cons x xs ih =>
    simp only [followR]
    by_cases e : CellOk n x
    · rw [if_pos e]
      split
      · rfl
      · refine ih _ ?_
        obtain ⟨c, hc, hn⟩ := hb
        rcases List.mem_cons.mp hc with rfl | hc
        · exact absurd e hn
        · exact ⟨c, hc, hn⟩
    · rw [if_neg e]
theorem followR_tot (n : Nat) (hn : n ≤ 6) (cs : List (List Int)) (h : List (List Int)) : total (followR n h cs).1 ≤ 1048576 ∧ (followR n h cs).1.length ≤ 1048576 := by
  induction cs generalizing h with
  | nil => exact tab_small _ _ hn
  | cons x xs ih =>
    simp only [followR]
    split
    · split
      · simp [total]
      · exact ih _
    · simp [total]
theorem flipT_small {h : List (List Int)} {n : Nat} (L : Lip h n) (hn : n ≤ 6) (i j : Nat) (hi : i ≤ n) (hj : j ≤ n) (d : Int) (hd : d = 2 * wayV h i j) : h.set i ((row h i).set j (wrap64 (gd h i j + d))) = flipT h i j := by
  have h1 := L.num i j hi hj
  have h2 := wayV_cases h i j
  unfold flipT
  rw [hd, wrapE _ (by omega) (by omega)]
theorem ev_followI {n : Nat} (hn : n ≤ 6) (h1 : 1 ≤ n) (p : List (List Int)) (hp : p.length ≤ 200) (hg : ∀ c ∈ p, CellOk n c) : ∀ (d i : Nat) (h : List (List Int)), i + d = p.length → Lip h n → Ev (fun k => impl_FollowFlips.l0 k h p (p.length : Int) (i : Int)) (followR n h (p.drop i)) := by
  intro d
  induction d with
  | zero =>
    intro i h hi L
    refine Ev.succ ?_
    simp only [impl_FollowFlips.l0]
    rw [List.drop_eq_nil_of_le (by omega)]
    refine Ev.neg (by omega) (Ev.bind0 (fromHeights_eq h n hn L.len (fun x hx => ?_)) (Ev.now _))
    obtain ⟨a, ha, rfl⟩ := List.mem_iff_getElem.mp hx
    have := L.rows a (by have := L.len; omega)
    unfold row at this
    rwa [List.getD_eq_getElem?_getD, List.getElem?_eq_getElem ha] at this
  | succ d ih =>
    intro i h hi L
    refine Ev.succ ?_
    simp only [impl_FollowFlips.l0]
    have hip : i < p.length := by omega
    rw [List.drop_eq_getElem_cons hip, rdL_get p i hip, wrapN i (by omega)]
    obtain ⟨c, hc⟩ : ∃ c, c = p[i] := ⟨_, rfl⟩
    have hcm : c ∈ p := by rw [hc]; exact List.getElem_mem _
    rw [← hc]
    have hok := hg c hcm
    obtain ⟨hl, a1, a2, b1, b2⟩ := id hok
    obtain ⟨a, ha⟩ := Int.eq_ofNat_of_zero_le (show 0 ≤ rd c 0 by omega)
    obtain ⟨b, hb⟩ := Int.eq_ofNat_of_zero_le (show 0 ≤ rd c 1 by omega)
    simp only [followR]
    rw [if_pos hok]
    rw [ha] at a1 a2
    rw [hb] at b1 b2
    rw [ha, hb]
    rw [hl, Int.toNat_natCast, Int.toNat_natCast]
    refine Ev.pos (by omega) (Ev.pos (by omega) (Ev.pos (by omega) (Ev.pos (by omega) (Ev.pos (by omega) ?_))))
    refine Ev.bind0 (way_eq L hn a b (by omega) (by omega) (by omega) (by omega)) ?_
    by_cases e : wayV h a b = 0
    · rw [if_pos e, e]
      exact Ev.pos (by omega) (Ev.now _)
    · rw [if_neg e]
      have hr := L.rows a (by omega)
      rw [row_eq, hr, L.len, rd_row, flipT_small L hn a b (by omega) (by omega) _ rfl]
      refine Ev.neg (by omega) (Ev.pos (by omega) (Ev.pos (by omega) (Ev.pos (by omega) (Ev.pos (by omega) ?_))))
      exact ih (i + 1) (flipT h a b) (by omega) (L.flip a b (by omega) (by omega) (by omega) (by omega))
theorem ev_followS {n : Nat} (hn : n ≤ 6) (h1 : 1 ≤ n) (m : List (List Int)) (hm : m.length = n) (p : List (List Int)) (hp : p.length ≤ 200) : ∀ (d i : Nat) (h : List (List Int)), i + d = p.length → Lip h n → Ev (fun k => spec_FollowFlips.l0 k m h p (p.length : Int) (i : Int)) (followR n h (p.drop i)) := by
  intro d
  induction d with
  | zero =>
    intro i h hi L
    refine Ev.succ ?_
    simp only [spec_FollowFlips.l0]
    rw [List.drop_eq_nil_of_le (by omega)]
    exact Ev.neg (by omega) (Ev.bind (ev_heFrom h n h1 hn L.len L.rows L.bord) (Ev.now _))
  | succ d ih =>
    intro i h hi L
    refine Ev.succ ?_
    simp only [spec_FollowFlips.l0]
    have hip : i < p.length := by omega
    rw [List.drop_eq_getElem_cons hip, rdL_get p i hip]
    obtain ⟨c, hc⟩ : ∃ c, c = p[i] := ⟨_, rfl⟩
    rw [← hc, hm]
    refine Ev.pos (by omega) (Ev.pos (by omega) (Ev.pos (by omega) ?_))
    have bad : ∀ x, x = true → Ev (fun k => spec_FollowFlips.j2 k m h c p (p.length : Int) (i : Int) x) (([] : List (List Int)), false) := by
      intro x hx
      refine Ev.succ ?_
      simp only [spec_FollowFlips.j2]
      exact Ev.pos hx (Ev.now _)
    simp only [followR]
    by_cases hl : c.length = 2
    · refine Ev.pos (by omega) (Ev.pos (by omega) (Ev.pos (by omega) (Ev.bind0 (heCell_eq n hn _ _) ?_)))
      by_cases hok : CellOk n c
      · rw [if_pos hok, ((cellOk_iff n c).mp hok).2]
        obtain ⟨_, a1, a2, b1, b2⟩ := hok
        refine Ev.succ ?_
        simp only [spec_FollowFlips.j2]
        obtain ⟨a, ha⟩ := Int.eq_ofNat_of_zero_le (show 0 ≤ rd c 0 by omega)
        obtain ⟨b, hb⟩ := Int.eq_ofNat_of_zero_le (show 0 ≤ rd c 1 by omega)
        rw [ha] at a1 a2
        rw [hb] at b1 b2
        rw [ha, hb]
        rw [hl, Int.toNat_natCast, Int.toNat_natCast, wrapN i (by omega)]
        refine Ev.neg (by decide) (Ev.pos (by omega) (Ev.pos (by omega) ?_))
        refine Ev.bind (ev_heWay L hn a b (by omega) (by omega) (by omega) (by omega)) ?_
        by_cases e : wayV h a b = 0
        · rw [if_pos e]
          exact Ev.pos e (Ev.now _)
        · rw [if_neg e]
          have hr := L.rows a (by omega)
          have hw := wayV_cases h a b
          rw [row_eq, hr, L.len, rd_row, wrapE (2 * wayV h a b) (by omega) (by omega), flipT_small L hn a b (by omega) (by omega) _ rfl]
          refine Ev.neg e (Ev.pos (by omega) (Ev.pos (by omega) (Ev.pos (by omega) (Ev.pos (by omega) ?_))))
          exact ih (i + 1) (flipT h a b) (by omega) (L.flip a b (by omega) (by omega) (by omega) (by omega))
      · rw [if_neg hok]
        refine bad _ ?_
        have : (inB (rd c 0) 1 ((n : Int) - 1) && inB (rd c 1) 1 ((n : Int) - 1)) = false := Bool.eq_false_iff.mpr (fun x => hok ((cellOk_iff n c).mpr ⟨hl, x⟩))
        rw [this]
        rfl
    · rw [if_neg (fun x => hl x.1)]
      exact Ev.neg (by omega) (bad _ rfl)
/-- Both answers on any table and any cells. -/
theorem follow_both (m p : List (List Int)) (hm : m.length ≤ 1048576) : ∃ r : List (List Int) × Bool, Ev (fun k => spec_FollowFlips.f k m p) r ∧ Ev (fun k => impl_FollowFlips.f k m p) r ∧ total r.1 ≤ 1048576 ∧ r.1.length ≤ 1048576 := by
  obtain ⟨b, hb, e1, e2⟩ := good_both m hm
  have sbad : Ev (fun k => spec_FollowFlips.j0 k m p true) (([] : List (List Int)), false) := by
    refine Ev.succ ?_
    simp only [spec_FollowFlips.j0]
    exact Ev.pos trivial (Ev.now _)
  have ibad : Ev (fun k => impl_FollowFlips.j0 k m p true) (([] : List (List Int)), false) := by
    refine Ev.succ ?_
    simp only [impl_FollowFlips.j0]
    exact Ev.pos trivial (Ev.now _)
  unfold spec_FollowFlips.f impl_FollowFlips.f
  cases b with
  | false => exact ⟨([], false), Ev.bind e1 (Ev.neg (by decide) sbad), Ev.bind e2 (Ev.neg (by decide) ibad), by simp [total], by simp⟩
  | true =>
    have g := hb.mp rfl
    have h1 := g.1.1
    have h6 := g.1.2.1
    have L := lip_ht g
    by_cases hp : p.length ≤ 200
    · have es : Ev (fun k => spec_FollowFlips.j0 k m p (decide ((p.length : Int) > 200))) (followR m.length (htT m) p) := by
        refine Ev.succ ?_
        simp only [spec_FollowFlips.j0]
        rw [decide_eq_false (show ¬ (p.length : Int) > 200 by omega)]
        have := ev_followS h6 h1 m rfl p hp p.length 0 (htT m) (by omega) L
        rw [List.drop_zero] at this
        exact Ev.neg (by decide) (Ev.bind (ev_heOf m g.1) this)
      refine ⟨followR m.length (htT m) p, Ev.bind e1 (Ev.pos rfl es), Ev.bind e2 (Ev.pos rfl ?_), followR_tot _ h6 _ _⟩
      by_cases hg : ∀ c ∈ p, CellOk m.length c
      · have ea : impl_areCells.f (m.length : Int) p = some true := by
          unfold impl_areCells.f
          have h3 : p.any (badCell (m.length : Int)) = false := by
            rw [List.any_eq_false]
            intro x hx
            rw [badCell_eq _ h6]
            simp [hg x hx]
          rw [h3, decide_eq_true (show (p.length : Int) ≤ 200 by omega)]
          rfl
        refine Ev.bind0 ea (Ev.succ ?_)
        simp only [impl_FollowFlips.j0]
        have := ev_followI h6 h1 p hp hg p.length 0 (htT m) (by omega) L
        rw [List.drop_zero] at this
        exact Ev.neg (by decide) (Ev.bind (ev_heights m g.1) this)
      · have ea : impl_areCells.f (m.length : Int) p = some false := by
          unfold impl_areCells.f
          have h3 : p.any (badCell (m.length : Int)) = true := by
            rw [List.any_eq_true]
            refine Classical.byContradiction (fun hx => hg (fun c hc => Classical.byContradiction (fun hcx => hx ⟨c, hc, ?_⟩)))
            rw [badCell_eq _ h6]
            simp [hcx]
          rw [h3]
          simp
        rw [followR_bad _ _ _ (Classical.byContradiction (fun hx => hg (fun c hc => Classical.byContradiction (fun hcx => hx ⟨c, hc, hcx⟩))))]
        exact Ev.bind0 ea ibad
    · refine ⟨([], false), Ev.bind e1 (Ev.pos rfl ?_), Ev.bind e2 (Ev.pos rfl ?_), by simp [total], by simp⟩
      · rw [decide_eq_true (show (p.length : Int) > 200 by omega)]
        exact sbad
      · have ea : impl_areCells.f (m.length : Int) p = some false := by
          unfold impl_areCells.f
          rw [decide_eq_false (show ¬ (p.length : Int) ≤ 200 by omega)]
          rfl
        exact Ev.bind0 ea ibad
end Go.Proofs.Ytfoidmoiedokjaa.Pure
