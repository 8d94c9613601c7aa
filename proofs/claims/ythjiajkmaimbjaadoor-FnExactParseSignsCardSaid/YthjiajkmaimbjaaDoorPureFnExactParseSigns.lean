/- FnExactParseSigns returns true for every string: ParseSigns of the program and of the reference answer the same, in memory of its own. No conditions. -/
import Derived.Test.YthjiajkmaimbjaaDoorFLawsFnExactParseSigns
import Derived.Test.YthjiajkmaimbjaaDoorQPieces
import Derived.Test.YthjiajkmaimbjaaDoorQSign
namespace Go.Proofs.YthjiajkmaimbjaaDoor.Pure
open Go.Proofs.YthjiajkmaimbjaaDoor.B Go.Proofs.YthjiajkmaimbjaaDoor.P
open Go.RowKit Go.Proofs.YthjiajkmaimbjaaDoorW.PrintWords Go.Proofs.YthjiajkmaimbjaaDoorW.PrintLast Go.Proofs.YthjiajkmaimbjaaDoorW.PrintMore
set_option linter.unusedVariables false
set_option linter.unusedSimpArgs false
/-- The entry that a byte stands for, as the reference reads it. -/
def cv (b : UInt8) : Int := if b = 43 then 1 else if b = 45 then -1 else 0
def rowS (t : ByteArray) : List Int := t.data.toList.map cv
def Fits (ts : List ByteArray) : Prop := ts.length ≤ 6 ∧ ∀ t ∈ ts, t.size ≤ 6
/-- What the reference does at the end. -/
def fin (k : Nat) (s : ByteArray) (m : List (List Int)) : Option (List (List Int) × Bool) := (spec_sgGood.f k m).bind fun t148 => (if t148 = true then ((spec_sgText.f k m).bind fun t149 => (if t149.toList = s.toList then (some (m, true)) else (some (([] : List (List Int)), false)))) else (some (([] : List (List Int)), false)))
theorem rd_ts (ts : List ByteArray) (i : Nat) (hi : i < ts.length) : rdOf ByteArray.empty ts (i : Int) = ts[i] := by
  unfold rdOf
  rw [Int.toNat_natCast, List.getD_eq_getElem?_getD, List.getElem?_eq_getElem hi]
  rfl
theorem take_m {α β : Type} (l : List α) (f : α → β) (j : Nat) (hj : j < l.length) : (l.take (j + 1)).map f = (l.take j).map f ++ [f l[j]] := by
  rw [List.take_succ_eq_append_getElem hj, List.map_append]
  rfl
theorem parse_row (s : ByteArray) (ts : List ByteArray) (r : List (List Int) × Bool) (x4 : List (List Int)) (tx : ByteArray) (i : Nat) (h6 : tx.size ≤ 6) (hx : x4.length ≤ 6) (hi : i ≤ 6)
    (h : Ev (fun k => spec_sgParse.l0 k s (x4 ++ [rowS tx]) ts (ts.length : Int) ((i + 1 : Nat) : Int)) r) : Ev (fun k => spec_sgParse.l1 k s x4 tx ([] : List Int) 0 ts (ts.length : Int) (i : Int)) r := by
  have hsz := Lib.size_eq tx
  refine Ev.thruE (fun j k => spec_sgParse.l1 k s x4 tx ((tx.data.toList.take j).map cv) (j : Int) ts (ts.length : Int) (i : Int)) tx.size rfl (fun j hj ih => ?_) ?_
  · have hl : ((tx.data.toList.take j).map cv).length < 17592186044416 := by
      rw [List.length_map, List.length_take]
      omega
    have hjl : j < tx.data.toList.length := by omega
    rw [take_m _ _ _ hjl] at ih
    refine Ev.succ ?_
    simp only [spec_sgParse.l1]
    rw [wrapN j (by omega)]
    refine Ev.pos (by omega) (Ev.pos (by omega) ?_)
    by_cases c1 : bt tx (j : Int) = 43
    · have d1 : tx.data.toList[j] = 43 := (bt_is tx j hjl 43).mp c1
      rw [d1, show cv 43 = 1 from rfl] at ih
      exact Ev.pos c1 (Ev.neg (by omega) (Ev.pos hl ih))
    · have d1 : ¬ tx.data.toList[j] = 43 := fun e => c1 ((bt_is tx j hjl 43).mpr e)
      refine Ev.neg c1 ?_
      by_cases c2 : bt tx (j : Int) = 45
      · have d2 : tx.data.toList[j] = 45 := (bt_is tx j hjl 45).mp c2
        rw [d2, show cv 45 = -1 from rfl] at ih
        exact Ev.pos c2 (Ev.pos hl ih)
      · have d2 : ¬ tx.data.toList[j] = 45 := fun e => c2 ((bt_is tx j hjl 45).mpr e)
        rw [show cv tx.data.toList[j] = 0 by unfold cv; rw [if_neg d1, if_neg d2]] at ih
        exact Ev.neg c2 (Ev.pos hl ih)
  · refine Ev.succ ?_
    simp only [spec_sgParse.l1]
    rw [wrapN i (by omega), List.take_of_length_le (by omega)]
    exact Ev.neg (by omega) (Ev.pos (by omega) h)
theorem parse_step (s : ByteArray) (ts : List ByteArray) (r : List (List Int) × Bool) (i : Nat) (hi : i < ts.length) (h6 : i < 6) (hz : ts[i].size ≤ 6)
    (h : Ev (fun k => spec_sgParse.l0 k s ((ts.take (i + 1)).map rowS) ts (ts.length : Int) ((i + 1 : Nat) : Int)) r) : Ev (fun k => spec_sgParse.l0 k s ((ts.take i).map rowS) ts (ts.length : Int) (i : Int)) r := by
  have hl : ((ts.take i).map rowS).length = i := by rw [List.length_map, List.length_take]; omega
  rw [take_m _ _ _ hi] at h
  refine Ev.succ ?_
  simp only [spec_sgParse.l0]
  rw [rd_ts _ _ hi]
  refine Ev.pos (by omega) (Ev.pos (by omega) (Ev.pos (by omega) (Ev.neg (by omega) ?_)))
  rw [decide_eq_false (by omega : ¬ ((ts[i].size : Int) > 6))]
  refine Ev.succ ?_
  simp only [spec_sgParse.j1]
  exact Ev.neg (by decide) (parse_row s ts r _ _ i hz (by omega) (by omega) h)
theorem parse_stop (s : ByteArray) (ts : List ByteArray) (i : Nat) (hi : i < ts.length) (h6 : i ≤ 6) (hz : i = 6 ∨ 6 < ts[i].size) : Ev (fun k => spec_sgParse.l0 k s ((ts.take i).map rowS) ts (ts.length : Int) (i : Int)) (([] : List (List Int)), false) := by
  have hl : ((ts.take i).map rowS).length = i := by rw [List.length_map, List.length_take]; omega
  refine Ev.succ ?_
  simp only [spec_sgParse.l0]
  rw [rd_ts _ _ hi]
  refine Ev.pos (by omega) (Ev.pos (by omega) (Ev.pos (by omega) ?_))
  by_cases c : i = 6
  · refine Ev.pos (by omega) (Ev.succ ?_)
    simp only [spec_sgParse.j1]
    exact Ev.pos (by decide) (Ev.now _)
  · refine Ev.neg (by omega) ?_
    rw [decide_eq_true (by omega : ((ts[i].size : Int) > 6))]
    refine Ev.succ ?_
    simp only [spec_sgParse.j1]
    exact Ev.pos (by decide) (Ev.now _)
theorem parse_fits (s : ByteArray) (ts : List ByteArray) (r : List (List Int) × Bool) (hf : Fits ts) (h : Ev (fun k => fin k s (ts.map rowS)) r) : Ev (fun k => spec_sgParse.l0 k s ([] : List (List Int)) ts (ts.length : Int) 0) r := by
  refine Ev.thruE (fun i k => spec_sgParse.l0 k s ((ts.take i).map rowS) ts (ts.length : Int) (i : Int)) ts.length rfl (fun i hi ih => ?_) ?_
  · exact parse_step s ts r i hi (by have := hf.1; omega) (hf.2 _ (List.getElem_mem _)) ih
  · refine Ev.succ ?_
    simp only [spec_sgParse.l0]
    rw [List.take_length]
    exact Ev.neg (by omega) h
theorem parse_not (s : ByteArray) (ts : List ByteArray) (hn : ¬ Fits ts) : ∀ (d i : Nat), ts.length = i + d → i ≤ 6 → (∀ t ∈ ts.take i, t.size ≤ 6) → Ev (fun k => spec_sgParse.l0 k s ((ts.take i).map rowS) ts (ts.length : Int) (i : Int)) (([] : List (List Int)), false) := by
  intro d
  induction d with
  | zero =>
    intro i hi h6 ht
    rw [List.take_of_length_le (by omega)] at ht
    exact absurd ⟨by omega, ht⟩ hn
  | succ d ih =>
    intro i hi h6 ht
    have hil : i < ts.length := by omega
    by_cases c : i = 6 ∨ 6 < ts[i].size
    · exact parse_stop s ts i hil h6 c
    · refine parse_step s ts _ i hil (by omega) (by omega) (ih (i + 1) (by omega) (by omega) (fun t h => ?_))
      rw [List.take_succ_eq_append_getElem hil] at h
      rcases List.mem_append.1 h with h | h
      · exact ht t h
      · rw [List.mem_singleton.1 h]; omega
/-- The byte of an entry. -/
def chr (x : Int) : UInt8 := if x = 1 then 43 else if x = -1 then 45 else 48
def acc (m : List (List Int)) : Nat → List UInt8
  | 0 => []
  | i + 1 => acc m i ++ (if i = 0 then [] else [47]) ++ (row m i).map chr
theorem sep_le (i : Nat) : (if i = 0 then ([] : List UInt8) else [47]).length ≤ 1 := by split <;> simp
theorem acc_len (m : List (List Int)) (h : ∀ i, i < m.length → (row m i).length ≤ 6) : ∀ i, i ≤ m.length → (acc m i).length ≤ i * 7
  | 0, _ => by simp [acc]
  | i + 1, hi => by
    have := acc_len m h i (by omega)
    have hr := h i (by omega)
    have := sep_le i
    simp only [acc, List.length_append, List.length_map]
    omega
theorem take_row (l : List Int) (j : Nat) (hj : j < l.length) : (l.take (j + 1)).map chr = (l.take j).map chr ++ [chr (rd l (j : Int))] := by
  rw [List.take_succ_eq_append_getElem hj, List.map_append, rd_get _ _ hj]
  rfl
theorem ev_sgText (m : List (List Int)) (h6 : m.length ≤ 6) (hr : ∀ i, i < m.length → (row m i).length ≤ 6) : Ev (fun k => spec_sgText.f k m) (ofL (acc m m.length)) := by
  unfold spec_sgText.f
  refine Ev.thruE (fun i k => spec_sgText.l0 k (ofL (acc m i)) m (m.length : Int) (i : Int)) m.length rfl (fun i hi ih => ?_) ?_
  · have hri := hr i hi
    have hlen := acc_len m hr i (by omega)
    have hrow : ∀ pre : List UInt8, pre = acc m i ++ (if i = 0 then [] else [47]) → Ev (fun k => spec_sgText.j1 k (ofL pre) (row m i) m (m.length : Int) (i : Int)) (ofL (acc m m.length)) := by
      intro pre hpre
      have hpl : pre.length ≤ 100 := by
        rw [hpre, List.length_append]
        have := sep_le i
        omega
      refine Ev.succ ?_
      simp only [spec_sgText.j1]
      have := Ev.thru (r := ofL (acc m m.length)) (fun j k => spec_sgText.l1 k (ofL (pre ++ ((row m i).take j).map chr)) m (m.length : Int) (i : Int) (row m i) ((row m i).length : Int) (j : Int)) (row m i).length (fun j hj ihj => ?_) ?_
      · simpa using this
      · refine Ev.succ ?_
        simp only [spec_sgText.l1]
        have hsz : (ofL (pre ++ ((row m i).take j).map chr)).size + 1 ≤ 9223372036854775807 := by
          rw [ofL_size, List.length_append, List.length_map]
          have := List.length_take_le j (row m i)
          omega
        rw [wrapN j (by omega), ofL_snoc, ofL_snoc, ofL_snoc]
        rw [take_row _ _ hj, ← List.append_assoc] at ihj
        refine Ev.pos (by omega) (Ev.pos (by omega) (Ev.pos (by omega) ?_))
        by_cases c1 : rd (row m i) (j : Int) = 1
        · rw [c1, show chr 1 = 43 from rfl] at ihj
          exact Ev.pos c1 (Ev.pos hsz ihj)
        · refine Ev.neg c1 ?_
          by_cases c2 : rd (row m i) (j : Int) = -1
          · rw [c2, show chr (-1) = 45 from rfl] at ihj
            exact Ev.pos c2 (Ev.pos hsz ihj)
          · rw [show chr (rd (row m i) (j : Int)) = 48 by unfold chr; rw [if_neg c1, if_neg c2]] at ihj
            exact Ev.neg c2 (Ev.pos hsz ihj)
      · refine Ev.succ ?_
        simp only [spec_sgText.l1]
        rw [wrapN i (by omega), List.take_length, hpre]
        exact Ev.neg (by omega) ih
    refine Ev.succ ?_
    simp only [spec_sgText.l0]
    rw [row_eq]
    refine Ev.pos (by omega) (Ev.pos (by omega) (Ev.pos (by omega) ?_))
    by_cases c : i = 0
    · refine Ev.neg (by omega) (hrow (acc m i) ?_)
      rw [if_pos c, List.append_nil]
    · have h2 := hrow (acc m i ++ [47]) (by rw [if_neg c])
      rw [← ofL_snoc] at h2
      exact Ev.pos (by omega) (Ev.pos (by rw [ofL_size]; omega) h2)
  · refine Ev.succ ?_
    simp only [spec_sgText.l0]
    exact Ev.neg (by omega) (Ev.now _)
theorem acc_glue (m : List (List Int)) : ∀ i, i ≤ m.length → acc m i = glue ((m.take i).map fun r => r.map chr)
  | 0, _ => rfl
  | i + 1, h => by
    rw [take_m _ _ _ (by omega), glue_snoc, ← acc_glue m i (by omega)]
    have hl : ((m.take i).map fun r => r.map chr).length = i := by rw [List.length_map, List.length_take]; omega
    have he : ((m.take i).map fun r => r.map chr) = [] ↔ i = 0 := by rw [← List.length_eq_zero_iff, hl]
    have hrow : row m i = m[i] := by unfold row; rw [List.getD_eq_getElem?_getD, List.getElem?_eq_getElem (by omega)]; rfl
    rw [ite_iff he, ← hrow]
    rfl
theorem acc_all (m : List (List Int)) : ∀ i, ∀ b ∈ acc m i, b = 43 ∨ b = 45 ∨ b = 48 ∨ b = 47
  | 0, b, h => by simp [acc] at h
  | i + 1, b, h => by
    simp only [acc] at h
    rcases List.mem_append.1 h with h | h
    · rcases List.mem_append.1 h with h | h
      · exact acc_all m i b h
      · split at h
        · simp at h
        · exact Or.inr (Or.inr (Or.inr (List.mem_singleton.1 h)))
    · obtain ⟨x, _, rfl⟩ := List.mem_map.1 h
      unfold chr
      split
      · exact Or.inl rfl
      · split
        · exact Or.inr (Or.inl rfl)
        · exact Or.inr (Or.inr (Or.inl rfl))
/-- The program's table of the bytes, checked over all of them. -/
def PsB (b : UInt8) : Prop := (decide (psB (b.toNat : Int) < 0) = false ∧ psV (b.toNat : Int) = cv b ∧ chr (cv b) = b) ∨ (decide (psB (b.toNat : Int) < 0) = true ∧ b ≠ 43 ∧ b ≠ 45 ∧ b ≠ 48)
instance (b : UInt8) : Decidable (PsB b) := by unfold PsB; infer_instance
theorem ps_byte0 : ∀ n : Fin 256, PsB (UInt8.ofFin n) := by decide +kernel
theorem ps_byte (b : UInt8) : PsB b := ps_byte0 b.toFin
theorem row_good (t : ByteArray) (h : psBad t = false) : psR t = rowS t ∧ (rowS t).map chr = t.data.toList := by
  have hb : ∀ b ∈ t.data.toList, psV (b.toNat : Int) = cv b ∧ chr (cv b) = b := by
    intro b hb
    unfold psBad bytesN at h
    rw [List.any_eq_false] at h
    have := h (b.toNat : Int) (List.mem_map_of_mem hb)
    rcases ps_byte b with c | c
    · exact c.2
    · exact absurd c.1 this
  unfold psR rowS bytesN
  rw [List.map_map, List.map_map]
  refine ⟨List.map_congr_left fun b h => (hb b h).1, ?_⟩
  have : t.data.toList.map (chr ∘ cv) = t.data.toList.map id := List.map_congr_left fun b h => (hb b h).2
  rw [this, List.map_id]
theorem row_bad (t : ByteArray) (h : psBad t = true) : ∃ b ∈ t.data.toList, b ≠ 43 ∧ b ≠ 45 ∧ b ≠ 48 := by
  unfold psBad bytesN at h
  rw [List.any_eq_true] at h
  obtain ⟨x, hx, hp⟩ := h
  obtain ⟨b, hb, rfl⟩ := List.mem_map.1 hx
  rcases ps_byte b with c | c
  · rw [c.1] at hp; cases hp
  · exact ⟨b, hb, c.2⟩
theorem cuts_len (s : ByteArray) (hs : s.size ≤ 1048576) : (cuts s).length ≤ 1048577 ∧ ∀ t ∈ cuts s, t.size ≤ 1048576 := by
  have h := pieces_len _ s.data.toList (Nat.le_refl _)
  have hsz := Lib.size_eq s
  unfold cuts
  refine ⟨by rw [List.length_map]; omega, fun t ht => ?_⟩
  obtain ⟨x, hx, rfl⟩ := List.mem_map.1 ht
  have := h.2 x hx
  rw [ofL_size]
  omega
theorem good_text (s : ByteArray) (hb : (cuts s).any psBad = false) : (cuts s).map psR = (cuts s).map rowS ∧ ofL (acc ((cuts s).map rowS) ((cuts s).map rowS).length) = s := by
  rw [List.any_eq_false] at hb
  have h1 : ∀ t ∈ cuts s, psBad t = false := fun t ht => by simpa using hb t ht
  refine ⟨List.map_congr_left fun t ht => (row_good t (h1 t ht)).1, ?_⟩
  rw [acc_glue _ _ (Nat.le_refl _), List.take_length, List.map_map]
  have : (cuts s).map ((fun r => r.map chr) ∘ rowS) = (cuts s).map (fun t => t.data.toList) := List.map_congr_left fun t ht => (row_good t (h1 t ht)).2
  rw [this]
  unfold cuts
  rw [List.map_map]
  have e : ((fun t : ByteArray => t.data.toList) ∘ ofL) = id := by funext l; rfl
  rw [e, List.map_id, glue_pieces _ _ (Nat.le_refl _), ofL_of]
theorem bad_text (s : ByteArray) (hb : (cuts s).any psBad = true) (m : List (List Int)) (i : Nat) : ¬ (acc m i) = s.data.toList := by
  intro e
  rw [List.any_eq_true] at hb
  obtain ⟨t, ht, hp⟩ := hb
  obtain ⟨b, hbt, n1, n2, n3⟩ := row_bad t hp
  unfold cuts at ht
  obtain ⟨x, hx, rfl⟩ := List.mem_map.1 ht
  have hbx : b ∈ x := hbt
  have h1 := pieces_mem _ _ (Nat.le_refl _) x hx b hbx
  have h2 := pieces_no47 _ x hx
  rw [← e] at h1
  rcases acc_all m i b h1 with c | c | c | c
  · exact n1 c
  · exact n2 c
  · exact n3 c
  · rw [c] at hbx; exact h2 hbx
theorem total_few (l : List (List Int)) (c : Nat) (h : ∀ x ∈ l, x.length ≤ c) : total l ≤ l.length * c := by
  induction l with
  | nil => simp [total]
  | cons x xs ih =>
    rw [total_cons, List.length_cons, Nat.succ_mul]
    have := ih (fun y hy => h y (List.mem_cons_of_mem _ hy))
    have := h x (List.mem_cons_self ..)
    omega
theorem not_fits (ts : List ByteArray) (hn : ¬ Fits ts) : ¬ Good (ts.map psR) := by
  intro g
  refine hn ⟨by have := g.1.2.1; rw [List.length_map] at this; exact this, fun t ht => ?_⟩
  have h1 := g.1.2.2 _ (List.mem_map_of_mem (f := psR) ht)
  have h2 := g.1.2.1
  have h3 : (psR t).length = t.size := by unfold psR; rw [List.length_map, bytesN_len]
  omega
theorem toL (s : ByteArray) : s.toList = s.data.toList := Lib.toList_data s
theorem ev_IsSignMatrix_big (m : List (List Int)) : EvB (fun k => impl_IsSignMatrix.f k m) (Good m) := by
  by_cases h : m.length ≤ 1048576
  · exact ev_IsSignMatrix m h
  · have h1 : ¬ inB (m.length : Int) 1 6 = true := fun c => by have := (inB_iff _ _ _).mp c; omega
    unfold impl_IsSignMatrix.f
    rw [isSide_eq]
    simp only [Option.bind_some]
    refine EvB.neg h1 (EvB.succ ?_)
    simp only [impl_IsSignMatrix.j0]
    exact EvB.pos trivial (EvB.no fun g => by have := g.1.2.1; omega)
theorem FnExactParseSigns : laws_FnExactParseSigns.Pure := by
  intro s hs
  have hlen := cuts_len s hs
  have hcut := split_cuts s hs
  have hspl := ev_l1Split s hs
  have hi0 : ∀ r, Ev (fun k => if (cuts s).any psBad = true then some (([] : List (List Int)), false) else (impl_IsSignMatrix.f k ((cuts s).map psR)).bind fun t => if t = true then some ((cuts s).map psR, true) else some (([] : List (List Int)), false)) r → Ev (fun k => impl_ParseSigns.f k s) r := by
    intro r h
    unfold impl_ParseSigns.f
    exact Ev.bind0 hcut (Ev.pos ⟨by omega, fun t ht => by have := hlen.2 t ht; omega⟩ h)
  have hs0 : ∀ r : List (List Int) × Bool, Ev (fun k => spec_sgParse.l0 k s ([] : List (List Int)) (cuts s) ((cuts s).length : Int) 0) r → Ev (fun k => spec_ParseSigns.f k s) (r.1, r.2) := by
    intro r h
    unfold spec_ParseSigns.f
    refine Ev.bind (a := r) ?_ (Ev.now _)
    unfold spec_sgParse.f
    exact Ev.bind hspl h
  suffices h : ∃ r : List (List Int) × Bool, Ev (fun k => spec_sgParse.l0 k s ([] : List (List Int)) (cuts s) ((cuts s).length : Int) 0) r ∧ Ev (fun k => if (cuts s).any psBad = true then some (([] : List (List Int)), false) else (impl_IsSignMatrix.f k ((cuts s).map psR)).bind fun t => if t = true then some ((cuts s).map psR, true) else some (([] : List (List Int)), false)) r ∧ total r.1 ≤ 1048576 ∧ r.1.length ≤ 1048576 by
    obtain ⟨r, h1, h2, h3⟩ := h
    exact ⟨r.1, r.2, (hs0 r h1).rounds, (hi0 r h2).rounds, h3⟩
  have hnil : total ([] : List (List Int)) ≤ 1048576 ∧ ([] : List (List Int)).length ≤ 1048576 := by simp [total]
  have hml : ((cuts s).map psR).length ≤ 2000000 := by rw [List.length_map]; omega
  obtain ⟨b, hb, e2⟩ := ev_IsSignMatrix_big ((cuts s).map psR)
  by_cases hf : Fits (cuts s)
  · have hl6 : ((cuts s).map rowS).length ≤ 6 := by rw [List.length_map]; exact hf.1
    have hr6 : ∀ i, i < ((cuts s).map rowS).length → (row ((cuts s).map rowS) i).length ≤ 6 := by
      intro i hi
      have e : row ((cuts s).map rowS) i = rowS ((cuts s)[i]'(by simpa using hi)) := by
        unfold row
        rw [List.getD_eq_getElem?_getD, List.getElem?_eq_getElem hi]
        simp
      rw [e]
      unfold rowS
      rw [List.length_map, ← Lib.size_eq]
      exact hf.2 _ (List.getElem_mem _)
    obtain ⟨c, hc, e1⟩ := ev_sgGood ((cuts s).map rowS) (by omega)
    have htx := ev_sgText ((cuts s).map rowS) hl6 hr6
    by_cases hbad : (cuts s).any psBad = true
    · refine ⟨([], false), parse_fits s _ _ hf ?_, Ev.pos hbad (Ev.now _), hnil⟩
      unfold fin
      refine Ev.bind e1 ?_
      cases c with
      | false => exact Ev.neg (by decide) (Ev.now _)
      | true => exact Ev.pos rfl (Ev.bind htx (Ev.neg (by rw [toL, toL, ofL_data]; exact bad_text s hbad _ _) (Ev.now _)))
    · have hbad2 : (cuts s).any psBad = false := by simpa using hbad
      obtain ⟨g1, g2⟩ := good_text s hbad2
      rw [g1] at hb e2 ⊢
      have e : b = c := by
        cases b <;> cases c <;> simp_all
      subst e
      cases b with
      | false =>
        refine ⟨([], false), parse_fits s _ _ hf ?_, Ev.neg hbad (Ev.bind e2 (Ev.neg (by decide) (Ev.now _))), hnil⟩
        unfold fin
        exact Ev.bind e1 (Ev.neg (by decide) (Ev.now _))
      | true =>
        have hg := hb.mp rfl
        refine ⟨((cuts s).map rowS, true), parse_fits s _ _ hf ?_, Ev.neg hbad (Ev.bind e2 (Ev.pos rfl (Ev.now _))), ?_, by show ((cuts s).map rowS).length ≤ 1048576; omega⟩
        · unfold fin
          exact Ev.bind e1 (Ev.pos rfl (Ev.bind htx (Ev.pos (by rw [g2]) (Ev.now _))))
        · have := total_few ((cuts s).map rowS) 6 (fun x hx => by rw [hg.1.2.2 x hx]; exact hl6)
          show total ((cuts s).map rowS) ≤ 1048576
          omega
  · have hbf : b = false := by
      cases b with
      | false => rfl
      | true => exact absurd (hb.mp rfl) (not_fits _ hf)
    subst hbf
    refine ⟨([], false), ?_, ?_, hnil⟩
    · exact parse_not s _ hf (cuts s).length 0 (by omega) (by omega) (by simp)
    · by_cases hbad : (cuts s).any psBad = true
      · exact Ev.pos hbad (Ev.now _)
      · exact Ev.neg hbad (Ev.bind e2 (Ev.neg (by decide) (Ev.now _)))
end Go.Proofs.YthjiajkmaimbjaaDoor.Pure
