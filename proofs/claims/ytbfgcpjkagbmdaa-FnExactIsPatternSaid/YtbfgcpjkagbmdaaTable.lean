/- The program's table(rows, columns, at): every row is made anew, and the number in the row i and the column j is what the closure 'at' answers for i and j; the closure only reads. -/
import Derived.Test.YtbfgcpjkagbmdaaTab
import Derived.Test.YtbfgcpjkagbmdaaClo
namespace Go.Proofs.Ytbfgcpjkagbmdaa.P
open Go.Proofs.Ytbfgcpjkagbmdaa.B
open Go.RowKit Go.Proofs.YtbfgcpjkagbmdaaW.PrintWords Go.Proofs.YtbfgcpjkagbmdaaW.PrintLast Go.Proofs.YtbfgcpjkagbmdaaW.PrintMore
set_option linter.unusedVariables false
set_option linter.unusedSimpArgs false
theorem info_row : (Try.prog.info? 26).map (fun i => (i.zero, i.size, i.bytes)) = some (some (.slice none 0 0), 1, 24) := by kernel_rfl
theorem info_int : (Try.prog.info? 3).map (fun i => (i.zero, i.size, i.bytes)) = some (some (.int .i64 0), 1, 8) := by kernel_rfl
def tabOf (n m : Nat) (f : Nat → Nat → Int) : List (List Int) := (List.range n).map fun i => (List.range m).map fun j => f i j
theorem made_nil (n : Nat) : (madeCells (Value.slice none 0 0).cells (n * 1)).toList = List.replicate n (.slice none 0 0) := by
  apply List.ext_getElem
  · simp [madeCells]
  · intro i h1 h2
    simp [madeCells, Value.cells, Nat.mod_one]
theorem made_zero (n : Nat) : (madeCells (Value.int .i64 0).cells (n * 1)).toList = nums .i64 (List.replicate n 0) := by
  apply List.ext_getElem
  · simp [madeCells, nums]
  · intro i h1 h2
    simp [madeCells, Value.cells, nums, Nat.mod_one]
/-- A row of m numbers of which the first j are told by h. -/
def rowTo (m : Nat) (h : Nat → Int) (j : Nat) : List Int := (List.range j).map h ++ List.replicate (m - j) 0
theorem rowTo_zero (m : Nat) (h : Nat → Int) : rowTo m h 0 = List.replicate m 0 := by simp [rowTo]
theorem rowTo_length (m : Nat) (h : Nat → Int) (j : Nat) (hj : j ≤ m) : (rowTo m h j).length = m := by
  simp [rowTo]
  omega
theorem rowTo_set (m : Nat) (h : Nat → Int) (j : Nat) (hj : j < m) : (rowTo m h j).set j (h j) = rowTo m h (j + 1) := by
  unfold rowTo
  obtain ⟨q, hq⟩ : ∃ q, m - j = q + 1 := ⟨m - j - 1, by omega⟩
  have hq2 : m - (j + 1) = q := by omega
  rw [hq, hq2, List.set_append_right _ _ (by simp), List.length_map, List.length_range, Nat.sub_self, List.replicate_succ, List.set_cons_zero, List.range_succ, List.map_append]
  simp
theorem tabOf_length (n m : Nat) (f : Nat → Nat → Int) : (tabOf n m f).length = n := by simp [tabOf]
theorem tabOf_succ (i m : Nat) (f : Nat → Nat → Int) : tabOf (i + 1) m f = tabOf i m f ++ [rowTo m (f i) m] := by
  simp [tabOf, rowTo, List.range_succ]
set_option maxHeartbeats 8000000 in
set_option maxRecDepth 100000 in
theorem table_any (F : Nat) (caps : Array Value) (f : Nat → Nat → Int) (n m : Nat) (hn : n ≤ 1048576) (hm : m ≤ 1048576) (w : World) (hE : Enters Try.prog F)
    (hF : ∀ (W : World), Below w.heap.size w W → ∀ i j : Nat, i < n → j < m → Calls Try.prog F (#[.int .i64 (i : Int), .int .i64 (j : Int)] ++ caps) W fun e w' => e = .returned (.int .i64 (f i j)) ∧ Drawn0 W w') :
    Calls Try.prog 74 #[.int .i64 (n : Int), .int .i64 (m : Int), .func (.func F) #[] caps] w fun e w' => ∃ v0_ : Value, e = .returned (v0_) ∧ Kd.S (Kd.slice 3 (Kd.int .i64)) 26 w' w.heap.size (fun _ => True) v0_ (tabOf n m f) ∧ Below w.heap.size w w' := by
  have HF := Aside0.mk hF
  have HB := Aside0.mk (Below.refl w.heap.size w)
  clear hF
  obtain ⟨i2, hi2, hz2, hs2, hb2⟩ := info_parts info_row
  obtain ⟨i1, hi1, hz1, hs1, hb1⟩ := info_parts info_int
  have Hi2 := Aside0.mk (And.intro hi2 (And.intro hz2 (And.intro hs2 hb2)))
  have Hi1 := Aside0.mk (And.intro hi1 (And.intro hz1 (And.intro hs1 hb1)))
  clear hi2 hz2 hs2 hb2 hi1 hz1 hs1 hb1
  go_enter Try.func74, Try.ntmps74
  go_wp2_with (at_make; refine wpList_make_full _ rfl _ _ 30 rfl w.heap.size 26 i2 (.slice none 0 0) 1 Try.underlying30 Hi2.out.1 Hi2.out.2.1 Hi2.out.2.2.1 .i64 .i64 n n n rfl rfl rfl rfl ?c1 ?c2 (Nat.le_refl _) ?_; (case c1 => rw [Hi2.out.2.2.2]; omega); (case c2 => unfold maxLen; omega); intro w1 hown1 hg1; rw [made_nil] at hown1; have HB1 := Aside0.mk (Below.grown HB.out hg1 (Nat.le_refl _) (fun k hk => by cases hk)); have HT1 := Aside0.mk (Tab.made (e1 := 3) hown1); clear hown1 hg1)
  go_loopg [14] (n + 1) (fun kq v14 w' => ∃ (i : Nat) (vs : List Value), v14 = .int .i64 i ∧ Aside0 (i ≤ n ∧ kq = n + 1 - i ∧ vs.length = i) ∧ Aside0 (Tab 26 3 w' w.heap.size (.slice (some ⟨w.heap.size, 0, none⟩) n n) n vs (tabOf i m f)) ∧ Aside0 (Below w.heap.size w w'))
  case atStart => exact ⟨0, [], rfl, ⟨⟨by omega, by omega, rfl⟩⟩, HT1, HB1⟩
  case round =>
    obtain ⟨i, vs, rfl, HA, HT, HB2⟩ := hrel
    clear HT1 HB1 HB
    by_cases hin : i < n
    · have c4b0 : decide (i < n) = true := decide_eq_true hin
      have hi0 : (0 : Int) ≤ (i : Int) := Int.natCast_nonneg _
      go_wp2_with (first | (at_make; refine wpList_make_full _ rfl _ _ 26 rfl w.heap.size 3 i1 (.int .i64 0) 1 Try.underlying26 Hi1.out.1 Hi1.out.2.1 Hi1.out.2.2.1 .i64 .i64 m m m rfl rfl rfl rfl ?c1 ?c2 ?c3 ?_; (case c1 => rw [Hi1.out.2.2.2]; omega); (case c2 => unfold maxLen; omega); (case c3 => exact HB2.out.size); intro w3 hown3 hg3; rw [made_zero] at hown3; have HB3 := Aside0.mk (Below.grown HB2.out hg3 HB2.out.size (fun k hk => by cases hk)); have HT3 := Aside0.mk (HT.out.move (w' := w3) ⟨hg3.os, hg3.tape, hg3.output, hg3.size, fun k hk => hg3.block k hk (by simp)⟩); have HO3 := Aside0.mk hown3; have hx3 := (HT3.out.own.cellAt i (by have := HA.out; omega)); have hf3 := HT3.out.own.frozenAt i; have hx3' : w3.cell? ⟨w.heap.size, i, none⟩ = some (.slice none 0 0) := (hx3.trans (by have := HA.out; rw [List.getElem?_append_right (by omega), List.getElem?_replicate_of_lt (by omega)])); clear hx3 hown3 hg3) | ((with_reducible refine gate_store (t := 26) (p := 21) rfl ?_); refine store_event (t := 26) (p := 21) (v := ?vo) (w1 := (w3.setCell ⟨w.heap.size, i, none⟩ (.slice (some ⟨wr.heap.size, 0, none⟩) m m))) ?hg ?ho ?hn ?hr ?_; (case ho => rfl); (case hg => rfl); (case hn => rfl); (case hr => first | (go_simp; done) | (go_simp; rfl)); intro w4 hw))
      have HT4 := Aside0.mk (HT3.out.push (by decide) (by have := HA.out; omega) (u := .slice (some ⟨wr.heap.size, 0, none⟩) m m) (x := List.replicate m 0) (by rw [List.length_replicate]; exact HO3.out) (by
        intro u' hu' k hk hk2
        obtain ⟨q, hq, rfl⟩ := List.mem_iff_getElem.1 hu'
        obtain ⟨x, hx⟩ := HT.out.get (List.getElem?_eq_getElem hq)
        have h1 := own_lt (HT.out.row q _ x (List.getElem?_eq_getElem hq) hx) k hk2
        have h2 : k = wr.heap.size := by simpa [Value.ownBlock] using hk.symm
        omega))
      rw [HA.out.2.2] at HT4
      have HB4 := Aside0.mk (Below.setCell HB3.out (p := ⟨w.heap.size, i, none⟩) (Nat.le_refl _) (.slice (some ⟨wr.heap.size, 0, none⟩) m m))
      have HS := Aside0.mk HB2.out.size
      clear HB3 HT3 HO3 HT HB2 hx3' hf3
      obtain ⟨wo, rfl⟩ : ∃ wo : World, wo = wr := ⟨_, rfl⟩
      obtain ⟨ko, rfl⟩ : ∃ ko : Nat, ko = gk := ⟨_, rfl⟩
      go_loopg [27] (m + 1) (fun kq v27 w' => ∃ (j : Nat), v27 = .int .i64 j ∧ Aside0 (j ≤ m ∧ kq = m + 1 - j) ∧ Aside0 (Tab 26 3 w' w.heap.size (.slice (some ⟨w.heap.size, 0, none⟩) n n) n (vs ++ [.slice (some ⟨wo.heap.size, 0, none⟩) m m]) (tabOf i m f ++ [rowTo m (f i) j])) ∧ Aside0 (Below w.heap.size w w'))
      case atStart => exact ⟨0, rfl, ⟨⟨by omega, by omega⟩⟩, ⟨by rw [rowTo_zero]; exact HT4.out⟩, HB4⟩
      case round =>
        obtain ⟨j, rfl, HA2, HT, HB2⟩ := hrel
        clear HT4 HB4
        by_cases hjm : j < m
        · have c5b0 : decide (j < m) = true := decide_eq_true hjm
          have hj0 : (0 : Int) ≤ (j : Int) := Int.natCast_nonneg _
          have hx1 : wr.cell? ⟨w.heap.size, i, none⟩ = some (.slice (some ⟨wo.heap.size, 0, none⟩) m m) :=
            (HT.out.own.cellAt i (by omega)).trans (by have := HA.out; rw [List.getElem?_append_left (by simp; omega), List.getElem?_append_right (by omega), this.2.2, Nat.sub_self]; rfl)
          have hrow := HT.out.row i (.slice (some ⟨wo.heap.size, 0, none⟩) m m) (rowTo m (f i) j) (by have := HA.out; rw [List.getElem?_append_right (by omega), this.2.2, Nat.sub_self]; rfl) (by rw [List.getElem?_append_right (by simp [tabOf]), tabOf_length, Nat.sub_self]; rfl)
          rw [rowTo_length _ _ _ (by omega)] at hrow
          obtain ⟨z, hz⟩ : ∃ z, wr.cell? ⟨wo.heap.size, j, none⟩ = some (.int .i64 z) := by
            refine ⟨(rowTo m (f i) j)[j]'(by rw [rowTo_length _ _ _ (by omega)]; exact hjm), (hrow.cellAt j (by omega)).trans ?_⟩
            simp [nums, List.getElem?_eq_getElem (show j < (rowTo m (f i) j).length by rw [rowTo_length _ _ _ (by omega)]; exact hjm)]
          have hf1 := hrow.frozenAt j
          clear hrow
          go_wp2_with fail
          refine start_ (n := 11) (S := fun w' => w'.cell? ⟨w.heap.size, i, none⟩ = some (.slice (some ⟨wo.heap.size, 0, none⟩) m m)) (ds := [10]) #[false, false, false, false, false, false, false, false, false, false, false] (by kernel_rfl) rfl rfl (hx1) (fun hHeld => ?_)
          refine pure_ (i := 0) (N := some 30) (v := ?_) (a' := ?_) #[true, false, false, false, false, false, false, false, false, false, false] rfl rfl (by kernel_rfl) (fun _ _ _ h => h) (Or.inl ⟨by rfl, ?_⟩) ?_ ?_
          rotate_left
          · intro w'
            go_simp
            with_reducible rfl
          rotate_left
          · simp only [Act.put, List.setIfInBounds_toArray, List.set_cons_zero, List.set_cons_succ, i64_w, i32_w]
            rfl
          refine pure_ (i := 1) (N := some 31) (v := ?_) (a' := ?_) #[true, true, false, false, false, false, false, false, false, false, false] rfl rfl (by kernel_rfl) (fun _ _ _ h => h) (Or.inl ⟨by rfl, ?_⟩) ?_ ?_
          rotate_left
          · intro w'
            go_simp
            with_reducible rfl
          rotate_left
          · simp only [Act.put, List.setIfInBounds_toArray, List.set_cons_zero, List.set_cons_succ, i64_w, i32_w]
            rfl
          refine pure_ (i := 2) (N := some 32) (v := ?_) (a' := ?_) #[true, true, true, false, false, false, false, false, false, false, false] rfl rfl (by kernel_rfl) (fun _ _ _ h => h) (Or.inl ⟨by rfl, ?_⟩) ?_ ?_
          rotate_left
          · intro w'
            go_simp
            with_reducible rfl
          rotate_left
          · simp only [Act.put, List.setIfInBounds_toArray, List.set_cons_zero, List.set_cons_succ, i64_w, i32_w]
            rfl
          refine pure_ (i := 4) (N := some 34) (v := ?_) (a' := ?_) #[true, true, true, false, true, false, false, false, false, false, false] rfl rfl (by kernel_rfl) (fun _ _ _ h => h) (Or.inl ⟨by rfl, ?_⟩) ?_ ?_
          rotate_left
          · intro w'
            go_simp
            with_reducible rfl
          rotate_left
          · simp only [Act.put, List.setIfInBounds_toArray, List.set_cons_zero, List.set_cons_succ, i64_w, i32_w]
            rfl
          refine pure_ (i := 5) (N := some 35) (v := ?_) (a' := ?_) #[true, true, true, false, true, true, false, false, false, false, false] rfl rfl (by kernel_rfl) (fun _ _ _ h => h) (Or.inl ⟨by rfl, ?_⟩) ?_ ?_
          rotate_left
          · intro w'
            go_simp
            with_reducible rfl
          rotate_left
          · simp only [Act.put, List.setIfInBounds_toArray, List.set_cons_zero, List.set_cons_succ, i64_w, i32_w]
            rfl
          refine pure_ (i := 6) (N := some 36) (v := ?_) (a' := ?_) #[true, true, true, false, true, true, true, false, false, false, false] rfl rfl (by kernel_rfl) (fun _ _ _ h => h) (Or.inl ⟨by rfl, ?_⟩) ?_ ?_
          rotate_left
          · intro w'
            go_simp
            with_reducible rfl
          rotate_left
          · simp only [Act.put, List.setIfInBounds_toArray, List.set_cons_zero, List.set_cons_succ, i64_w, i32_w]
            rfl
          refine pure_ (i := 7) (N := some 37) (v := ?_) (a' := ?_) #[true, true, true, false, true, true, true, true, false, false, false] rfl rfl (by kernel_rfl) (fun _ _ _ h => h) (Or.inl ⟨by rfl, ?_⟩) ?_ ?_
          rotate_left
          · intro w'
            go_simp
            with_reducible rfl
          rotate_left
          · simp only [Act.put, List.setIfInBounds_toArray, List.set_cons_zero, List.set_cons_succ, i64_w, i32_w]
            rfl
          refine take_ (i := 3) (N := some 33) (v := ?_) (a' := ?_) #[true, true, true, true, true, true, true, true, false, false, false] rfl rfl (by kernel_rfl) (fun _ _ _ h => h) (Or.inl ⟨by rfl, ?_⟩) hHeld ?_ ?_
          rotate_left
          · intro w' s0
            go_simp
            with_reducible rfl
          rotate_left
          · simp only [Act.put, List.setIfInBounds_toArray, List.set_cons_zero, List.set_cons_succ, i64_w, i32_w]
            rfl
          refine one_ (i := 8) (N := some 38) #[true, true, true, true, true, true, true, true, true, false, false] rfl rfl (by kernel_rfl) (by decide) (fun K hK => ?_)
          refine goesF_ caps hE (#[.int .i64 (i : Int), .int .i64 (j : Int)] ++ caps) (by rfl) rfl rfl (by rfl) (by simp only [List.map_toArray, List.map_cons, List.map_nil]; rfl) ?_
          (with_reducible refine (HF.out _ ?hb i j hin hjm).mono ?_)
          case hb => repeat (first | exact HB2.out | apply below_alloc | apply pw_below_drewN | apply below_drew1)
          rintro e w3 ⟨rfl, ⟨n3, rfl⟩⟩
          refine ⟨_, rfl, ?_⟩
          refine hK.out _ _ (hHeld) (fun hHeld => ?_)
          clear hK K
          refine norm_ (a' := ?_) ?_ ?_
          rotate_left
          · show Act.put _ (some 38) _ = _
            simp only [Act.put, List.setIfInBounds_toArray, List.set_cons_zero, List.set_cons_succ, i64_w, i32_w]
            rfl
          refine pure_ (i := 9) (N := some 39) (v := ?_) (a' := ?_) #[true, true, true, true, true, true, true, true, true, true, false] rfl rfl (by kernel_rfl) (fun _ _ _ h => h) (Or.inl ⟨by rfl, ?_⟩) ?_ ?_
          rotate_left
          · intro w'
            go_simp
            with_reducible rfl
          rotate_left
          · simp only [Act.put, List.setIfInBounds_toArray, List.set_cons_zero, List.set_cons_succ, i64_w, i32_w]
            rfl
          refine last_ (i := 10) (N := none) #[true, true, true, true, true, true, true, true, true, true, true] rfl rfl (by kernel_rfl) (by decide) (fun K hK => ?_)
          refine skip_ (w1 := ?_) (by rfl) rfl ?_ ?_
          rotate_left
          · go_simp
            rfl
          refine hK.out _ _ ?_
          clear hK K
          refine done_ (by kernel_rfl) ?_

          have HT5 := Aside0.mk (Tab.put (by decide) (HT.out.move (pw_below_drewN (Below.refl _ _) (1 + n3))) (j := i) (x := rowTo m (f i) j) (b := wo.heap.size) (m := m) (c := m) (by have := HA.out; rw [List.getElem?_append_right (by omega), this.2.2, Nat.sub_self]; rfl) (by rw [List.getElem?_append_right (by simp [tabOf]), tabOf_length, Nat.sub_self]; rfl) j (f i j))
          go_wp2
          go_roundg (gk - 1)
          case measure => have := HA2.out; omega
          case rel => exact ⟨j + 1, by go_num, ⟨⟨by omega, by have := HA2.out; omega⟩⟩, ⟨by
            have h5 := HT5.out
            rw [rowTo_set _ _ _ hjm, List.set_append_right _ _ (by simp [tabOf]), tabOf_length, Nat.sub_self, List.set_cons_zero] at h5
            exact h5⟩, ⟨Below.setCell (by repeat (first | exact HB2.out | apply below_alloc | apply pw_below_drewN | apply below_drew1)) (by show w.heap.size ≤ wo.heap.size; exact HS.out) _⟩⟩
        · have c5b0 : decide (j < m) = false := decide_eq_false hjm
          obtain rfl : j = m := by have := HA2.out; omega
          go_wp2
          go_roundg (ko - 1)
          case measure => have := HA.out; omega
          case rel => exact ⟨i + 1, vs ++ [.slice (some ⟨wo.heap.size, 0, none⟩) j j], by go_num, ⟨⟨by omega, by have := HA.out; omega, by simp [HA.out.2.2]⟩⟩, ⟨by rw [tabOf_succ]; exact HT.out⟩, HB2⟩
    · have c4b0 : decide (i < n) = false := decide_eq_false hin
      obtain rfl : i = n := by have := HA.out; omega
      go_wp2
      go_ret
      exact ⟨_, rfl, HT.out.S (by decide) HA.out.2.2, HB2.out⟩
end Go.Proofs.Ytbfgcpjkagbmdaa.P
