-- By gp.py (this session's own driver over the kit's print). Not trusted: Lean checks it.
import Derived.Test.YthjiajkmaimbjaaF0
import Derived.Test.YthjiajkmaimbjaaB
import Derived.Lib.ConvBytes
import Derived.Test.YthjiajkmaimbjaaMapKit
import Derived.Test.YthjiajkmaimbjaaFImplAbove
import Derived.Test.YthjiajkmaimbjaaFImplIsRow
namespace Go.Proofs.Ythjiajkmaimbjaa.P
open Go.Proofs.Ythjiajkmaimbjaa.B
open Go.RowKit Go.Proofs.YthjiajkmaimbjaaW.PrintWords Go.Proofs.YthjiajkmaimbjaaW.PrintLast Go.Proofs.YthjiajkmaimbjaaW.PrintMore
attribute [local go_sem] max2_int min2_int max_two min_two max_three min_three max_four min_four   -- for this text's walks alone
set_option linter.unusedVariables false
set_option linter.unusedSimpArgs false

/-! ### impl_CountUnder: function 25 (given) -/
/-- The key of a row: a letter for each number. -/
def cuKey : List Int → ByteArray → ByteArray
  | [], s => s
  | x :: r, s => cuKey r (s ++ strOfNums [wrap64 (97 + x) % 256])
/-- How many triangles have a last row of d + 1 numbers. -/
def cuV : Nat → List Int → Int
  | 0, _ => 1
  | d + 1, row => (abvL row (d + 1) []).foldl (fun all own => wrap64 (all + cuV d own)) 0
def cuU : Nat → Nat
  | 0 => 0
  | d + 1 => 1 + 16 ^ (d + 1) * cuU d
def cuGood (s : ByteArray) (v : Int) : Prop := ∀ (d : Nat) (row : List Int), row.length = d + 1 → AbvOk row → cuKey row ByteArray.empty = s → v = cuV d row
def impl_CountUnder.f (k : Nat) (l0 : List Int) : Option (Int × Bool) := (impl_isRow.f k l0).bind fun t => if t = true then (if AbvOk l0 then some (cuV (l0.length - 1) l0, true) else none) else some (0, false)
theorem impl_CountUnder.mono : ∀ a0 k, LeO (impl_CountUnder.f k a0) (impl_CountUnder.f (k + 1) a0) := by
  intro a0 k
  unfold impl_CountUnder.f
  exact LeO.bind (impl_isRow.mono _ _) (fun _ => LeO.refl _)
theorem byte_size (x : Int) : (strOfNums [x]).size = 1 := by rfl
theorem byte_at (x : Int) : (strOfNums [x]).data.toList = [UInt8.ofNat x.toNat] := by rfl
theorem cuKey_app (s t : ByteArray) : (s ++ t).data.toList = s.data.toList ++ t.data.toList := by simp
theorem cuKey_list (row : List Int) (s : ByteArray) : (cuKey row s).data.toList = s.data.toList ++ row.map fun x => UInt8.ofNat (wrap64 (97 + x) % 256).toNat := by
  induction row generalizing s with
  | nil => simp [cuKey]
  | cons x r ih => simp only [cuKey]; rw [ih, cuKey_app, byte_at]; simp
theorem cuKey_size (row : List Int) (s : ByteArray) : (cuKey row s).size = s.size + row.length := by
  have h := congrArg List.length (cuKey_list row s)
  rw [List.length_append, List.length_map, Array.length_toList, Array.length_toList] at h
  exact h
theorem cuKey_snoc (row : List Int) (x : Int) (s : ByteArray) : cuKey (row ++ [x]) s = cuKey row s ++ strOfNums [wrap64 (97 + x) % 256] := by
  induction row generalizing s with
  | nil => rfl
  | cons y r ih => simp only [List.cons_append, cuKey]; exact ih _
theorem cu_wrap {x : Int} (h0 : 0 ≤ x) (h1 : x ≤ 15) : wrap64 (97 + x) % 256 = 97 + x := by
  rw [wrapE _ (by omega) (by omega)]
  omega
theorem cu_inj : ∀ (a b : List Int), (∀ x ∈ a, 0 ≤ x ∧ x ≤ 15) → (∀ x ∈ b, 0 ≤ x ∧ x ≤ 15) → (a.map fun x => UInt8.ofNat (wrap64 (97 + x) % 256).toNat) = (b.map fun x => UInt8.ofNat (wrap64 (97 + x) % 256).toNat) → a = b
  | [], [], _, _, _ => rfl
  | [], _ :: _, _, _, h => by simp at h
  | _ :: _, [], _, _, h => by simp at h
  | x :: a, y :: b, ha, hb, h => by
    simp only [List.map_cons, List.cons.injEq] at h
    obtain ⟨h1, h2⟩ := h
    have hx := ha x (by simp)
    have hy := hb y (by simp)
    rw [cu_wrap hx.1 hx.2, cu_wrap hy.1 hy.2] at h1
    have h3 := congrArg UInt8.toNat h1
    simp at h3
    rw [cu_inj a b (fun z hz => ha z (by simp [hz])) (fun z hz => hb z (by simp [hz])) h2]
    congr 1
    omega
theorem abv_mem {row : List Int} (h : AbvOk row) : ∀ x ∈ row, 0 ≤ x ∧ x ≤ 15 := by
  intro x hx
  obtain ⟨j, hj, rfl⟩ := List.getElem_of_mem hx
  have := h.2.2 j hj
  rw [rd_get row j hj] at this
  exact this
theorem cuKey_inj {a b : List Int} (ha : AbvOk a) (hb : AbvOk b) (h : cuKey a ByteArray.empty = cuKey b ByteArray.empty) : a = b := by
  have h2 := congrArg (fun s : ByteArray => s.data.toList) h
  simp only [cuKey_list] at h2
  exact cu_inj a b (abv_mem ha) (abv_mem hb) (List.append_cancel_left h2)
theorem cu_good {d : Nat} {row : List Int} (hl : row.length = d + 1) (h : AbvOk row) : cuGood (cuKey row ByteArray.empty) (cuV d row) := by
  intro d' row' hl' h' hk
  obtain rfl := cuKey_inj h' h hk
  have : d' = d := by omega
  rw [this]
/-- The rows above one are rows. -/
theorem abvL_ok {row : List Int} (h : AbvOk row) : ∀ (d : Nat) (ys : List Int), ys.length + d + 1 = row.length → (∀ x ∈ ys, 0 ≤ x ∧ x ≤ 15) → ∀ own ∈ abvL row d ys, own.length = ys.length + d ∧ ∀ x ∈ own, 0 ≤ x ∧ x ≤ 15 := by
  intro d
  induction d with
  | zero =>
    intro ys hl hy own ho
    simp only [abvL, List.mem_singleton] at ho
    subst ho
    exact ⟨rfl, hy⟩
  | succ d ih =>
    intro ys hl hy own ho
    simp only [abvL, List.mem_flatMap, List.mem_range] at ho
    obtain ⟨j, hj, ho⟩ := ho
    have h1 := (h.2.2 (ys.length + 1) (by omega)).2
    have h2 := abvLow_nn h (show ys.length < row.length by omega)
    rw [show ((ys.length + 1 : Nat) : Int) = (ys.length : Int) + 1 by omega] at h1
    obtain ⟨h3, h4⟩ := ih (ys ++ [abvLow row ys + (j : Int)]) (by simp; omega) (fun x hx => by
      rcases List.mem_append.mp hx with hx | hx
      · exact hy x hx
      · rw [List.mem_singleton] at hx
        subst hx
        omega) own ho
    exact ⟨by rw [h3]; simp; omega, h4⟩
theorem abv_own {row : List Int} {d : Nat} (h : AbvOk row) (hl : row.length = d + 2) (own : List Int) (ho : own ∈ abvL row (d + 1) []) : own.length = d + 1 ∧ AbvOk own := by
  obtain ⟨h1, h2⟩ := abvL_ok h (d + 1) [] (by simp; omega) (by simp) own ho
  simp at h1
  have hb := h.2.1
  refine ⟨h1, by omega, by omega, fun j hj => ?_⟩
  rw [rd_get own j hj]
  exact h2 _ (List.getElem_mem hj)
theorem cu_take (row : List Int) {j m : Nat} (hm : row.length = m) (hj : j < m) : row.take (j + 1) = row.take j ++ [row.getD j 0] := by
  rw [List.take_succ_eq_append_getElem (by omega), List.getD_eq_getElem?_getD, List.getElem?_eq_getElem (by omega)]
  rfl
/-- One byte in memory that was just made. -/
theorem byte_new (w : World) (x : Int) (t : TypeId) : Kd.C (Kd.int .u8) (w.alloc (Obj.cells #[Value.int .u8 x] t)) (some ⟨w.heap.size, 0, none⟩) 1 [x] := by
  refine ⟨rfl, by omega, fun _ => ⟨_, rfl, fun j p hp => ⟨[.int .u8 p], rfl, rfl, fun i u hu => ?_⟩⟩⟩
  have hj := (List.getElem?_eq_some_iff.mp hp).1
  have hj0 : j = 0 := by simpa using hj
  subst hj0
  have hp0 : x = p := by simpa using hp
  subst hp0
  cases i with
  | succ i => simp at hu
  | zero =>
    have hu2 : Value.int .u8 x = u := by simpa using hu
    subst hu2
    exact cell_one_new w _ t 0 _ rfl
theorem cuV_step (d : Nat) (row : List Int) (j : Nat) (own : List Int) (h : (abvL row (d + 1) [])[j]? = some own) : ((abvL row (d + 1) []).take (j + 1)).foldl (fun all own => wrap64 (all + cuV d own)) 0 = wrap64 (((abvL row (d + 1) []).take j).foldl (fun all own => wrap64 (all + cuV d own)) 0 + cuV d own) := by
  obtain ⟨hj, he⟩ := List.getElem?_eq_some_iff.mp h
  rw [List.take_succ_eq_append_getElem hj, List.foldl_append, he]
  rfl
theorem cu_fit {n n1 jj L d : Nat} (hj : jj < L) (hL : L ≤ 16 ^ (d + 1)) (h1 : n1 ≤ n + jj * cuU d) (h : n + cuU (d + 1) ≤ 9000000000000000000) : n1 + cuU d ≤ 9000000000000000000 ∧ n1 + cuU d ≤ n + (jj + 1) * cuU d := by
  have h2 : (jj + 1) * cuU d ≤ 16 ^ (d + 1) * cuU d := Nat.mul_le_mul_right _ (by omega)
  simp only [cuU] at h
  rw [Nat.succ_mul] at h2 ⊢
  omega
theorem cu_end {n n1 L d : Nat} (hL : L ≤ 16 ^ (d + 1)) (h1 : n1 ≤ n + L * cuU d) : n1 + 1 ≤ n + cuU (d + 1) := by
  have h2 : L * cuU d ≤ 16 ^ (d + 1) * cuU d := Nat.mul_le_mul_right _ hL
  simp only [cuU]
  omega
theorem cu_bound {d : Nat} (h : d ≤ 5) : cuU d ≤ 9000000000000000000 := by
  match d, h with
  | 0, _ => decide
  | 1, _ => decide
  | 2, _ => decide
  | 3, _ => decide
  | 4, _ => decide
  | 5, _ => decide
  | d + 6, h => omega
set_option maxHeartbeats 8000000 in
set_option maxRecDepth 100000 in
theorem cu_count (w0 : World) (b1 b2 bk : Nat) (h2k : b2 ≠ bk) : ∀ (d : Nat) (W : World) (A : Option Addr) (c n m : Nat) (row : List Int) (D : DataW Unit),
    row.length = m → m = d + 1 → AbvOk row → n + cuU d ≤ 9000000000000000000 → m ≤ c → Kd.C (Kd.int .i64) W A m row → MSt w0 W b1 bk n cuGood D →
    W.cell? ⟨b2, 0, none⟩ = some (.func (.func 53) #[] #[.pointer (some ⟨b1, 0, none⟩), .pointer (some ⟨b2, 0, none⟩)]) →
    Calls Try.prog 53 (#[.slice A m c] ++ #[.pointer (some ⟨b1, 0, none⟩), .pointer (some ⟨b2, 0, none⟩)]) W fun e W' => e = .returned (.int .i64 (cuV d row)) ∧ ∃ (n' : Nat) (D' : DataW Unit), n' ≤ n + cuU d ∧ MSt w0 W' b1 bk n' cuGood D' ∧ W.grownBy W' (some bk) := by
  have hE := enters_of Try.func53 (by kernel_rfl) rfl
  intro d
  induction d with
  | zero =>
    intro W A c n m row D hm hd hok hn hc hC hst hc2
    subst hd
    have HST := Aside0.mk hst
    clear hC hst hc2 hok hn hm hE
    go_enter Try.func53, Try.ntmps53
    go_wp2
    go_ret
    exact ⟨rfl, n, D, Nat.le_add_right _ _, HST.out, grown_refl _ _⟩
  | succ d ih =>
    intro W A c n m row D hm hd hok hn hc hC hst hc2
    have t1 : ((m : Int) == 1) = false := by simp; omega
    have t2 : (m == 1) = false := by simp; omega
    have t3 : decide (m = 1) = false := decide_eq_false (by omega)
    have HST := Aside0.mk hst
    have HC := Aside0.mk hC
    have HC2 := Aside0.mk hc2
    have HF := Aside0.mk (And.intro hm (And.intro hd (And.intro hok (And.intro hn hc))))
    have HIH := Aside0.mk ih
    have HE := Aside0.mk hE
    have HB := Aside0.mk (Below.refl W.heap.size W)
    have hm6 : m ≤ 6 := by have := hok.2.1; omega
    clear hC hst hc2 hok hn hm hd ih hE hc
    go_enter Try.func53, Try.ntmps53
    go_wp2
    go_loopg [5, 18] (m + 1) (fun kq v5 v18 w' => ∃ (j : Nat), v5 = .string (cuKey (row.take j) ByteArray.empty) ∧ v18 = .int .i64 (j : Int) ∧ Aside0 (j ≤ m ∧ kq = m + 1 - j) ∧ Aside0 (Below W.heap.size W w'))
    case atStart => exact ⟨0, rfl, rfl, ⟨⟨Nat.zero_le _, rfl⟩⟩, HB⟩
    case round =>
      clear HB
      obtain ⟨j, rfl, rfl, HJ, HB⟩ := hrel
      have hj := HJ.out.1
      by_cases cj : j < m
      · have bj : decide ((j : Int) < (m : Int)) = true := decide_eq_true (by omega)
        have bj2 : decide (j < m) = true := decide_eq_true cj
        obtain ⟨ad, e1, hx⟩ := at_num (Kd.C_below HC.out HB.out) j cj
        subst e1
        obtain ⟨x, hx0⟩ : ∃ x, x = row.getD j 0 := ⟨_, rfl⟩
        rw [← hx0] at hx
        obtain ⟨s, hs⟩ : ∃ s, s = cuKey (row.take j) ByteArray.empty := ⟨_, rfl⟩
        rw [← hs]
        have HS := Aside0.mk (And.intro hs hx0)
        clear hs hx0
        have hcv : (convert 48 9 (Value.slice (some ⟨wr.heap.size, 0, none⟩) 1 1)).run Try.prog (wr.alloc (Obj.cells #[Value.int IntKind.u8 (wrap64 (97 + x) % 256)] 5)) = .ok (.string (strOfNums [wrap64 (97 + x) % 256])) (wr.alloc (Obj.cells #[Value.int IntKind.u8 (wrap64 (97 + x) % 256)] 5)) := Kd.C_string Try.underlying48 Try.underlying5 Try.underlying9 (byte_new wr _ _)
        obtain ⟨y, hy⟩ : ∃ y, y = strOfNums [wrap64 (97 + x) % 256] := ⟨_, rfl⟩
        rw [← hy] at hcv
        have hys : y.size = 1 := by rw [hy]; rfl
        have hss : s.size = j := by rw [HS.out.1, cuKey_size, List.length_take]; have := HF.out.1; simp; omega
        have HY := Aside0.mk hy
        clear hy
        go_wp2
        go_roundg (gk - 1)
        case measure => have := HJ.out; omega
        case rel =>
          refine ⟨j + 1, ?_, by first | rfl | go_num, ⟨by omega, by have := HJ.out; omega⟩, ⟨(by repeat (first | (with_reducible first | exact HB.out | apply below_alloc | apply pw_below_drewN | apply below_drew1) | exact HB.out))⟩⟩
          rw [cu_take row HF.out.1 cj, cuKey_snoc, ← HS.out.1, ← HS.out.2, ← HY.out]
      · have hjm : j = m := by omega
        subst hjm
        have bj : decide ((j : Int) < (j : Int)) = false := decide_eq_false (by omega)
        have bj2 : decide (j < j) = false := decide_eq_false (by omega)
        have hst1 := HST.out.move HB.out
        have hc2 := pw_cell_below HB.out HC2.out
        obtain ⟨s, hs⟩ : ∃ s, s = cuKey row ByteArray.empty := ⟨_, rfl⟩
        have HSZ : s.size ≤ 9223372036854775807 := by rw [hs, cuKey_size, HF.out.1]; simp; omega
        rw [List.take_of_length_le (by have := HF.out.1; omega), ← hs]
        have HS := Aside0.mk hs
        have hkey := map_key HSZ
        have hbx := hst1.box
        have HOWN := Aside0.mk hst1.own
        clear hs HSZ
        cases hh : Maps.has D (kyS s) with
        | true =>
          have HH := Aside0.mk hh
          have HST1 := Aside0.mk hst1
          clear hh hst1
          go_wp2_with (first | (at_lookup; refine wpList_lookup_own_ok_int _ rfl _ _ 46 rfl 9 3 .i64 map_law Try.underlying46 Try.underlying3 (map_zero _) bk n D rfl HOWN.out _ _ rfl hkey ?_; intro vc hat hwc; rw [HH.out]) | go_in)
          go_ret
          exact ⟨by rw [HST1.out.good.at HH.out hat d.succ row (HF.out.1.trans HF.out.2.1) HF.out.2.2.1 HS.out.symm]; rfl, n, D, Nat.le_add_right _ _, HST1.out, grown_of_below HB.out _⟩
        | false =>
          have HH := Aside0.mk hh
          have HST1 := Aside0.mk hst1
          obtain ⟨rs, hrs⟩ : ∃ rs, rs = abvL row (d + 1) [] := ⟨_, rfl⟩
          have NRS := Aside0.mk hrs
          have HLEN : Aside0 (rs.length ≤ 16 ^ (d + 1)) := ⟨by rw [hrs]; exact abvL_len HF.out.2.2.1 (d + 1) [] (by have h1 := HF.out.1; have h2 := HF.out.2.1; simp; omega)⟩
          have HAB : Aside0 (∀ W1 : World, Below W.heap.size W W1 → Calls Try.prog 47 #[.slice A j c] W1 fun e w' => ∃ v0_ : Value, e = .returned (v0_) ∧ Kd.S (Kd.slice 3 (Kd.int .i64)) 22 w' W1.heap.size (fun _ => True) v0_ rs ∧ Below W1.heap.size W1 w') := ⟨fun W1 hW1 => by
            have h1 := HF.out.1
            have h2 := HF.out.2.1
            have h3 := impl_above.calls A c row rs W1 (by rw [h1]; exact Kd.C_below HC.out hW1) (by rw [h1]; exact HF.out.2.2.2.2) (by unfold impl_above.f; rw [if_pos HF.out.2.2.1, if_neg (by omega), hrs, show row.length - 1 = d + 1 by omega])
            rw [h1] at h3
            exact h3⟩
          have hlk := hst1.own.lt
          have hl5 : rs.length ≤ 1048576 := Nat.le_trans HLEN.out (by have h2 := HF.out.2.1; have h6 : 16 ^ (d + 1) ≤ 16 ^ 5 := Nat.pow_le_pow_right (by decide) (by omega); omega)
          clear hh hst1 hrs
          go_wp2_with (first | (at_lookup; refine wpList_lookup_own_ok_int _ rfl _ _ 46 rfl 9 3 .i64 map_law Try.underlying46 Try.underlying3 (map_zero _) bk n D rfl HOWN.out _ _ rfl hkey ?_; intro vc hat hwc; rw [HH.out]) | (go_at_call 47; (refine (HAB.out _ HB.out).mono ?_); rintro e w4 ⟨v4, rfl, hS, hb⟩; have V4 := Aside0.mk (Kd.V_mono (ok' := fun k => k ≠ bk) (Kd.S_V (base' := W.heap.size) (Kd.S_bound hS)) (fun k hk e => by have := hk.2.1; omega)); have G4 := Aside0.mk (grown_of_below (below_step HB.out hb) (some bk)); have ST4 := Aside0.mk (HST1.out.move hb); clear hS hb; obtain ⟨Ar, cr, er⟩ := Kd.V_slice V4.out; subst er) | go_in)
          clear hlk
          go_loopg [10, 41] (rs.length + 1) (fun kq v10 v41 w' => ∃ (jj : Nat) (acc : Int) (n1 : Nat) (D1 : DataW Unit), v10 = .int .i64 acc ∧ v41 = .int .i64 (jj : Int) ∧ Aside0 (acc = (rs.take jj).foldl (fun all own => wrap64 (all + cuV d own)) 0 ∧ (Lit.int .i64 acc).wf = true ∧ jj ≤ rs.length ∧ kq = rs.length + 1 - jj ∧ n1 ≤ n + jj * cuU d) ∧ Aside0 (MSt w0 w' b1 bk n1 cuGood D1) ∧ Aside0 (W.grownBy w' (some bk)) ∧ Aside0 (Kd.V (Kd.slice 3 (Kd.int .i64)) 22 w' W.heap.size (fun k => k ≠ bk) (.slice Ar rs.length cr) rs))
          case atStart => exact ⟨0, 0, n, D, rfl, rfl, ⟨⟨rfl, by decide, Nat.zero_le _, rfl, by omega⟩⟩, ST4, G4, V4⟩
          case round =>
            clear ST4 G4 V4 HB HST1 HOWN hbx hc2
            obtain ⟨jj, acc, n1, D1, rfl, rfl, HJJ, ST, G, V⟩ := hrel
            have hc2 := cell_grown G.out HC2.out (fun e => h2k (by injection e))
            by_cases cj : jj < rs.length
            · have bj : decide ((jj : Int) < (rs.length : Int)) = true := decide_eq_true (by omega)
              have bj2 : decide (jj < rs.length) = true := decide_eq_true cj
              obtain ⟨ar, A1, c1, e1, hx, hc1, hr1⟩ := at_row (Kd.V_reads' V.out).2.2 jj cj
              subst e1
              obtain ⟨own, hown⟩ : ∃ own, own = rs.getD jj [] := ⟨_, rfl⟩
              rw [← hown] at hx hc1 hr1
              have hog : rs[jj]? = some own := by rw [hown, List.getD_eq_getElem?_getD, List.getElem?_eq_getElem cj]; rfl
              have hom := abv_own HF.out.2.2.1 (HF.out.1.trans HF.out.2.1) own (by rw [← NRS.out]; exact List.mem_of_getElem? hog)
              have hfit := cu_fit cj HLEN.out HJJ.out.2.2.2.2 HF.out.2.2.2.1
              have IH := Aside0.mk (HIH.out wr A1 c1 n1 own.length own D1 rfl hom.1 hom.2 hfit.1 hc1 hr1 ST.out hc2)
              have HOG := Aside0.mk (And.intro hog hfit.2)
              obtain ⟨q, hq⟩ : ∃ q, q = own.length := ⟨_, rfl⟩
              rw [← hq] at hx IH
              clear hown hog hom hfit hr1 hc1 hq
              go_wp2_with fail
              refine (IH.out).mono ?_
              rintro e w5 ⟨rfl, n2, D2, hn2, hst2, hg2⟩
              have ST2 := Aside0.mk hst2
              have G2 := Aside0.mk (grown_trans G.out hg2)
              have V2 := Aside0.mk (Kd.V_grown V.out hg2 (fun k hk e => hk (by injection e)))
              have HN2 := Aside0.mk hn2
              clear hst2 hg2 hn2
              go_wp2
              go_roundg (gk - 1)
              case measure => have := HJJ.out; omega
              case rel =>
                refine ⟨jj + 1, _, n2, D2, rfl, by first | rfl | go_num, ⟨?_, wrap64_wf _, by have := (List.getElem?_eq_some_iff.mp HOG.out.1).1; omega, by have := HJJ.out; omega, ?_⟩, ST2, G2, V2⟩
                · have h1 := cuV_step d row jj own (by rw [← NRS.out]; exact HOG.out.1)
                  rw [← NRS.out] at h1
                  rw [h1, ← HJJ.out.1]
                · have h1 := HN2.out
                  have h2 := HOG.out.2
                  omega
            · have hjm : jj = rs.length := by have := HJJ.out; omega
              subst hjm
              have bj : decide ((rs.length : Int) < (rs.length : Int)) = false := decide_eq_false (by omega)
              have bj2 : decide (rs.length < rs.length) = false := decide_eq_false (by omega)
              have hbx := ST.out.box
              have hacc : acc = cuV (d + 1) row := by
                have h1 := HJJ.out.1
                rw [List.take_length] at h1
                rw [h1, NRS.out]
                rfl
              have hn1 : n1 + 1 ≤ n + cuU (d + 1) := cu_end HLEN.out HJJ.out.2.2.2.2
              have HACC := Aside0.mk (And.intro hacc (And.intro hn1 HJJ.out.2.1))
              clear hacc hn1 cj
              go_wp2_with (first | (at_mapUpdate; refine wpList_mapUpdate_own _ rfl _ _ _ 46 rfl 9 3 map_law Try.underlying46 _ bk n1 D1 rfl ST.out.own (by have := HACC.out.2.1; have := HF.out.2.2.2.1; unfold maxLen; omega) _ _ _ rfl rfl hkey _ [] (plainElem_int Try.underlying3 HACC.out.2.2) ?_; intro w6 hown6 hgrow6; have ST6 := Aside0.mk (ST.out.put (by rw [HS.out, HACC.out.1]; exact cu_good (HF.out.1.trans HF.out.2.1) HF.out.2.2.1) hown6 hgrow6); have G6 := Aside0.mk (grown_trans G.out hgrow6); clear hown6 hgrow6) | go_in)
              go_ret
              exact ⟨by rw [HACC.out.1]; rfl, n1 + 1, _, HACC.out.2.1, ST6.out, G6.out⟩
set_option maxHeartbeats 8000000 in
set_option maxRecDepth 100000 in
theorem impl_CountUnder.calls (k : Nat) (A0 : Option Addr) (c0 : Nat) (l0 : List Int) (r1 : Int) (r2 : Bool) (w : World) (hr0 : Kd.C (Kd.int .i64) w A0 l0.length l0) (hc0 : l0.length ≤ c0) (h : impl_CountUnder.f k l0 = some (r1, r2)) :
    Calls Try.prog 25 #[.slice A0 l0.length c0] w fun e w' => e = .returned (.tuple #[.int .i64 r1, .bool r2]) ∧ Below w.heap.size w w' := by
  unfold impl_CountUnder.f at h
  obtain ⟨t, ht, h⟩ := Option.bind_eq_some_iff.mp h
  have HT := Aside0.mk ht
  have HR0 := Aside0.mk hr0
  have HC0 := Aside0.mk hc0
  have HB := Aside0.mk (Below.refl w.heap.size w)
  cases t with
  | false =>
    rw [if_neg (by decide)] at h
    obtain ⟨rfl, rfl⟩ : (0 : Int) = r1 ∧ false = r2 := by simpa using h
    obtain ⟨m, hm⟩ : ∃ m, m = l0.length := ⟨_, rfl⟩
    have HT2 := Aside0.mk (impl_isRow.calls k A0 c0 l0 false w HR0.out HC0.out HT.out)
    rw [← hm] at HT2 ⊢
    clear hr0 hc0 ht h hm
    go_enter Try.func25, Try.ntmps25
    go_wp2_with (first | (go_at_call 46; (refine (HT2.out).mono ?_); rintro e w1 ⟨rfl, hb⟩; have HB1 := Aside0.mk hb; clear hb) | fail)
    go_ret2
    exact ⟨rfl, HB1.out⟩
  | true =>
    rw [if_pos rfl] at h
    by_cases hok : AbvOk l0
    case neg => rw [if_neg hok] at h; cases h
    rw [if_pos hok] at h
    obtain ⟨hv, rfl⟩ : cuV (l0.length - 1) l0 = r1 ∧ true = r2 := by simpa using h
    have HOK := Aside0.mk (And.intro hok hv)
    have hmf : ∀ (fn : Fn) (first cap : Array Value) (w : World), (Instr.makeFunc fn first cap).run Try.prog w = .ok (.func fn first cap) w := fun _ _ _ _ => rfl
    have hmm := @run_makeMap Try.prog
    clear hr0 hc0 ht h hok hv
    obtain ⟨m, hm⟩ : ∃ m, m = l0.length := ⟨_, rfl⟩
    have HM := Aside0.mk hm
    have HT2 := Aside0.mk (impl_isRow.calls k A0 c0 l0 true w HR0.out HC0.out HT.out)
    rw [← hm] at HT2 ⊢
    have hu : cuU (m - 1) ≤ 9000000000000000000 := cu_bound (by have := HOK.out.1.2.1; omega)
    have HU := Aside0.mk hu
    clear hm hu
    go_enter Try.func25, Try.ntmps25
    go_wp2_with (first | (go_at_call 46; (refine (HT2.out).mono ?_); rintro e w1 ⟨rfl, hb⟩; have HB1 := Aside0.mk hb; clear hb) | fail)
    have hst : MSt w (((w1.alloc (Obj.map #[] 0)).alloc (Obj.cells #[Value.map (some w1.heap.size)] 46)).alloc (Obj.cells #[Value.func (Fn.func 53) #[] #[Value.pointer (some { block := w1.heap.size + 1, off := 0 }), Value.pointer (some { block := w1.heap.size + 1 + 1, off := 0 })]] 47)) (w1.heap.size + 1) w1.heap.size 0 cuGood (.map []) :=
      ⟨below_alloc (below_alloc (below_alloc HB1.out _) _) _, by go_simp, ((World.ownsMap_made w1 _ _ _).alloc _).alloc _, by omega, HB1.out.size, GoodD.none _⟩
    refine (cu_count w (w1.heap.size + 1) (w1.heap.size + 1 + 1) w1.heap.size (by omega) (m - 1) _ A0 c0 0 m l0 (.map []) ?x1 ?x2 ?x3 ?x4 ?x5 ?x6 hst ?x7).mono ?_
    case x1 => exact HM.out.symm
    case x2 => have := HOK.out.1.1; have := HM.out; omega
    case x3 => exact HOK.out.1
    case x4 => have := HU.out; omega
    case x5 => rw [HM.out]; exact HC0.out
    case x6 => rw [HM.out]; exact Kd.C_below HR0.out (below_alloc (below_alloc (below_alloc HB1.out _) _) _)
    case x7 => go_simp
    rintro e w6 ⟨rfl, n6, D6, hn6, hst6, hg6⟩
    have HB6 := Aside0.mk hst6.below
    clear hst hn6 hst6 hg6
    go_wp2
    go_ret2
    exact ⟨by rw [← HOK.out.2, ← HM.out]; rfl, HB6.out⟩

end Go.Proofs.Ythjiajkmaimbjaa.P
