-- By gp.py (this session's own driver over the kit's print). Not trusted: Lean checks it.
import Derived.Test.YthjiajkmaimbjaaF0
import Derived.Test.YthjiajkmaimbjaaB
import Derived.Test.YthjiajkmaimbjaaSortK
import Derived.Test.YthjiajkmaimbjaaTab
import Derived.Test.YthjiajkmaimbjaaFImplIn
namespace Go.Proofs.Ythjiajkmaimbjaa.P
open Go.Proofs.Ythjiajkmaimbjaa.B
open Go.RowKit Go.Proofs.YthjiajkmaimbjaaW.PrintWords Go.Proofs.YthjiajkmaimbjaaW.PrintLast Go.Proofs.YthjiajkmaimbjaaW.PrintMore
attribute [local go_sem] max2_int min2_int max_two min_two max_three min_three max_four min_four   -- for this text's walks alone
set_option linter.unusedVariables false
set_option linter.unusedSimpArgs false

/-! ### impl_FromPlacing: function 41 (given) -/
def spS (l : List Int) : List Int := l.mergeSort fun x y => decide (x ≤ y)
def spOk (l : List Int) : Bool := decide (spS l = (List.range l.length).map fun i : Nat => (i : Int))
def impl_FromPlacing.f (k : Nat) (l0 : List Int) : Option (List (List Int) × Bool) := if l0.length ≤ 1048576 then (if spOk l0 = true then (impl_isSide.f (l0.length : Int)).bind fun t => if t = true then some (tabOf l0.length l0.length (fun i j => if rd l0 (i : Int) = (j : Int) then 1 else 0), true) else some (([] : List (List Int)), false) else some (([] : List (List Int)), false)) else none
theorem impl_FromPlacing.mono : ∀ a0 k, LeO (impl_FromPlacing.f k a0) (impl_FromPlacing.f (k + 1) a0) := fun _ _ => LeO.refl _
theorem spS_len (l : List Int) : (spS l).length = l.length := by unfold spS; simp
theorem spOk_of (l : List Int) (h : ∀ j, j < l.length → rd (spS l) (j : Int) = (j : Int)) : spOk l = true := by
  refine decide_eq_true ?_
  apply List.ext_getElem
  · rw [spS_len]; simp
  · intro i h1 h2
    have := h i (by rw [spS_len] at h1; exact h1)
    rw [rd_get _ _ h1] at this
    simpa using this
theorem spOk_not (l : List Int) (j : Nat) (hj : j < l.length) (h : ¬ (j : Int) = rd (spS l) (j : Int)) : spOk l = false := by
  refine decide_eq_false (fun e => h ?_)
  rw [e, rd_get _ _ (by simpa using hj)]
  simp
theorem sp_ints (w : World) (A : Option Addr) (c : Nat) (l : List Int) (h : Kd.C (Kd.int .i64) w A l.length l) (n : Nat) (hn : w.heap.size ≤ n) : K.Ints n w (.slice A l.length c) l := by
  by_cases hz : l = []
  · subst hz; exact .inl ⟨⟨_, _, rfl⟩, rfl⟩
  · have hpos : 0 < l.length := List.length_pos_iff.mpr hz
    obtain ⟨ad, rfl, hc0⟩ := at_num h 0 hpos
    obtain ⟨b, off, p⟩ := ad
    cases p with
    | some p =>
      simp [World.cell?, Addr.add] at hc0
      split at hc0 <;> cases hc0
    | none =>
      refine .inr ⟨b, off, c, rfl, Nat.lt_of_lt_of_le (World.block_lt_of_cell? w _ hc0) hn, fun j hj => ?_⟩
      obtain ⟨ad2, e2, h2⟩ := at_num h j hj
      cases e2
      have e3 : l.getD j 0 = l[j]?.getD 0 := by rw [List.getD_eq_getElem?_getD]
      rw [e3] at h2
      rw [show (Addr.mk b off none).add j = ⟨b, off + j, none⟩ from by unfold Addr.add; split <;> simp_all] at h2
      exact h2
theorem row_reads (w : World) (base : Nat) (v : Value) (n : Nat) (S : List Int) (hS : S.length = n) (h : w.ownsRow base 3 1 v n (S.map (Value.int .i64))) : ∃ A c, v = .slice A n c ∧ n ≤ c ∧ ∀ i, i < n → ∃ ad, A = some ad ∧ w.cell? (ad.add i) = some (.int .i64 (rd S (i : Int))) := by
  rcases h.2 with ⟨rfl, hz⟩ | ⟨gb, cap, cur, rfl, hbase, hgb, r1, r2, r3, r4⟩
  · subst hz
    exact ⟨none, 0, rfl, Nat.le_refl _, fun i hi => by omega⟩
  · refine ⟨_, _, rfl, r1, fun i hi => ⟨_, rfl, ?_⟩⟩
    have e1 : (Addr.mk gb 0 none).add i = ⟨gb, i, none⟩ := by unfold Addr.add; split <;> simp_all
    have e2 : (cur.toList.take (n * 1))[i]? = (S.map (Value.int .i64))[i]? := by rw [r4]
    have e3 : (S.map (Value.int .i64))[i]? = some (Value.int .i64 (S[i]'(by omega))) := by rw [List.getElem?_map, List.getElem?_eq_getElem (by omega)]; rfl
    rw [List.getElem?_take_of_lt (by omega), e3] at e2
    rw [e1, rd_get _ _ (by omega)]
    simp only [World.cell?, hgb]
    simp only [Option.isSome_none, Bool.false_eq_true, if_false]
    rw [← Array.getElem?_toList, e2]
set_option maxHeartbeats 8000000 in
set_option maxRecDepth 100000 in
theorem impl_FromPlacing.clo (l : List Int) (A : Option Addr) (c : Nat) (g1 : Addr) (w : World) (hr : Kd.C (Kd.int .i64) w A l.length l) (hc : l.length ≤ c) (h1 : w.cell? g1 = some (.slice A l.length c)) (i j : Nat) (hi : i < l.length) (hj : j < l.length) (hl : l.length ≤ 1048576) :
    Calls Try.prog 86 (#[.int .i64 (i : Int), .int .i64 (j : Int)] ++ #[.pointer (some g1)]) w fun e w' => e = .returned (.int .i64 (if rd l (i : Int) = (j : Int) then 1 else 0)) ∧ Drawn0 w w' := by
  obtain ⟨ad, e1, hx⟩ := Kd.at_int hr (i : Int) (by omega) (by omega)
  cases e1
  rw [Int.toNat_natCast] at hx
  obtain ⟨v, hv⟩ : ∃ v, v = rd l (i : Int) := ⟨_, rfl⟩
  rw [← hv] at hx ⊢
  obtain ⟨n, hn⟩ : ∃ n, n = l.length := ⟨_, rfl⟩
  rw [← hn] at h1 hi
  have hi2 : decide ((i : Int) < (n : Int)) = true := decide_eq_true (by omega)
  have HT := Aside0.mk (fun (b : Bool) (W : World) => impl_bit.calls b (if b = true then 1 else 0) W (by unfold impl_bit.f; cases b <;> rfl))
  clear hv hr hc hn
  by_cases c1 : v = (j : Int)
  · have c2 : (v == (j : Int)) = true := by simpa using c1
    rw [if_pos c1]
    clear c1
    go_enter Try.func86, Try.ntmps86
    go_wp2_with (go_at_call 62; (refine (HT.out true _).mono ?_); rintro e w5 ⟨rfl, ⟨n1, rfl⟩⟩)
    go_ret
    exact ⟨rfl, (by repeat (first | exact Drawn0.refl _ | apply Drawn0.step))⟩
  · have c2 : (v == (j : Int)) = false := by simpa using c1
    rw [if_neg c1]
    clear c1
    go_enter Try.func86, Try.ntmps86
    go_wp2_with (go_at_call 62; (refine (HT.out false _).mono ?_); rintro e w5 ⟨rfl, ⟨n1, rfl⟩⟩)
    go_ret
    exact ⟨rfl, (by repeat (first | exact Drawn0.refl _ | apply Drawn0.step))⟩
set_option maxHeartbeats 8000000 in
set_option maxRecDepth 100000 in
theorem impl_FromPlacing.calls (k : Nat) (A0 : Option Addr) (c0 : Nat) (l0 : List Int) (r1 : List (List Int)) (r2 : Bool) (w : World) (hr0 : Kd.C (Kd.int .i64) w A0 l0.length l0) (hc0 : l0.length ≤ c0) (h : impl_FromPlacing.f k l0 = some (r1, r2)) :
    Calls Try.prog 41 #[.slice A0 l0.length c0] w fun e w' => ∃ v0_ : Value, e = .returned (.tuple #[v0_, .bool r2]) ∧ Kd.S (Kd.slice 3 (Kd.int .i64)) 22 w' w.heap.size (fun _ => True) v0_ r1 ∧ Below w.heap.size w w' := by
  unfold impl_FromPlacing.f at h
  by_cases hl : l0.length ≤ 1048576
  case neg => rw [if_neg hl] at h; cases h
  rw [if_pos hl] at h
  have HB0 := Aside0.mk (Below.refl w.heap.size w)
  have HT := Aside0.mk (fun (W : World) (hb : Below w.heap.size w W) (g1 : Addr) (h1 : W.cell? g1 = some (.slice A0 l0.length c0)) =>
    table_any 86 #[.pointer (some g1)] (fun i j => if rd l0 (i : Int) = (j : Int) then 1 else 0) l0.length l0.length hl hl W (enters_of Try.func86 (by kernel_rfl) rfl)
      (fun W' hb' i j hi hj => impl_FromPlacing.clo l0 A0 c0 g1 W' (Kd.C_below (Kd.C_below hr0 hb) hb') hc0 (pw_cell_below hb' h1) i j hi hj hl))
  have HSV := Aside0.mk (fun (W : World) (hb : Below w.heap.size w W) (B : Nat) (hB : B < W.heap.size) (h1 : W.cell? ⟨B, 0, none⟩ = some (.slice A0 l0.length c0)) =>
    K.sorted_values B (.slice A0 l0.length c0) l0 (by unfold maxLen; omega) (by omega) W hB h1 (sp_ints W A0 c0 l0 (Kd.C_below hr0 hb) _ (Nat.le_refl _)))
  have HH := Aside0.mk h
  have hsl := spS_len l0
  have hok := spOk_of l0
  have hno := spOk_not l0
  obtain ⟨n, hn⟩ : ∃ n, n = l0.length := ⟨_, rfl⟩
  have HN := Aside0.mk hn
  obtain ⟨S, hS⟩ : ∃ S, S = spS l0 := ⟨_, rfl⟩
  have HSE := Aside0.mk hS
  have HL := Aside0.mk hl
  have HSL := Aside0.mk hsl
  have HOK := Aside0.mk hok
  have HNO := Aside0.mk hno
  rw [← hn] at HT HSV HH HSL HOK HNO HL ⊢
  rw [← hS] at HSL HOK HNO
  clear h hr0 hc0 hl hn hS hsl hok hno
  have hmf : ∀ (fn : Fn) (first cap : Array Value) (w : World), (Instr.makeFunc fn first cap).run Try.prog w = .ok (.func fn first cap) w := fun _ _ _ _ => rfl
  go_enter Try.func41, Try.ntmps41
  go_wp2_with fail
  refine (K.values A0 n c0 _).mono ?_
  rintro e w1 ⟨rfl, rfl⟩
  go_wp2_with fail
  have hbw : Below w.heap.size w ((w.alloc (.cells #[Value.slice A0 n c0] 22)).alloc (.cells #[Value.slice A0 n c0] 22)) := by repeat (first | exact HB0.out | apply below_alloc)
  have hx1 : ((w.alloc (.cells #[Value.slice A0 n c0] 22)).alloc (.cells #[Value.slice A0 n c0] 22)).cell? ⟨w.heap.size, 0, none⟩ = some (.slice A0 n c0) := by go_simp
  have hx2 : ((w.alloc (.cells #[Value.slice A0 n c0] 22)).alloc (.cells #[Value.slice A0 n c0] 22)).cell? ⟨w.heap.size + 1, 0, none⟩ = some (.slice A0 n c0) := by go_simp
  refine (HSV.out _ hbw (w.heap.size + 1) (by simp) hx2).mono ?_
  clear HSV
  rintro e w3 ⟨v, rfl, hrow, hb3⟩
  have hy1 := pw_cell_below hb3 hx1
  have HB3 := Aside0.mk (below_step hbw hb3)
  have hrow2 : w3.ownsRow (((w.alloc (.cells #[Value.slice A0 n c0] 22)).alloc (.cells #[Value.slice A0 n c0] 22)).heap.size) 3 1 v n (S.map (Value.int .i64)) := by rw [HSE.out]; exact hrow
  obtain ⟨A3, c3, rfl, hc3, hcell⟩ := row_reads w3 _ v n S HSL.out hrow2
  have HCELL := Aside0.mk hcell
  clear hcell hrow hrow2 hb3 hbw hx1 hx2
  go_wp2_with fail
  go_loopg [10] (n + 1) (fun kq v10 w' => ∃ i : Nat, v10 = .int .i64 (i : Int) ∧ Aside0 (i ≤ n ∧ kq = n + 1 - i ∧ ∀ j, j < i → rd S (j : Int) = (j : Int)) ∧ w' = w3)
  case atStart => exact ⟨0, rfl, ⟨⟨Nat.zero_le _, by omega, fun j hj => by omega⟩⟩, rfl⟩
  case round =>
    obtain ⟨i, rfl, HI, rfl⟩ := hrel
    have hn1 : n ≤ 1048576 := HL.out
    by_cases c : i < n
    · have cb : decide ((i : Int) < (n : Int)) = true := decide_eq_true (by omega)
      obtain ⟨ad, hA, hx⟩ := HCELL.out i c
      subst hA
      obtain ⟨x, hxx⟩ : ∃ x, x = rd S (i : Int) := ⟨_, rfl⟩
      have HX := Aside0.mk hxx
      rw [← hxx] at hx
      clear hxx
      by_cases c5 : (i : Int) = x
      · have c6 : ((i : Int) == x) = true := by simpa using c5
        have HC5 := Aside0.mk c5
        clear c5
        go_wp2
        go_roundg (gk - 1)
        case measure => have := HI.out.2.1; omega
        case rel => exact ⟨i + 1, by first | rfl | (rw [wrapN i (by omega)]) | go_num, ⟨⟨c, by have := HI.out.2.1; omega, fun j hj => by
          by_cases e : j = i
          · subst e; rw [← HX.out]; exact HC5.out.symm
          · exact HI.out.2.2 j (by omega)⟩⟩, rfl⟩
      · have c6 : ((i : Int) == x) = false := by simpa using c5
        have hf : spOk l0 = false := HNO.out i c (by rw [← HX.out]; exact c5)
        have hr : r1 = [] ∧ r2 = false := by
          have := HH.out
          rw [hf, if_neg (by decide)] at this
          simp only [Option.some.injEq, Prod.mk.injEq] at this
          exact ⟨this.1.symm, this.2.symm⟩
        obtain ⟨rfl, rfl⟩ := hr
        clear c5 hf
        go_wp2
        go_ret2
        exact ⟨_, rfl, Kd.S_nil _ _ _ _ _, HB3.out⟩
    · have cb : decide ((i : Int) < (n : Int)) = false := decide_eq_false (by omega)
      have hok : spOk l0 = true := HOK.out (fun j hj => HI.out.2.2 j (by omega))
      have hr := HH.out
      rw [hok, if_pos rfl] at hr
      obtain ⟨t, ht, hr⟩ := Option.bind_eq_some_iff.mp hr
      have HSD := Aside0.mk ht
      have HR := Aside0.mk hr
      clear hok hr ht
      cases t with
      | false =>
        have hr : r1 = [] ∧ r2 = false := by
          have := HR.out
          rw [if_neg (by decide)] at this
          simp only [Option.some.injEq, Prod.mk.injEq] at this
          exact ⟨this.1.symm, this.2.symm⟩
        obtain ⟨rfl, rfl⟩ := hr
        go_wp2_with (go_at_call 69; (with_reducible refine (impl_isSide.calls _ false _ HSD.out).mono ?_); rintro e w5 ⟨rfl, hb⟩; have HB5 := Aside0.mk (below_step HB3.out hb.below); clear hb)
        go_ret2
        exact ⟨_, rfl, Kd.S_nil _ _ _ _ _, HB5.out⟩
      | true =>
        have hr : r1 = (tabOf n n fun i j => if rd l0 (i : Int) = (j : Int) then 1 else 0) ∧ r2 = true := by
          have := HR.out
          rw [if_pos rfl] at this
          simp only [Option.some.injEq, Prod.mk.injEq] at this
          exact ⟨this.1.symm, this.2.symm⟩
        obtain ⟨rfl, rfl⟩ := hr
        clear HR HH HNO HOK HCELL HI
        go_wp2_with (first | (go_at_call 69; (with_reducible refine (impl_isSide.calls _ true _ HSD.out).mono ?_); rintro e w5 ⟨rfl, hb⟩; have hy5 := pw_cell_below hb.below hy1; have HB5 := Aside0.mk (below_step HB3.out hb.below); clear hb) | (go_at_call 60; (with_reducible refine (HT.out _ ?hb _ ?h1).mono ?_); (case hb => exact HB5.out); (case h1 => exact hy5); rintro e w' ⟨v, rfl, hS, hb⟩; have HS := Aside0.mk (Kd.S_lower hS (below_size HB5.out)); have HB := Aside0.mk (below_step HB5.out hb); clear hS hb))
        go_ret2
        exact ⟨_, rfl, HS.out, HB.out⟩

end Go.Proofs.Ythjiajkmaimbjaa.P
