-- By gp.py (this session's own driver over the kit's print). Not trusted: Lean checks it.
import Derived.Test.YthjiajkmaimbjaaF0
import Derived.Test.YthjiajkmaimbjaaB
import Derived.Deep.RegionHeld3
import Derived.KernelRfl
import Derived.Laws.EntriesVeiled
import Derived.Test.YthjiajkmaimbjaaFImplIsPattern
import Derived.Test.YthjiajkmaimbjaaFImplJoined
import Derived.Test.YthjiajkmaimbjaaFSlicesIndexIntInt
import Derived.Test.YthjiajkmaimbjaaFSlicesRepeatIntInt
import Derived.Test.YthjiajkmaimbjaaGrow
import Derived.Test.YthjiajkmaimbjaaIndexFuncRow
import Derived.Test.YthjiajkmaimbjaaFImplIsPattern
import Derived.Test.YthjiajkmaimbjaaFImplJoined
import Derived.Test.YthjiajkmaimbjaaFSlicesIndexIntInt
import Derived.Test.YthjiajkmaimbjaaFSlicesRepeatIntInt
namespace Go.Proofs.Ythjiajkmaimbjaa.P
open Go.Proofs.Ythjiajkmaimbjaa.B
open Go.RowKit Go.Proofs.YthjiajkmaimbjaaW.PrintWords Go.Proofs.YthjiajkmaimbjaaW.PrintLast Go.Proofs.YthjiajkmaimbjaaW.PrintMore
attribute [local go_sem] max2_int min2_int max_two min_two max_three min_three max_four min_four   -- for this text's walks alone
set_option linter.unusedVariables false
set_option linter.unusedSimpArgs false

/-! ### impl_patterns: function 101 (given) -/
/-- The first free point. -/
def ptI (p : List Int) : Int := (slices_Index_int_int.f 60 p (-1)).getD 0
/-- How many free points stand behind it. -/
def ptRun (p : List Int) : Nat := ((p.drop ((ptI p).toNat + 1)).takeWhile fun x => decide (x < 0)).length
def ptJ (p : List Int) (t : Nat) : List Int := (impl_joined.f p (ptI p) (ptI p + 1 + (t : Int))).getD []
/-- All patterns that go on some lines. -/
def ptL : Nat → List Int → List (List Int)
  | 0, p => [p]
  | d + 1, p => if ptI p < 0 then [p] else (List.range (ptRun p)).flatMap fun t => if t % 2 = 0 then ptL d (ptJ p t) else []
def ptOk : Nat → List Int → Bool
  | 0, p => decide (slices_Index_int_int.f 60 p (-1) = some (-1)) && decide (p.length ≤ 12)
  | d + 1, p => decide (slices_Index_int_int.f 60 p (-1) = some (ptI p)) && decide (p.length ≤ 12) && (decide (ptI p < 0) || (decide (0 ≤ ptI p ∧ ptI p < (p.length : Int)) && (List.range (ptRun p)).all fun t => decide (t % 2 = 1) || (decide (impl_joined.f p (ptI p) (ptI p + 1 + (t : Int)) = some (ptJ p t)) && ptOk d (ptJ p t))))
theorem ptOk_idx {d : Nat} {p : List Int} (h : ptOk d p = true) : slices_Index_int_int.f 60 p (-1) = some (ptI p) ∧ p.length ≤ 12 := by
  cases d with
  | zero =>
    simp only [ptOk, Bool.and_eq_true, decide_eq_true_eq] at h
    exact ⟨by rw [h.1]; unfold ptI; rw [h.1]; rfl, h.2⟩
  | succ d =>
    simp only [ptOk, Bool.and_eq_true, decide_eq_true_eq] at h
    exact h.1
theorem ptL_end {d : Nat} {p : List Int} (h : ptI p < 0) : ptL d p = [p] := by
  cases d with
  | zero => rfl
  | succ d => simp only [ptL]; rw [if_pos h]
theorem ptOk_on {d : Nat} {p : List Int} (h : ptOk d p = true) (hi : ¬ ptI p < 0) : ∃ d', d = d' + 1 ∧ (0 ≤ ptI p ∧ ptI p < (p.length : Int)) ∧ ∀ t, t < ptRun p → t % 2 = 0 → impl_joined.f p (ptI p) (ptI p + 1 + (t : Int)) = some (ptJ p t) ∧ ptOk d' (ptJ p t) = true := by
  cases d with
  | zero =>
    simp only [ptOk, Bool.and_eq_true, decide_eq_true_eq] at h
    exfalso
    apply hi
    unfold ptI
    rw [h.1]
    decide
  | succ d =>
    simp only [ptOk, Bool.and_eq_true, Bool.or_eq_true, decide_eq_true_eq] at h
    rcases h.2 with h2 | h2
    · exact absurd h2 hi
    · refine ⟨d, rfl, h2.1, fun t ht he => ?_⟩
      have h3 := List.all_eq_true.mp h2.2 t (List.mem_range.mpr ht)
      simp only [Bool.and_eq_true, Bool.or_eq_true, decide_eq_true_eq] at h3
      rcases h3 with h3 | h3
      · omega
      · exact h3
theorem ptL_on {d : Nat} {p : List Int} (hi : ¬ ptI p < 0) : ptL (d + 1) p = (List.range (ptRun p)).flatMap fun t => if t % 2 = 0 then ptL d (ptJ p t) else [] := by simp only [ptL]; rw [if_neg hi]
theorem tw_at {α : Type} (f : α → Bool) : ∀ (l : List α) (t : Nat) (z : α), t < (l.takeWhile f).length → t < l.length ∧ f (l.getD t z) = true
  | [], t, z, h => by simp at h
  | x :: l, t, z, h => by
    by_cases c : f x = true
    · rw [List.takeWhile_cons, if_pos c] at h
      cases t with
      | zero => exact ⟨by simp, by simpa using c⟩
      | succ t =>
        have := tw_at f l t z (by simpa using h)
        exact ⟨by simp; exact this.1, by simpa using this.2⟩
    · rw [List.takeWhile_cons, if_neg c] at h
      simp at h
theorem tw_end {α : Type} (f : α → Bool) : ∀ (l : List α) (z : α), (l.takeWhile f).length = l.length ∨ ((l.takeWhile f).length < l.length ∧ f (l.getD (l.takeWhile f).length z) = false)
  | [], z => .inl rfl
  | x :: l, z => by
    by_cases c : f x = true
    · rw [List.takeWhile_cons, if_pos c]
      rcases tw_end f l z with h | h
      · exact .inl (by simp; exact h)
      · exact .inr ⟨by simp; exact h.1, by simpa using h.2⟩
    · rw [List.takeWhile_cons, if_neg c]
      exact .inr ⟨by simp, by simpa using c⟩
/-- Where the free points stand. -/
theorem ptRun_at {p : List Int} {t : Nat} (h : t < ptRun p) : (ptI p).toNat + 1 + t < p.length ∧ p.getD ((ptI p).toNat + 1 + t) 0 < 0 := by
  have h1 := tw_at (fun x => decide (x < 0)) _ t (0 : Int) h
  rw [List.length_drop] at h1
  refine ⟨by omega, ?_⟩
  have h2 := of_decide_eq_true h1.2
  rw [List.getD_eq_getElem?_getD, List.getElem?_drop] at h2
  rw [List.getD_eq_getElem?_getD]
  exact h2
theorem ptRun_end {p : List Int} (hi : (ptI p).toNat < p.length) : (ptI p).toNat + 1 + ptRun p = p.length ∨ ((ptI p).toNat + 1 + ptRun p < p.length ∧ ¬ p.getD ((ptI p).toNat + 1 + ptRun p) 0 < 0) := by
  rcases tw_end (fun x => decide (x < 0)) (p.drop ((ptI p).toNat + 1)) (0 : Int) with h | h
  · rw [List.length_drop] at h
    exact .inl (by unfold ptRun; omega)
  · rw [List.length_drop] at h
    refine .inr ⟨by unfold ptRun; omega, ?_⟩
    have h2 := of_decide_eq_false h.2
    rw [List.getD_eq_getElem?_getD, List.getElem?_drop] at h2
    rw [List.getD_eq_getElem?_getD]
    exact h2
theorem pt_fits {d : Nat} {xs : List (List Int)} {p : List Int} {t : Nat} (h : xs.length + ((List.range (ptRun p)).flatMap fun t => if t % 2 = 0 then ptL d (ptJ p t) else []).length ≤ 2000000) (ht : t < ptRun p) (he : t % 2 = 0) :
    (xs ++ (List.range t).flatMap fun t => if t % 2 = 0 then ptL d (ptJ p t) else []).length + (ptL d (ptJ p t)).length ≤ 2000000 := by
  have e : List.range (ptRun p) = List.range (t + 1) ++ (List.range (ptRun p)).drop (t + 1) := by
    have := List.take_append_drop (t + 1) (List.range (ptRun p))
    rw [List.take_range, Nat.min_eq_left (by omega)] at this
    exact this.symm
  rw [e, List.flatMap_append, List.length_append, List.range_succ, List.flatMap_append, List.length_append, List.flatMap_singleton, if_pos he] at h
  rw [List.length_append]
  omega
theorem out_own {w : World} {base : Nat} {ok : Nat → Prop} {u v : Value} {xs : List (List Int)} (h : Kd.S (Kd.slice 3 (Kd.int .i64)) 22 w base (fun k => ok k ∧ some k ≠ u.ownBlock) v xs) (k : Nat) (hk : v.ownBlock = some k) : ok k := ((Kd.S_R h).1 k hk).1
theorem out_ne {w : World} {base : Nat} {ok : Nat → Prop} {u v : Value} {xs : List (List Int)} (h : Kd.S (Kd.slice 3 (Kd.int .i64)) 22 w base (fun k => ok k ∧ some k ≠ u.ownBlock) v xs) (k : Nat) (hk : v.ownBlock = some k) : ¬ u.ownBlock = some k := fun e => ((Kd.S_R h).1 k hk).2 e.symm
set_option maxHeartbeats 8000000 in
set_option maxRecDepth 100000 in
theorem pt_add (w0 : World) (b2 b3 : Nat) (h32 : b3 ≠ b2) : ∀ (d : Nat) (ok : Nat → Prop) (W : World) (v u : Value) (xs : List (List Int)) (p : List Int),
    ptOk d p = true → xs.length + (ptL d p).length ≤ 2000000 → ¬ ok b3 →
    OutSt w0 W b2 ok v xs → Kd.S (Kd.slice 3 (Kd.int .i64)) 22 W w0.heap.size (fun k => ok k ∧ some k ≠ u.ownBlock) v xs → (Kd.int .i64).R 3 W w0.heap.size ok u p →
    W.cell? ⟨b3, 0, none⟩ = some (.func (.func 131) #[] #[.pointer (some ⟨b2, 0, none⟩), .pointer (some ⟨b3, 0, none⟩)]) →
    Calls Try.prog 131 (#[u] ++ #[.pointer (some ⟨b2, 0, none⟩), .pointer (some ⟨b3, 0, none⟩)]) W fun e w' => ∃ v', e = .returned (.tuple #[]) ∧ OutSt w0 w' b2 ok v' (xs ++ ptL d p) ∧ Grew W w' b2 v v' := by
  have hE := enters_of Try.func131 (by kernel_rfl) rfl
  intro d
  induction d using Nat.strongRecOn with
  | _ d ih =>
    intro ok W v u xs p hok hlen h3 hst hsu hru hc3
    obtain ⟨Au, cu, rfl⟩ := Kd.R_slice hru
    have hidx := ptOk_idx hok
    have HRU := Aside0.mk hru
    have HIX := Aside0.mk (fun (W1 : World) (hW1 : Below W.heap.size W W1) => slices_Index_int_int.calls 60 Au cu p (-1) (ptI p) W1 (Kd.R_reads' (Kd.R_below hru hW1)).2.2 (Kd.R_reads' hru).2.1 hidx.1)
    have hp12 : p.length ≤ 12 := hidx.2
    obtain ⟨q, hq⟩ : ∃ q, q = p.length := ⟨_, rfl⟩
    have HQ := Aside0.mk hq
    by_cases hi : ptI p < 0
    · have bi : decide (ptI p < 0) = true := decide_eq_true hi
      have hbx := hst.box.cell
      have HST := Aside0.mk hst
      have HSU := Aside0.mk hsu
      rw [ptL_end hi] at hlen ⊢
      have HL := Aside0.mk (show (xs.length + 1) * 24 ≤ 140737488355328 by simp only [List.length_cons, List.length_nil] at hlen; omega)
      have HB := Aside0.mk hst.below
      obtain ⟨zs, hzs⟩ : ∃ zs, zs = xs ++ [p] := ⟨_, rfl⟩
      rw [← hzs]
      have NZ := Aside0.mk hzs
      clear hst hsu hru hlen hok h3 hc3 hE hzs ih hidx hi hq
      go_enter Try.func131, Try.ntmps131
      go_wp2_with (first | (go_at_call 104; (refine (HIX.out _ (Below.refl _ _)).mono ?_); rintro e w1 ⟨rfl, ⟨m1, rfl⟩⟩; obtain ⟨W1, hW1⟩ : ∃ W1 : World, W1 = W.drewN m1 := ⟨_, rfl⟩; rw [← hW1]; have hb1 : Below W.heap.size W W1 := (by rw [hW1]; exact pw_below_drewN (Below.refl _ _) _); have HB1 := Aside0.mk hb1; have HSTa := Aside0.mk (HST.out.move hb1); have HSUa := Aside0.mk (Kd.S_below HSU.out hb1); have HRUa := Aside0.mk (Kd.R_below HRU.out hb1); have HBa := Aside0.mk (below_step HB.out hb1); replace hbx := pw_cell_below hb1 hbx; clear hb1 hW1) | ((with_reducible refine gate_builtin (b := .append) (xs := #[.tmp 10, .tmp 12]) rfl ?_); at_builtin; refine Kd.S_append (Kd.slice 3 (Kd.int .i64)) (w0 := w0) w0.heap.size rfl (.tmp 10) (.tmp 12) 23 22 (.slice none 0 0) 24 rfl Try.underlying23 info22 rfl (by decide) (by omega) v xs p [.slice Au p.length cu] ok (fun k_ => some k_ = (.slice Au p.length cu : Value).ownBlock) rfl rfl ?aP ?aQ ?aF ?aO ?aB ?aS ?aL ?_; (case aP => exact Kd.M_row (Kd.R_tight rfl HRUa.out)); (case aQ => exact (fun k_ hk_ => ⟨HRUa.out.1 k_ hk_.symm, fun e_ => ((Kd.S_R HSUa.out).1 k_ e_.symm).2 hk_⟩)); (case aF => exact HSTa.out.fresh); (case aO => exact Kd.S_mono HSUa.out (fun k_ hk => ⟨hk.1, fun e_ => hk.2 e_⟩)); (case aB => exact HBa.out); (case aS => exact HBa.out.size); (case aL => exact HL.out); intro v1 w1 ho hb hg hat; rw [← NZ.out] at ho; obtain ⟨Av1, cv1, ev1⟩ := Kd.S_slice ho; subst ev1; obtain ⟨hq1, hq2, hq3, hq4⟩ := out_pushed HSTa.out ho hb hg hat; have HQ3 := Aside0.mk hq3; have HQ4 := Aside0.mk hq4; clear ho hb hg hat hq3 hq4))
      exact bodyPost_ret (v := .tuple #[]) (by simp [results, Try.results131, go_sem]) rfl ⟨_, rfl, HQ3.out, (Grew.of_below HB1.out _ _).trans HQ4.out⟩
    · obtain ⟨d', rfl, hib, hon⟩ := ptOk_on hok hi
      obtain ⟨i, hie⟩ : ∃ i : Nat, ptI p = (i : Int) := ⟨(ptI p).toNat, by omega⟩
      have bi : decide ((i : Int) < 0) = false := decide_eq_false (by omega)
      have hiq : i < q := by omega
      rw [hie] at HIX hon hib
      have hres := ptL_on (d := d') hi
      obtain ⟨m, hm⟩ : ∃ m, m = ptRun p := ⟨_, rfl⟩
      have hrun : ∀ t, t < m → i + 1 + t < q ∧ p.getD (i + 1 + t) 0 < 0 := fun t ht => by
        have h1 := ptRun_at (p := p) (t := t) (by omega)
        rw [hie, Int.toNat_natCast, ← hq] at h1
        exact h1
      have hend : i + 1 + m = q ∨ (i + 1 + m < q ∧ ¬ p.getD (i + 1 + m) 0 < 0) := by
        have h1 := ptRun_end (p := p) (by omega)
        rw [hie, Int.toNat_natCast, ← hq, ← hm] at h1
        exact h1
      have HON := Aside0.mk hon
      have HRES := Aside0.mk (And.intro hres hm)
      have HLEN := Aside0.mk (show xs.length + ((List.range (ptRun p)).flatMap fun t => if t % 2 = 0 then ptL d' (ptJ p t) else []).length ≤ 2000000 by rw [← hres]; exact hlen)
      have HRUN := Aside0.mk (And.intro hrun hend)
      have HST := Aside0.mk hst
      have HSU := Aside0.mk hsu
      have HST1 := Aside0.mk (hst.less hsu (Kd.R_lt hru))
      have HC3 := Aside0.mk hc3
      have H3 := Aside0.mk h3
      have HIH := Aside0.mk (ih d' (by omega))
      have HE := Aside0.mk hE
      have hm12 : m ≤ 12 := by
        by_cases c : m = 0
        · omega
        · have := (hrun (m - 1) (by omega)).1
          omega
      obtain ⟨ad, e1, _⟩ := at_num (Kd.R_reads' hru).2.2 i (by omega)
      subst e1
      have hq12 : q ≤ 12 := by omega
      rw [← hq] at HIX
      rw [show (Value.slice (some ad) p.length cu) = .slice (some ad) q cu by rw [hq]] at HST1 HSU HRU ⊢
      clear hst hsu hru hlen hok h3 hc3 hE ih hidx hi hq hib hon hres hm hrun hend hie hp12
      go_enter Try.func131, Try.ntmps131
      go_wp2_with (first | (go_at_call 104; (refine (HIX.out _ (Below.refl _ _)).mono ?_); rintro e w1 ⟨rfl, ⟨m1, rfl⟩⟩) | fail)
      obtain ⟨W1, hW1⟩ : ∃ W1 : World, W1 = W.drewN m1 := ⟨_, rfl⟩
      rw [← hW1]
      have HB1 := Aside0.mk (show Below W.heap.size W W1 by rw [hW1]; exact pw_below_drewN (Below.refl _ _) _)
      clear hW1
      go_loopg [5] (m + 1) (fun kq v5 w' => ∃ (t : Nat) (kk : Nat) (v1 : Value), v5 = .int .i64 (kk : Int) ∧ Aside0 (kk = i + 1 + t ∧ t ≤ m ∧ kq = m + 1 - t) ∧ Aside0 (OutSt w0 w' b2 (fun k => ok k ∧ some k ≠ (Value.slice (some ad) q cu).ownBlock) v1 (xs ++ (List.range t).flatMap fun t => if t % 2 = 0 then ptL d' (ptJ p t) else [])) ∧ Aside0 (Grew W w' b2 v v1))
      case atStart => exact ⟨0, i + 1, v, by first | rfl | (simp; done), ⟨⟨rfl, Nat.zero_le _, rfl⟩⟩, ⟨by have h1 := HST1.out.move HB1.out; simpa using h1⟩, ⟨Grew.of_below HB1.out _ _⟩⟩
      case round =>
        obtain ⟨t, kk, v1, rfl, HT, HS1, HG1⟩ := hrel
        have hc3 := HG1.out.cell HC3.out h32 (fun e => H3.out (out_own HSU.out _ e))
        have hru := HG1.out.row HRU.out (fun k hk => HST.out.ne k (HRU.out.1 k hk)) (fun k hk e => out_ne HSU.out _ e hk)
        have hrq := Kd.R_reads' hru
        have HCU := Aside0.mk hrq.2.2
        have HLU := Aside0.mk hrq.2.1
        have hpq : q = p.length := hrq.1
        have HPQ := Aside0.mk hpq
        have hkb : kk ≤ 30 := by have := HT.out; omega
        by_cases ct : t < m
        · obtain ⟨hk1, hk2⟩ := HRUN.out.1 t ct
          rw [← HT.out.1] at hk1 hk2
          have b1 : decide ((kk : Int) < (q : Int)) = true := decide_eq_true (by omega)
          have b2' : decide (kk < q) = true := decide_eq_true hk1
          obtain ⟨ad2, e2, hx⟩ := at_num HCU.out kk (by omega)
          injection e2 with e2
          subst e2
          obtain ⟨x, hxe⟩ : ∃ x, x = p.getD kk 0 := ⟨_, rfl⟩
          rw [← hxe] at hx hk2
          have b3' : decide (x < 0) = true := decide_eq_true hk2
          have HCT := Aside0.mk ct
          clear hru hrq hpq hxe
          by_cases he : t % 2 = 0
          · have f0 : ((kk : Int) - (i : Int)) % 2 = 1 := by have := HT.out.1; omega
            have f1 : decide (((kk : Int) - (i : Int)) % 2 = 1) = true := decide_eq_true f0
            have f2 : decide (Int.tmod ((kk : Int) - (i : Int)) 2 = 1) = true := decide_eq_true (by have := HT.out.1; rw [Int.tmod_eq_emod_of_nonneg (by omega)]; exact f0)
            have f3 : ((((kk : Int) - (i : Int)) % 2) == 1) = true := by rw [f0]; rfl
            have f4 : ((Int.tmod ((kk : Int) - (i : Int)) 2) == 1) = true := by rw [Int.tmod_eq_emod_of_nonneg (by have := HT.out.1; omega), f0]; rfl
            have hjn := HON.out t (by rw [← HRES.out.2]; exact ct) he
            have HJ : Aside0 (∀ W1 : World, Below wr.heap.size wr W1 → Calls Try.prog 132 #[.slice (some ad) q cu, .int .i64 (i : Int), .int .i64 (kk : Int)] W1 fun e_ w' => ∃ v0_ : Value, e_ = .returned (v0_) ∧ (Kd.int .i64).R 3 w' W1.heap.size (fun _ => True) v0_ (ptJ p t) ∧ Below W1.heap.size W1 w') := ⟨fun W1 hW1 => by
              have h1 := impl_joined.calls (some ad) cu p (i : Int) (kk : Int) (ptJ p t) W1 (Kd.C_below HCU.out hW1) (by rw [← HPQ.out]; exact HLU.out) (by rw [show (kk : Int) = (i : Int) + 1 + (t : Int) by have := HT.out.1; omega]; exact hjn.1)
              rw [← HPQ.out] at h1
              exact h1⟩
            have IH := Aside0.mk (fun (w5 : World) (v5 : Value) (hB5 : Below wr.heap.size wr w5) (hr5 : (Kd.int .i64).R 3 w5 wr.heap.size (fun k => v5.ownBlock = some k) v5 (ptJ p t)) => HIH.out (fun k => ok k ∧ some k ≠ (Value.slice (some ad) q cu).ownBlock) w5 v1 v5 (xs ++ (List.range t).flatMap fun t => if t % 2 = 0 then ptL d' (ptJ p t) else []) (ptJ p t)
              hjn.2 (pt_fits HLEN.out (by rw [← HRES.out.2]; exact ct) he) (fun h => H3.out h.1) (HS1.out.move hB5)
              (Kd.S_mono (Kd.S_old HS1.out.out hB5) (fun k hk => ⟨hk.1, fun e => by have := Kd.R_base hr5 k e.symm; omega⟩)) (Kd.R_reok rfl (Kd.R_lower hr5 HS1.out.below.size) (fun k hk => HS1.out.fresh k (Kd.R_base hr5 k hk))) (pw_cell_below hB5 hc3))
            have HHE := Aside0.mk he
            clear f0 hjn he
            go_wp2
            refine start_ (n := 6) (S := fun w' => Below wr.heap.size wr w' ∧ w'.cell? ⟨b3, 0, none⟩ = some (.func (.func 131) #[] #[.pointer (some ⟨b2, 0, none⟩), .pointer (some ⟨b3, 0, none⟩)])) (ds := [5]) #[false, false, false, false, false, false] (by kernel_rfl) rfl rfl ⟨(below_drew (Below.refl _ _)), hc3⟩ (fun hHeld => ?_)
            refine pure_ (i := 1) (N := some 35) (v := ?_) (a' := ?_) #[false, true, false, false, false, false] rfl rfl (by kernel_rfl) (fun _ _ _ h => h) (Or.inl ⟨by rfl, ?_⟩) ?_ ?_
            rotate_left
            · intro w'
              go_simp
              with_reducible rfl
            rotate_left
            · simp only [Act.put, List.setIfInBounds_toArray, List.set_cons_zero, List.set_cons_succ, i64_w, i32_w]
              rfl
            refine pure_ (i := 2) (N := some 36) (v := ?_) (a' := ?_) #[false, true, true, false, false, false] rfl rfl (by kernel_rfl) (fun _ _ _ h => h) (Or.inl ⟨by rfl, ?_⟩) ?_ ?_
            rotate_left
            · intro w'
              go_simp
              with_reducible rfl
            rotate_left
            · simp only [Act.put, List.setIfInBounds_toArray, List.set_cons_zero, List.set_cons_succ, i64_w, i32_w]
              rfl
            refine pure_ (i := 3) (N := some 37) (v := ?_) (a' := ?_) #[false, true, true, true, false, false] rfl rfl (by kernel_rfl) (fun _ _ _ h => h) (Or.inl ⟨by rfl, ?_⟩) ?_ ?_
            rotate_left
            · intro w'
              go_simp
              with_reducible rfl
            rotate_left
            · simp only [Act.put, List.setIfInBounds_toArray, List.set_cons_zero, List.set_cons_succ, i64_w, i32_w]
              rfl
            refine take_ (i := 0) (N := some 34) (v := ?_) (a' := ?_) #[true, true, true, true, false, false] rfl rfl (by kernel_rfl) (fun _ _ _ h => h) (Or.inl ⟨by rfl, ?_⟩) hHeld ?_ ?_
            rotate_left
            · rintro w' ⟨s0, s1⟩
              go_simp
              with_reducible rfl
            rotate_left
            · simp only [Act.put, List.setIfInBounds_toArray, List.set_cons_zero, List.set_cons_succ, i64_w, i32_w]
              rfl
            refine one_ (i := 4) (N := some 38) #[true, true, true, true, true, false] rfl rfl (by kernel_rfl) (by decide) (fun K hK => ?_)
            refine goes_ Try.func132 (by kernel_rfl) rfl #[.slice (some ad) q cu, .int .i64 (i : Int), .int .i64 (kk : Int)] (by rfl) rfl rfl (by simp only [List.map_toArray, List.map_cons, List.map_nil]; rfl) ?_
            with_reducible refine (HJ.out _ hHeld.1).mono ?_
            rintro e w3 ⟨v3, rfl, hS, hb⟩
            refine ⟨_, rfl, ?_⟩
            have HR5 := Aside0.mk (Kd.R_mono (ok' := fun k => v3.ownBlock = some k) (Kd.R_tight rfl (Kd.R_lower hS hHeld.1.size)) (fun k hk => hk.symm))
            have HB5 := Aside0.mk (below_step hHeld.1 hb)
            clear hS
            refine hK.out _ _ ⟨below_step hHeld.1 hb, pw_cell_below hb hHeld.2⟩ (fun hHeld => ?_)
            clear hK K
            refine norm_ (a' := ?_) ?_ ?_
            rotate_left
            · show Act.put _ (some 38) _ = _
              simp only [Act.put, List.setIfInBounds_toArray, List.set_cons_zero, List.set_cons_succ, i64_w, i32_w]
              rfl
            refine last_ (i := 5) (N := some 39) #[true, true, true, true, true, true] rfl rfl (by kernel_rfl) (by decide) (fun K hK => ?_)
            refine goesF_ #[.pointer (some ⟨b2, 0, none⟩), .pointer (some ⟨b3, 0, none⟩)] HE.out (#[v3] ++ #[.pointer (some ⟨b2, 0, none⟩), .pointer (some ⟨b3, 0, none⟩)]) (by rfl) rfl rfl (by rfl) (by simp only [List.map_toArray, List.map_cons, List.map_nil]; rfl) ?_
            refine (IH.out w3 v3 HB5.out HR5.out).mono ?_
            rintro e w6 ⟨v6, rfl, hst6, hgr6⟩
            refine ⟨_, rfl, ?_⟩
            have HST6 := Aside0.mk hst6
            have HGR6 := Aside0.mk hgr6
            clear hst6 hgr6
            refine hK.out _ _ ?_
            clear hK K
            refine norm_ (a' := ?_) ?_ ?_
            rotate_left
            · show Act.put _ (some 39) _ = _
              simp only [Act.put, List.setIfInBounds_toArray, List.set_cons_zero, List.set_cons_succ, i64_w, i32_w]
              rfl
            refine done_ (by kernel_rfl) ?_
            go_wp2
            go_roundg (m - t)
            case measure => have := HT.out; omega
            case rel =>
              refine ⟨t + 1, kk + 1, v6, by first | rfl | go_num, ⟨⟨by have := HT.out.1; omega, by have := HCT.out; omega, by omega⟩⟩, ⟨?_⟩, ⟨(HG1.out.trans (Grew.of_below HB5.out _ _)).trans HGR6.out⟩⟩
              have h6 := HST6.out
              rw [List.append_assoc] at h6
              rw [List.range_succ, List.flatMap_append, List.flatMap_singleton, if_pos HHE.out]
              exact h6
          · have f0 : ((kk : Int) - (i : Int)) % 2 = 0 := by have := HT.out.1; omega
            have f1 : decide (((kk : Int) - (i : Int)) % 2 = 1) = false := decide_eq_false (by omega)
            have f2 : decide (Int.tmod ((kk : Int) - (i : Int)) 2 = 1) = false := decide_eq_false (by have := HT.out.1; rw [Int.tmod_eq_emod_of_nonneg (by omega)]; omega)
            have f3 : ((((kk : Int) - (i : Int)) % 2) == 1) = false := by rw [f0]; rfl
            have f4 : ((Int.tmod ((kk : Int) - (i : Int)) 2) == 1) = false := by rw [Int.tmod_eq_emod_of_nonneg (by have := HT.out.1; omega), f0]; rfl
            have HHE := Aside0.mk he
            clear f0 he
            go_wp2
            go_roundg (m - t)
            case measure => have := HT.out; omega
            case rel =>
              refine ⟨t + 1, kk + 1, v1, by first | rfl | go_num, ⟨⟨by have := HT.out.1; omega, by have := HCT.out; omega, by omega⟩⟩, ⟨?_⟩, HG1⟩
              rw [List.range_succ, List.flatMap_append, List.flatMap_singleton, if_neg HHE.out, List.append_nil]
              exact HS1.out
        · have htm : t = m := by have := HT.out; omega
          have HFIN : Aside0 (∃ v' : Value, OutSt w0 wr b2 ok v' (xs ++ ptL (d' + 1) p) ∧ Grew W wr b2 v v') := ⟨⟨v1, by rw [HRES.out.1, ← HRES.out.2, ← htm]; exact HS1.out.more (fun k hk => hk.1) (fun h => HST.out.ne _ h rfl), HG1.out⟩⟩
          rcases HRUN.out.2 with hz | ⟨hz1, hz2⟩
          · have b1 : decide ((kk : Int) < (q : Int)) = false := decide_eq_false (by have := HT.out.1; omega)
            have b2' : decide (kk < q) = false := decide_eq_false (by have := HT.out.1; omega)
            clear hru hrq hpq
            go_wp2
            obtain ⟨v', f1, f2⟩ := HFIN.out
            exact bodyPost_end (v := .tuple #[]) (by simp [results, Try.results131, go_sem]) rfl ⟨v', rfl, f1, f2⟩
          · rw [← htm, ← HT.out.1] at hz1 hz2
            have b1 : decide ((kk : Int) < (q : Int)) = true := decide_eq_true (by omega)
            have b2' : decide (kk < q) = true := decide_eq_true hz1
            obtain ⟨ad2, e2, hx⟩ := at_num HCU.out kk (by omega)
            injection e2 with e2
            subst e2
            obtain ⟨x, hxe⟩ : ∃ x, x = p.getD kk 0 := ⟨_, rfl⟩
            rw [← hxe] at hx hz2
            have b3' : decide (x < 0) = false := decide_eq_false (by omega)
            clear hru hrq hpq hxe
            go_wp2
            obtain ⟨v', f1, f2⟩ := HFIN.out
            exact bodyPost_end (v := .tuple #[]) (by simp [results, Try.results131, go_sem]) rfl ⟨v', rfl, f1, f2⟩
def pt0 (a0 : Int) : List Int := List.replicate (2 * a0).toNat (-1)
def impl_patterns.f (a0 : Int) : Option (List (List Int)) := if 1 ≤ a0 ∧ a0 ≤ 6 then some (ptL 7 (pt0 a0)) else none
def ptChk (a0 : Int) : Bool := ptOk 7 (pt0 a0) && decide ((ptL 7 (pt0 a0)).length ≤ 1000) && (ptL 7 (pt0 a0)).all fun x => decide (impl_IsPattern.f 300 x = some true)
theorem pc_1 : ptChk 1 = true := by kernel_rfl
theorem pc_2 : ptChk 2 = true := by kernel_rfl
theorem pc_3 : ptChk 3 = true := by kernel_rfl
theorem pc_4 : ptChk 4 = true := by kernel_rfl
theorem pc_5 : ptChk 5 = true := by kernel_rfl
theorem pc_6 : ptChk 6 = true := by kernel_rfl
theorem pc_all (a0 : Int) (h1 : 1 ≤ a0) (h2 : a0 ≤ 6) : ptOk 7 (pt0 a0) = true ∧ (ptL 7 (pt0 a0)).length ≤ 1000 ∧ ∀ x ∈ ptL 7 (pt0 a0), impl_IsPattern.f 300 x = some true := by
  have h : ptChk a0 = true := by
    have h6 : a0 = 1 ∨ a0 = 2 ∨ a0 = 3 ∨ a0 = 4 ∨ a0 = 5 ∨ a0 = 6 := by omega
    rcases h6 with rfl | rfl | rfl | rfl | rfl | rfl
    · exact pc_1
    · exact pc_2
    · exact pc_3
    · exact pc_4
    · exact pc_5
    · exact pc_6
  unfold ptChk at h
  rw [Bool.and_eq_true, Bool.and_eq_true, decide_eq_true_eq, List.all_eq_true] at h
  exact ⟨h.1.1, h.1.2, fun x hx => of_decide_eq_true (h.2 x hx)⟩
set_option maxHeartbeats 8000000 in
set_option maxRecDepth 100000 in
theorem idx_none (K : Nat) (caps : Array Value) (A : Option Addr) (c : Nat) (l : List (List Int)) (w : World) (hr : Kd.C (Kd.slice 3 (Kd.int .i64)) w A l.length l) (hE : Enters Try.prog K)
    (hF : ∀ (x : List Int) (A0 : Option Addr) (c0 : Nat) (W : World), x ∈ l → x.length ≤ c0 → Below w.heap.size w W → Kd.C (Kd.int .i64) W A0 x.length x → Calls Try.prog K (#[.slice A0 x.length c0] ++ caps) W fun e w' => e = .returned (.bool false) ∧ Below W.heap.size W w') :
    Calls Try.prog 151 #[.slice A l.length c, .func (.func K) #[] caps] w fun e w' => e = .returned (.int .i64 (-1)) ∧ Below w.heap.size w w' := by
  have HR0 := Aside0.mk hr
  have HF := Aside0.mk hF
  have hm := hr.2.1
  have HB := Aside0.mk (Below.refl w.heap.size w)
  clear hr hF
  go_enter Try.func151, Try.ntmps151
  go_wp2_with fail
  go_loopg [8] (l.length + 1) (fun kq v8 w' => ∃ j : Nat, v8 = .int .i64 j ∧ Aside0 (j ≤ l.length ∧ kq = l.length + 1 - j) ∧ Aside0 (Below w.heap.size w w'))
  case atStart => exact ⟨0, rfl, ⟨⟨by omega, by omega⟩⟩, HB⟩
  case round =>
    clear HB
    obtain ⟨j, rfl, HA, HB⟩ := hrel
    by_cases c4 : j < l.length
    · have c4b0 : decide (j < l.length) = true := decide_eq_true c4
      have HR1 := Aside0.mk (Kd.C_below HR0.out HB.out)
      obtain ⟨ad, A0, c0, e1, hx1, hc0, hr0⟩ := at_row HR1.out j c4
      cases e1
      have hgd : l.getD j [] = l[j] := by rw [List.getD_eq_getElem?_getD, List.getElem?_eq_getElem c4]; rfl
      rw [hgd] at hx1 hc0 hr0
      clear hgd
      obtain ⟨x, hxe⟩ : ∃ x, x = l[j] := ⟨_, rfl⟩
      have hxm : x ∈ l := by rw [hxe]; exact List.getElem_mem _
      rw [← hxe] at hx1 hc0 hr0
      have hcall := HF.out x A0 c0 wr hxm hc0 HB.out hr0
      clear hxe hxm hr0
      have hE1 := hE
      unfold Enters at hE1
      go_wp2_with (go_at_fn K; refine hcall.mono ?_; rintro e w' ⟨rfl, hb⟩; have HB2 := Aside0.mk (below_step HB.out hb); clear hb)
      go_roundg (gk - 1)
      case measure => have := HA.out; omega
      case rel => exact ⟨j + 1, by go_num, ⟨⟨by omega, by have := HA.out; omega⟩⟩, HB2⟩
    · have c4b0 : decide (j < l.length) = false := decide_eq_false c4
      go_wp2
      go_ret
      exact ⟨rfl, HB.out⟩
set_option maxHeartbeats 8000000 in
set_option maxRecDepth 100000 in
theorem del_none (A : Option Addr) (c : Nat) (l : List (List Int)) (w : World) (hr : Kd.C (Kd.slice 3 (Kd.int .i64)) w A l.length l) (hP : ∀ x ∈ l, impl_IsPattern.f 300 x = some true) :
    Calls Try.prog 134 #[.slice A l.length c, .func (.func 135) #[] #[]] w fun e w' => e = .returned (.slice A l.length c) ∧ Below w.heap.size w w' := by
  have HI := Aside0.mk (idx_none 135 #[] A c l w hr (enters_of Try.func135 (by kernel_rfl) rfl) (fun x A0 c0 W hx hc0 _ hC => by
    have HC := Aside0.mk (impl_IsPattern.calls 300 A0 c0 x true W hC hc0 (hP x hx))
    clear hx hc0 hC
    go_enter Try.func135, Try.ntmps135
    go_wp2_with (go_at_call 136; (refine (HC.out).mono ?_); rintro e w1 ⟨rfl, hb⟩; have HB1 := Aside0.mk hb; clear hb)
    go_ret
    exact ⟨rfl, HB1.out⟩))
  clear hr hP
  go_enter Try.func134, Try.ntmps134
  go_wp2_with (go_at_call 151; (refine (HI.out).mono ?_); rintro e w1 ⟨rfl, hb⟩; have HB1 := Aside0.mk hb; clear hb)
  go_ret
  exact ⟨rfl, HB1.out⟩
/-- An empty list in a box, ahead of another. -/
theorem out_begun0 {w w1 : World} {A : Option Addr} {c : Nat} {o : Obj} (ho : Kd.S (Kd.slice 3 (Kd.int .i64)) 22 w1 w.heap.size (fun _ => True) (.slice A 0 c) []) (hb : Below w.heap.size w w1) :
    OutSt w ((w1.alloc (.cells #[.slice A 0 c] 23)).alloc o) w1.heap.size (fun k => k ≠ w1.heap.size ∧ k ≠ w1.heap.size + 1) (.slice A 0 c) [] := by
  have e2 : Below w1.heap.size w1 ((w1.alloc (.cells #[.slice A 0 c] 23)).alloc o) := below_alloc (below_alloc (Below.refl _ _) _) _
  refine ⟨below_step hb e2, (Boxed.new w1 23 (.slice A 0 c)).alloc _, S_nil_ok (Kd.S_below ho e2) (fun k hk => ?_), hb.size, fun k hk => hk.1, fun k hk => ?_⟩
  · have h3 := Kd.S_lt ho k hk
    exact ⟨by omega, by omega⟩
  · have s2 : ((w1.alloc (.cells #[.slice A 0 c] 23)).alloc o).heap.size = w1.heap.size + 2 := by simp
    rw [s2] at hk
    exact ⟨by omega, by omega⟩
theorem one_new (w : World) (x : Int) (t : TypeId) : Kd.C (Kd.int .i64) (w.alloc (Obj.cells #[Value.int .i64 x] t)) (some ⟨w.heap.size, 0, none⟩) 1 [x] := by
  refine ⟨rfl, by omega, fun _ => ⟨_, rfl, fun j p hp => ⟨[.int .i64 p], rfl, rfl, fun i u hu => ?_⟩⟩⟩
  have hj := (List.getElem?_eq_some_iff.mp hp).1
  have hj0 : j = 0 := by simpa using hj
  subst hj0
  have hp0 : x = p := by simpa using hp
  subst hp0
  cases i with
  | succ i => simp at hu
  | zero =>
    have hu2 : Value.int .i64 x = u := by simpa using hu
    subst hu2
    exact cell_one_new w _ t 0 _ rfl
set_option maxHeartbeats 8000000 in
set_option maxRecDepth 100000 in
theorem impl_patterns.calls (a0 : Int) (r : List (List Int)) (w : World) (h : impl_patterns.f a0 = some r) :
    Calls Try.prog 101 #[.int .i64 a0] w fun e w' => ∃ v0_ : Value, e = .returned (v0_) ∧ Kd.S (Kd.slice 3 (Kd.int .i64)) 22 w' w.heap.size (fun _ => True) v0_ r ∧ Below w.heap.size w w' := by
  unfold impl_patterns.f at h
  by_cases ha : 1 ≤ a0 ∧ a0 ≤ 6
  case neg => rw [if_neg ha] at h; cases h
  rw [if_pos ha] at h
  obtain ⟨h1, h2⟩ := ha
  obtain ⟨p1, p2, p3⟩ := pc_all a0 h1 h2
  obtain ⟨p, hp⟩ : ∃ p, p = pt0 a0 := ⟨_, rfl⟩
  rw [← hp] at h p1 p2 p3
  obtain ⟨L, hL⟩ : ∃ L, L = ptL 7 p := ⟨_, rfl⟩
  rw [← hL] at h p2 p3
  have NL := Aside0.mk hL
  have hres := Option.some.inj h
  have HP := Aside0.mk (And.intro p1 (And.intro p2 (And.intro p3 (And.intro hres hp))))
  have HRE : Aside0 (∀ (W : World) (A : Option Addr) (c : Nat), Kd.C (Kd.int .i64) W A 1 [-1] → 1 ≤ c → Calls Try.prog 133 #[.slice A 1 c, .int .i64 (wrap64 (2 * a0))] W fun e w' => ∃ v0_ : Value, e = .returned (v0_) ∧ Kd.R (Kd.int .i64) 3 w' W.heap.size (fun _ => True) v0_ p ∧ Below W.heap.size W w') := ⟨fun W A c hC hc => slices_Repeat_int_int.calls A c [-1] (wrap64 (2 * a0)) p W hC hc (by rw [wrapE (2 * a0) (by omega) (by omega)]; unfold slices_Repeat_int_int.f; rw [if_pos ⟨rfl, by omega, by omega⟩, hp]; rfl)⟩
  have HE := Aside0.mk (enters_of Try.func131 (by kernel_rfl) rfl)
  have hmf : ∀ (fn : Fn) (first cap : Array Value) (w : World), (Instr.makeFunc fn first cap).run Try.prog w = .ok (.func fn first cap) w := fun _ _ _ _ => rfl
  clear h p1 p2 p3 hres hp hL
  go_enter Try.func101, Try.ntmps101
  go_wp2_with ((with_reducible refine gate_dst (N := 5) rfl ?_); refine Kd.S_lit (Kd.slice 3 (Kd.int .i64)) _ 22 ?hg (N := 5) ?hd (xs := ([] : List (List Int))) (inner := []) (ok := fun _ => True) (okp := fun _ => True) ?hr ?hp (fun _ hk => hk) trivial (Below.refl _ _) (Nat.le_refl _) (by simp) ?_; (case hd => rfl); (case hg => rfl); (case hr => first | (go_simp; done) | (go_simp; rfl)); (case hp => exact Reps.none _ _); intro v8 w1 ho hb hg_ hnew_; obtain ⟨A8, c8, e8⟩ := Kd.S_slice ho; subst e8; have HO := Aside0.mk ho; have HB1 := Aside0.mk hb; have HNW := Aside0.mk hnew_; clear ho hb hg_ hnew_)
  obtain ⟨b2, hb2⟩ : ∃ b2, b2 = w1.heap.size := ⟨_, rfl⟩
  obtain ⟨b3, hb3⟩ : ∃ b3, b3 = w1.heap.size + 1 := ⟨_, rfl⟩
  obtain ⟨wr, hwr⟩ : ∃ wr : World, wr = ((w1.alloc (Obj.cells #[Value.slice A8 0 c8] 23)).alloc (Obj.cells #[Value.func (Fn.func 131) #[] #[Value.pointer (some { block := w1.heap.size, off := 0 }), Value.pointer (some { block := w1.heap.size + 1, off := 0 })]] 71)) := ⟨_, rfl⟩
  have hst : OutSt w wr b2 (fun k => k ≠ b2 ∧ k ≠ b3) (.slice A8 0 c8) [] := by rw [hwr, hb2, hb3]; exact out_begun0 HO.out HB1.out
  have hc3 : wr.cell? ⟨b3, 0, none⟩ = some (.func (.func 131) #[] #[.pointer (some ⟨b2, 0, none⟩), .pointer (some ⟨b3, 0, none⟩)]) := by rw [hwr, hb2, hb3]; go_simp
  have HST := Aside0.mk hst
  have HVL := Aside0.mk (show ∀ k, (Value.slice A8 0 c8).ownBlock = some k → k < wr.heap.size from fun k hk => Nat.lt_of_lt_of_le (Kd.S_lt HO.out k hk) (by rw [hwr]; simp; omega))
  rw [← hwr, ← hb3, ← hb2]
  have H32 := Aside0.mk (show b3 ≠ b2 by omega)
  have HC8 := Aside0.mk (Kd.C_drew (one_new wr (-1) 3))
  have HADD : Aside0 (∀ (w3 : World) (v3 : Value), Below wr.heap.size wr w3 → Kd.R (Kd.int .i64) 3 w3 wr.heap.size (fun _ => True) v3 p → w3.cell? ⟨b3, 0, none⟩ = some (.func (.func 131) #[] #[.pointer (some ⟨b2, 0, none⟩), .pointer (some ⟨b3, 0, none⟩)]) → Calls Try.prog 131 (#[v3] ++ #[.pointer (some ⟨b2, 0, none⟩), .pointer (some ⟨b3, 0, none⟩)]) w3 fun e w' => ∃ v', e = .returned (.tuple #[]) ∧ OutSt w w' b2 (fun k => k ≠ b2 ∧ k ≠ b3) v' L ∧ Grew w3 w' b2 (.slice A8 0 c8) v') := ⟨fun w3 v3 hb hR hc => by
    have h := pt_add w b2 b3 H32.out 7 (fun k => k ≠ b2 ∧ k ≠ b3) w3 (.slice A8 0 c8) v3 [] p HP.out.1 (by have := HP.out.2.1; rw [← NL.out, List.length_nil]; omega) (fun h => h.2 rfl) (HST.out.move hb) (S_nil_ok (Kd.S_below HST.out.out hb) (fun k hk => ⟨HST.out.own k hk, fun e => by have h1 := HVL.out k hk; have h2 := Kd.R_base hR k e.symm; omega⟩)) (Kd.R_reok rfl (Kd.R_lower hR HST.out.below.size) (fun k hk => HST.out.fresh k (Kd.R_base hR k hk))) hc
    rw [← NL.out, List.nil_append] at h
    exact h⟩
  clear hst hwr hb2 hb3 HO HB1 HNW
  refine start_ (n := 6) (S := fun w' => Below wr.heap.size wr w' ∧ w'.cell? ⟨b3, 0, none⟩ = some (.func (.func 131) #[] #[.pointer (some ⟨b2, 0, none⟩), .pointer (some ⟨b3, 0, none⟩)])) (ds := [5]) #[false, false, false, false, false, false] (by kernel_rfl) rfl rfl ⟨(below_drew (Below.refl _ _)), hc3⟩ (fun hHeld => ?_)
  refine pure_ (i := 2) (N := some 9) (v := ?_) (a' := ?_) #[false, false, true, false, false, false] rfl rfl (by kernel_rfl) (fun _ _ _ h => h) (Or.inl ⟨by rfl, ?_⟩) ?_ ?_
  rotate_left
  · intro w'
    go_simp
    with_reducible rfl
  rotate_left
  · simp only [Act.put, List.setIfInBounds_toArray, List.set_cons_zero, List.set_cons_succ, i64_w, i32_w]
    rfl
  refine pure_ (i := 3) (N := some 10) (v := ?_) (a' := ?_) #[false, false, true, true, false, false] rfl rfl (by kernel_rfl) (fun _ _ _ h => h) (Or.inl ⟨by rfl, ?_⟩) ?_ ?_
  rotate_left
  · intro w'
    go_simp
    with_reducible rfl
  rotate_left
  · simp only [Act.put, List.setIfInBounds_toArray, List.set_cons_zero, List.set_cons_succ, i64_w, i32_w]
    rfl
  refine take_ (i := 0) (N := some 7) (v := ?_) (a' := ?_) #[true, false, true, true, false, false] rfl rfl (by kernel_rfl) (fun _ _ _ h => h) (Or.inl ⟨by rfl, ?_⟩) hHeld ?_ ?_
  rotate_left
  · rintro w' ⟨s0, s1⟩
    go_simp
    with_reducible rfl
  rotate_left
  · simp only [Act.put, List.setIfInBounds_toArray, List.set_cons_zero, List.set_cons_succ, i64_w, i32_w]
    rfl
  refine one_ (i := 1) (N := some 8) #[true, true, true, true, false, false] rfl rfl (by kernel_rfl) (by decide) (fun K hK => ?_)
  refine value_ (w1 := ?_) (v := ?_) (by rfl) rfl ?_ ?_
  rotate_left 2
  · go_simp
    constructor
    · rfl
    · rfl
  refine hK.out _ _ ⟨below_alloc hHeld.1 _, pw_cell_below (below_alloc (Below.refl _ _) _) hHeld.2⟩ (fun hHeld => ?_)
  clear hK K
  refine norm_ (a' := ?_) ?_ ?_
  rotate_left
  · show Act.put _ (some 8) _ = _
    simp only [Act.put, List.setIfInBounds_toArray, List.set_cons_zero, List.set_cons_succ, i64_w, i32_w]
    rfl
  refine one_ (i := 4) (N := some 11) #[true, true, true, true, true, false] rfl rfl (by kernel_rfl) (by decide) (fun K hK => ?_)
  refine goes_ Try.func133 (by kernel_rfl) rfl #[.slice (some ⟨wr.heap.size, 0, none⟩) 1 1, .int .i64 (wrap64 (2 * a0))] (by rfl) rfl rfl (by simp only [List.map_toArray, List.map_cons, List.map_nil]; rfl) ?_
  with_reducible refine (HRE.out _ _ 1 HC8.out (by decide)).mono ?_
  rintro e w3 ⟨v3, rfl, hS, hb⟩
  refine ⟨_, rfl, ?_⟩
  have HB5 := Aside0.mk (below_step hHeld.1 hb)
  have HC5 := Aside0.mk (pw_cell_below hb hHeld.2)
  have HR5 := Aside0.mk (Kd.R_lower hS hHeld.1.size)
  clear hS
  refine hK.out _ _ ⟨below_step hHeld.1 hb, pw_cell_below hb hHeld.2⟩ (fun hHeld => ?_)
  clear hK K
  refine norm_ (a' := ?_) ?_ ?_
  rotate_left
  · show Act.put _ (some 11) _ = _
    simp only [Act.put, List.setIfInBounds_toArray, List.set_cons_zero, List.set_cons_succ, i64_w, i32_w]
    rfl
  refine last_ (i := 5) (N := some 12) #[true, true, true, true, true, true] rfl rfl (by kernel_rfl) (by decide) (fun K hK => ?_)
  refine goesF_ #[.pointer (some ⟨b2, 0, none⟩), .pointer (some ⟨b3, 0, none⟩)] HE.out (#[v3] ++ #[.pointer (some ⟨b2, 0, none⟩), .pointer (some ⟨b3, 0, none⟩)]) (by rfl) rfl rfl (by rfl) (by simp only [List.map_toArray, List.map_cons, List.map_nil]; rfl) ?_
  refine (HADD.out w3 v3 HB5.out HR5.out HC5.out).mono ?_
  rintro e w6 ⟨v6, rfl, hst6, hgr6⟩
  refine ⟨_, rfl, ?_⟩
  have HST6 := Aside0.mk hst6
  clear hst6 hgr6
  refine hK.out _ _ ?_
  clear hK K
  refine norm_ (a' := ?_) ?_ ?_
  rotate_left
  · show Act.put _ (some 12) _ = _
    simp only [Act.put, List.setIfInBounds_toArray, List.set_cons_zero, List.set_cons_succ, i64_w, i32_w]
    rfl
  refine done_ (by kernel_rfl) ?_
  have hbx := HST6.out.box.cell
  have HRD := Aside0.mk (Kd.S_V (base' := 0) HST6.out.out)
  obtain ⟨A6, c6, e6⟩ := Kd.V_slice HRD.out
  subst e6
  have HDEL := Aside0.mk (del_none A6 c6 L w6 (Kd.V_reads' HRD.out).2.2 HP.out.2.2.1)
  obtain ⟨n6, hn6⟩ : ∃ n6, n6 = L.length := ⟨_, rfl⟩
  rw [← hn6] at HDEL hbx
  have HN6 := Aside0.mk hn6
  clear hn6
  go_wp2_with (go_at_call 134; (refine (HDEL.out).mono ?_); rintro e w7 ⟨rfl, hb⟩; have HB7 := Aside0.mk hb; clear hb)
  go_ret
  refine ⟨_, rfl, ?_, below_step HST6.out.below HB7.out⟩
  rw [← HP.out.2.2.2.1]
  have h9 := Kd.S_below HST6.out.out HB7.out
  rw [← HN6.out] at h9
  exact Kd.S_mono h9 (fun _ _ => trivial)

end Go.Proofs.Ythjiajkmaimbjaa.P
