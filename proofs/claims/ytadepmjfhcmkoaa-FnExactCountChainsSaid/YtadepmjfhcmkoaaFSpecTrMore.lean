-- By gp.py (this session's own driver over the kit's print). Not trusted: Lean checks it.
import Derived.Test.YtadepmjfhcmkoaaF0
import Derived.Test.YtadepmjfhcmkoaaB
import Derived.Test.YtadepmjfhcmkoaaFSpecTr
import Derived.Test.YtadepmjfhcmkoaaTab
import Derived.Test.YtadepmjfhcmkoaaFSpecTr
namespace Go.Proofs.Ytadepmjfhcmkoaa.P
open Go.Proofs.Ytadepmjfhcmkoaa.B
open Go.RowKit Go.Proofs.YtadepmjfhcmkoaaW.PrintWords Go.Proofs.YtadepmjfhcmkoaaW.PrintLast Go.Proofs.YtadepmjfhcmkoaaW.PrintMore
attribute [local go_sem] max2_int min2_int max_two min_two max_three min_three max_four min_four   -- for this text's walks alone
set_option linter.unusedVariables false
set_option linter.unusedSimpArgs false
/-! ### spec_trRowLess: function 119 -/
def spec_trRowLess.l0 : Nat → List Int → List Int → Int → Int → Option (Bool)
 | 0, _, _, _, _ => none
 | k + 1, x1, x7, x8, x9 => if x9 < x8 then (if 0 ≤ x9 then (if x9 < (x7.length : Int) then (if x9 < (x1.length : Int) then (if (rd x7 x9) = (rd x1 x9) then (spec_trRowLess.l0 k x1 x7 x8 (wrap64 (x9 + 1))) else (some (decide ((rd x7 x9) < (rd x1 x9))))) else (none)) else (none)) else (none)) else (some false)
def spec_trRowLess.f (k : Nat) (l0 : List Int) (l1 : List Int) : Option (Bool) := spec_trRowLess.l0 k l1 l0 (l0.length : Int) 0
set_option maxHeartbeats 8000000 in
set_option maxRecDepth 100000 in
theorem spec_trRowLess.calls (k : Nat) (A0 : Option Addr) (c0 : Nat) (l0 : List Int) (A1 : Option Addr) (c1 : Nat) (l1 : List Int) (r : Bool) (w : World) (hr0 : Kd.C (Kd.int .i64) w A0 l0.length l0) (hc0 : l0.length ≤ c0) (hr1 : Kd.C (Kd.int .i64) w A1 l1.length l1) (hc1 : l1.length ≤ c1) (h : spec_trRowLess.f k l0 l1 = some r) :
  Calls Try.prog 119 #[.slice A0 l0.length c0, .slice A1 l1.length c1] w fun e w' => e = .returned (.bool r) ∧ Drawn0 w w' := by
 have HR0 := Aside0.mk hr0; have HC0 := Aside0.mk hc0; clear hr0 hc0; have HR1 := Aside0.mk hr1; have HC1 := Aside0.mk hc1; clear hr1 hc1; have H : (spec_trRowLess.l0 k l1 l0 (l0.length : Int) 0) = some r := h; clear h; have H' := Aside0.mk H; clear H; go_enter Try.func119, Try.ntmps119; go_wp2
 go_loopg [9] k (fun kq v9 w' => ∃ (x9_1 : Int), v9 = .int .i64 x9_1 ∧ Aside0 (spec_trRowLess.l0 kq l1 l0 (l0.length : Int) x9_1 = some r) ∧ Aside0 (kq ≤ k) ∧ Drawn0 w w')
 case atStart => exact ⟨(0), (by first | rfl | (simp; done) | (simp [*]; done)), H', ⟨Nat.le_refl _⟩, by repeat (first | exact Drawn0.refl _ | apply Drawn0.step)⟩
 case round =>
  clear H'
  try clear c1
  try clear p2
  obtain ⟨x9_1, rfl, HA, HK1, ⟨m1, rfl⟩⟩ := hrel
  cases gk with
  | zero => exact absurd HA.out (by simp [spec_trRowLess.l0])
  | succ k1 =>
   have H := HA.out; clear HA; simp only [spec_trRowLess.l0] at H
   by_cases c3 : x9_1 < (l0.length : Int)
   ·rw [if_pos c3] at H
    have c3b0 : decide (x9_1 < (l0.length : Int)) = true := decide_eq_true c3; clear c3
    by_cases c4 : 0 ≤ x9_1
    ·rw [if_pos c4] at H
     have c4b0 : decide (0 ≤ x9_1) = true := decide_eq_true c4; clear c4
     by_cases c5 : x9_1 < (l0.length : Int)
     ·rw [if_pos c5] at H
      have c5b0 : decide (x9_1 < (l0.length : Int)) = true := decide_eq_true c5; clear c5
      by_cases c6 : x9_1 < (l1.length : Int)
      ·rw [if_pos c6] at H
       have c6b0 : decide (x9_1 < (l1.length : Int)) = true := decide_eq_true c6; clear c6
       by_cases c7 : (rd l0 x9_1) = (rd l1 x9_1)
       ·rw [if_pos c7] at H
        have c7b0 : ((rd l0 x9_1) == (rd l1 x9_1)) = true := beq_iff_eq.mpr c7; have c7b1 : ((rd l0 x9_1) != (rd l1 x9_1)) = false := bne_eq_false_iff_eq.mpr c7; clear c7; have H' := Aside0.mk H; clear H; have p157 : 0 ≤ (x9_1 : Int) := of_decide_eq_true (by first | (with_reducible assumption) | assumption); have q157 : x9_1 < (l0.length : Int) := of_decide_eq_true (by first | (with_reducible assumption) | assumption); obtain ⟨ad157, e157, hx157_0⟩ := Kd.at_int HR0.out x9_1 p157 q157
        cases e157
        replace p157 := eq_true p157; replace q157 := eq_true q157; have p158 : 0 ≤ (x9_1 : Int) := of_decide_eq_true (by first | (with_reducible assumption) | assumption); have q158 : x9_1 < (l1.length : Int) := of_decide_eq_true (by first | (with_reducible assumption) | assumption); obtain ⟨ad158, e158, hx158_0⟩ := Kd.at_int HR1.out x9_1 p158 q158
        cases e158
        replace p158 := eq_true p158; replace q158 := eq_true q158; go_wp2
        go_roundg k1
        case measure => have := HK1.out; omega
        case rel => exact ⟨(wrap64 (x9_1 + 1)), (by first | rfl | (simp; done) | (simp [*]; done)), H', ⟨by have := HK1.out; omega⟩, by repeat (first | exact Drawn0.refl _ | apply Drawn0.step)⟩
       ·rw [if_neg c7] at H
        have c7b0 : ((rd l0 x9_1) == (rd l1 x9_1)) = false := beq_eq_false_iff_ne.mpr c7; have c7b1 : ((rd l0 x9_1) != (rd l1 x9_1)) = true := bne_iff_ne.mpr c7; obtain rfl := Option.some.inj H; have p157 : 0 ≤ (x9_1 : Int) := of_decide_eq_true (by first | (with_reducible assumption) | assumption); have q157 : x9_1 < (l0.length : Int) := of_decide_eq_true (by first | (with_reducible assumption) | assumption); obtain ⟨ad157, e157, hx157_0⟩ := Kd.at_int HR0.out x9_1 p157 q157
        cases e157
        replace p157 := eq_true p157; replace q157 := eq_true q157; have p158 : 0 ≤ (x9_1 : Int) := of_decide_eq_true (by first | (with_reducible assumption) | assumption); have q158 : x9_1 < (l1.length : Int) := of_decide_eq_true (by first | (with_reducible assumption) | assumption); obtain ⟨ad158, e158, hx158_0⟩ := Kd.at_int HR1.out x9_1 p158 q158
        cases e158
        replace p158 := eq_true p158; replace q158 := eq_true q158; have p159 : 0 ≤ (x9_1 : Int) := of_decide_eq_true (by first | (with_reducible assumption) | assumption); have q159 : x9_1 < (l1.length : Int) := of_decide_eq_true (by first | (with_reducible assumption) | assumption); obtain ⟨ad159, e159, hx159_0⟩ := Kd.at_int HR1.out x9_1 p159 q159
        obtain rfl : ad158 = ad159 := (by injection e159)
        replace p159 := eq_true p159; replace q159 := eq_true q159; go_wp2; go_ret; exact ⟨by first | rfl | (simp; done) | (simp [*]; done), by repeat (first | exact Drawn0.refl _ | apply Drawn0.step)⟩
      ·rw [if_neg c6] at H; exact absurd H (by simp)
     ·rw [if_neg c5] at H; exact absurd H (by simp)
    ·rw [if_neg c4] at H; exact absurd H (by simp)
   ·rw [if_neg c3] at H; have c3b0 : decide (x9_1 < (l0.length : Int)) = false := decide_eq_false c3; clear c3; obtain rfl := Option.some.inj H; go_wp2; go_ret; exact ⟨by first | rfl | (simp; done) | (simp [*]; done), by repeat (first | exact Drawn0.refl _ | apply Drawn0.step)⟩
/-! ### spec_trNext: function 70 (given) -/
mutual
def spec_trNext.l0 : Nat → List Int → Int → List (List Int) → List (List Int) → Int → Option (List (List Int))
 | 0, _, _, _, _, _ => none
 | k + 1, x0, x1, x5, x12, x14 => if x14 < (x12.length : Int) then (if 0 ≤ x14 then (spec_trNext.l1 k x0 x1 x5 x12 x14 0) else none) else some x5
def spec_trNext.l1 : Nat → List Int → Int → List (List Int) → List (List Int) → Int → Int → Option (List (List Int))
 | 0, _, _, _, _, _, _ => none
 | k + 1, x0, x1, x5, x12, x14, x8 => if x8 < (x5.length : Int) then (if 0 ≤ x8 then ((spec_trStep.f k x0 (rd_L1 x5 x8) x1).bind fun a => (spec_trStep.f k x0 (rd_L1 x12 x14) x1).bind fun b => (spec_trRowLess.f k a b).bind fun t => if t = true then spec_trNext.l1 k x0 x1 x5 x12 x14 (wrap64 (x8 + 1)) else spec_trNext.l2 k x0 x1 x5 x12 x14 x8) else none) else spec_trNext.l2 k x0 x1 x5 x12 x14 x8
def spec_trNext.l2 : Nat → List Int → Int → List (List Int) → List (List Int) → Int → Int → Option (List (List Int))
 | 0, _, _, _, _, _, _ => none
 | k + 1, x0, x1, x5, x12, x14, x8 => if 0 ≤ x8 ∧ x8 ≤ (x5.length : Int) ∧ x5.length < 1000000 then spec_trNext.l0 k x0 x1 ((x5.take x8.toNat ++ [rd_L1 x12 x14]) ++ x5.drop x8.toNat) x12 (wrap64 (x14 + 1)) else none
end
def spec_trNext.f (k : Nat) (l0 : List Int) (a1 : Int) : Option (List (List Int)) := (spec_trBehind.f k l0 [] a1).bind fun t => spec_trNext.l0 k l0 a1 [] t 0
set_option maxHeartbeats 8000000 in
set_option maxRecDepth 100000 in
theorem spec_trNext.calls (k : Nat) (A0 : Option Addr) (c0 : Nat) (l0 : List Int) (a1 : Int) (r : List (List Int)) (w : World) (hr0 : Kd.C (Kd.int .i64) w A0 l0.length l0) (hc0 : l0.length ≤ c0) (h : spec_trNext.f k l0 a1 = some r) :
  Calls Try.prog 70 #[.slice A0 l0.length c0, .int .i64 a1] w fun e w' => ∃ v0_ : Value, e = .returned (v0_) ∧ Kd.N (Kd.slice 3 (Kd.int .i64)) 39 w' w.heap.size (fun k_ => (w.heap.size ≤ k_)) v0_ r ∧ Below w.heap.size w w' := by
 have HB := Aside0.mk (Below.refl w.heap.size w); obtain ⟨ts, hts, h⟩ := Option.bind_eq_some_iff.mp h
 have hcall : Calls Try.prog 118 #[.slice A0 l0.length c0, .slice none 0 0, .int .i64 a1] w fun e w' => ∃ v0_ : Value, e = .returned (v0_) ∧ Kd.N (Kd.slice 3 (Kd.int .i64)) 39 w' w.heap.size (fun k_ => (w.heap.size ≤ k_)) v0_ ts ∧ Below w.heap.size w w' := spec_trBehind.calls k A0 c0 l0 none 0 [] a1 ts w hr0 hc0 (Kd.C_nil _ _) (Nat.le_refl _) hts
 have HCALL := Aside0.mk hcall; have HR0 := Aside0.mk hr0; have HC0 := Aside0.mk hc0; have H' := Aside0.mk h; clear hts hcall h hr0 hc0; go_enter Try.func70, Try.ntmps70
 go_wp2_with (go_at_call 118; (with_reducible refine HCALL.out.mono ?_); rintro e w1 ⟨vB, rfl, hN, hb⟩; obtain ⟨AB, cB, eB⟩ := Kd.N_slice hN; subst eB; have NB := Aside0.mk hN; have HB1 := Aside0.mk hb; clear hN hb; clear HB; have HB := HB1; clear HB1)
 go_loopg [5, 14] k (fun kq v5 v14 w' => ∃ (x5 : List (List Int)) (x14 : Int), v14 = .int .i64 x14 ∧ Aside0 (spec_trNext.l0 kq l0 a1 x5 ts x14 = some r) ∧ Aside0 (kq ≤ k) ∧ Aside0 (Kd.N (Kd.slice 3 (Kd.int .i64)) 39 w' w.heap.size (fun k_ => (w.heap.size ≤ k_)) v5 x5) ∧ Aside0 (Kd.N (Kd.slice 3 (Kd.int .i64)) 39 w' w.heap.size (fun k_ => (w.heap.size ≤ k_)) (.slice AB ts.length cB) ts) ∧ Aside0 (Below w.heap.size w w'))
 case atStart => exact ⟨[], 0, rfl, H', ⟨Nat.le_refl _⟩, ⟨Kd.N_nil _ _ _ _ _⟩, NB, HB⟩
 case round =>
  clear H' NB HB HCALL; obtain ⟨x5, x14, rfl, HA, HK1, NO, NB, HB⟩ := hrel; obtain ⟨A5, c5, e5⟩ := Kd.N_slice NO.out; subst e5
  cases gk with
  | zero => exact absurd HA.out (by simp [spec_trNext.l0])
  | succ k1 =>
   have H := HA.out; clear HA; simp only [spec_trNext.l0] at H
   by_cases c4 : x14 < (ts.length : Int)
   ·rw [if_pos c4] at H
    have c4b0 : decide (x14 < (ts.length : Int)) = true := decide_eq_true c4
    by_cases c5_ : 0 ≤ x14
    case neg =>
     rw [if_neg c5_] at H
     cases H
    rw [if_pos c5_] at H; obtain ⟨ad, Ax, cx, eAB, hxr, hcx, hxC⟩ := at_L1 (Kd.N_reads' NB.out).2.2 x14 c5_ c4; subst eAB; obtain ⟨cells, hcl, hFK, hcc⟩ := Kd.V_get (Kd.N_V (base' := 0) NB.out) ([] : List Int) x14 c5_ c4; obtain ⟨Ax2, cx2, e2, hcx2, hFr⟩ := Kd.FK_slice_open hFK; subst e2; have h9 : wr.cell? (ad.add (x14.toNat * 1 + 0)) = some _ := hcc 0 _ rfl; rw [Nat.mul_one, Nat.add_zero, hxr] at h9; injection h9 with h9; injection h9 with h9a h9b h9c; subst h9a; subst h9c; have FN := Aside0.mk (show Kd.FK (Kd.slice 3 (Kd.int .i64)) wr (fun k_ => (w.heap.size ≤ k_)) (rd_L1 ts x14) [.slice Ax (rd_L1 ts x14).length cx] from hFK); have HXC := Aside0.mk hxC; have HCX := Aside0.mk hcx; have p4 := eq_true c4; have p5 := eq_true c5_; have H' := Aside0.mk H; clear H hFK hFr hcc hcl hcx hcx2 hxC h9b
    obtain ⟨wo, hwo⟩ : ∃ wo : World, wo = wr := ⟨_, rfl⟩
    rw [← hwo] at FN HXC hxr NO NB HB ⊢; clear hwo; go_wp2; clear hxr p4 p5 c4b0
    go_loopg [8] k1 (fun kq v8 w' => ∃ (x8 : Int), v8 = .int .i64 x8 ∧ Aside0 (spec_trNext.l1 kq l0 a1 x5 ts x14 x8 = some r) ∧ Aside0 (kq ≤ k1) ∧ Aside0 (Below wo.heap.size wo w'))
    case atStart => exact ⟨0, rfl, H', ⟨Nat.le_refl _⟩, ⟨Below.refl _ _⟩⟩
    case round =>
     clear H'; obtain ⟨x8, rfl, HA, HK2, HZ⟩ := hrel
     cases gk with
     | zero => exact absurd HA.out (by simp [spec_trNext.l1])
     | succ k2 =>
      have H := HA.out; clear HA; simp only [spec_trNext.l1] at H
      by_cases c6 : x8 < (x5.length : Int)
      ·rw [if_pos c6] at H
       have c6b0 : decide (x8 < (x5.length : Int)) = true := decide_eq_true c6
       by_cases c7 : 0 ≤ x8
       case neg =>
        rw [if_neg c7] at H
        cases H
       rw [if_pos c7] at H; obtain ⟨a, ha, H⟩ := Option.bind_eq_some_iff.mp H; obtain ⟨b, hb_, H⟩ := Option.bind_eq_some_iff.mp H; obtain ⟨t, ht, H⟩ := Option.bind_eq_some_iff.mp H; obtain ⟨ad5, Ay, cy, eA5, hyr, hcy, hyC⟩ := at_L1 (Kd.N_reads' (Kd.N_below NO.out HZ.out)).2.2 x8 c7 c6; subst eA5; have FA := Aside0.mk (fun (W : World) (hW : Below wr.heap.size wr W) => spec_trStep.calls k2 A0 c0 l0 Ay cy (rd_L1 x5 x8) a1 a W (Kd.C_below HR0.out (below_step (below_step HB.out HZ.out) hW)) HC0.out (Kd.C_below hyC hW) hcy ha); have FB := Aside0.mk (fun (W : World) (hW : Below wr.heap.size wr W) => spec_trStep.calls k2 A0 c0 l0 Ax cx (rd_L1 ts x14) a1 b W (Kd.C_below HR0.out (below_step (below_step HB.out HZ.out) hW)) HC0.out (Kd.C_below HXC.out (below_step HZ.out hW)) HCX.out hb_); have FL := Aside0.mk (fun (W : World) (Aa : Option Addr) (ca : Nat) (Ab : Option Addr) (cb : Nat) (h1 : Kd.C (Kd.int .i64) W Aa a.length a) (h2 : a.length ≤ ca) (h3 : Kd.C (Kd.int .i64) W Ab b.length b) (h4 : b.length ≤ cb) => spec_trRowLess.calls k2 Aa ca a Ab cb b t W h1 h2 h3 h4 ht); have p6 := eq_true c6; have p7 := eq_true c7; have HBC := Aside0.mk (Below.refl wr.heap.size wr); clear ha hb_ ht hyC hcy
       cases t with
       | true =>
        rw [if_pos rfl] at H; have H' := Aside0.mk H; clear H
        go_wp2_with (first | (go_at_call 110; (with_reducible refine (FA.out _ HBC.out).mono ?_); rintro e w3 ⟨va, rfl, hRa, hba⟩; obtain ⟨Aa, ca, ea⟩ := Kd.R_slice hRa; subst ea; have RA := Aside0.mk hRa; have HBn := Aside0.mk (below_step HBC.out hba); clear hRa hba; clear HBC FA; have HBC := HBn; clear HBn) | (go_at_call 110; (with_reducible refine (FB.out _ HBC.out).mono ?_); rintro e w4 ⟨vb, rfl, hRb, hbb⟩; obtain ⟨Ab, cb, eb⟩ := Kd.R_slice hRb; subst eb; have RB := Aside0.mk hRb; have RA2 := Aside0.mk (Kd.R_below RA.out hbb); have HBn := Aside0.mk (below_step HBC.out hbb); clear hRb hbb; clear HBC; have HBC := HBn; clear HBn) | (go_at_call 119; (with_reducible refine (FL.out _ _ _ _ _ (Kd.R_reads' RA2.out).2.2 (Kd.R_reads' RA2.out).2.1 (Kd.R_reads' RB.out).2.2 (Kd.R_reads' RB.out).2.1).mono ?_); rintro e w5 ⟨rfl, ⟨nd, rfl⟩⟩))
        go_roundg k2
        case measure => have := HK2.out; omega
        case rel => exact ⟨wrap64 (x8 + 1), by first | rfl | (simp; done), H', ⟨by have := HK2.out; omega⟩, ⟨below_step HZ.out (pw_below_drewN HBC.out _)⟩⟩
       | false =>
        rw [if_neg (by decide)] at H; have HH := Aside0.mk H; clear H
        go_upto_if 35 with (first | (go_at_call 110; (with_reducible refine (FA.out _ HBC.out).mono ?_); rintro e w3 ⟨va, rfl, hRa, hba⟩; obtain ⟨Aa, ca, ea⟩ := Kd.R_slice hRa; subst ea; have RA := Aside0.mk hRa; have HBn := Aside0.mk (below_step HBC.out hba); clear hRa hba; clear HBC FA; have HBC := HBn; clear HBn) | (go_at_call 110; (with_reducible refine (FB.out _ HBC.out).mono ?_); rintro e w4 ⟨vb, rfl, hRb, hbb⟩; obtain ⟨Ab, cb, eb⟩ := Kd.R_slice hRb; subst eb; have RB := Aside0.mk hRb; have RA2 := Aside0.mk (Kd.R_below RA.out hbb); have HBn := Aside0.mk (below_step HBC.out hbb); clear hRb hbb; clear HBC; have HBC := HBn; clear HBn) | (go_at_call 119; (with_reducible refine (FL.out _ _ _ _ _ (Kd.R_reads' RA2.out).2.2 (Kd.R_reads' RA2.out).2.1 (Kd.R_reads' RB.out).2.2 (Kd.R_reads' RB.out).2.1).mono ?_); rintro e w5 ⟨rfl, ⟨nd, rfl⟩⟩))
        have H := HH.out; clear HH; have C6 := Aside0.mk True.intro
        obtain ⟨wz, hwz⟩ : ∃ wz : World, wz = World.drewN w4 nd := ⟨_, rfl⟩
        have HZ2 := Aside0.mk (show Below wo.heap.size wo wz by rw [hwz]; exact below_step HZ.out (pw_below_drewN HBC.out _)); rw [← hwz]; clear HZ RA RA2 RB HBC FB FL hwz p6 p7 c6b0 c6 c7 hyr; have HZ := HZ2; clear HZ2; have bq6 := True.intro
        cases k2 with
        | zero => exact absurd H (by simp [spec_trNext.l2])
        | succ k3 =>
         simp only [spec_trNext.l2] at H
         by_cases c20 : 0 ≤ x8 ∧ x8 ≤ (x5.length : Int) ∧ x5.length < 1000000
         case neg =>
          rw [if_neg c20] at H
          cases H
         rw [if_pos c20] at H
         obtain ⟨q, rfl⟩ : ∃ q : Nat, x8 = (q : Int) := ⟨x8.toNat, by omega⟩
         rw [Int.toNat_natCast] at H
         have hq1 : q ≤ x5.length := by omega
         have hq2 : q ≤ c5 := by have := (Kd.N_reads' NO.out).2.1; omega
         have hq3 : x5.length ≤ c5 := (Kd.N_reads' NO.out).2.1
         skip
         have HX5 := Aside0.mk c20.2.2; have HQ := Aside0.mk hq1
         have pq0 : (0 : Int) ≤ (q : Int) := by omega
         have pq1 := eq_true hq1; have pq2 := eq_true hq2; have pq3 := eq_true hq3
         obtain ⟨ys, hys⟩ : ∃ ys, ys = (x5.take q ++ [rd_L1 ts x14]) ++ x5.drop q := ⟨_, rfl⟩
         rw [← hys] at H; have NY := Aside0.mk hys; have H' := Aside0.mk H; clear H c20 hys; have NOz := Aside0.mk (Kd.N_below NO.out HZ.out); have NBz := Aside0.mk (Kd.N_below NB.out HZ.out); have FNz := Aside0.mk (Kd.FK_bound (Kd.FK_below FN.out HZ.out)); have HBw := Aside0.mk (below_step HB.out HZ.out)
         go_wp2_with (first | ((with_reducible refine gate_dst (N := 38) rfl ?_); refine Kd.N_lit (Kd.slice 3 (Kd.int .i64)) (w0 := wz) wz.heap.size 39 ?hg (N' := 38) ?hd (xs := ([] : List (List Int))) (inner := []) (ok := fun k => w.heap.size ≤ k) (okp := fun _ => False) ?hr ?hp (fun _ hk => hk.elim) ?hf (Below.refl _ _) (Nat.le_refl _) (by simp) ?_; (case hd => rfl); (case hg => rfl); (case hr => first | (go_simp; done) | (go_simp; rfl)); (case hp => exact (Reps.none _ _)); (case hf => exact HBw.out.size); intro vL wL hoL hbL hgL hnL; clear hgL hnL; have NL := Aside0.mk hoL; have HBZ := Aside0.mk hbL; clear hoL hbL) | ((with_reducible refine gate_builtin (b := .append) (xs := #[.tmp 38, .tmp 41]) rfl ?_); at_builtin; refine Kd.N_append_rows (Kd.slice 3 (Kd.int .i64)) (w0 := wz) wz.heap.size rfl (.tmp 38) (.tmp 41) 22 39 (.slice none 0 0) 24 rfl Try.underlying22 info39 rfl (by decide) (by omega) vL [] (x5.take q) _ q _ (fun k => w.heap.size ≤ k) (fun k => w.heap.size ≤ k ∧ k < wz.heap.size) rfl rfl ?aO ?aR ?aK ?aF ?aB ?aS ?aL ?_; (case aO => exact NL.out); (case aR => have h1 := Kd.F_take (Kd.F_below (Kd.F_bound (Kd.N_F NOz.out)) HBZ.out) HQ.out; rw [List.length_take, Nat.min_eq_left HQ.out] at h1; exact h1); (case aK => exact (fun k hk => ⟨hk.1, fun e => by have := Kd.N_base NL.out k e.symm; omega⟩)); (case aF => exact (fun k hk => by have := HBZ.out.size; have := HBw.out.size; omega)); (case aB => exact HBZ.out); (case aS => exact HBZ.out.size); (case aL => have := HX5.out; have := HQ.out; simp only [List.length_nil]; omega); intro vM wM hoM hbM hgM haM; clear hgM haM; rw [List.nil_append] at hoM; have NM := Aside0.mk hoM; have HBM := Aside0.mk hbM; clear hoM hbM NL HBZ; have HBZ := HBM; clear HBM) | ((with_reducible refine gate_builtin (b := .append) (xs := #[.tmp 42, .tmp 44]) rfl ?_); at_builtin; refine Kd.N_append (Kd.slice 3 (Kd.int .i64)) (w0 := wz) wz.heap.size rfl (.tmp 42) (.tmp 44) 22 39 (.slice none 0 0) 24 rfl Try.underlying22 info39 rfl (by decide) (by omega) vM (x5.take q) (rd_L1 ts x14) [.slice Ax (rd_L1 ts x14).length cx] (fun k => w.heap.size ≤ k) (fun k => w.heap.size ≤ k ∧ k < wz.heap.size) rfl rfl ?aP ?aK ?aF ?aO ?aB ?aS ?aL ?_; (case aO => exact NM.out); (case aP => exact Kd.FK_below FNz.out HBZ.out); (case aK => exact (fun k hk => ⟨hk.1, fun e => by have := Kd.N_base NM.out k e.symm; omega⟩)); (case aF => exact (fun k hk => by have := HBZ.out.size; have := HBw.out.size; omega)); (case aB => exact HBZ.out); (case aS => exact HBZ.out.size); (case aL => have := HX5.out; have := HQ.out; rw [List.length_take]; omega); intro vP wP hoP hbP hgP haP; clear hgP haP; have NP := Aside0.mk hoP; have HBM := Aside0.mk hbP; clear hoP hbP NM HBZ; have HBZ := HBM; clear HBM) | ((with_reducible refine gate_builtin (b := .append) (xs := #[.tmp 46, .tmp 49]) rfl ?_); at_builtin; refine Kd.N_append_rows (Kd.slice 3 (Kd.int .i64)) (w0 := wz) wz.heap.size rfl (.tmp 46) (.tmp 49) 22 39 (.slice none 0 0) 24 rfl Try.underlying22 info39 rfl (by decide) (by omega) vP (x5.take q ++ [rd_L1 ts x14]) (x5.drop q) _ _ _ (fun k => w.heap.size ≤ k) (fun k => w.heap.size ≤ k ∧ k < wz.heap.size) rfl rfl ?aO ?aR ?aK ?aF ?aB ?aS ?aL ?_; (case aO => exact NP.out); (case aR => have h1 := Kd.F_cut (m := q) (c := c5) (Kd.F_below (Kd.F_bound (Kd.N_F NOz.out)) HBZ.out) HQ.out (Kd.N_reads' NO.out).2.1; rw [List.length_drop] at h1; first | exact h1 | (simp only [Option.map_some, Nat.mul_one, show ((Kd.slice 3 (Kd.int .i64))).sz = 1 from rfl] at h1; first | exact h1 | (by_cases e9 : c5 = q <;> simp [e9] at h1 ⊢ <;> exact h1))); (case aK => exact (fun k hk => ⟨hk.1, fun e => by have := Kd.N_base NP.out k e.symm; omega⟩)); (case aF => exact (fun k hk => by have := HBZ.out.size; have := HBw.out.size; omega)); (case aB => exact HBZ.out); (case aS => exact HBZ.out.size); (case aL => have := HX5.out; have := HQ.out; simp only [List.length_append, List.length_take, List.length_singleton]; omega); intro vR wR hoR hbR hgR haR; clear hgR haR; rw [← NY.out] at hoR; have NR := Aside0.mk hoR; have HBM := Aside0.mk hbR; clear hoR hbR NP HBZ; have HBZ := HBM; clear HBM))
         all_goals
          go_roundg k3
          case measure => have := HK1.out; have := HK2.out; omega
          case rel => exact ⟨ys, wrap64 (x14 + 1), rfl, H', ⟨by have := HK1.out; have := HK2.out; omega⟩, ⟨Kd.N_lower NR.out HBw.out.size⟩, ⟨Kd.N_below NBz.out HBZ.out⟩, ⟨below_step HBw.out HBZ.out⟩⟩
      ·rw [if_neg c6] at H
       have c6b0 : decide (x8 < (x5.length : Int)) = false := decide_eq_false c6
       obtain ⟨wz, hwz⟩ : ∃ wz : World, wz = wr := ⟨_, rfl⟩
       rw [← hwz] at HZ ⊢; have C6 := Aside0.mk c6; clear hwz c6
       cases k2 with
       | zero => exact absurd H (by simp [spec_trNext.l2])
       | succ k3 =>
        simp only [spec_trNext.l2] at H
        by_cases c20 : 0 ≤ x8 ∧ x8 ≤ (x5.length : Int) ∧ x5.length < 1000000
        case neg =>
         rw [if_neg c20] at H
         cases H
        rw [if_pos c20] at H
        obtain ⟨q, rfl⟩ : ∃ q : Nat, x8 = (q : Int) := ⟨x8.toNat, by omega⟩
        rw [Int.toNat_natCast] at H
        have hq1 : q ≤ x5.length := by omega
        have hq2 : q ≤ c5 := by have := (Kd.N_reads' NO.out).2.1; omega
        have hq3 : x5.length ≤ c5 := (Kd.N_reads' NO.out).2.1; have bq6 : decide (q < x5.length) = false := decide_eq_false (by have := C6.out; omega); have HX5 := Aside0.mk c20.2.2; have HQ := Aside0.mk hq1
        have pq0 : (0 : Int) ≤ (q : Int) := by omega
        have pq1 := eq_true hq1; have pq2 := eq_true hq2; have pq3 := eq_true hq3
        obtain ⟨ys, hys⟩ : ∃ ys, ys = (x5.take q ++ [rd_L1 ts x14]) ++ x5.drop q := ⟨_, rfl⟩
        rw [← hys] at H; have NY := Aside0.mk hys; have H' := Aside0.mk H; clear H c20 hys; have NOz := Aside0.mk (Kd.N_below NO.out HZ.out); have NBz := Aside0.mk (Kd.N_below NB.out HZ.out); have FNz := Aside0.mk (Kd.FK_bound (Kd.FK_below FN.out HZ.out)); have HBw := Aside0.mk (below_step HB.out HZ.out)
        cases A5 with
        | none =>
         have hl0 : x5.length = 0 := by
          rcases Nat.eq_zero_or_pos x5.length with h0 | h0
          ·exact h0
          ·obtain ⟨g9, c9, e9, _⟩ := Kd.N_form NO.out h0
           cases e9
         obtain rfl : q = 0 := by omega
         obtain rfl : x5 = [] := List.eq_nil_of_length_eq_zero hl0
         go_wp2_with (first | ((with_reducible refine gate_dst (N := 38) rfl ?_); refine Kd.N_lit (Kd.slice 3 (Kd.int .i64)) (w0 := wz) wz.heap.size 39 ?hg (N' := 38) ?hd (xs := ([] : List (List Int))) (inner := []) (ok := fun k => w.heap.size ≤ k) (okp := fun _ => False) ?hr ?hp (fun _ hk => hk.elim) ?hf (Below.refl _ _) (Nat.le_refl _) (by simp) ?_; (case hd => rfl); (case hg => rfl); (case hr => first | (go_simp; done) | (go_simp; rfl)); (case hp => exact (Reps.none _ _)); (case hf => exact HBw.out.size); intro vL wL hoL hbL hgL hnL; clear hgL hnL; have NL := Aside0.mk hoL; have HBZ := Aside0.mk hbL; clear hoL hbL) | ((with_reducible refine gate_builtin (b := .append) (xs := #[.tmp 38, .tmp 41]) rfl ?_); at_builtin; refine Kd.N_append_rows (Kd.slice 3 (Kd.int .i64)) (w0 := wz) wz.heap.size rfl (.tmp 38) (.tmp 41) 22 39 (.slice none 0 0) 24 rfl Try.underlying22 info39 rfl (by decide) (by omega) vL [] (List.take 0 []) _ 0 _ (fun k => w.heap.size ≤ k) (fun k => w.heap.size ≤ k ∧ k < wz.heap.size) rfl rfl ?aO ?aR ?aK ?aF ?aB ?aS ?aL ?_; (case aO => exact NL.out); (case aR => exact Kd.F_nil _ _ _); (case aK => exact (fun k hk => ⟨hk.1, fun e => by have := Kd.N_base NL.out k e.symm; omega⟩)); (case aF => exact (fun k hk => by have := HBZ.out.size; have := HBw.out.size; omega)); (case aB => exact HBZ.out); (case aS => exact HBZ.out.size); (case aL => have := HX5.out; have := HQ.out; simp only [List.length_nil]; omega); intro vM wM hoM hbM hgM haM; clear hgM haM; rw [List.nil_append] at hoM; have NM := Aside0.mk hoM; have HBM := Aside0.mk hbM; clear hoM hbM NL HBZ; have HBZ := HBM; clear HBM) | ((with_reducible refine gate_builtin (b := .append) (xs := #[.tmp 42, .tmp 44]) rfl ?_); at_builtin; refine Kd.N_append (Kd.slice 3 (Kd.int .i64)) (w0 := wz) wz.heap.size rfl (.tmp 42) (.tmp 44) 22 39 (.slice none 0 0) 24 rfl Try.underlying22 info39 rfl (by decide) (by omega) vM (List.take 0 []) (rd_L1 ts x14) [.slice Ax (rd_L1 ts x14).length cx] (fun k => w.heap.size ≤ k) (fun k => w.heap.size ≤ k ∧ k < wz.heap.size) rfl rfl ?aP ?aK ?aF ?aO ?aB ?aS ?aL ?_; (case aO => exact NM.out); (case aP => exact Kd.FK_below FNz.out HBZ.out); (case aK => exact (fun k hk => ⟨hk.1, fun e => by have := Kd.N_base NM.out k e.symm; omega⟩)); (case aF => exact (fun k hk => by have := HBZ.out.size; have := HBw.out.size; omega)); (case aB => exact HBZ.out); (case aS => exact HBZ.out.size); (case aL => have := HX5.out; have := HQ.out; rw [List.length_take]; omega); intro vP wP hoP hbP hgP haP; clear hgP haP; have NP := Aside0.mk hoP; have HBM := Aside0.mk hbP; clear hoP hbP NM HBZ; have HBZ := HBM; clear HBM) | ((with_reducible refine gate_builtin (b := .append) (xs := #[.tmp 46, .tmp 49]) rfl ?_); at_builtin; refine Kd.N_append_rows (Kd.slice 3 (Kd.int .i64)) (w0 := wz) wz.heap.size rfl (.tmp 46) (.tmp 49) 22 39 (.slice none 0 0) 24 rfl Try.underlying22 info39 rfl (by decide) (by omega) vP (List.take 0 [] ++ [rd_L1 ts x14]) (List.drop 0 []) _ _ _ (fun k => w.heap.size ≤ k) (fun k => w.heap.size ≤ k ∧ k < wz.heap.size) rfl rfl ?aO ?aR ?aK ?aF ?aB ?aS ?aL ?_; (case aO => exact NP.out); (case aR => exact Kd.F_nil _ _ _); (case aK => exact (fun k hk => ⟨hk.1, fun e => by have := Kd.N_base NP.out k e.symm; omega⟩)); (case aF => exact (fun k hk => by have := HBZ.out.size; have := HBw.out.size; omega)); (case aB => exact HBZ.out); (case aS => exact HBZ.out.size); (case aL => have := HX5.out; have := HQ.out; simp only [List.length_append, List.length_take, List.length_singleton]; omega); intro vR wR hoR hbR hgR haR; clear hgR haR; rw [← NY.out] at hoR; have NR := Aside0.mk hoR; have HBM := Aside0.mk hbR; clear hoR hbR NP HBZ; have HBZ := HBM; clear HBM))
         all_goals
          go_roundg k3
          case measure => have := HK1.out; have := HK2.out; omega
          case rel => exact ⟨ys, wrap64 (x14 + 1), rfl, H', ⟨by have := HK1.out; have := HK2.out; omega⟩, ⟨Kd.N_lower NR.out HBw.out.size⟩, ⟨Kd.N_below NBz.out HBZ.out⟩, ⟨below_step HBw.out HBZ.out⟩⟩
        | some a5 =>
         obtain ⟨g5, hg5⟩ : ∃ g5 : Nat, a5 = ⟨g5, 0, none⟩ ∨ x5.length = 0 := by
          rcases Nat.eq_zero_or_pos x5.length with h0 | h0
          ·exact ⟨0, .inr h0⟩
          ·obtain ⟨g9, c9, e9, _⟩ := Kd.N_form NO.out h0; injection e9 with e9; injection e9 with e9; exact ⟨g9, .inl e9⟩
         clear hg5
         go_wp2_with (first | ((with_reducible refine gate_dst (N := 38) rfl ?_); refine Kd.N_lit (Kd.slice 3 (Kd.int .i64)) (w0 := wz) wz.heap.size 39 ?hg (N' := 38) ?hd (xs := ([] : List (List Int))) (inner := []) (ok := fun k => w.heap.size ≤ k) (okp := fun _ => False) ?hr ?hp (fun _ hk => hk.elim) ?hf (Below.refl _ _) (Nat.le_refl _) (by simp) ?_; (case hd => rfl); (case hg => rfl); (case hr => first | (go_simp; done) | (go_simp; rfl)); (case hp => exact (Reps.none _ _)); (case hf => exact HBw.out.size); intro vL wL hoL hbL hgL hnL; clear hgL hnL; have NL := Aside0.mk hoL; have HBZ := Aside0.mk hbL; clear hoL hbL) | ((with_reducible refine gate_builtin (b := .append) (xs := #[.tmp 38, .tmp 41]) rfl ?_); at_builtin; refine Kd.N_append_rows (Kd.slice 3 (Kd.int .i64)) (w0 := wz) wz.heap.size rfl (.tmp 38) (.tmp 41) 22 39 (.slice none 0 0) 24 rfl Try.underlying22 info39 rfl (by decide) (by omega) vL [] (x5.take q) _ q _ (fun k => w.heap.size ≤ k) (fun k => w.heap.size ≤ k ∧ k < wz.heap.size) rfl rfl ?aO ?aR ?aK ?aF ?aB ?aS ?aL ?_; (case aO => exact NL.out); (case aR => have h1 := Kd.F_take (Kd.F_below (Kd.F_bound (Kd.N_F NOz.out)) HBZ.out) HQ.out; rw [List.length_take, Nat.min_eq_left HQ.out] at h1; exact h1); (case aK => exact (fun k hk => ⟨hk.1, fun e => by have := Kd.N_base NL.out k e.symm; omega⟩)); (case aF => exact (fun k hk => by have := HBZ.out.size; have := HBw.out.size; omega)); (case aB => exact HBZ.out); (case aS => exact HBZ.out.size); (case aL => have := HX5.out; have := HQ.out; simp only [List.length_nil]; omega); intro vM wM hoM hbM hgM haM; clear hgM haM; rw [List.nil_append] at hoM; have NM := Aside0.mk hoM; have HBM := Aside0.mk hbM; clear hoM hbM NL HBZ; have HBZ := HBM; clear HBM) | ((with_reducible refine gate_builtin (b := .append) (xs := #[.tmp 42, .tmp 44]) rfl ?_); at_builtin; refine Kd.N_append (Kd.slice 3 (Kd.int .i64)) (w0 := wz) wz.heap.size rfl (.tmp 42) (.tmp 44) 22 39 (.slice none 0 0) 24 rfl Try.underlying22 info39 rfl (by decide) (by omega) vM (x5.take q) (rd_L1 ts x14) [.slice Ax (rd_L1 ts x14).length cx] (fun k => w.heap.size ≤ k) (fun k => w.heap.size ≤ k ∧ k < wz.heap.size) rfl rfl ?aP ?aK ?aF ?aO ?aB ?aS ?aL ?_; (case aO => exact NM.out); (case aP => exact Kd.FK_below FNz.out HBZ.out); (case aK => exact (fun k hk => ⟨hk.1, fun e => by have := Kd.N_base NM.out k e.symm; omega⟩)); (case aF => exact (fun k hk => by have := HBZ.out.size; have := HBw.out.size; omega)); (case aB => exact HBZ.out); (case aS => exact HBZ.out.size); (case aL => have := HX5.out; have := HQ.out; rw [List.length_take]; omega); intro vP wP hoP hbP hgP haP; clear hgP haP; have NP := Aside0.mk hoP; have HBM := Aside0.mk hbP; clear hoP hbP NM HBZ; have HBZ := HBM; clear HBM) | ((with_reducible refine gate_builtin (b := .append) (xs := #[.tmp 46, .tmp 49]) rfl ?_); at_builtin; refine Kd.N_append_rows (Kd.slice 3 (Kd.int .i64)) (w0 := wz) wz.heap.size rfl (.tmp 46) (.tmp 49) 22 39 (.slice none 0 0) 24 rfl Try.underlying22 info39 rfl (by decide) (by omega) vP (x5.take q ++ [rd_L1 ts x14]) (x5.drop q) _ _ _ (fun k => w.heap.size ≤ k) (fun k => w.heap.size ≤ k ∧ k < wz.heap.size) rfl rfl ?aO ?aR ?aK ?aF ?aB ?aS ?aL ?_; (case aO => exact NP.out); (case aR => have h1 := Kd.F_cut (m := q) (c := c5) (Kd.F_below (Kd.F_bound (Kd.N_F NOz.out)) HBZ.out) HQ.out (Kd.N_reads' NO.out).2.1; rw [List.length_drop] at h1; first | exact h1 | (simp only [Option.map_some, Nat.mul_one, show ((Kd.slice 3 (Kd.int .i64))).sz = 1 from rfl] at h1; first | exact h1 | (by_cases e9 : c5 = q <;> simp [e9] at h1 ⊢ <;> exact h1))); (case aK => exact (fun k hk => ⟨hk.1, fun e => by have := Kd.N_base NP.out k e.symm; omega⟩)); (case aF => exact (fun k hk => by have := HBZ.out.size; have := HBw.out.size; omega)); (case aB => exact HBZ.out); (case aS => exact HBZ.out.size); (case aL => have := HX5.out; have := HQ.out; simp only [List.length_append, List.length_take, List.length_singleton]; omega); intro vR wR hoR hbR hgR haR; clear hgR haR; rw [← NY.out] at hoR; have NR := Aside0.mk hoR; have HBM := Aside0.mk hbR; clear hoR hbR NP HBZ; have HBZ := HBM; clear HBM))
         all_goals
          go_roundg k3
          case measure => have := HK1.out; have := HK2.out; omega
          case rel => exact ⟨ys, wrap64 (x14 + 1), rfl, H', ⟨by have := HK1.out; have := HK2.out; omega⟩, ⟨Kd.N_lower NR.out HBw.out.size⟩, ⟨Kd.N_below NBz.out HBZ.out⟩, ⟨below_step HBw.out HBZ.out⟩⟩
   ·rw [if_neg c4] at H; have c4b0 : decide (x14 < (ts.length : Int)) = false := decide_eq_false c4; obtain rfl := Option.some.inj H; clear c4 H; go_wp2; go_ret; exact ⟨_, rfl, NO.out, HB.out⟩
/-! ### spec_l1Same: function 71 -/
def spec_l1Same.l0 : Nat → List Int → List Int → Int → Int → Option (Bool)
 | 0, _, _, _, _ => none
 | k + 1, x0, x1, x12, x13 => if x13 < x12 then (if 0 ≤ x13 then (if x13 < (x0.length : Int) then (if x13 < (x1.length : Int) then (if (rd x0 x13) = (rd x1 x13) then (spec_l1Same.l0 k x0 x1 x12 (wrap64 (x13 + 1))) else (some false)) else (none)) else (none)) else (none)) else (some true)
def spec_l1Same.f (k : Nat) (l0 : List Int) (l1 : List Int) : Option (Bool) := if (l0.length : Int) = (l1.length : Int) then (spec_l1Same.l0 k l0 l1 (l0.length : Int) 0) else (some false)
set_option maxHeartbeats 8000000 in
set_option maxRecDepth 100000 in
theorem spec_l1Same.calls (k : Nat) (A0 : Option Addr) (c0 : Nat) (l0 : List Int) (A1 : Option Addr) (c1 : Nat) (l1 : List Int) (r : Bool) (w : World) (hr0 : Kd.C (Kd.int .i64) w A0 l0.length l0) (hc0 : l0.length ≤ c0) (hr1 : Kd.C (Kd.int .i64) w A1 l1.length l1) (hc1 : l1.length ≤ c1) (h : spec_l1Same.f k l0 l1 = some r) :
  Calls Try.prog 71 #[.slice A0 l0.length c0, .slice A1 l1.length c1] w fun e w' => e = .returned (.bool r) ∧ Drawn0 w w' := by
 have HR0 := Aside0.mk hr0; have HC0 := Aside0.mk hc0; clear hr0 hc0; have HR1 := Aside0.mk hr1; have HC1 := Aside0.mk hc1; clear hr1 hc1; have H : (if (l0.length : Int) = (l1.length : Int) then (spec_l1Same.l0 k l0 l1 (l0.length : Int) 0) else (some false)) = some r := h; clear h
 by_cases c3 : (l0.length : Int) = (l1.length : Int)
 ·rw [if_pos c3] at H
  have c3b0 : ((l0.length : Int) == (l1.length : Int)) = true := beq_iff_eq.mpr c3; have c3b1 : ((l0.length : Int) != (l1.length : Int)) = false := bne_eq_false_iff_eq.mpr c3
  have c3b2 : (l0.length == l1.length) = true := by first | simpa using c3 | (simp at c3 ⊢; omega)
  clear c3; have H' := Aside0.mk H; clear H; go_enter Try.func71, Try.ntmps71; go_wp2
  repeat (go_quiet (fail); try go_wp2)
  go_loopg [13] k (fun kq v13 w' => ∃ (x13_1 : Int), v13 = .int .i64 x13_1 ∧ Aside0 (spec_l1Same.l0 kq l0 l1 (l0.length : Int) x13_1 = some r) ∧ Aside0 (kq ≤ k) ∧ Drawn0 w w')
  case atStart => exact ⟨(0), (by first | rfl | (simp; done) | (simp [*]; done)), H', ⟨Nat.le_refl _⟩, by repeat (first | exact Drawn0.refl _ | apply Drawn0.step)⟩
  case round =>
   clear H'
   try clear c1
   try clear p2
   try clear c3
   try clear c3b0
   try clear c3b1
   try clear c3b2
   obtain ⟨x13_1, rfl, HA, HK1, ⟨m1, rfl⟩⟩ := hrel
   cases gk with
   | zero => exact absurd HA.out (by simp [spec_l1Same.l0])
   | succ k1 =>
    have H := HA.out; clear HA; simp only [spec_l1Same.l0] at H
    by_cases c4 : x13_1 < (l0.length : Int)
    ·rw [if_pos c4] at H
     have c4b0 : decide (x13_1 < (l0.length : Int)) = true := decide_eq_true c4; clear c4
     by_cases c5 : 0 ≤ x13_1
     ·rw [if_pos c5] at H
      have c5b0 : decide (0 ≤ x13_1) = true := decide_eq_true c5; clear c5
      by_cases c6 : x13_1 < (l0.length : Int)
      ·rw [if_pos c6] at H
       have c6b0 : decide (x13_1 < (l0.length : Int)) = true := decide_eq_true c6; clear c6
       by_cases c7 : x13_1 < (l1.length : Int)
       ·rw [if_pos c7] at H
        have c7b0 : decide (x13_1 < (l1.length : Int)) = true := decide_eq_true c7; clear c7
        by_cases c8 : (rd l0 x13_1) = (rd l1 x13_1)
        ·rw [if_pos c8] at H
         have c8b0 : ((rd l0 x13_1) == (rd l1 x13_1)) = true := beq_iff_eq.mpr c8; have c8b1 : ((rd l0 x13_1) != (rd l1 x13_1)) = false := bne_eq_false_iff_eq.mpr c8; clear c8; have H' := Aside0.mk H; clear H; have p259 : 0 ≤ (x13_1 : Int) := of_decide_eq_true (by first | (with_reducible assumption) | assumption); have q259 : x13_1 < (l0.length : Int) := of_decide_eq_true (by first | (with_reducible assumption) | assumption); obtain ⟨ad259, e259, hx259_0⟩ := Kd.at_int HR0.out x13_1 p259 q259
         cases e259
         replace p259 := eq_true p259; replace q259 := eq_true q259; have p260 : 0 ≤ (x13_1 : Int) := of_decide_eq_true (by first | (with_reducible assumption) | assumption); have q260 : x13_1 < (l1.length : Int) := of_decide_eq_true (by first | (with_reducible assumption) | assumption); obtain ⟨ad260, e260, hx260_0⟩ := Kd.at_int HR1.out x13_1 p260 q260
         cases e260
         replace p260 := eq_true p260; replace q260 := eq_true q260; go_wp2
         repeat (go_quiet (fail); try go_wp2)
         go_roundg k1
         case measure => have := HK1.out; omega
         case rel => exact ⟨(wrap64 (x13_1 + 1)), (by first | rfl | (simp; done) | (simp [*]; done)), H', ⟨by have := HK1.out; omega⟩, by repeat (first | exact Drawn0.refl _ | apply Drawn0.step)⟩
        ·rw [if_neg c8] at H
         have c8b0 : ((rd l0 x13_1) == (rd l1 x13_1)) = false := beq_eq_false_iff_ne.mpr c8; have c8b1 : ((rd l0 x13_1) != (rd l1 x13_1)) = true := bne_iff_ne.mpr c8; obtain rfl := Option.some.inj H; have p259 : 0 ≤ (x13_1 : Int) := of_decide_eq_true (by first | (with_reducible assumption) | assumption); have q259 : x13_1 < (l0.length : Int) := of_decide_eq_true (by first | (with_reducible assumption) | assumption); obtain ⟨ad259, e259, hx259_0⟩ := Kd.at_int HR0.out x13_1 p259 q259
         cases e259
         replace p259 := eq_true p259; replace q259 := eq_true q259; have p260 : 0 ≤ (x13_1 : Int) := of_decide_eq_true (by first | (with_reducible assumption) | assumption); have q260 : x13_1 < (l1.length : Int) := of_decide_eq_true (by first | (with_reducible assumption) | assumption); obtain ⟨ad260, e260, hx260_0⟩ := Kd.at_int HR1.out x13_1 p260 q260
         cases e260
         replace p260 := eq_true p260; replace q260 := eq_true q260; go_wp2
         repeat (go_quiet (fail); try go_wp2)
         go_ret; exact ⟨by first | rfl | (simp; done) | (simp [*]; done), by repeat (first | exact Drawn0.refl _ | apply Drawn0.step)⟩
       ·rw [if_neg c7] at H; exact absurd H (by simp)
      ·rw [if_neg c6] at H; exact absurd H (by simp)
     ·rw [if_neg c5] at H; exact absurd H (by simp)
    ·rw [if_neg c4] at H
     have c4b0 : decide (x13_1 < (l0.length : Int)) = false := decide_eq_false c4; clear c4; obtain rfl := Option.some.inj H; go_wp2
     repeat (go_quiet (fail); try go_wp2)
     go_ret; exact ⟨by first | rfl | (simp; done) | (simp [*]; done), by repeat (first | exact Drawn0.refl _ | apply Drawn0.step)⟩
 ·rw [if_neg c3] at H
  have c3b0 : ((l0.length : Int) == (l1.length : Int)) = false := beq_eq_false_iff_ne.mpr c3; have c3b1 : ((l0.length : Int) != (l1.length : Int)) = true := bne_iff_ne.mpr c3
  have c3b2 : (l0.length == l1.length) = false := by first | simpa using c3 | (simp at c3 ⊢; omega)
  obtain rfl := Option.some.inj H; go_enter Try.func71, Try.ntmps71; go_wp2
  repeat (go_quiet (fail); try go_wp2)
  go_ret; exact ⟨by first | rfl | (simp; done) | (simp [*]; done), by repeat (first | exact Drawn0.refl _ | apply Drawn0.step)⟩
end Go.Proofs.Ytadepmjfhcmkoaa.P
