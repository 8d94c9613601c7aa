-- By gp.py (this session's own driver over the kit's print). Not trusted: Lean checks it.
import Derived.Test.YtbfgcpjkagbmdaaF0
import Derived.Test.YtbfgcpjkagbmdaaB
import Derived.Test.YtbfgcpjkagbmdaaTable
import Derived.Test.YtbfgcpjkagbmdaaFLawsToIntS
namespace Go.Proofs.Ytbfgcpjkagbmdaa.P
open Go.Proofs.Ytbfgcpjkagbmdaa.B
open Go.RowKit Go.Proofs.YtbfgcpjkagbmdaaW.PrintWords Go.Proofs.YtbfgcpjkagbmdaaW.PrintLast Go.Proofs.YtbfgcpjkagbmdaaW.PrintMore
attribute [local go_sem] max2_int min2_int max_two min_two max_three min_three max_four min_four   -- for this text's walks alone
set_option linter.unusedVariables false
set_option linter.unusedSimpArgs false

/-! ### laws_toIntSS: function 40 (given) -/
/-- A copy. -/
def laws_toIntSS.f (l0 : List (List Int)) : Option (List (List Int)) := if l0.length ≤ 1048576 ∧ ∀ x ∈ l0, x.length ≤ 1048576 then some l0 else none
theorem laws_toIntS.ev (l : List Int) (hl : l.length ≤ 1048576) : ∃ k, laws_toIntS.f k l = some l := by
  suffices h : ∀ (d i : Nat), l.length = i + d → laws_toIntS.l0 (d + 1) l (l.take i ++ List.replicate d 0) (i : Int) = some l by
    refine ⟨l.length + 1, ?_⟩
    unfold laws_toIntS.f
    rw [if_pos (by omega), if_pos (by omega), Int.toNat_natCast]
    have h0 := h l.length 0 (by omega)
    simpa using h0
  intro d
  induction d with
  | zero =>
    intro i hi
    simp only [laws_toIntS.l0]
    rw [if_neg (by omega), List.take_of_length_le (by omega)]
    simp
  | succ d ih =>
    intro i hi
    rw [laws_toIntS.l0]
    rw [if_pos (by omega), if_pos (by omega), if_pos (by simp; omega)]
    have hw : wrap64 ((i : Int) + 1) = ((i + 1 : Nat) : Int) := by unfold wrap64; omega
    rw [hw, Int.toNat_natCast, rd_get l i (by omega)]
    have e : (l.take i ++ List.replicate (d + 1) 0).set i (l[i]'(by omega)) = l.take (i + 1) ++ List.replicate d 0 := by
      rw [List.set_append_right _ _ (by simp; omega), List.length_take, Nat.min_eq_left (by omega), Nat.sub_self, List.replicate_succ, List.set_cons_zero, List.take_succ_eq_append_getElem (by omega), List.append_assoc]
      rfl
    rw [e]
    exact ih (i + 1) (by omega)
set_option maxHeartbeats 8000000 in
set_option maxRecDepth 100000 in
theorem laws_toIntSS.calls (A0 : Option Addr) (c0 : Nat) (l0 : List (List Int)) (r : List (List Int)) (w : World) (hr0 : Kd.C (Kd.slice 3 (Kd.int .i64)) w A0 l0.length l0) (hc0 : l0.length ≤ c0) (h : laws_toIntSS.f l0 = some r) :
    Calls Try.prog 40 #[.slice A0 l0.length c0] w fun e w' => ∃ v0_ : Value, e = .returned (v0_) ∧ Kd.S (Kd.slice 3 (Kd.int .i64)) 26 w' w.heap.size (fun _ => True) v0_ r ∧ Below w.heap.size w w' := by
  unfold laws_toIntSS.f at h
  by_cases hc : l0.length ≤ 1048576 ∧ ∀ x ∈ l0, x.length ≤ 1048576
  · rw [if_pos hc] at h
    obtain rfl := Option.some.inj h
    clear h
    obtain ⟨hl, hsz⟩ := hc
    have HSZ := Aside0.mk hsz
    have HR0 := Aside0.mk hr0
    have HB := Aside0.mk (Below.refl w.heap.size w)
    clear hsz hr0 hc0
    obtain ⟨i2, hi2, hz2, hs2, hb2⟩ := info_parts info_row
    have Hi2 := Aside0.mk (And.intro hi2 (And.intro hz2 (And.intro hs2 hb2)))
    clear hi2 hz2 hs2 hb2
    go_enter Try.func40, Try.ntmps40
    go_wp2_with (at_make; refine wpList_make_full _ rfl _ _ 30 rfl w.heap.size 26 i2 (.slice none 0 0) 1 Try.underlying30 Hi2.out.1 Hi2.out.2.1 Hi2.out.2.2.1 .i64 .i64 l0.length l0.length l0.length rfl rfl rfl rfl ?c1 ?c2 (Nat.le_refl _) ?_; (case c1 => rw [Hi2.out.2.2.2]; omega); (case c2 => unfold maxLen; omega); intro w1 hown1 hg1; rw [made_nil] at hown1; have HB1 := Aside0.mk (Below.grown HB.out hg1 (Nat.le_refl _) (fun k hk => by cases hk)); have HT1 := Aside0.mk (Tab.made (e1 := 3) hown1); clear hown1 hg1)
    go_loopg [4] (l0.length + 1) (fun kq v4 w' => ∃ (i : Nat) (vs : List Value), v4 = .int .i64 i ∧ Aside0 (i ≤ l0.length ∧ kq = l0.length + 1 - i ∧ vs.length = i) ∧ Aside0 (Tab 26 3 w' w.heap.size (.slice (some ⟨w.heap.size, 0, none⟩) l0.length l0.length) l0.length vs (l0.take i)) ∧ Aside0 (Below w.heap.size w w'))
    case atStart => exact ⟨0, [], rfl, ⟨⟨by omega, by omega, rfl⟩⟩, HT1, HB1⟩
    case round =>
      obtain ⟨i, vs, rfl, HA, HT, HB2⟩ := hrel
      clear HT1 HB1 HB
      by_cases hin : i < l0.length
      · have c4b0 : decide (i < l0.length) = true := decide_eq_true hin
        have hi0 : (0 : Int) ≤ (i : Int) := Int.natCast_nonneg _
        obtain ⟨ad, A1, c1, e1, hx0, hc1, hr1⟩ := at_row (Kd.C_below HR0.out HB2.out) i hin
        cases e1
        have hlx : (l0.getD i []).length ≤ 1048576 := HSZ.out _ (by rw [List.getD_eq_getElem?_getD, List.getElem?_eq_getElem hin]; exact List.getElem_mem _)
        obtain ⟨k, hk⟩ := laws_toIntS.ev (l0.getD i []) hlx
        have hgd : l0.getD i [] = l0[i] := by rw [List.getD_eq_getElem?_getD, List.getElem?_eq_getElem hin]; rfl
        obtain ⟨x, hx⟩ : ∃ x, x = l0.getD i [] := ⟨_, rfl⟩
        rw [← hx] at hx0 hc1 hr1 hk hgd
        have HX := Aside0.mk hgd
        have HK := Aside0.mk hk
        have HR1 := Aside0.mk hr1
        clear hx hlx hk hr1 hgd
        go_wp2_with (first | (go_at_call 18; (with_reducible refine (laws_toIntS.calls k A1 c1 x x _ ?hr hc1 HK.out).mono ?_); (case hr => exact HR1.out); rintro e w3 ⟨v3, rfl, hR3, hb3⟩; have HO3 := Aside0.mk (own_of_R (Kd.R_lower hR3 HB2.out.size)); have HF3 := Aside0.mk (Kd.R_base hR3); have HB3 := Aside0.mk (below_step HB2.out hb3); have HT3 := Aside0.mk (HT.out.move hb3); have hx3 : w3.cell? ⟨w.heap.size, i, none⟩ = some (.slice none 0 0) := ((HT3.out.own.cellAt i (by have := HA.out; omega)).trans (by have := HA.out; rw [List.getElem?_append_right (by omega), List.getElem?_replicate_of_lt (by omega)])); have hf3 := HT3.out.own.frozenAt i; obtain ⟨A3, c3, hv3⟩ := own_slice HO3.out; subst hv3; clear hR3 hb3))
        have HT4 := Aside0.mk (HT3.out.push (by decide) (by have := HA.out; omega) (u := .slice A3 x.length c3) (x := x) HO3.out (by
          intro u' hu' k hk hk2
          obtain ⟨q, hq, rfl⟩ := List.mem_iff_getElem.1 hu'
          obtain ⟨y, hy⟩ := HT.out.get (List.getElem?_eq_getElem hq)
          have h1 := own_lt (HT.out.row q _ y (List.getElem?_eq_getElem hq) hy) k hk2
          have h2 := HF3.out k hk
          omega))
        rw [HA.out.2.2] at HT4
        go_roundg (gk - 1)
        case measure => have := HA.out; omega
        case rel => exact ⟨i + 1, vs ++ [.slice A3 x.length c3], by go_num, ⟨⟨by omega, by have := HA.out; omega, by simp [HA.out.2.2]⟩⟩, ⟨by rw [List.take_succ_eq_append_getElem hin, ← HX.out]; exact HT4.out⟩, ⟨Below.setCell HB3.out (p := ⟨w.heap.size, i, none⟩) (Nat.le_refl _) _⟩⟩
      · have c4b0 : decide (i < l0.length) = false := decide_eq_false hin
        obtain rfl : i = l0.length := by have := HA.out; omega
        go_wp2
        go_ret
        exact ⟨_, rfl, by have h := HT.out.S (by decide) HA.out.2.2; rwa [List.take_length] at h, HB2.out⟩
  · rw [if_neg hc] at h
    cases h

end Go.Proofs.Ytbfgcpjkagbmdaa.P
