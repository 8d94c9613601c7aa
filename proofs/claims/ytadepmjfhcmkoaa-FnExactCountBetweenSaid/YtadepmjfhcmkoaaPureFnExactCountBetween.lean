/- FnExactCountBetween returns true for every two tables: program and reference count the same sign matrices between two. No conditions. -/
import Derived.Test.YtadepmjfhcmkoaaFLawsFnExactCountBetween
import Derived.Test.YtadepmjfhcmkoaaQDist
import Derived.Test.YtadepmjfhcmkoaaQSign
import Derived.KernelRfl
namespace Go.Proofs.Ytadepmjfhcmkoaa.Pure
open Go.Proofs.Ytadepmjfhcmkoaa.B Go.Proofs.Ytadepmjfhcmkoaa.P
open Go.RowKit Go.Proofs.YtadepmjfhcmkoaaW.PrintWords Go.Proofs.YtadepmjfhcmkoaaW.PrintLast Go.Proofs.YtadepmjfhcmkoaaW.PrintMore
set_option linter.unusedVariables false
set_option linter.unusedSimpArgs false
set_option maxRecDepth 100000
/-- All of the tables are sign matrices of the side n, to the program's own test. -/
def goodB (n : Nat) : Bool := (esAll n).all fun M => decide (M.length = n) && match impl_IsSignMatrix.f 200 M with | some b => b | none => false
theorem allB_1 : goodB 1 = true ∧ spec_trAll.f 300 [] [] 1 = some (esAll 1) := ⟨by kernel_rfl, by kernel_rfl⟩
theorem allB_2 : goodB 2 = true ∧ spec_trAll.f 300 [] [] 2 = some (esAll 2) := ⟨by kernel_rfl, by kernel_rfl⟩
theorem allB_3 : goodB 3 = true ∧ spec_trAll.f 300 [] [] 3 = some (esAll 3) := ⟨by kernel_rfl, by kernel_rfl⟩
theorem allB_4 : goodB 4 = true ∧ spec_trAll.f 300 [] [] 4 = some (esAll 4) := ⟨by kernel_rfl, by kernel_rfl⟩
theorem allB_all {n : Nat} (h1 : 1 ≤ n) (h4 : n ≤ 4) : goodB n = true ∧ spec_trAll.f 300 [] [] (n : Int) = some (esAll n) := by
  have h5 : n = 1 ∨ n = 2 ∨ n = 3 ∨ n = 4 := by omega
  rcases h5 with rfl | rfl | rfl | rfl
  · exact allB_1
  · exact allB_2
  · exact allB_3
  · exact allB_4
theorem all_good {n : Nat} (h1 : 1 ≤ n) (h4 : n ≤ 4) {M : List (List Int)} (hM : M ∈ esAll n) : M.length = n ∧ Good M := by
  have h := List.all_eq_true.mp (allB_all h1 h4).1 M hM
  simp only [Bool.and_eq_true, decide_eq_true_eq] at h
  obtain ⟨hl, h⟩ := h
  refine ⟨hl, ?_⟩
  cases e : impl_IsSignMatrix.f 200 M with
  | none => rw [e] at h; cases h
  | some b =>
    rw [e] at h
    have hb : b = true := h
    rw [hb] at e
    obtain ⟨b2, hb2, h2⟩ := ev_IsSignMatrix M (by omega)
    obtain ⟨K1, k1⟩ := h2
    obtain ⟨K2, k2⟩ := Ev.of (fun k => impl_IsSignMatrix.mono M k) e
    have e1 := k1 (max K1 K2) (by omega)
    have e2 := k2 (max K1 K2) (by omega)
    rw [e1] at e2
    exact hb2.mp (Option.some.inj e2)
theorem all_fuelB {α β : Type} (f : Nat → α → Option β) (g : α → β) : ∀ L : List α, (∀ x ∈ L, Ev (fun k => f k x) (g x)) → ∃ K, ∀ k, K ≤ k → ∀ x ∈ L, f k x = some (g x) := by
  intro L
  induction L with
  | nil => intro _; exact ⟨0, fun k _ x hx => by simp at hx⟩
  | cons y L ih =>
    intro h
    obtain ⟨K1, h1⟩ := ih (fun x hx => h x (List.mem_cons_of_mem _ hx))
    obtain ⟨K2, h2⟩ := h y List.mem_cons_self
    refine ⟨max K1 K2, fun k hk x hx => ?_⟩
    rcases List.mem_cons.mp hx with e | hx
    · rw [e]; exact h2 k (by omega)
    · exact h1 k (by omega) x hx
/-- Whether a is below b. -/
noncomputable def belB (n : Nat) (a b : List (List Int)) : Bool := @decide (BelowT (htT a) (htT b) (n + 1)) (Classical.propDecidable _)
theorem EvB.bel {n : Nat} {a b : List (List Int)} {f : Nat → Option Bool} (h : EvB f (BelowT (htT a) (htT b) (n + 1))) : Ev f (belB n a b) := by
  obtain ⟨x, hx, h2⟩ := h
  have e : belB n a b = x := by
    unfold belB
    cases x with
    | true => exact @decide_eq_true _ (Classical.propDecidable _) (hx.mp rfl)
    | false => exact @decide_eq_false _ (Classical.propDecidable _) (fun h => absurd (hx.mpr h) (by decide))
  rw [e]
  exact h2
theorem bel_spec {n : Nat} {a b : List (List Int)} (ga : Good a) (gb : Good b) (ha : a.length = n) (hb : b.length = n) : Ev (fun k => spec_heBelow.f k (htT a) (htT b)) (belB n a b) := by
  have s1 := small_ht ga
  have s2 := small_ht gb
  have h6 := ga.1.2.1
  rw [ha] at s1
  rw [hb] at s2
  exact EvB.bel (ev_heBelow _ _ _ (by omega) s1 s2)
theorem bel_impl {n : Nat} {a b : List (List Int)} (ga : Good a) (gb : Good b) (ha : a.length = n) (hb : b.length = n) : Ev (fun k => impl_isBelow.f k a b) (belB n a b) := by
  have s1 := small_ht ga
  have s2 := small_ht gb
  have h6 := ga.1.2.1
  rw [ha] at s1
  rw [hb] at s2
  unfold impl_isBelow.f
  exact Ev.bind (ev_heights a ga.1) (Ev.bind (ev_heights b gb.1) (EvB.bel (ev_isBelow _ _ _ (by omega) s1 s2)))
theorem spec_between {n : Nat} {m k : List (List Int)} (gm : Good m) (gk : Good k) (hm : m.length = n) (hk : k.length = n) (L : List (List (List Int))) (hL : L.length ≤ 1000000) (hg : ∀ M ∈ L, M.length = n ∧ Good M) :
    ∀ (d i : Nat), i + d = L.length → ∀ c : Nat, c = ((L.take i).filter fun M => belB n m M && belB n M k).length → Ev (fun q => spec_CountBetween.l0 q (htT m) (htT k) (c : Int) L (L.length : Int) (i : Int)) (((L.filter fun M => belB n m M && belB n M k).length : Int), true) := by
  intro d
  induction d with
  | zero =>
    intro i hi c hc
    refine Ev.succ ?_
    simp only [spec_CountBetween.l0]
    refine Ev.neg (by omega) ?_
    rw [List.take_of_length_le (by omega)] at hc
    rw [hc]
    exact Ev.now _
  | succ d ih =>
    intro i hi c hc
    have hin : i < L.length := by omega
    have hMi : rd_L2 L (i : Int) = L[i] := by
      unfold rd_L2
      rw [Int.toNat_natCast, List.getD_eq_getElem?_getD, List.getElem?_eq_getElem hin]
      rfl
    have hM := hg L[i] (List.getElem_mem hin)
    have hcl : c ≤ i := by
      rw [hc]
      have h1 := List.length_filter_le (fun M => belB n m M && belB n M k) (L.take i)
      rw [List.length_take] at h1
      omega
    have hst : ((L.take (i + 1)).filter fun M => belB n m M && belB n M k).length = c + if (belB n m L[i] && belB n L[i] k) = true then 1 else 0 := by
      rw [List.take_succ_eq_append_getElem hin, List.filter_append, List.length_append, ← hc]
      by_cases h : (belB n m L[i] && belB n L[i] k) = true <;> simp [h]
    refine Ev.succ ?_
    simp only [spec_CountBetween.l0]
    refine Ev.pos (by omega) (Ev.pos (by omega) (Ev.pos (by omega) ?_))
    rw [hMi, wrapE ((i : Int) + 1) (by omega) (by omega), wrapE ((c : Int) + 1) (by omega) (by omega)]
    have e1 : (i : Int) + 1 = ((i + 1 : Nat) : Int) := by omega
    have e2 : (c : Int) + 1 = ((c + 1 : Nat) : Int) := by omega
    rw [e1, e2]
    have b1 := bel_spec gm hM.2 hm hM.1
    have b2 := bel_spec hM.2 gk hM.1 hk
    refine Ev.bind (ev_heOf L[i] hM.2.1) (Ev.bind b1 ?_)
    cases c1 : belB n m L[i] with
    | false =>
      rw [c1] at hst
      exact Ev.neg (by decide) (ih (i + 1) (by omega) c (by simpa using hst.symm))
    | true =>
      refine Ev.pos rfl (Ev.bind b2 ?_)
      rw [c1] at hst
      cases c2 : belB n L[i] k with
      | false =>
        rw [c2] at hst
        exact Ev.neg (by decide) (ih (i + 1) (by omega) c (by simpa using hst.symm))
      | true =>
        rw [c2] at hst
        exact Ev.pos rfl (ih (i + 1) (by omega) (c + 1) (by simpa using hst.symm))
theorem FnExactCountBetween : laws_FnExactCountBetween.Pure := by
  intro m k hm _ _ hk _ _
  obtain ⟨b, hb, e1, e2⟩ := pair_both m k hm hk
  cases b with
  | false =>
    refine ⟨0, false, ?_, ?_⟩
    · refine Ev.rounds ?_
      unfold spec_CountBetween.f
      refine Ev.bind e1 (Ev.neg (by decide) ?_)
      refine Ev.succ ?_
      simp only [spec_CountBetween.j0]
      exact Ev.pos trivial (Ev.now _)
    · refine Ev.rounds ?_
      unfold impl_CountBetween.f
      exact Ev.bind e2 (Ev.neg (fun h => absurd h.1 (by decide)) (Ev.now _))
  | true =>
    obtain ⟨g1, g2, hl⟩ := hb.mp rfl
    by_cases h4 : m.length ≤ 4
    case neg =>
      refine ⟨0, false, ?_, ?_⟩
      · refine Ev.rounds ?_
        unfold spec_CountBetween.f
        refine Ev.bind e1 (Ev.pos rfl ?_)
        refine Ev.succ ?_
        simp only [spec_CountBetween.j0]
        exact Ev.pos (decide_eq_true (by omega)) (Ev.now _)
      · refine Ev.rounds ?_
        unfold impl_CountBetween.f
        exact Ev.bind e2 (Ev.neg (fun h => h4 h.2) (Ev.now _))
    have h1 := g1.1.1
    obtain ⟨n, hn⟩ : ∃ n, n = m.length := ⟨_, rfl⟩
    rw [← hn] at hl h4 h1
    have hlen : (esAll n).length ≤ 1000000 := (cp_all h1 h4).1
    refine ⟨(((esAll n).filter fun M => belB n m M && belB n M k).length : Int), true, ?_, ?_⟩
    · refine Ev.rounds ?_
      unfold spec_CountBetween.f
      refine Ev.bind e1 (Ev.pos rfl ?_)
      refine Ev.succ ?_
      simp only [spec_CountBetween.j0]
      rw [← hn]
      refine Ev.neg (by simp; omega) (Ev.bind (ev_heOf m g1.1) (Ev.bind (ev_heOf k g2.1) (Ev.bind (Ev.of (fun q => spec_trAll.mono _ _ _ q) (allB_all h1 h4).2) ?_)))
      exact spec_between g1 g2 hn.symm hl.symm (esAll n) hlen (fun M hM => all_good h1 h4 hM) (esAll n).length 0 (by omega) 0 (by simp)
    · obtain ⟨K1, k1⟩ := all_fuelB (fun q M => impl_isBelow.f q m M) (fun M => belB n m M) (esAll n) (fun M hM => bel_impl g1 (all_good h1 h4 hM).2 hn.symm (all_good h1 h4 hM).1)
      obtain ⟨K2, k2⟩ := all_fuelB (fun q M => impl_isBelow.f q M k) (fun M => belB n M k) (esAll n) (fun M hM => bel_impl (all_good h1 h4 hM).2 g2 (all_good h1 h4 hM).1 hl.symm)
      obtain ⟨K3, k3⟩ := e2
      refine ⟨max K1 (max K2 K3), ?_⟩
      have a1 := k1 (max K1 (max K2 K3)) (by omega)
      have a2 := k2 (max K1 (max K2 K3)) (by omega)
      have a3 := k3 (max K1 (max K2 K3)) (by omega)
      generalize max K1 (max K2 K3) = q at a1 a2 a3
      unfold impl_CountBetween.f
      change impl_arePair.f q m k = some true at a3
      rw [a3, Option.bind_some, ← hn, if_pos ⟨rfl, h4⟩]
      have hok : betOk q m k := fun M hM => by
        rw [← hn] at hM
        rw [a1 M hM, a2 M hM]
        exact ⟨rfl, rfl⟩
      rw [if_pos ⟨h1, hok⟩]
      have hf : (esAll n).filter (accB q m k) = (esAll n).filter fun M => belB n m M && belB n M k := by
        refine List.filter_congr (fun M hM => ?_)
        unfold accB
        rw [a1 M hM, a2 M hM]
        rfl
      rw [hf]
end Go.Proofs.Ytadepmjfhcmkoaa.Pure
