/- A text cut at its slashes: what strings.Split and the reference's own split hand back; the text put together again. -/
import Derived.Test.YthjiajkmaimbjaaDoorFStringsSplit
import Derived.Test.YthjiajkmaimbjaaDoorFSpecL1Split
import Derived.Test.YthjiajkmaimbjaaDoorQIn
namespace Go.Proofs.YthjiajkmaimbjaaDoor.Pure
open Go.Proofs.YthjiajkmaimbjaaDoor.B Go.Proofs.YthjiajkmaimbjaaDoor.P
open Go.RowKit Go.Proofs.YthjiajkmaimbjaaDoorW.PrintWords Go.Proofs.YthjiajkmaimbjaaDoorW.PrintLast Go.Proofs.YthjiajkmaimbjaaDoorW.PrintMore
set_option linter.unusedVariables false
set_option linter.unusedSimpArgs false
def pieces : List UInt8 → List (List UInt8)
  | [] => [[]]
  | b :: l => if b = 47 then [] :: pieces l else match pieces l with | [] => [[b]] | x :: r => (b :: x) :: r
theorem pieces_ne (l : List UInt8) : pieces l ≠ [] := by
  cases l with
  | nil => simp [pieces]
  | cons b l =>
    unfold pieces
    split
    · simp
    · split <;> simp
theorem pieces_no : ∀ p : List UInt8, (47 : UInt8) ∉ p → pieces p = [p]
  | [], _ => rfl
  | b :: l, h => by
    have hb : ¬ b = 47 := fun e => h (by simp [e])
    have hl : (47 : UInt8) ∉ l := fun e => h (List.mem_cons_of_mem _ e)
    unfold pieces
    rw [if_neg hb, pieces_no l hl]
theorem pieces_hit : ∀ p q : List UInt8, (47 : UInt8) ∉ p → pieces (p ++ 47 :: q) = p :: pieces q
  | [], q, _ => by
    show pieces (47 :: q) = _
    conv => lhs; unfold pieces
    rw [if_pos rfl]
  | b :: l, q, h => by
    have hb : ¬ b = 47 := fun e => h (by simp [e])
    have hl : (47 : UInt8) ∉ l := fun e => h (List.mem_cons_of_mem _ e)
    rw [List.cons_append]
    conv => lhs; unfold pieces
    rw [if_neg hb, pieces_hit l q hl]
theorem pieces_all {P : List UInt8 → Prop} : ∀ (n : Nat) (l : List UInt8), l.length ≤ n → (∀ p, (47 : UInt8) ∉ p → P p) → ∀ x ∈ pieces l, P x
  | n, l, hn, hP => by
    intro x hx
    by_cases h : (47 : UInt8) ∈ l
    · obtain ⟨p, q, rfl, hp⟩ := List.append_of_mem h |>.elim fun p hp => hp.elim fun q hq => by
        exact List.eq_append_cons_of_mem h
      rw [pieces_hit p q hp] at hx
      rcases List.mem_cons.mp hx with rfl | hx
      · exact hP _ hp
      · match n, hn with
        | 0, hn => simp at hn
        | n + 1, hn => exact pieces_all n q (by simp at hn; omega) hP x hx
    · rw [pieces_no l h] at hx
      rw [List.mem_singleton.mp hx]
      exact hP _ h
theorem cut_at (l : List UInt8) : (47 : UInt8) ∉ l ∨ ∃ p q, l = p ++ 47 :: q ∧ (47 : UInt8) ∉ p := by
  by_cases h : (47 : UInt8) ∈ l
  · exact Or.inr (List.eq_append_cons_of_mem h)
  · exact Or.inl h
theorem pieces_no47 (l : List UInt8) : ∀ x ∈ pieces l, (47 : UInt8) ∉ x := pieces_all l.length l (Nat.le_refl _) fun _ h => h
theorem pieces_mem : ∀ (n : Nat) (l : List UInt8), l.length ≤ n → ∀ x ∈ pieces l, ∀ b ∈ x, b ∈ l := by
  intro n
  induction n with
  | zero =>
    intro l hl x hx b hb
    obtain rfl : l = [] := List.length_eq_zero_iff.mp (by omega)
    simp [pieces] at hx
    subst hx
    exact hb
  | succ n ih =>
    intro l hl x hx b hb
    rcases cut_at l with h | ⟨p, q, rfl, h⟩
    · rw [pieces_no l h] at hx
      rw [List.mem_singleton.mp hx] at hb
      exact hb
    · rw [pieces_hit p q h] at hx
      rcases List.mem_cons.mp hx with rfl | hx
      · exact List.mem_append_left _ hb
      · exact List.mem_append_right _ (List.mem_cons_of_mem _ (ih q (by simp at hl; omega) x hx b hb))
theorem pieces_len : ∀ (n : Nat) (l : List UInt8), l.length ≤ n → (pieces l).length ≤ l.length + 1 ∧ ∀ x ∈ pieces l, x.length ≤ l.length := by
  intro n
  induction n with
  | zero =>
    intro l hl
    obtain rfl : l = [] := List.length_eq_zero_iff.mp (by omega)
    simp [pieces]
  | succ n ih =>
    intro l hl
    rcases cut_at l with h | ⟨p, q, rfl, h⟩
    · rw [pieces_no l h]
      simp
    · rw [pieces_hit p q h]
      have h1 := ih q (by simp at hl; omega)
      refine ⟨by simp; omega, fun x hx => ?_⟩
      rcases List.mem_cons.mp hx with rfl | hx
      · simp
      · have := h1.2 x hx
        simp
        omega
/-- The pieces with slashes between. -/
def glue : List (List UInt8) → List UInt8
  | [] => []
  | [x] => x
  | x :: y :: r => x ++ 47 :: glue (y :: r)
theorem glue_cons (x : List UInt8) (r : List (List UInt8)) (h : r ≠ []) : glue (x :: r) = x ++ 47 :: glue r := by
  cases r with
  | nil => exact absurd rfl h
  | cons y r => rfl
theorem glue_snoc (y : List UInt8) : ∀ xs : List (List UInt8), glue (xs ++ [y]) = glue xs ++ (if xs = [] then [] else [47]) ++ y
  | [] => by simp [glue]
  | x :: r => by
    rw [List.cons_append, glue_cons x _ (by simp), glue_snoc y r]
    by_cases h : r = []
    · subst h; simp [glue]
    · rw [glue_cons x r h]
      simp [h]
theorem glue_pieces : ∀ (n : Nat) (l : List UInt8), l.length ≤ n → glue (pieces l) = l := by
  intro n
  induction n with
  | zero =>
    intro l hl
    obtain rfl : l = [] := List.length_eq_zero_iff.mp (by omega)
    simp [pieces, glue]
  | succ n ih =>
    intro l hl
    rcases cut_at l with h | ⟨p, q, rfl, h⟩
    · rw [pieces_no l h]
      rfl
    · rw [pieces_hit p q h, glue_cons _ _ (pieces_ne q), ih q (by simp at hl; omega)]
theorem index_no : ∀ p : List UInt8, (47 : UInt8) ∉ p → Lib.index p [47] = -1
  | [], _ => rfl
  | b :: l, h => by
    have hb : ¬ (47 : UInt8) = b := fun e => h (by simp [e])
    have hl : (47 : UInt8) ∉ l := fun e => h (List.mem_cons_of_mem _ e)
    unfold Lib.index
    rw [index_no l hl]
    simp [hb]
theorem index_hit : ∀ p q : List UInt8, (47 : UInt8) ∉ p → Lib.index (p ++ 47 :: q) [47] = (p.length : Int)
  | [], q, _ => by
    show Lib.index (47 :: q) [47] = 0
    unfold Lib.index
    simp
  | b :: l, q, h => by
    have hb : ¬ (47 : UInt8) = b := fun e => h (by simp [e])
    have hl : (47 : UInt8) ∉ l := fun e => h (List.mem_cons_of_mem _ e)
    rw [List.cons_append]
    unfold Lib.index
    rw [index_hit l q hl]
    have : ((l.length : Int) == -1) = false := by rw [beq_eq_false_iff_ne]; omega
    simp [hb, this]
theorem splitK_pieces : ∀ (k : Nat) (l : List UInt8), Lib.count l [47] = k → Lib.splitK [47] 0 k l = pieces l := by
  intro k
  induction k with
  | zero =>
    intro l hl
    rcases cut_at l with h | ⟨p, q, rfl, h⟩
    · rw [pieces_no l h]; rfl
    · have := Lib.count_hit (by simp) (index_hit p q h)
      omega
  | succ k ih =>
    intro l hl
    rcases cut_at l with h | ⟨p, q, rfl, h⟩
    · have := Lib.count_miss (index_no l h)
      omega
    · have h1 := index_hit p q h
      have h2 := Lib.count_hit (by simp) h1
      have hd : (p ++ 47 :: q).drop (p.length + [(47 : UInt8)].length) = q := by simp
      rw [hd] at h2
      have hm : ¬ (Lib.index (p ++ 47 :: q) [47] == -1) = true := fun e => by have := beq_iff_eq.1 e; omega
      rw [Lib.splitK, if_neg hm, h1, pieces_hit p q h, Int.toNat_natCast, hd, ih q (by omega)]
      simp
def ofL (l : List UInt8) : ByteArray := ⟨l.toArray⟩
theorem ofL_data (l : List UInt8) : (ofL l).data.toList = l := rfl
theorem ofL_size (l : List UInt8) : (ofL l).size = l.length := by simp [ofL, ByteArray.size]
theorem ofL_of (s : ByteArray) : ofL s.data.toList = s := by
  apply ByteArray.ext
  simp [ofL]
theorem ofL_snoc (l : List UInt8) (d : UInt8) : ofL l ++ (⟨#[d]⟩ : ByteArray) = ofL (l ++ [d]) := by
  apply ByteArray.ext
  rw [ByteArray.data_append]
  simp [ofL]
/-- The pieces of a text. -/
def cuts (s : ByteArray) : List ByteArray := (pieces s.data.toList).map ofL
theorem split_cuts (s : ByteArray) (h : s.size ≤ 1048576) : strings_Split.f s (⟨#[47]⟩ : ByteArray) = some (cuts s) := by
  unfold strings_Split.f
  rw [if_pos ⟨by omega, by decide⟩]
  have h1 := Lib.splitB_data (⟨#[47]⟩ : ByteArray) 0 (Lib.countB s (⟨#[47]⟩ : ByteArray)) s
  have h2 : Lib.splitK (⟨#[47]⟩ : ByteArray).data.toList 0 (Lib.countB s (⟨#[47]⟩ : ByteArray)) s.data.toList = pieces s.data.toList := splitK_pieces _ _ rfl
  rw [h2] at h1
  unfold cuts
  rw [← h1, List.map_map]
  have : (ofL ∘ fun x : ByteArray => x.data.toList) = id := by funext x; exact ofL_of x
  rw [this, List.map_id]
theorem bt_get (s : ByteArray) (i : Nat) (h : i < s.data.toList.length) : bt s (i : Int) = ((s.data.toList[i]'h).toNat : Int) := by
  unfold bt
  have h2 : (i : Int).toNat < s.size := by rw [Lib.size_eq]; omega
  rw [dif_pos h2]
  simp [ByteArray.getElem_eq_getElem_data]
theorem bt_is (s : ByteArray) (i : Nat) (h : i < s.data.toList.length) (d : UInt8) : bt s (i : Int) = (d.toNat : Int) ↔ s.data.toList[i]'h = d := by
  rw [bt_get s i h]
  constructor
  · intro e
    apply UInt8.toNat_inj.mp
    omega
  · intro e
    rw [e]
theorem ev_split_l0 (s : ByteArray) (hs : s.size ≤ 1048576) : ∀ (d i st : Nat) (done : List (List UInt8)), s.size = i + d → st ≤ i → (47 : UInt8) ∉ (s.data.toList.drop st).take (i - st) → done ++ pieces (s.data.toList.drop st) = pieces s.data.toList →
    Ev (fun k => spec_l1Split.l0 k s 47 (done.map ofL) (st : Int) (i : Int)) (cuts s) := by
  have hsz := Lib.size_eq s
  have hpl := (pieces_len _ s.data.toList (Nat.le_refl _)).1
  intro d
  induction d with
  | zero =>
    intro i st done hi hst h47 hd
    have hdl : (done.map ofL).length ≤ 1048577 := by
      have := congrArg List.length hd
      rw [List.length_append] at this
      rw [List.length_map]
      omega
    refine Ev.succ ?_
    simp only [spec_l1Split.l0]
    refine Ev.neg (by omega) (Ev.pos (by omega) (Ev.pos (by omega) (Ev.pos (by omega) ?_)))
    rw [List.take_of_length_le (by rw [List.length_drop]; omega)] at h47
    rw [pieces_no _ h47] at hd
    have : done.map ofL ++ [s.extract ((st : Int)).toNat s.size] = cuts s := by
      unfold cuts
      rw [← hd, List.map_append, Int.toNat_natCast]
      congr 1
      rw [List.map_singleton]
      congr 1
      rw [← ofL_of (s.extract st s.size), Lib.extract_to_end]
    rw [this]
    exact Ev.now _
  | succ d ih =>
    intro i st done hi hst h47 hd
    have hdl : (done.map ofL).length ≤ 1048577 := by
      have := congrArg List.length hd
      rw [List.length_append] at this
      rw [List.length_map]
      omega
    have hil : i < s.data.toList.length := by omega
    have hdr : s.data.toList.drop i = s.data.toList[i] :: s.data.toList.drop (i + 1) := List.drop_eq_getElem_cons hil
    have hsp : s.data.toList.drop st = (s.data.toList.drop st).take (i - st) ++ s.data.toList.drop i := by
      have h1 := (List.take_append_drop (i - st) (s.data.toList.drop st)).symm
      rw [List.drop_drop, show st + (i - st) = i by omega] at h1
      exact h1
    refine Ev.succ ?_
    simp only [spec_l1Split.l0]
    rw [wrapN i (by omega)]
    refine Ev.pos (by omega) (Ev.pos (by omega) ?_)
    by_cases c : bt s (i : Int) = 47
    · have c2 : s.data.toList[i] = 47 := (bt_is s i hil 47).mp c
      refine Ev.pos c (Ev.pos (by omega) (Ev.pos (by omega) (Ev.pos (by omega) (Ev.pos (by omega) ?_))))
      rw [c2] at hdr
      rw [hdr] at hsp
      have h2 := ih (i + 1) (i + 1) (done ++ [(s.data.toList.drop st).take (i - st)]) (by omega) (Nat.le_refl _) (by simp) (by
        rw [← hd]
        conv => rhs; rw [hsp]
        rw [pieces_hit _ _ h47, List.append_assoc]
        rfl)
      rw [List.map_append, List.map_singleton] at h2
      have : ofL ((s.data.toList.drop st).take (i - st)) = s.extract ((st : Int)).toNat ((i : Int)).toNat := by
        rw [Int.toNat_natCast, Int.toNat_natCast, ← ofL_of (s.extract st i), Lib.extract_data]
      rw [← this]
      exact h2
    · have c2 : ¬ s.data.toList[i] = 47 := fun e => c ((bt_is s i hil 47).mpr e)
      refine Ev.neg c (ih (i + 1) st done (by omega) (by omega) ?_ hd)
      rw [show i + 1 - st = (i - st) + 1 by omega]
      have hlt : i - st < (s.data.toList.drop st).length := by rw [List.length_drop]; omega
      rw [List.take_succ_eq_append_getElem hlt]
      intro hm
      rcases List.mem_append.1 hm with hm | hm
      · exact h47 hm
      · have := List.mem_singleton.1 hm
        rw [List.getElem_drop] at this
        have e2 : s.data.toList[st + (i - st)]'(by omega) = s.data.toList[i] := by congr 1; omega
        rw [e2] at this
        exact c2 this.symm
theorem ev_l1Split (s : ByteArray) (hs : s.size ≤ 1048576) : Ev (fun k => spec_l1Split.f k s 47) (cuts s) := by
  unfold spec_l1Split.f
  exact ev_split_l0 s hs s.size 0 0 [] (by omega) (by omega) (by simp) (by simp)
end Go.Proofs.YthjiajkmaimbjaaDoor.Pure
