-- By gp.py (this session's own driver over the kit's print). Not trusted: Lean checks it.
import Derived.Test.YthjiajkmaimbjaaDoorF0
import Derived.Test.YthjiajkmaimbjaaDoorB
import Derived.Lib.ConvBytes
import Derived.Test.YthjiajkmaimbjaaDoorFImplGood
import Derived.Test.YthjiajkmaimbjaaDoorFStringsIndexByte
import Derived.Test.YthjiajkmaimbjaaDoorFStringsSplit
namespace Go.Proofs.YthjiajkmaimbjaaDoor.P
open Go.Proofs.YthjiajkmaimbjaaDoor.B
open Go.RowKit Go.Proofs.YthjiajkmaimbjaaDoorW.PrintWords Go.Proofs.YthjiajkmaimbjaaDoorW.PrintLast Go.Proofs.YthjiajkmaimbjaaDoorW.PrintMore
attribute [local go_sem] max2_int min2_int max_two min_two max_three min_three max_four min_four   -- for this text's walks alone
set_option linter.unusedVariables false
set_option linter.unusedSimpArgs false

/-! ### impl_ParseSigns: function 5 (given) -/
/-- A string's bytes as numbers. -/
def bytesN (s : ByteArray) : List Int := s.data.toList.map fun b => (b.toNat : Int)
theorem bytesN_len (s : ByteArray) : (bytesN s).length = s.size := by
  unfold bytesN
  rw [List.length_map, Array.length_toList]
  rfl
theorem below_bytes (w : World) (e : TypeId) (s : ByteArray) : Below w.heap.size w (Go.Lib.bytesWorld w e s) := ⟨rfl, rfl, rfl, by rw [Go.Lib.bytesWorld_size]; omega, fun k hk => Go.Lib.bytesWorld_at_old w e s k hk⟩
theorem C_bytes (w : World) (e : TypeId) (s : ByteArray) (hs : s.size ≤ 9223372036854775807) : Kd.C (Kd.int .u8) (Go.Lib.bytesWorld w e s) (some ⟨w.heap.size, 0, none⟩) s.size (bytesN s) := by
  refine ⟨bytesN_len s, hs, fun _ => ⟨_, rfl, fun j p hp => ⟨[.int .u8 p], rfl, rfl, fun i u hu => ?_⟩⟩⟩
  cases i with
  | succ i => simp at hu
  | zero =>
    have hj := (List.getElem?_eq_some_iff.mp hp).1
    rw [bytesN_len] at hj
    have e1 : p = ((s.data.toList.getD j 0).toNat : Int) := by
      unfold bytesN at hp
      rw [List.getElem?_map] at hp
      rw [List.getD_eq_getElem?_getD]
      cases hx : s.data.toList[j]? with
      | none => rw [hx] at hp; cases hp
      | some x => rw [hx] at hp; simpa using hp.symm
    have hu2 : u = .int .u8 p := by simpa using hu.symm
    rw [hu2, e1]
    have h1 := Go.Lib.bytesWorld_cell w e s j hj
    rw [← h1]
    congr 1
    unfold Addr.add
    by_cases hz : j = 0
    · subst hz; rfl
    · rw [if_neg (by show ¬ j * 1 + 0 = 0; omega)]
      simp
      exact Nat.mul_one j
theorem F_bytes (w : World) (e : TypeId) (s : ByteArray) (hs : s.size ≤ 9223372036854775807) : Kd.F (Kd.int .u8) (Go.Lib.bytesWorld w e s) (fun k => k = w.heap.size) (some ⟨w.heap.size, 0, none⟩) s.size (bytesN s) := by
  intro W hW
  have h1 := hW w.heap.size rfl (by rw [Go.Lib.bytesWorld_size]; omega)
  obtain ⟨a1, a2, a3⟩ := C_bytes w e s hs
  refine ⟨a1, a2, fun h0 => ?_⟩
  obtain ⟨ad, ea, hc⟩ := a3 h0
  refine ⟨ad, ea, fun j p hp => ?_⟩
  obtain ⟨c, l1, l2, l3⟩ := hc j p hp
  refine ⟨c, l1, l2, fun i u hu => ?_⟩
  rw [← l3 i u hu]
  have hb : (ad.add (j * (Kd.int .u8).sz + i)).block = w.heap.size := by
    rw [← Option.some.inj ea]
    unfold Addr.add
    split <;> rfl
  unfold World.cell?
  rw [hb, h1]
theorem V_bytes (w : World) (e : TypeId) (s : ByteArray) (hs : s.size ≤ 9223372036854775807) {base : Nat} : Kd.V (Kd.int .u8) e (Go.Lib.bytesWorld w e s) base (fun k => k = w.heap.size) (.slice (some ⟨w.heap.size, 0, none⟩) s.size (grownCap w s.size 0 e)) (bytesN s) := by
  have h := F_bytes w e s hs
  have hl := bytesN_len s
  exact ⟨some ⟨w.heap.size, 0, none⟩, grownCap w s.size 0 e, by rw [hl], by rw [hl]; exact grownCap_ge w s.size 0 e, by rw [hl]; exact h⟩
theorem R_stay {α : Type} {d : Kd α} {e base : Nat} {ok : Nat → Prop} {w w1 : World} {v : Value} {xs : List α} (h : d.R e w base ok v xs) (hb : Below w.heap.size w w1) : d.R e w1 base (fun k => ok k ∧ k < w.heap.size) v xs := Kd.R_mono (Kd.R_move (Kd.R_bound h) (fun k hk => hb.block k hk.2.2.1)) (fun k hk => ⟨hk.1, hk.2.2.1⟩)
theorem S_stay {α : Type} {d : Kd α} {e base : Nat} {ok : Nat → Prop} {w w1 : World} {v : Value} {xs : List α} (h : Kd.S d e w base ok v xs) (hb : Below w.heap.size w w1) : Kd.S d e w1 base (fun k => ok k ∧ k < w.heap.size) v xs := Kd.S_mono (Kd.S_move (Kd.S_bound h) (fun k hk => hb.block k hk.2.2.1)) (fun k hk => ⟨hk.1, hk.2.2.1⟩)
def psB (b : Int) : Int := (strings_IndexByte.f (⟨#[45, 48, 43]⟩ : ByteArray) b).getD (-1)
theorem psB_eq (b : Int) : strings_IndexByte.f (⟨#[45, 48, 43]⟩ : ByteArray) b = some (psB b) := rfl
def psV (b : Int) : Int := wrap64 (psB b - 1)
def psR (s : ByteArray) : List Int := (bytesN s).map psV
def psBad (s : ByteArray) : Bool := (bytesN s).any fun b => decide (psB b < 0)
def impl_ParseSigns.f (k : Nat) (a0 : ByteArray) : Option (List (List Int) × Bool) := (strings_Split.f a0 (⟨#[47]⟩ : ByteArray)).bind fun ts => if ts.length ≤ 2000000 ∧ (∀ s ∈ ts, s.size ≤ 2000000) then (if ts.any psBad = true then some (([] : List (List Int)), false) else (impl_IsSignMatrix.f k (ts.map psR)).bind fun t => if t = true then some (ts.map psR, true) else some (([] : List (List Int)), false)) else none
theorem impl_ParseSigns.mono : ∀ a0 k, LeO (impl_ParseSigns.f k a0) (impl_ParseSigns.f (k + 1) a0) := by
  intro a0 k
  unfold impl_ParseSigns.f
  exact LeO.bind (LeO.refl _) (fun _ => LeO.ite (LeO.ite (LeO.refl _) (LeO.bind (impl_IsSignMatrix.mono _ _) (fun _ => LeO.refl _))) (LeO.none _))
theorem take_snoc {α β : Type} (l : List α) (f : α → β) (j : Nat) (d : α) (hj : j < l.length) : (l.take (j + 1)).map f = (l.take j).map f ++ [f (l.getD j d)] := by
  rw [List.take_succ_eq_append_getElem hj, List.map_append, List.getD_eq_getElem?_getD, List.getElem?_eq_getElem hj]
  rfl
theorem all_snoc {α : Type} {l : List α} {p : α → Prop} {j : Nat} (d : α) (hj : j < l.length) (h : ∀ x ∈ l.take j, p x) (h2 : p (l.getD j d)) : ∀ x ∈ l.take (j + 1), p x := by
  rw [List.take_succ_eq_append_getElem hj]
  intro x hx
  rcases List.mem_append.mp hx with hx | hx
  · exact h x hx
  · rw [List.mem_singleton] at hx
    subst hx
    rwa [List.getD_eq_getElem?_getD, List.getElem?_eq_getElem hj] at h2
set_option maxHeartbeats 8000000 in
set_option maxRecDepth 100000 in
theorem impl_ParseSigns.calls (k : Nat) (a0 : ByteArray) (r1 : List (List Int)) (r2 : Bool) (w : World) (h : impl_ParseSigns.f k a0 = some (r1, r2)) (hm : ML w := by first | assumption | exact ML.aside (by assumption) (by assumption) | exact ML.drewN (by first | assumption | exact ML.aside (by assumption) (by assumption)) _) :
    Calls Tryd.prog 5 #[.string a0] w fun e w' => ∃ v0_ : Value, e = .returned (.tuple #[v0_, .bool r2]) ∧ Kd.S (Kd.slice 3 (Kd.int .i64)) 30 w' w.heap.size (fun _ => True) v0_ r1 ∧ Below w.heap.size w w' := by
  have HB := Aside0.mk (Below.refl w.heap.size w)
  have HML := Aside0.mk hm
  obtain ⟨ts, hts, h⟩ := Option.bind_eq_some_iff.mp h
  have HTS := Aside0.mk hts
  by_cases hsz : ts.length ≤ 2000000 ∧ (∀ s ∈ ts, s.size ≤ 2000000)
  case neg => rw [if_neg hsz] at h; cases h
  rw [if_pos hsz] at h
  have HSZ := Aside0.mk hsz
  have hLn : ts.length ≤ 2000000 := hsz.1
  obtain ⟨y, hy⟩ : ∃ y, y = ([] : List (List Int)) := ⟨_, rfl⟩
  have NY := Aside0.mk hy
  have H := Aside0.mk h
  clear hts h hy hm hsz
  go_enter Tryd.func5, Tryd.ntmps5
  go_wp2_with (first | ((with_reducible refine gate_dst (N := 11) rfl ?_); refine Kd.S_lit (Kd.slice 3 (Kd.int .i64)) _ 30 ?hg (N := 11) ?hd (xs := ([] : List (List Int))) (inner := []) (ok := fun _ => True) (okp := fun _ => True) ?hr ?hp (fun _ hk => hk) trivial (Below.refl _ _) (Nat.le_refl _) (by simp) ?_; (case hd => rfl); (case hg => rfl); (case hr => first | (go_simp; done) | (go_simp; rfl)); (case hp => exact (Reps.none _ _)); intro v2 w2 ho hb hg_ hnew_; clear hg_ hnew_; rw [← NY.out] at ho; have S2 := Aside0.mk (Kd.S_lower ho (below_size (by repeat (first | (with_reducible first | exact HB.out | apply below_alloc | apply pw_below_drewN | apply below_drew1) | exact HB.out)))); have HB1 := Aside0.mk (below_step (by repeat (first | (with_reducible first | exact HB.out | apply below_alloc | apply pw_below_drewN | apply below_drew1) | exact HB.out)) hb); clear ho hb; clear HB; have HB := HB1; clear HB1) | (go_at_call 10; (refine (strings_Split.calls a0 _ ts _ HTS.out (HML.out.below HB.out)).mono ?_); rintro e w3 ⟨v3, rfl, hR, hb⟩; have V3 := Aside0.mk (Kd.R_V (base' := w.heap.size) (Kd.R_new' hR (Kd.S_lt S2.out))); have S3 := Aside0.mk (Kd.S_mono (Kd.S_elder' S2.out (Kd.R_base hR) hb) (fun k hk => hk.1)); have HB1 := Aside0.mk (below_step (by repeat (first | (with_reducible first | exact HB.out | apply below_alloc | apply pw_below_drewN | apply below_drew1) | exact HB.out)) hb); clear hR hb S2; clear HB; have HB := HB1; clear HB1; obtain ⟨A3, c3, e3⟩ := Kd.V_slice V3.out; subst e3))
  obtain ⟨L, hL⟩ : ∃ L, L = ts.length := ⟨_, rfl⟩
  have HL := Aside0.mk hL
  rw [← hL] at V3 hLn ⊢
  clear hL
  go_loopg [4, 15] (L + 1) (fun kq v4 v15 w' => ∃ (x4 : List (List Int)) (j : Nat), v15 = .int .i64 (j : Int) ∧ Aside0 (x4 = (ts.take j).map psR ∧ (∀ s ∈ ts.take j, psBad s = false) ∧ j ≤ L ∧ kq = L + 1 - j) ∧ Aside0 (Kd.V Kd.string 9 w' w.heap.size (fun k_ => True ∧ some k_ ≠ (v4 : Value).ownBlock) (.slice A3 L c3) ts) ∧ Aside0 (Kd.S (Kd.slice 3 (Kd.int .i64)) 30 w' w.heap.size (fun _ => True) v4 x4) ∧ Aside0 (Below w.heap.size w w'))
  case atStart => exact ⟨y, 0, rfl, ⟨by rw [NY.out]; rfl, by simp, Nat.zero_le _, rfl⟩, V3, S3, HB⟩
  case round =>
    clear V3 S3 HB
    obtain ⟨x4, j, rfl, HJ, V3, S4, HB⟩ := hrel
    by_cases cj : j < L
    · have bj : decide ((j : Int) < (L : Int)) = true := decide_eq_true (by omega)
      have bj2 : decide (j < L) = true := decide_eq_true cj
      obtain ⟨ad, e3, hx⟩ := Kd.at_string (Kd.V_reads' V3.out).2.2 (j : Int) (by omega) (by rw [← HL.out]; omega)
      cases e3
      rw [Int.toNat_natCast] at hx
      obtain ⟨tx, htx⟩ : ∃ tx, tx = rdOf ByteArray.empty ts (j : Int) := ⟨_, rfl⟩
      rw [← htx] at hx
      have htx2 : tx = ts.getD j ByteArray.empty := by rw [htx]; unfold rdOf; rw [Int.toNat_natCast]
      have htm : tx ∈ ts := by rw [htx2, List.getD_eq_getElem?_getD, List.getElem?_eq_getElem (by rw [← HL.out]; exact cj)]; exact List.getElem_mem _
      have hts := HSZ.out.2 tx htm
      have LT := Aside0.mk (show tx.size ≤ 9223372036854775807 by omega)
      have HTX := Aside0.mk (And.intro htx2 htm)
      obtain ⟨M, hM⟩ : ∃ M, M = tx.size := ⟨_, rfl⟩
      have HM := Aside0.mk hM
      have hMn : M ≤ 2000000 := by omega
      obtain ⟨yr, hyr⟩ : ∃ yr, yr = ([] : List Int) := ⟨_, rfl⟩
      have NR := Aside0.mk hyr
      have HGJ := Aside0.mk (show gk = L + 1 - j from HJ.out.2.2.2)
      clear htx htx2 htm hts hM hyr
      go_wp2_with (first | ((with_reducible refine gate_dst (N := 19) rfl ?_); refine Kd.R_lit (Kd.int .i64) _ 3 ?hg (N := 19) ?hd (xs := ([] : List Int)) (inner := []) (ok := fun _ => True) (okp := fun _ => True) ?hr ?hp (fun _ hk => hk) trivial (Below.refl _ _) (Nat.le_refl _) (by simp) ?_; (case hd => rfl); (case hg => rfl); (case hr => first | (go_simp; done) | (go_simp; rfl)); (case hp => exact (Reps.none _ _)); intro v7 w7 ho hb hg_ hnew_; clear hg_ hnew_; rw [← NR.out] at ho; have R7 := Aside0.mk (Kd.R_lower (Kd.R_new' ho (Kd.S_lt S4.out)) (below_size (by repeat (first | (with_reducible first | exact HB.out | apply below_alloc | apply pw_below_drewN | apply below_drew1) | exact HB.out)))); have S7 := Aside0.mk (Kd.S_elder' S4.out (Kd.R_base ho) hb); have V7 := Aside0.mk (Kd.V_elder' V3.out (Kd.R_base ho) hb); have HB1 := Aside0.mk (below_step (by repeat (first | (with_reducible first | exact HB.out | apply below_alloc | apply pw_below_drewN | apply below_drew1) | exact HB.out)) hb); clear ho hb; clear HB; have HB := HB1; clear HB1) | ((with_reducible refine gate_dst (N := 21) rfl ?_); go_loud (refine Kd.event_run rfl (v := .slice (some ⟨w7.heap.size, 0, none⟩) tx.size (grownCap w7 tx.size 0 5)) (w1 := Go.Lib.bytesWorld w7 5 tx) ?hr ?_); (case hr => (have e := Go.Lib.run_convert_string_bytes (P := Tryd.prog) w7 9 31 5 tx Tryd.underlying9 Tryd.underlying31 Tryd.underlying5; simp only [execOp]; first | (show ((Sem.run Tryd.prog (convert 9 31 (Value.string tx)) w7).andThen _) = _; rw [e]; rfl) | (simp; show ((Sem.run Tryd.prog (convert 9 31 (Value.string tx)) w7).andThen _) = _; rw [e]; rfl))); obtain ⟨n8, hn8⟩ : ∃ n8, n8 = w7.heap.size := ⟨_, rfl⟩; obtain ⟨w8, hw8⟩ : ∃ w8, w8 = Go.Lib.bytesWorld w7 5 tx := ⟨_, rfl⟩; rw [← hn8, ← hw8]; have hb := below_bytes w7 5 tx; rw [← hw8] at hb; obtain ⟨c8, hc8⟩ : ∃ c8, c8 = grownCap w7 tx.size 0 5 := ⟨_, rfl⟩; rw [← hc8]; have B8 : Aside0 (Kd.V (Kd.int .u8) 5 w8 w.heap.size (fun k_ => k_ = n8) (.slice (some ⟨n8, 0, none⟩) tx.size c8) (bytesN tx)) := ⟨by rw [hn8, hw8, hc8]; exact V_bytes w7 5 tx LT.out⟩; obtain ⟨adb, hadb⟩ : ∃ adb, adb = (⟨n8, 0, none⟩ : Addr) := ⟨_, rfl⟩; rw [← hadb] at B8 ⊢; have BI : Aside0 (Kd.V (Kd.int .u8) 5 w8 w.heap.size (fun k_ => True ∧ some k_ ≠ (v7 : Value).ownBlock) (.slice (some adb) tx.size c8) (bytesN tx)) := ⟨Kd.V_mono B8.out (fun k hk => ⟨trivial, fun e => by have h1 := Kd.R_lt R7.out k e.symm; have h2 : k = n8 := hk; omega⟩)⟩; have RI := Aside0.mk (Kd.R_mono (R_stay R7.out hb) (fun k hk => hk.1)); have SI := Aside0.mk (Kd.S_mono (S_stay S7.out hb) (fun k hk => hk.1)); have VI := Aside0.mk (Kd.V_mono (Kd.V_old V7.out hb) (fun k hk => hk.1)); have HB1 := Aside0.mk (below_step (by repeat (first | (with_reducible first | exact HB.out | apply below_alloc | apply pw_below_drewN | apply below_drew1) | exact HB.out)) hb); rw [← HM.out] at BI ⊢; clear hb hw8 hn8 hc8 hadb B8 R7 S7 V7; clear HB; have HB := HB1; clear HB1))
      go_loopg [7, 23] (M + 1) (fun kq v7 v23 w' => ∃ (x7 : List Int) (i : Nat), v23 = .int .i64 (i : Int) ∧ Aside0 (x7 = ((bytesN tx).take i).map psV ∧ (∀ b ∈ (bytesN tx).take i, decide (psB b < 0) = false) ∧ i ≤ M ∧ kq = M + 1 - i) ∧ Aside0 (Kd.V (Kd.int .u8) 5 w' w.heap.size (fun k_ => True ∧ some k_ ≠ (v7 : Value).ownBlock) (.slice (some adb) M c8) (bytesN tx)) ∧ Aside0 (Kd.R (Kd.int .i64) 3 w' w.heap.size (fun k_ => True ∧ some k_ ≠ (u4 : Value).ownBlock) v7 x7) ∧ Aside0 (Kd.S (Kd.slice 3 (Kd.int .i64)) 30 w' w.heap.size (fun k_ => True ∧ some k_ ≠ (v7 : Value).ownBlock) u4 x4) ∧ Aside0 (Kd.V Kd.string 9 w' w.heap.size (fun k_ => (True ∧ some k_ ≠ (u4 : Value).ownBlock) ∧ some k_ ≠ (v7 : Value).ownBlock) (.slice (some ad) L c3) ts) ∧ Aside0 (Below w.heap.size w w'))
      case atStart => exact ⟨yr, 0, rfl, ⟨by rw [NR.out]; rfl, by simp, Nat.zero_le _, rfl⟩, BI, RI, SI, VI, HB⟩
      case round =>
        clear BI RI SI VI HB
        obtain ⟨x7, i, rfl, HI, BI, RI, SI, VI, HB⟩ := hrel
        by_cases ci : i < M
        · have bi : decide ((i : Int) < (M : Int)) = true := decide_eq_true (by omega)
          have bi2 : decide (i < M) = true := decide_eq_true ci
          obtain ⟨adc, eb, hxb⟩ := Kd.at_int (Kd.V_reads' BI.out).2.2 (i : Int) (by omega) (by rw [bytesN_len, ← HM.out]; omega)
          cases eb
          rw [Int.toNat_natCast] at hxb
          obtain ⟨bx, hbx⟩ : ∃ bx, bx = (bytesN tx).getD i 0 := ⟨_, rfl⟩
          replace hxb : wr.cell? (adb.add i) = some (.int .u8 bx) := by rw [hxb, hbx]; unfold rd; rw [Int.toNat_natCast]
          obtain ⟨n, hn⟩ : ∃ n, n = psB bx := ⟨_, rfl⟩
          have HIB := Aside0.mk (fun W : World => strings_IndexByte.calls (⟨#[45, 48, 43]⟩ : ByteArray) bx n W (by rw [hn]; exact psB_eq bx))
          have HN := Aside0.mk (And.intro hn hbx)
          have HCI := Aside0.mk ci
          clear hn hbx
          by_cases c9 : n < 0
          · have c9b := decide_eq_true c9
            have HR : Aside0 (([] : List (List Int)) = r1 ∧ false = r2) := ⟨by
              have hbad : ts.any psBad = true := by
                rw [List.any_eq_true]
                refine ⟨tx, HTX.out.2, ?_⟩
                unfold psBad
                rw [List.any_eq_true]
                refine ⟨bx, ?_, by rw [← HN.out.1]; exact c9b⟩
                rw [HN.out.2, List.getD_eq_getElem?_getD, List.getElem?_eq_getElem (by rw [bytesN_len, ← HM.out]; exact ci)]
                exact List.getElem_mem _
              have h := H.out
              rw [if_pos hbad] at h
              simpa using h⟩
            clear c9
            go_wp2_with (go_at_call 11; (refine (HIB.out _).mono ?_); rintro e w9 ⟨rfl, ⟨n9, rfl⟩⟩)
            rw [← HR.out.2, ← HR.out.1]
            go_ret2
            exact ⟨_, rfl, Kd.S_nil _ _ _ _ _, (by repeat (first | (with_reducible first | exact HB.out | apply below_alloc | apply pw_below_drewN | apply below_drew1) | exact HB.out))⟩
          · have c9b : decide (n < 0) = false := decide_eq_false c9
            have LM := Aside0.mk (show x7.length < 17592186044416 by have h1 := HI.out.1; have h2 := congrArg List.length h1; rw [List.length_map, List.length_take] at h2; omega)
            obtain ⟨y7, hy7⟩ : ∃ y7, y7 = x7 ++ [wrap64 (n - 1)] := ⟨_, rfl⟩
            have N7 := Aside0.mk hy7
            have HNN := Aside0.mk c9
            clear c9 hy7
            go_wp2_with (first | (go_at_call 11; (refine (HIB.out _).mono ?_); rintro e w9 ⟨rfl, ⟨n9, rfl⟩⟩) | ((with_reducible refine gate_builtin (b := .append) (xs := #[.tmp 31, .tmp 34]) rfl ?_); at_builtin; refine Kd.R_append (Kd.int .i64) (w0 := w) w.heap.size rfl (.tmp 31) (.tmp 34) 30 3 (.int .i64 0) 8 rfl Tryd.underlying30 info3 rfl (by decide) (by omega) u7 x7 (wrap64 (n - 1)) [.int .i64 (wrap64 (n - 1))] (fun k_ => True ∧ some k_ ≠ (u4 : Value).ownBlock) (fun _ => False) rfl rfl ?aP (fun _ hk => hk.elim) ?aF ?aO ?aB ?aS ?aL ?_; (case aP => exact rfl); (case aB => exact (by repeat (first | (with_reducible first | exact HB.out | apply below_alloc | apply pw_below_drewN | apply below_drew1) | exact HB.out))); (case aF => exact (fun k hk => ⟨trivial, fun e => by have h1 := Kd.S_lt SI.out k e.symm; simp at hk; omega⟩)); (case aO => exact (by (with_reducible repeat (first | apply Kd.R_alloc | apply Kd.R_drewN | apply Kd.R_drew)); exact RI.out)); (case aS => exact (below_size (by repeat (first | (with_reducible first | exact HB.out | apply below_alloc | apply pw_below_drewN | apply below_drew1) | exact HB.out)))); (case aL => have := LM.out; omega); intro v8 w10 ho hb hg hat; rw [← N7.out] at ho; have RI1 := Aside0.mk ho; have BI1 := Aside0.mk (Kd.V_afterv (by (with_reducible repeat (first | apply Kd.V_alloc | apply Kd.V_drewN | apply Kd.V_drew)); exact BI.out) hg hat); have SI1 := Aside0.mk (Kd.S_after (by (with_reducible repeat (first | apply Kd.S_alloc | apply Kd.S_drewN | apply Kd.S_drew)); exact SI.out) hg hat); have VI1 := Aside0.mk (Kd.V_afterv (by (with_reducible repeat (first | apply Kd.V_alloc | apply Kd.V_drewN | apply Kd.V_drew)); exact VI.out) hg hat); have HB1 := Aside0.mk hb; clear ho hb hg hat; clear HB; have HB := HB1; clear HB1))
            go_roundg (M - i)
            case measure => have := HI.out.2.2.2; have := HCI.out; omega
            case rel => exact ⟨y7, i + 1, by first | rfl | go_num, ⟨by rw [take_snoc _ psV i 0 (by rw [bytesN_len, ← HM.out]; exact HCI.out), ← HI.out.1, N7.out, ← HN.out.2]; unfold psV; rw [← HN.out.1], all_snoc 0 (by rw [bytesN_len, ← HM.out]; exact HCI.out) HI.out.2.1 (by rw [← HN.out.2, ← HN.out.1]; exact decide_eq_false (by have := HNN.out; omega)), HCI.out, by have := HCI.out; omega⟩, BI1, RI1, SI1, VI1, HB⟩
        · have him : i = M := by have := HI.out.2.2.1; omega
          subst him
          have bi : decide ((i : Int) < (i : Int)) = false := decide_eq_false (by omega)
          have bi2 : decide (i < i) = false := decide_eq_false (by omega)
          obtain ⟨A7, c7, e7⟩ := Kd.R_slice RI.out
          subst e7
          have HX7 : Aside0 (x7 = psR tx ∧ psBad tx = false) := ⟨by
            have h1 := HI.out.1
            have h2 := HI.out.2.1
            rw [List.take_of_length_le (by rw [bytesN_len, ← HM.out]; exact Nat.le_refl _)] at h1 h2
            refine ⟨h1, ?_⟩
            unfold psBad
            rw [Bool.eq_false_iff]
            intro h3
            rw [List.any_eq_true] at h3
            obtain ⟨b, hb1, hb2⟩ := h3
            rw [h2 b hb1] at hb2
            cases hb2⟩
          obtain ⟨y4, hy4⟩ : ∃ y4, y4 = x4 ++ [x7] := ⟨_, rfl⟩
          have N4 := Aside0.mk hy4
          have LM4 := Aside0.mk (show (x4.length + 1) * 24 ≤ 140737488355328 by have h1 := HJ.out.1; have h2 := congrArg List.length h1; rw [List.length_map, List.length_take] at h2; omega)
          have HCJ := Aside0.mk cj
          have VI0 := Aside0.mk (Kd.V_mono (ok' := fun k_ => True ∧ some k_ ≠ (u4 : Value).ownBlock) VI.out (fun k_ hk => hk.1))
          have SI0 := Aside0.mk (Kd.S_mono (ok' := fun k_ => True ∧ ¬ some k_ = (.slice A7 x7.length c7 : Value).ownBlock) SI.out (fun k_ hk => ⟨trivial, fun e_ => hk.2 e_⟩))
          clear hy4
          go_wp2_with (first | ((with_reducible refine gate_builtin (b := .append) (xs := #[.tmp 37, .tmp 39]) rfl ?_); at_builtin; refine Kd.S_append (Kd.slice 3 (Kd.int .i64)) (w0 := w) w.heap.size rfl (.tmp 37) (.tmp 39) 22 30 (.slice none 0 0) 24 rfl Tryd.underlying22 info30 rfl (by decide) (by omega) u4 x4 x7 [.slice A7 x7.length c7] (fun _ => True) (fun k_ => some k_ = (.slice A7 x7.length c7 : Value).ownBlock) rfl rfl ?aP ?aQ ?aF ?aO ?aB ?aS ?aL ?_; (case aP => exact Kd.M_row (Kd.R_mono (Kd.R_tight rfl (by (with_reducible repeat (first | apply Kd.R_alloc | apply Kd.R_drewN | apply Kd.R_drew)); exact RI.out)) (fun _ h_ => h_))); (case aQ => exact (fun k_ hk_ => RI.out.1 k_ hk_.symm)); (case aB => exact (by repeat (first | (with_reducible first | exact HB.out | apply below_alloc | apply pw_below_drewN | apply below_drew1) | exact HB.out))); (case aF => exact (fun _ _ => trivial)); (case aO => exact (by (with_reducible repeat (first | apply Kd.S_alloc | apply Kd.S_drewN | apply Kd.S_drew)); exact SI0.out)); (case aS => exact (below_size (by repeat (first | (with_reducible first | exact HB.out | apply below_alloc | apply pw_below_drewN | apply below_drew1) | exact HB.out)))); (case aL => exact LM4.out); intro v8 w10 ho hb hg hat; rw [← N4.out] at ho; have S41 := Aside0.mk ho; have V31 := Aside0.mk (Kd.V_afterv (by (with_reducible repeat (first | apply Kd.V_alloc | apply Kd.V_drewN | apply Kd.V_drew)); exact VI0.out) hg hat); have HB1 := Aside0.mk hb; clear ho hb hg hat; clear HB; have HB := HB1; clear HB1))
          go_roundg (L - j)
          case measure => have := HGJ.out; have := HCJ.out; omega
          case rel => exact ⟨y4, j + 1, by first | rfl | go_num, ⟨by rw [take_snoc _ psR j ByteArray.empty (by rw [← HL.out]; exact HCJ.out), ← HJ.out.1, N4.out, HX7.out.1, HTX.out.1], all_snoc ByteArray.empty (by rw [← HL.out]; exact HCJ.out) HJ.out.2.1 (by rw [← HTX.out.1]; exact HX7.out.2), HCJ.out, by have := HCJ.out; omega⟩, V31, S41, HB⟩
    · have hjm : j = L := by have := HJ.out.2.2.1; omega
      subst hjm
      have bj : decide ((j : Int) < (j : Int)) = false := decide_eq_false (by omega)
      have bj2 : decide (j < j) = false := decide_eq_false (by omega)
      obtain ⟨A4, c4, e4⟩ := Kd.S_slice S4.out
      subst e4
      have hx4 : x4 = ts.map psR ∧ ts.any psBad = false := by
        have h1 := HJ.out.1
        have h2 := HJ.out.2.1
        rw [List.take_of_length_le (by rw [← HL.out]; exact Nat.le_refl _)] at h1 h2
        refine ⟨h1, ?_⟩
        rw [Bool.eq_false_iff]
        intro h3
        rw [List.any_eq_true] at h3
        obtain ⟨s, hs1, hs2⟩ := h3
        rw [h2 s hs1] at hs2
        cases hs2
      have h := H.out
      rw [hx4.2, if_neg (by decide), ← hx4.1] at h
      obtain ⟨t, ht, h⟩ := Option.bind_eq_some_iff.mp h
      have HG := Aside0.mk (fun (W : World) (hW : Below wr.heap.size wr W) => impl_IsSignMatrix.calls k A4 c4 x4 t W (Kd.C_below (Kd.S_reads' S4.out).2.2 hW) (Kd.S_reads' S4.out).2.1 ht)
      cases t with
      | false =>
        rw [if_neg (by decide)] at h
        have HR : Aside0 (([] : List (List Int)) = r1 ∧ false = r2) := ⟨by simpa using h⟩
        clear h ht hx4
        go_wp2_with (go_at_call 12; (refine (HG.out _ (Below.refl _ _)).mono ?_); rintro e w9 ⟨rfl, hb⟩; have HB9 := Aside0.mk (below_step HB.out hb); clear hb)
        rw [← HR.out.2, ← HR.out.1]
        go_ret2
        exact ⟨_, rfl, Kd.S_nil _ _ _ _ _, HB9.out⟩
      | true =>
        rw [if_pos rfl] at h
        have HR : Aside0 (x4 = r1 ∧ true = r2) := ⟨by simpa using h⟩
        clear h ht hx4
        go_wp2_with (go_at_call 12; (refine (HG.out _ (Below.refl _ _)).mono ?_); rintro e w9 ⟨rfl, hb⟩; have HB9 := Aside0.mk (below_step HB.out hb); have S9 := Aside0.mk (Kd.S_below S4.out hb); clear hb)
        rw [← HR.out.2, ← HR.out.1]
        go_ret2
        exact ⟨_, rfl, S9.out, HB9.out⟩

end Go.Proofs.YthjiajkmaimbjaaDoor.P
