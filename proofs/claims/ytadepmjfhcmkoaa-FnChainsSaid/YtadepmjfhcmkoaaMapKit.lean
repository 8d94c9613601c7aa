/- A map of strings to numbers that a call makes and a closure fills: what it holds is good. -/
import Derived.Test.YtadepmjfhcmkoaaTab
import Derived.RangeFuncBox
import Derived.Maps.OwnSet
namespace Go.Proofs.Ytadepmjfhcmkoaa.P
open Go.Proofs.Ytadepmjfhcmkoaa.B
open Go.RowKit Go.Proofs.YtadepmjfhcmkoaaW.PrintWords Go.Proofs.YtadepmjfhcmkoaaW.PrintLast Go.Proofs.YtadepmjfhcmkoaaW.PrintMore
set_option linter.unusedVariables false
set_option linter.unusedSimpArgs false
open Go.Maps Go.WideMaps
theorem map_law : Keyed Try.prog 9 := string_keyed Try.underlying9
theorem map_zero (w : World) : (zeroValue 3).run Try.prog w = .ok (.int .i64 0) w := by kernel_rfl
def kyS (s : ByteArray) : Lit := .string s.data.toList
theorem kyS_inj {s t : ByteArray} (h : kyS s = kyS t) : s = t := by
 unfold kyS at h; injection h with h
 cases s with
 | mk a => cases t with
  | mk b => congr 1; exact Array.toList_inj.mp h
theorem map_key {s : ByteArray} (hs : s.size ≤ 9223372036854775807) : keyOf Try.prog 9 (.string s) = some (kyS s) := keyOf_string_mk Try.underlying9 (by unfold maxLen; exact hs)
def GoodD (good : ByteArray → Int → Prop) (D : DataW Unit) : Prop := ∀ s : ByteArray, Maps.has D (kyS s) = true → ∃ v, D.atKey (kyS s) (.lit (.int .i64 0)) = .lit (.int .i64 v) ∧ good s v
theorem GoodD.none (good : ByteArray → Int → Prop) : GoodD good (.map []) := fun s h => by simp [Maps.has_eq] at h
theorem GoodD.put {good : ByteArray → Int → Prop} {D : DataW Unit} (h : GoodD good D) (hm : Maps.IsMap D) {s : ByteArray} {v : Int} (hg : good s v) : GoodD good (D.put (kyS s) (.lit (.int .i64 v))) := fun t ht => by
 by_cases e : kyS t = kyS s
 ·rw [e, kyS_inj e]; exact ⟨v, Maps.atKey_put_same hm (show WideAt.IsKeyLit (kyS s) from trivial) _ _, hg⟩
 ·rw [Maps.has_put_other e] at ht; rw [Maps.atKey_put_other e]; exact h t ht
theorem GoodD.at {good : ByteArray → Int → Prop} {D : DataW Unit} (h : GoodD good D) {s : ByteArray} (hs : Maps.has D (kyS s) = true) {c : Int} (hc : D.atKey (kyS s) (.lit (.int .i64 0)) = .lit (.int .i64 c)) : good s c := by
 obtain ⟨v, h1, h2⟩ := h s hs; rw [h1] at hc; injection hc with hc; injection hc with _ hc; rw [← hc]; exact h2
structure MSt (w0 W : World) (b bk n : Nat) (good : ByteArray → Int → Prop) (D : DataW Unit) : Prop where
 below : Below w0.heap.size w0 W
 box : W.cell? ⟨b, 0, none⟩ = some (.map (some bk))
 own : W.ownsMap Try.prog 9 (plainElem Try.prog 3) bk n D
 ne : b ≠ bk
 lo : w0.heap.size ≤ bk
 good : GoodD good D
theorem MSt.move {w0 W W' : World} {b bk n : Nat} {good : ByteArray → Int → Prop} {D : DataW Unit} (h : MSt w0 W b bk n good D) (hb : Below W.heap.size W W') : MSt w0 W' b bk n good D where
 below := below_step h.below hb
 box := pw_cell_below hb h.box
 own := h.own.kept (grown_of_below hb none) (by simp)
 ne := h.ne
 lo := h.lo
 good := h.good
theorem MSt.more {w0 W : World} {b bk n n' : Nat} {good : ByteArray → Int → Prop} {D : DataW Unit} (h : MSt w0 W b bk n good D) (hn : n ≤ n') : MSt w0 W b bk n' good D := ⟨h.below, h.box, h.own.mono hn, h.ne, h.lo, h.good⟩
theorem MSt.put {w0 W W' : World} {b bk n : Nat} {good : ByteArray → Int → Prop} {D : DataW Unit} (h : MSt w0 W b bk n good D) {s : ByteArray} {v : Int} (hg : good s v) (ho : W'.ownsMap Try.prog 9 (plainElem Try.prog 3) bk (n + 1) (D.put (kyS s) (.lit (.int .i64 v)))) (hgr : W.grownBy W' (some bk)) : MSt w0 W' b bk (n + 1) good (D.put (kyS s) (.lit (.int .i64 v))) where
 below := pw_below_grown h.below _ h.below.size hgr (fun k hk => by injection hk with hk; rw [← hk]; exact h.lo)
 box := cell_grown hgr h.box (fun e => h.ne (by injection e))
 own := ho
 ne := h.ne
 lo := h.lo
 good := h.good.put h.own.isMap hg
theorem grown_trans {a b c : World} {row : Option Nat} (h : a.grownBy b row) (k : b.grownBy c row) : a.grownBy c row := World.grownBy.trans h k
end Go.Proofs.Ytadepmjfhcmkoaa.P
