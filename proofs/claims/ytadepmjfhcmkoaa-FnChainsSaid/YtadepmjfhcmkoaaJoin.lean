/- strings.Join's contract (the shelf's Any.strings_Join), laid at this dump by the kit's own tools. -/
import Derived.Shelf.Strings.OnBuilder
import Derived.Test.YtadepmjfhcmkoaaProg
namespace Go.Proofs
open Go.Shelf
def Try.lays156_ren : Go.Shelf.Ren := ⟨fun | 156 => 144 | 165 => 162 | 166 => 163 | 169 => 164 | 240 => 170 | 241 => 171 | 276 => 176 | 277 => 177 | n => n, fun | 31 => 88 | 9 => 9 | 3 => 3 | 4 => 4 | 0 => 0 | 20 => 20 | 72 => 98 | 76 => 102 | 70 => 96 | 37 => 46 | 75 => 101 | 127 => 108 | 164 => 110 | 5 => 5 | 80 => 104 | n => n, fun | n => n⟩
theorem Try.lays156 : Go.Proofs.Lays.n156 Try.prog Try.lays156_ren := {
 mixed := by kernel_rfl
 f156 := Try.func144.trans (congrArg some (by kernel_rfl))
 f165 := Try.func162.trans (congrArg some (by kernel_rfl))
 f166 := Try.func163.trans (congrArg some (by kernel_rfl))
 f169 := Try.func164.trans (congrArg some (by kernel_rfl))
 f240 := Try.func170.trans (congrArg some (by kernel_rfl))
 f241 := Try.func171.trans (congrArg some (by kernel_rfl))
 f276 := Try.func176.trans (congrArg some (by kernel_rfl))
 f277 := Try.func177.trans (congrArg some (by kernel_rfl))
 t0 := Try.underlying0
 a0 := Try.isAgg0
 z0 := Try.sizeOf0
 v0 := Try.zeroValue0
 t3 := Try.underlying3
 a3 := Try.isAgg3
 z3 := Try.sizeOf3
 v3 := Try.zeroValue3
 t4 := Try.underlying4
 a4 := Try.isAgg4
 z4 := Try.sizeOf4
 v4 := Try.zeroValue4
 t9 := Try.underlying9
 a9 := Try.isAgg9
 z9 := Try.sizeOf9
 v9 := Try.zeroValue9
 t20 := Try.underlying20
 a20 := Try.isAgg20
 z20 := Try.sizeOf20
 v20 := Try.zeroValue20
 t31 := Try.underlying88
 a31 := Try.isAgg88
 z31 := Try.sizeOf88
 v31 := Try.zeroValue88
 t37 := Try.underlying46
 a37 := Try.isAgg46
 z37 := Try.sizeOf46
 v37 := Try.zeroValue46
 t70 := Try.underlying96
 a70 := Try.isAgg96
 z70 := Try.sizeOf96
 v70 := Try.zeroValue96
 t72 := Try.underlying98
 a72 := Try.isAgg98
 z72 := Try.sizeOf98
 v72 := Try.zeroValue98
 t75 := Try.underlying101
 a75 := Try.isAgg101
 z75 := Try.sizeOf101
 v75 := Try.zeroValue101
 t76 := Try.underlying102
 a76 := Try.isAgg102
 z76 := Try.sizeOf102
 v76 := Try.zeroValue102
 t127 := Try.underlying108
 a127 := Try.isAgg108
 z127 := Try.sizeOf108
 v127 := Try.zeroValue108
 t164 := Try.underlying110
 a164 := Try.isAgg110
 z164 := Try.sizeOf110
 v164 := Try.zeroValue110 }
theorem Try.Builder_Extra_156 : Builder.Extra Try.prog Try.lays156_ren := {
 sizeBuilder := by kernel_rfl
 liesBuilder := by kernel_rfl
 t5 := Try.underlying5
 a5 := Try.isAgg5
 z5 := Try.sizeOf5
 v5 := Try.zeroValue5
 infoByte := by kernel_rfl
 cellsByte := by kernel_rfl
 sizeByte := by kernel_rfl
 neB5 := by decide }
open Go.RowKit in
theorem Try.strings_Join_none (a : Option Addr) (c : Nat) (sep : ByteArray) (w : World) :
  Calls Try.prog 144 #[.slice a 0 c, .string sep] w fun e w' => e = .returned (.string ⟨#[]⟩) ∧ w' = w := Any.strings_Join_none Try.lays156 Try.Builder_Extra_156 a c sep w
open Go.RowKit in
theorem Try.strings_Join (bk o c : Nat) (xs : List ByteArray) (sep : ByteArray) (w : World) (hcells : ∀ (j : Nat) x, xs[j]? = some x → w.cell? ⟨bk, o + j, none⟩ = some (.string x)) (hbk : bk < w.heap.size) (hN : xs.length ≤ 140737488355328) (hcap : xs.length ≤ c) (hlen : (Lib.join (xs.map (·.data.toList)) sep.data.toList).length ≤ 140737488355328) :
  Calls Try.prog 144 #[.slice (some ⟨bk, o, none⟩) xs.length c, .string sep] w fun e w' => e = .returned (.string ⟨(Lib.join (xs.map (·.data.toList)) sep.data.toList).toArray⟩) ∧ Below w.heap.size w w' := Any.strings_Join Try.lays156 Try.Builder_Extra_156 bk o c xs sep w hcells hbk hN hcap hlen
end Go.Proofs
