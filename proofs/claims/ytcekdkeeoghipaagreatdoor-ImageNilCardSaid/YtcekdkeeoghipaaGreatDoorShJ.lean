/- The laying of strings.Join at this translation, in plain words (written by the shelf's own tool lay-plain.mjs). -/
import Derived.Shelf.Strings.OnBuilder
import Derived.Test.YtcekdkeeoghipaaGreatDoorChecked
namespace Go.Proofs
open Go.Shelf
def Tryz.lays156_ren : Go.Shelf.Ren := ⟨fun | 156 => 183 | 165 => 262 | 166 => 263 | 169 => 264 | 240 => 306 | 241 => 307 | 276 => 329 | 277 => 330 | n => n, fun | 31 => 27 | 9 => 9 | 3 => 3 | 4 => 4 | 0 => 0 | 20 => 20 | 72 => 463 | 76 => 466 | 70 => 461 | 37 => 40 | 75 => 465 | 127 => 512 | 164 => 529 | 5 => 5 | 80 => 468 | n => n, fun | n => n⟩
theorem Tryz.lays156 : Go.Proofs.Lays.n156 Tryz.prog Tryz.lays156_ren := {
  mixed := by kernel_rfl
  f156 := Tryz.func183.trans (congrArg some (by kernel_rfl))
  f165 := Tryz.func262.trans (congrArg some (by kernel_rfl))
  f166 := Tryz.func263.trans (congrArg some (by kernel_rfl))
  f169 := Tryz.func264.trans (congrArg some (by kernel_rfl))
  f240 := Tryz.func306.trans (congrArg some (by kernel_rfl))
  f241 := Tryz.func307.trans (congrArg some (by kernel_rfl))
  f276 := Tryz.func329.trans (congrArg some (by kernel_rfl))
  f277 := Tryz.func330.trans (congrArg some (by kernel_rfl))
  t0 := Tryz.underlying0
  a0 := Tryz.isAgg0
  z0 := Tryz.sizeOf0
  v0 := Tryz.zeroValue0
  t3 := Tryz.underlying3
  a3 := Tryz.isAgg3
  z3 := Tryz.sizeOf3
  v3 := Tryz.zeroValue3
  t4 := Tryz.underlying4
  a4 := Tryz.isAgg4
  z4 := Tryz.sizeOf4
  v4 := Tryz.zeroValue4
  t9 := Tryz.underlying9
  a9 := Tryz.isAgg9
  z9 := Tryz.sizeOf9
  v9 := Tryz.zeroValue9
  t20 := Tryz.underlying20
  a20 := Tryz.isAgg20
  z20 := Tryz.sizeOf20
  v20 := Tryz.zeroValue20
  t31 := Tryz.underlying27
  a31 := Tryz.isAgg27
  z31 := Tryz.sizeOf27
  v31 := Tryz.zeroValue27
  t37 := Tryz.underlying40
  a37 := Tryz.isAgg40
  z37 := Tryz.sizeOf40
  v37 := Tryz.zeroValue40
  t70 := Tryz.underlying461
  a70 := Tryz.isAgg461
  z70 := Tryz.sizeOf461
  v70 := Tryz.zeroValue461
  t72 := Tryz.underlying463
  a72 := Tryz.isAgg463
  z72 := Tryz.sizeOf463
  v72 := Tryz.zeroValue463
  t75 := Tryz.underlying465
  a75 := Tryz.isAgg465
  z75 := Tryz.sizeOf465
  v75 := Tryz.zeroValue465
  t76 := Tryz.underlying466
  a76 := Tryz.isAgg466
  z76 := Tryz.sizeOf466
  v76 := Tryz.zeroValue466
  t127 := Tryz.underlying512
  a127 := Tryz.isAgg512
  z127 := Tryz.sizeOf512
  v127 := Tryz.zeroValue512
  t164 := Tryz.underlying529
  a164 := Tryz.isAgg529
  z164 := Tryz.sizeOf529
  v164 := Tryz.zeroValue529 }
theorem Tryz.Builder_Extra_156 : Builder.Extra Tryz.prog Tryz.lays156_ren := {
  sizeBuilder := by kernel_rfl
  liesBuilder := by kernel_rfl
  t5 := Tryz.underlying5
  a5 := Tryz.isAgg5
  z5 := Tryz.sizeOf5
  v5 := Tryz.zeroValue5
  infoByte := by kernel_rfl
  cellsByte := by kernel_rfl
  sizeByte := by kernel_rfl
  neB5 := by decide }
open Go.RowKit in
/-- strings.Join -/
theorem Tryz.strings_Join (bk o c : Nat) (xs : List ByteArray) (sep : ByteArray) (w : World) (hcells : ∀ (j : Nat) x, xs[j]? = some x → w.cell? ⟨bk, o + j, none⟩ = some (.string x)) (hbk : bk < w.heap.size) (hN : xs.length ≤ 140737488355328) (hcap : xs.length ≤ c) (hlen : (Lib.join (xs.map (·.data.toList)) sep.data.toList).length ≤ 140737488355328) :
    Calls Tryz.prog 183 #[.slice (some ⟨bk, o, none⟩) xs.length c, .string sep] w fun e w' => e = .returned (.string ⟨(Lib.join (xs.map (·.data.toList)) sep.data.toList).toArray⟩) ∧ Below w.heap.size w w' := Any.strings_Join Tryz.lays156 Tryz.Builder_Extra_156 bk o c xs sep w hcells hbk hN hcap hlen
end Go.Proofs
