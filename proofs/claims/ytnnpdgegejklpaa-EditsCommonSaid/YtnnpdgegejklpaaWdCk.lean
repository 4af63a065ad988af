/- strings.Compare, off the shelf. -/
import Derived.Test.YtnnpdgegejklpaaProg
import Derived.Shelf.Small.Strs
set_option linter.unusedVariables false
set_option linter.unusedSimpArgs false
namespace Go.Proofs
open Go.Shelf Go.Lib Go.RowKit
def Ytnnpdgegejklpaa.laysCompare_ren : Go.Shelf.Ren := ⟨fun | 106 => 94 | 213 => 95 | 265 => 96 | n => n, fun | 9 => 9 | 3 => 3 | n => n, fun n => n⟩
theorem Ytnnpdgegejklpaa.laysCompare : Lays.n106 Try.prog Ytnnpdgegejklpaa.laysCompare_ren where
  mixed := by kernel_rfl
  f106 := Try.func94.trans (congrArg some (by kernel_rfl))
  f213 := Try.func95.trans (congrArg some (by kernel_rfl))
  f265 := Try.func96.trans (congrArg some (by kernel_rfl))
  t3 := Try.underlying3
  a3 := Try.isAgg3
  z3 := Try.sizeOf3
  v3 := Try.zeroValue3
  t9 := Try.underlying9
  a9 := Try.isAgg9
  z9 := Try.sizeOf9
  v9 := Try.zeroValue9
end Go.Proofs
