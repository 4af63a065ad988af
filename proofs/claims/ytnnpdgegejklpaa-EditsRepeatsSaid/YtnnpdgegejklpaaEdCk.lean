/- slices.Compact, off the shelf. -/
import Derived.Test.YtnnpdgegejklpaaProg
import Derived.Ground.Names2Prog
import Derived.Shelf.Lay
import Derived.Shelf.Slices.CompactI
set_option linter.unusedVariables false
set_option linter.unusedSimpArgs false
namespace Go.Proofs
open Go.Shelf Go.Lib Go.Sort Go.RowKit
shelf_lay Lays2.n20 Nm2 20 at Try as Ytnnpdgegejklpaa.laysCompact
end Go.Proofs
