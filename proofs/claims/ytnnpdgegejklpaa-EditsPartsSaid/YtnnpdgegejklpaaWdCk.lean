/- strings.Compare, off the shelf. -/
import Derived.Test.YtnnpdgegejklpaaProg
import Derived.Ground.NamesProg
import Derived.Shelf.Lay
import Derived.Shelf.Small.Strs
set_option linter.unusedVariables false
set_option linter.unusedSimpArgs false
namespace Go.Proofs
open Go.Shelf Go.Lib Go.RowKit
shelf_lay Lays.n106 Nm 106 at Try as Ytnnpdgegejklpaa.laysCompare
end Go.Proofs
