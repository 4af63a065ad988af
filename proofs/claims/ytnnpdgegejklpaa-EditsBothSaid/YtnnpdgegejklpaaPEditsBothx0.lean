-- Printed by a program of this session out of the translation, with functions that this session has walked itself. Lean checks it.
import Derived.Test.YtnnpdgegejklpaaProg
import Derived.Test.YtnnpdgegejklpaaEdE
import Derived.Test.YtnnpdgegejklpaaEdG
import Derived.Test.YtnnpdgegejklpaaEdH
import Derived.Below
import Derived.Deep.Draws
import Derived.Deep.AppendLies
import Derived.Maps.AppendAt
import Derived.OwnWalk
import Derived.Laws.BytesArg
import Derived.Laws.MakeOwn
import Derived.Laws.OwnMore
import Derived.Deep.OwnRows
import Derived.Tactics
import Derived.Lib.ConvBytes
import Derived.Laws.Slices
import Derived.WalkKit
import Derived.KernelRfl
import Derived.RowKit3
import Derived.Deep.LoopGhost
import Derived.Deep.QuietTactic
import Derived.BigQuiet
import Derived.WideLaws
import Derived.Deep.DeepCutAuto
import Derived.Deep.CutBlock
import Derived.Deep.RegionHeld3
import Derived.Laws.Rows
import Derived.Lib.AppendStr
import Derived.ArgAppend
import Derived.Laws.IdiomCopy
import Derived.OrdersHeld
import Derived.Laws.BitsLemmas
import Derived.RowKit
import Derived.Test.YtnnpdgegejklpaaWWords
import Derived.Test.YtnnpdgegejklpaaWLast
import Derived.Test.YtnnpdgegejklpaaWTab
import Derived.Test.YtnnpdgegejklpaaWFour
import Derived.Test.YtnnpdgegejklpaaWQPut
import Derived.Test.YtnnpdgegejklpaaWApart
import Derived.Test.YtnnpdgegejklpaaWArr
import Derived.Test.YtnnpdgegejklpaaWZeros
import Derived.Test.YtnnpdgegejklpaaWFoot
import Derived.Test.YtnnpdgegejklpaaWKept
import Derived.Test.YtnnpdgegejklpaaWShare
import Derived.Test.YtnnpdgegejklpaaWN
import Derived.Test.YtnnpdgegejklpaaWFootNe
import Derived.Test.YtnnpdgegejklpaaWAt
import Derived.Test.YtnnpdgegejklpaaWEqStruct
import Derived.Test.YtnnpdgegejklpaaWRepsOne
import Derived.Test.YtnnpdgegejklpaaWInv
import Derived.Test.YtnnpdgegejklpaaWInvWords
import Derived.Test.YtnnpdgegejklpaaWGuard
import Derived.Test.YtnnpdgegejklpaaWNEv
import Derived.Test.YtnnpdgegejklpaaWMore
namespace Go.Proofs.Ytnnpdgegejklpaa.PEditsBoth
open Go.RowKit Go.Proofs.YtnnpdgegejklpaaW.PrintWords Go.Proofs.YtnnpdgegejklpaaW.PrintLast Go.Proofs.YtnnpdgegejklpaaW.PrintMore
attribute [local go_sem] max2_int min2_int max_two min_two max_three min_three max_four min_four   -- for this text's walks alone
set_option linter.unusedVariables false
set_option linter.unusedSimpArgs false



def errW : Option Int → Value
  | none => .nilIface
  | some c => .iface 0 (.int .i64 c)
theorem errW_none : errW none = .nilIface := rfl
theorem errW_some (c : Int) : errW (some c) = .iface 0 (.int .i64 c) := rfl

-- the values' own types

end Go.Proofs.Ytnnpdgegejklpaa.PEditsBoth
