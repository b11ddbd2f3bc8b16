-- Written by a program of this project, on the kit's print
import Derived.Test.YtfjdbiinkonhhaaProg
import Derived.Below
import Derived.Deep.Draws
import Derived.Deep.AppendLies
import Derived.Maps.AppendAt
import Derived.OwnWalk
import Derived.Laws.BytesArg
import Derived.Laws.MakeOwn
import Derived.Laws.OwnMore
import Derived.Deep.OwnRows
import Derived.Tactics
import Derived.Lib.ConvBytes
import Derived.Laws.Slices
import Derived.WalkKit
import Derived.KernelRfl
import Derived.RowKit3
import Derived.Deep.LoopGhost
import Derived.Deep.QuietTactic
import Derived.BigQuiet
import Derived.WideLaws
import Derived.Deep.DeepCutAuto
import Derived.Deep.CutBlock
import Derived.Deep.RegionHeld3
import Derived.Laws.Rows
import Derived.Lib.AppendStr
import Derived.ArgAppend
import Derived.Laws.IdiomCopy
import Derived.OrdersHeld
import Derived.Laws.BitsLemmas
import Derived.RowKit
import Derived.Test.YtfjdbiinkonhhaaWWords
import Derived.Test.YtfjdbiinkonhhaaWLast
import Derived.Test.YtfjdbiinkonhhaaWTab
import Derived.Test.YtfjdbiinkonhhaaWFour
import Derived.Test.YtfjdbiinkonhhaaWQPut
import Derived.Test.YtfjdbiinkonhhaaWApart
import Derived.Test.YtfjdbiinkonhhaaWArr
import Derived.Test.YtfjdbiinkonhhaaWZeros
import Derived.Test.YtfjdbiinkonhhaaWFoot
import Derived.Test.YtfjdbiinkonhhaaWKept
import Derived.Test.YtfjdbiinkonhhaaWShare
import Derived.Test.YtfjdbiinkonhhaaWN
import Derived.Test.YtfjdbiinkonhhaaWFootNe
import Derived.Test.YtfjdbiinkonhhaaWAt
import Derived.Test.YtfjdbiinkonhhaaWEqStruct
import Derived.Test.YtfjdbiinkonhhaaWRepsOne
import Derived.Test.YtfjdbiinkonhhaaWInv
import Derived.Test.YtfjdbiinkonhhaaWInvWords
import Derived.Test.YtfjdbiinkonhhaaWGuard
import Derived.Test.YtfjdbiinkonhhaaWNEv
import Derived.Test.YtfjdbiinkonhhaaWMore
namespace Go.Proofs.Ytfjdbiinkonhhaa.PA
set_option linter.all false
open Go.RowKit Go.Proofs.YtfjdbiinkonhhaaW.PrintWords Go.Proofs.YtfjdbiinkonhhaaW.PrintLast Go.Proofs.YtfjdbiinkonhhaaW.PrintMore
attribute [local go_sem] max2_int min2_int max_two min_two max_three min_three max_four min_four   -- for this text's walks alone
set_option linter.unusedVariables false
set_option linter.unusedSimpArgs false



def errW : Option Int → Value
  | none => .nilIface
  | some c => .iface 0 (.int .i64 c)
theorem errW_none : errW none = .nilIface := rfl
theorem errW_some (c : Int) : errW (some c) = .iface 0 (.int .i64 c) := rfl

-- the values' own types

end Go.Proofs.Ytfjdbiinkonhhaa.PA
