/- A part of a law as a program wrote it (wip/myprint.py, over the print of the kit): a function, what its call does, or the row of a law; Lean checks it. -/
import Derived.Test.YtmoceagbmgoijaaProg
import Derived.Below
import Derived.Deep.Draws
import Derived.Deep.AppendLies
import Derived.Maps.AppendAt
import Derived.OwnWalk
import Derived.Laws.BytesArg
import Derived.Laws.MakeOwn
import Derived.Laws.OwnMore
import Derived.Deep.OwnRows
import Derived.Tactics
import Derived.Lib.ConvBytes
import Derived.Laws.Slices
import Derived.WalkKit
import Derived.KernelRfl
import Derived.RowKit3
import Derived.Deep.LoopGhost
import Derived.Deep.QuietTactic
import Derived.BigQuiet
import Derived.WideLaws
import Derived.Deep.DeepCutAuto
import Derived.Deep.CutBlock
import Derived.Deep.RegionHeld3
import Derived.Laws.Rows
import Derived.Lib.AppendStr
import Derived.ArgAppend
import Derived.Laws.IdiomCopy
import Derived.OrdersHeld
import Derived.Laws.BitsLemmas
import Derived.RowKit
import Derived.Test.YtmoceagbmgoijaaWWords
import Derived.Test.YtmoceagbmgoijaaWLast
import Derived.Test.YtmoceagbmgoijaaWTab
import Derived.Test.YtmoceagbmgoijaaWFour
import Derived.Test.YtmoceagbmgoijaaWQPut
import Derived.Test.YtmoceagbmgoijaaWApart
import Derived.Test.YtmoceagbmgoijaaWArr
import Derived.Test.YtmoceagbmgoijaaWZeros
import Derived.Test.YtmoceagbmgoijaaWFoot
import Derived.Test.YtmoceagbmgoijaaWKept
import Derived.Test.YtmoceagbmgoijaaWShare
import Derived.Test.YtmoceagbmgoijaaWN
import Derived.Test.YtmoceagbmgoijaaWFootNe
import Derived.Test.YtmoceagbmgoijaaWAt
import Derived.Test.YtmoceagbmgoijaaWEqStruct
import Derived.Test.YtmoceagbmgoijaaWRepsOne
import Derived.Test.YtmoceagbmgoijaaWInv
import Derived.Test.YtmoceagbmgoijaaWInvWords
import Derived.Test.YtmoceagbmgoijaaWGuard
import Derived.Test.YtmoceagbmgoijaaWNEv
import Derived.Test.YtmoceagbmgoijaaWMore
namespace Go.Proofs.Ytmoceagbmgoijaa.PA
open Go.RowKit Go.Proofs.YtmoceagbmgoijaaW.PrintWords Go.Proofs.YtmoceagbmgoijaaW.PrintLast Go.Proofs.YtmoceagbmgoijaaW.PrintMore
attribute [local go_sem] max2_int min2_int max_two min_two max_three min_three max_four min_four   -- for this text's walks alone
set_option linter.unusedVariables false
set_option linter.unusedSimpArgs false



def errW : Option Int → Value
  | none => .nilIface
  | some c => .iface 0 (.int .i64 c)
theorem errW_none : errW none = .nilIface := rfl
theorem errW_some (c : Int) : errW (some c) = .iface 0 (.int .i64 c) := rfl

-- the values' own types

end Go.Proofs.Ytmoceagbmgoijaa.PA
