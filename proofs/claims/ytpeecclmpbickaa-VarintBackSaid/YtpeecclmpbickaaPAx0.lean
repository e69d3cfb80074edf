-- By a program of this session (the kit's print, patched), for this seat.
import Derived.Test.YtpeecclmpbickaaProg
import Derived.Below
import Derived.Deep.Draws
import Derived.Deep.AppendLies
import Derived.Maps.AppendAt
import Derived.OwnWalk
import Derived.Laws.BytesArg
import Derived.Laws.MakeOwn
import Derived.Laws.OwnMore
import Derived.Deep.OwnRows
import Derived.Tactics
import Derived.Lib.ConvBytes
import Derived.Laws.Slices
import Derived.WalkKit
import Derived.KernelRfl
import Derived.RowKit3
import Derived.Deep.LoopGhost
import Derived.Deep.QuietTactic
import Derived.BigQuiet
import Derived.WideLaws
import Derived.Deep.DeepCutAuto
import Derived.Deep.CutBlock
import Derived.Deep.RegionHeld3
import Derived.Laws.Rows
import Derived.Lib.AppendStr
import Derived.ArgAppend
import Derived.Laws.IdiomCopy
import Derived.OrdersHeld
import Derived.Laws.BitsLemmas
import Derived.RowKit
import Derived.Test.YtpeecclmpbickaaWWords
import Derived.Test.YtpeecclmpbickaaWLast
import Derived.Test.YtpeecclmpbickaaWTab
import Derived.Test.YtpeecclmpbickaaWFour
import Derived.Test.YtpeecclmpbickaaWQPut
import Derived.Test.YtpeecclmpbickaaWApart
import Derived.Test.YtpeecclmpbickaaWArr
import Derived.Test.YtpeecclmpbickaaWZeros
import Derived.Test.YtpeecclmpbickaaWFoot
import Derived.Test.YtpeecclmpbickaaWKept
import Derived.Test.YtpeecclmpbickaaWShare
import Derived.Test.YtpeecclmpbickaaWN
import Derived.Test.YtpeecclmpbickaaWFootNe
import Derived.Test.YtpeecclmpbickaaWAt
import Derived.Test.YtpeecclmpbickaaWEqStruct
import Derived.Test.YtpeecclmpbickaaWRepsOne
import Derived.Test.YtpeecclmpbickaaWInv
import Derived.Test.YtpeecclmpbickaaWInvWords
import Derived.Test.YtpeecclmpbickaaWGuard
import Derived.Test.YtpeecclmpbickaaWNEv
import Derived.Test.YtpeecclmpbickaaWMore
import Derived.Test.YtpeecclmpbickaaXtra
namespace Go.Proofs.Ytpeecclmpbickaa.PA
open Go.RowKit Go.Proofs.YtpeecclmpbickaaW.PrintWords Go.Proofs.YtpeecclmpbickaaW.PrintLast Go.Proofs.YtpeecclmpbickaaW.PrintMore
attribute [local go_sem] max2_int min2_int max_two min_two max_three min_three max_four min_four   -- for this text's walks alone
set_option linter.unusedVariables false
set_option linter.unusedSimpArgs false



def errW : Option Int → Value
  | none => .nilIface
  | some c => .iface 0 (.int .i64 c)
theorem errW_none : errW none = .nilIface := rfl
theorem errW_some (c : Int) : errW (some c) = .iface 0 (.int .i64 c) := rfl

theorem info5 : (Try.prog.info? 5).map (fun i => (i.zero, i.size, i.bytes)) = some (some (.int .u8 0), 1, 1) := by kernel_rfl
-- the values' own types

end Go.Proofs.Ytpeecclmpbickaa.PA
