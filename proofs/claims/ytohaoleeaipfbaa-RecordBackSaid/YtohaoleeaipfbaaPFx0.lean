-- By a program of this session (the kit's print, patched), for this seat.
import Derived.Test.YtohaoleeaipfbaaProg
import Derived.Below
import Derived.Deep.Draws
import Derived.Deep.AppendLies
import Derived.Maps.AppendAt
import Derived.OwnWalk
import Derived.Laws.BytesArg
import Derived.Laws.MakeOwn
import Derived.Laws.OwnMore
import Derived.Deep.OwnRows
import Derived.Tactics
import Derived.Lib.ConvBytes
import Derived.Laws.Slices
import Derived.WalkKit
import Derived.KernelRfl
import Derived.RowKit3
import Derived.Deep.LoopGhost
import Derived.Deep.QuietTactic
import Derived.BigQuiet
import Derived.WideLaws
import Derived.Deep.DeepCutAuto
import Derived.Deep.CutBlock
import Derived.Deep.RegionHeld3
import Derived.Laws.Rows
import Derived.Lib.AppendStr
import Derived.ArgAppend
import Derived.Laws.IdiomCopy
import Derived.OrdersHeld
import Derived.Laws.BitsLemmas
import Derived.RowKit
import Derived.Test.YtohaoleeaipfbaaWWords
import Derived.Test.YtohaoleeaipfbaaWLast
import Derived.Test.YtohaoleeaipfbaaWTab
import Derived.Test.YtohaoleeaipfbaaWFour
import Derived.Test.YtohaoleeaipfbaaWQPut
import Derived.Test.YtohaoleeaipfbaaWApart
import Derived.Test.YtohaoleeaipfbaaWArr
import Derived.Test.YtohaoleeaipfbaaWZeros
import Derived.Test.YtohaoleeaipfbaaWFoot
import Derived.Test.YtohaoleeaipfbaaWKept
import Derived.Test.YtohaoleeaipfbaaWShare
import Derived.Test.YtohaoleeaipfbaaWN
import Derived.Test.YtohaoleeaipfbaaWFootNe
import Derived.Test.YtohaoleeaipfbaaWAt
import Derived.Test.YtohaoleeaipfbaaWEqStruct
import Derived.Test.YtohaoleeaipfbaaWRepsOne
import Derived.Test.YtohaoleeaipfbaaWInv
import Derived.Test.YtohaoleeaipfbaaWInvWords
import Derived.Test.YtohaoleeaipfbaaWGuard
import Derived.Test.YtohaoleeaipfbaaWNEv
import Derived.Test.YtohaoleeaipfbaaWMore
import Derived.Test.YtohaoleeaipfbaaXtra
namespace Go.Proofs.Ytohaoleeaipfbaa.PF
open Go.RowKit Go.Proofs.YtohaoleeaipfbaaW.PrintWords Go.Proofs.YtohaoleeaipfbaaW.PrintLast Go.Proofs.YtohaoleeaipfbaaW.PrintMore
attribute [local go_sem] max2_int min2_int max_two min_two max_three min_three max_four min_four   -- for this text's walks alone
set_option linter.unusedVariables false
set_option linter.unusedSimpArgs false



def errW : Option Int → Value
  | none => .nilIface
  | some c => .iface 0 (.int .i64 c)
theorem errW_none : errW none = .nilIface := rfl
theorem errW_some (c : Int) : errW (some c) = .iface 0 (.int .i64 c) := rfl

theorem info3 : (Try.prog.info? 3).map (fun i => (i.zero, i.size, i.bytes)) = some (some (.int .i64 0), 1, 8) := by kernel_rfl
theorem info5 : (Try.prog.info? 5).map (fun i => (i.zero, i.size, i.bytes)) = some (some (.int .u8 0), 1, 1) := by kernel_rfl
-- the values' own types

end Go.Proofs.Ytohaoleeaipfbaa.PF
