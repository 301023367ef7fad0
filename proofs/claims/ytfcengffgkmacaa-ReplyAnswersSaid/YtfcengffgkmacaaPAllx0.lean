/- Go functions of this seat as plain functions, and proofs that the code comes to them: written by a program of this session's over the kit's print.py. -/
import Derived.Test.YtfcengffgkmacaaProg
import Derived.WalkMore
import Derived.Laws.Cover1
import Derived.Lib.Bytealg
import Derived.Laws.StandIn
import Derived.LoopTactic
import Derived.Lib.Hide
import Derived.Lib.ConvBytes
import Derived.Below
import Derived.Deep.Draws
import Derived.Deep.AppendLies
import Derived.Maps.AppendAt
import Derived.OwnWalk
import Derived.Laws.BytesArg
import Derived.Laws.MakeOwn
import Derived.Laws.OwnMore
import Derived.Deep.OwnRows
import Derived.Tactics
import Derived.Lib.ConvBytes
import Derived.Laws.Slices
import Derived.WalkKit
import Derived.KernelRfl
import Derived.RowKit3
import Derived.Deep.LoopGhost
import Derived.Deep.QuietTactic
import Derived.BigQuiet
import Derived.WideLaws
import Derived.Deep.DeepCutAuto
import Derived.Deep.CutBlock
import Derived.Deep.RegionHeld3
import Derived.Laws.Rows
import Derived.Lib.AppendStr
import Derived.ArgAppend
import Derived.Laws.IdiomCopy
import Derived.OrdersHeld
import Derived.Laws.BitsLemmas
import Derived.RowKit
import Derived.Test.YtfcengffgkmacaaWWords
import Derived.Test.YtfcengffgkmacaaWLast
import Derived.Test.YtfcengffgkmacaaWTab
import Derived.Test.YtfcengffgkmacaaWFour
import Derived.Test.YtfcengffgkmacaaWQPut
import Derived.Test.YtfcengffgkmacaaWApart
import Derived.Test.YtfcengffgkmacaaWArr
import Derived.Test.YtfcengffgkmacaaWZeros
import Derived.Test.YtfcengffgkmacaaWFoot
import Derived.Test.YtfcengffgkmacaaWKept
import Derived.Test.YtfcengffgkmacaaWShare
import Derived.Test.YtfcengffgkmacaaWN
import Derived.Test.YtfcengffgkmacaaWFootNe
import Derived.Test.YtfcengffgkmacaaWAt
import Derived.Test.YtfcengffgkmacaaWEqStruct
import Derived.Test.YtfcengffgkmacaaWRepsOne
import Derived.Test.YtfcengffgkmacaaWInv
import Derived.Test.YtfcengffgkmacaaWInvWords
import Derived.Test.YtfcengffgkmacaaWGuard
import Derived.Test.YtfcengffgkmacaaWNEv
import Derived.Test.YtfcengffgkmacaaWMore
import Derived.Test.YtfcengffgkmacaaXw
namespace Go.Proofs.Ytfcengffgkmacaa.PAll
open Go.RowKit Go.Proofs.Ytfcengffgkmacaa.Xw Go.Proofs.YtfcengffgkmacaaW.PrintWords Go.Proofs.YtfcengffgkmacaaW.PrintLast Go.Proofs.YtfcengffgkmacaaW.PrintMore
attribute [local go_sem] max2_int min2_int max_two min_two max_three min_three max_four min_four   -- for this text's walks alone
set_option linter.unusedVariables false
set_option linter.unusedSimpArgs false



def errW : Option Int → Value
  | none => .nilIface
  | some c => .iface 0 (.int .i64 c)
theorem errW_none : errW none = .nilIface := rfl
theorem errW_some (c : Int) : errW (some c) = .iface 0 (.int .i64 c) := rfl

theorem info5 : (Try.prog.info? 5).map (fun i => (i.zero, i.size, i.bytes)) = some (some (.int .u8 0), 1, 1) := by kernel_rfl
-- the values' own types

theorem fld64_0 (c0 c1 c2 c3 c4 : Value) (W : World) : (Instr.field 64 (.agg #[c0, c1, c2, c3, c4]) 0).run Try.prog W = .ok (c0) W := by kernel_rfl
attribute [go_sem] fld64_0
end Go.Proofs.Ytfcengffgkmacaa.PAll
