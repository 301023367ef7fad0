/- Go functions of this seat as plain functions, and proofs that the code comes to them: written by a program of this session's over the kit's print.py. -/
import Derived.Test.YtbihggkkaoacpaaProg
import Derived.WalkMore
import Derived.Laws.Cover1
import Derived.Lib.Bytealg
import Derived.Laws.StandIn
import Derived.LoopTactic
import Derived.Lib.Hide
import Derived.Lib.ConvBytes
import Derived.Below
import Derived.Deep.Draws
import Derived.Deep.AppendLies
import Derived.Maps.AppendAt
import Derived.OwnWalk
import Derived.Laws.BytesArg
import Derived.Laws.MakeOwn
import Derived.Laws.OwnMore
import Derived.Deep.OwnRows
import Derived.Tactics
import Derived.Lib.ConvBytes
import Derived.Laws.Slices
import Derived.WalkKit
import Derived.KernelRfl
import Derived.RowKit3
import Derived.Deep.LoopGhost
import Derived.Deep.QuietTactic
import Derived.BigQuiet
import Derived.WideLaws
import Derived.Deep.DeepCutAuto
import Derived.Deep.CutBlock
import Derived.Deep.RegionHeld3
import Derived.Laws.Rows
import Derived.Lib.AppendStr
import Derived.ArgAppend
import Derived.Laws.IdiomCopy
import Derived.OrdersHeld
import Derived.Laws.BitsLemmas
import Derived.RowKit
import Derived.Test.YtbihggkkaoacpaaWWords
import Derived.Test.YtbihggkkaoacpaaWLast
import Derived.Test.YtbihggkkaoacpaaWTab
import Derived.Test.YtbihggkkaoacpaaWFour
import Derived.Test.YtbihggkkaoacpaaWQPut
import Derived.Test.YtbihggkkaoacpaaWApart
import Derived.Test.YtbihggkkaoacpaaWArr
import Derived.Test.YtbihggkkaoacpaaWZeros
import Derived.Test.YtbihggkkaoacpaaWFoot
import Derived.Test.YtbihggkkaoacpaaWKept
import Derived.Test.YtbihggkkaoacpaaWShare
import Derived.Test.YtbihggkkaoacpaaWN
import Derived.Test.YtbihggkkaoacpaaWFootNe
import Derived.Test.YtbihggkkaoacpaaWAt
import Derived.Test.YtbihggkkaoacpaaWEqStruct
import Derived.Test.YtbihggkkaoacpaaWRepsOne
import Derived.Test.YtbihggkkaoacpaaWInv
import Derived.Test.YtbihggkkaoacpaaWInvWords
import Derived.Test.YtbihggkkaoacpaaWGuard
import Derived.Test.YtbihggkkaoacpaaWNEv
import Derived.Test.YtbihggkkaoacpaaWMore
import Derived.Test.YtbihggkkaoacpaaXw
namespace Go.Proofs.Ytbihggkkaoacpaa.PAll
open Go.RowKit Go.Proofs.Ytbihggkkaoacpaa.Xw Go.Proofs.YtbihggkkaoacpaaW.PrintWords Go.Proofs.YtbihggkkaoacpaaW.PrintLast Go.Proofs.YtbihggkkaoacpaaW.PrintMore
attribute [local go_sem] max2_int min2_int max_two min_two max_three min_three max_four min_four   -- for this text's walks alone
set_option linter.unusedVariables false
set_option linter.unusedSimpArgs false



def errW : Option Int → Value
  | none => .nilIface
  | some c => .iface 0 (.int .i64 c)
theorem errW_none : errW none = .nilIface := rfl
theorem errW_some (c : Int) : errW (some c) = .iface 0 (.int .i64 c) := rfl

theorem info5 : (Try.prog.info? 5).map (fun i => (i.zero, i.size, i.bytes)) = some (some (.int .u8 0), 1, 1) := by kernel_rfl
theorem info9 : (Try.prog.info? 9).map (fun i => (i.zero, i.size, i.bytes)) = some (some (.string ⟨#[]⟩), 1, 16) := by kernel_rfl
-- the values' own types

end Go.Proofs.Ytbihggkkaoacpaa.PAll
