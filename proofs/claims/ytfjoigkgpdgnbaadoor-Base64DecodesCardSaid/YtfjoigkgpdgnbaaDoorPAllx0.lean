-- SPLICED by sprint.py: out of the kit's printer, with some functions by this session's own texts. No printed file. Lean checks it.
import Derived.Test.YtfjoigkgpdgnbaaDoorProg
import Derived.Below
import Derived.Deep.Draws
import Derived.Deep.AppendLies
import Derived.Maps.AppendAt
import Derived.OwnWalk
import Derived.Laws.BytesArg
import Derived.Laws.MakeOwn
import Derived.Laws.OwnMore
import Derived.Deep.OwnRows
import Derived.Tactics
import Derived.Lib.ConvBytes
import Derived.Laws.Slices
import Derived.WalkKit
import Derived.KernelRfl
import Derived.RowKit3
import Derived.Deep.LoopGhost
import Derived.Deep.QuietTactic
import Derived.BigQuiet
import Derived.WideLaws
import Derived.Deep.DeepCutAuto
import Derived.Deep.CutBlock
import Derived.Deep.RegionHeld3
import Derived.Laws.Rows
import Derived.Lib.AppendStr
import Derived.ArgAppend
import Derived.Laws.IdiomCopy
import Derived.OrdersHeld
import Derived.Laws.BitsLemmas
import Derived.RowKit
import Derived.Lib.Strings
import Derived.Lib.SlBytesConst
import Derived.Test.YtfjoigkgpdgnbaaDoorWWords
import Derived.Test.YtfjoigkgpdgnbaaDoorWLast
import Derived.Test.YtfjoigkgpdgnbaaDoorWTab
import Derived.Test.YtfjoigkgpdgnbaaDoorWFour
import Derived.Test.YtfjoigkgpdgnbaaDoorWQPut
import Derived.Test.YtfjoigkgpdgnbaaDoorWApart
import Derived.Test.YtfjoigkgpdgnbaaDoorWArr
import Derived.Test.YtfjoigkgpdgnbaaDoorWZeros
import Derived.Test.YtfjoigkgpdgnbaaDoorWFoot
import Derived.Test.YtfjoigkgpdgnbaaDoorWKept
import Derived.Test.YtfjoigkgpdgnbaaDoorWShare
import Derived.Test.YtfjoigkgpdgnbaaDoorWN
import Derived.Test.YtfjoigkgpdgnbaaDoorWFootNe
import Derived.Test.YtfjoigkgpdgnbaaDoorWAt
import Derived.Test.YtfjoigkgpdgnbaaDoorWEqStruct
import Derived.Test.YtfjoigkgpdgnbaaDoorWRepsOne
import Derived.Test.YtfjoigkgpdgnbaaDoorWInv
import Derived.Test.YtfjoigkgpdgnbaaDoorWInvWords
import Derived.Test.YtfjoigkgpdgnbaaDoorWGuard
import Derived.Test.YtfjoigkgpdgnbaaDoorWNEv
import Derived.Test.YtfjoigkgpdgnbaaDoorWMore
namespace Go.Proofs.YtfjoigkgpdgnbaaDoor.PAll
open Go.RowKit Go.Proofs.YtfjoigkgpdgnbaaDoorW.PrintWords Go.Proofs.YtfjoigkgpdgnbaaDoorW.PrintLast Go.Proofs.YtfjoigkgpdgnbaaDoorW.PrintMore
attribute [local go_sem] max2_int min2_int max_two min_two max_three min_three max_four min_four   -- for this text's walks alone
set_option linter.unusedVariables false
set_option linter.unusedSimpArgs false



def errW : Option Int → Value
  | none => .nilIface
  | some c => .iface 0 (.int .i64 c)
theorem errW_none : errW none = .nilIface := rfl
theorem errW_some (c : Int) : errW (some c) = .iface 0 (.int .i64 c) := rfl

theorem info5 : (Tryd.prog.info? 5).map (fun i => (i.zero, i.size, i.bytes)) = some (some (.int .u8 0), 1, 1) := by kernel_rfl
-- the values' own types

end Go.Proofs.YtfjoigkgpdgnbaaDoor.PAll
