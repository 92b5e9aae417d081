-- SPLICED by sprint.py: out of the kit's printer, with some functions by this session's own texts. No printed file. Lean checks it.
import Derived.Test.YtajbcpmbkncpnaaProg
import Derived.Below
import Derived.Deep.Draws
import Derived.Deep.AppendLies
import Derived.Maps.AppendAt
import Derived.OwnWalk
import Derived.Laws.BytesArg
import Derived.Laws.MakeOwn
import Derived.Laws.OwnMore
import Derived.Deep.OwnRows
import Derived.Tactics
import Derived.Lib.ConvBytes
import Derived.Laws.Slices
import Derived.WalkKit
import Derived.KernelRfl
import Derived.RowKit3
import Derived.Deep.LoopGhost
import Derived.Deep.QuietTactic
import Derived.BigQuiet
import Derived.WideLaws
import Derived.Deep.DeepCutAuto
import Derived.Deep.CutBlock
import Derived.Deep.RegionHeld3
import Derived.Laws.Rows
import Derived.Lib.AppendStr
import Derived.ArgAppend
import Derived.Laws.IdiomCopy
import Derived.OrdersHeld
import Derived.Laws.BitsLemmas
import Derived.RowKit
import Derived.Test.YtajbcpmbkncpnaaWWords
import Derived.Test.YtajbcpmbkncpnaaWLast
import Derived.Test.YtajbcpmbkncpnaaWTab
import Derived.Test.YtajbcpmbkncpnaaWFour
import Derived.Test.YtajbcpmbkncpnaaWQPut
import Derived.Test.YtajbcpmbkncpnaaWApart
import Derived.Test.YtajbcpmbkncpnaaWArr
import Derived.Test.YtajbcpmbkncpnaaWZeros
import Derived.Test.YtajbcpmbkncpnaaWFoot
import Derived.Test.YtajbcpmbkncpnaaWKept
import Derived.Test.YtajbcpmbkncpnaaWShare
import Derived.Test.YtajbcpmbkncpnaaWN
import Derived.Test.YtajbcpmbkncpnaaWFootNe
import Derived.Test.YtajbcpmbkncpnaaWAt
import Derived.Test.YtajbcpmbkncpnaaWEqStruct
import Derived.Test.YtajbcpmbkncpnaaWRepsOne
import Derived.Test.YtajbcpmbkncpnaaWInv
import Derived.Test.YtajbcpmbkncpnaaWInvWords
import Derived.Test.YtajbcpmbkncpnaaWGuard
import Derived.Test.YtajbcpmbkncpnaaWNEv
import Derived.Test.YtajbcpmbkncpnaaWMore
namespace Go.Proofs.Ytajbcpmbkncpnaa.PAll
open Go.RowKit Go.Proofs.YtajbcpmbkncpnaaW.PrintWords Go.Proofs.YtajbcpmbkncpnaaW.PrintLast Go.Proofs.YtajbcpmbkncpnaaW.PrintMore
attribute [local go_sem] max2_int min2_int max_two min_two max_three min_three max_four min_four   -- for this text's walks alone
set_option linter.unusedVariables false
set_option linter.unusedSimpArgs false



def errW : Option Int → Value
  | none => .nilIface
  | some c => .iface 0 (.int .i64 c)
theorem errW_none : errW none = .nilIface := rfl
theorem errW_some (c : Int) : errW (some c) = .iface 0 (.int .i64 c) := rfl

-- the values' own types

end Go.Proofs.Ytajbcpmbkncpnaa.PAll
