-- SPLICED by sprint.py: out of the kit's printer, with some functions by this session's own texts. No printed file. Lean checks it.
import Derived.Test.YtcpkmidgpbhpkaaProg
import Derived.Below
import Derived.Deep.Draws
import Derived.Deep.AppendLies
import Derived.Maps.AppendAt
import Derived.OwnWalk
import Derived.Laws.BytesArg
import Derived.Laws.MakeOwn
import Derived.Laws.OwnMore
import Derived.Deep.OwnRows
import Derived.Tactics
import Derived.Lib.ConvBytes
import Derived.Laws.Slices
import Derived.WalkKit
import Derived.KernelRfl
import Derived.RowKit3
import Derived.Deep.LoopGhost
import Derived.Deep.QuietTactic
import Derived.BigQuiet
import Derived.WideLaws
import Derived.Deep.DeepCutAuto
import Derived.Deep.CutBlock
import Derived.Deep.RegionHeld3
import Derived.Laws.Rows
import Derived.Lib.AppendStr
import Derived.ArgAppend
import Derived.Laws.IdiomCopy
import Derived.OrdersHeld
import Derived.Laws.BitsLemmas
import Derived.RowKit
import Derived.Test.YtcpkmidgpbhpkaaWWords
import Derived.Test.YtcpkmidgpbhpkaaWLast
import Derived.Test.YtcpkmidgpbhpkaaWTab
import Derived.Test.YtcpkmidgpbhpkaaWFour
import Derived.Test.YtcpkmidgpbhpkaaWQPut
import Derived.Test.YtcpkmidgpbhpkaaWApart
import Derived.Test.YtcpkmidgpbhpkaaWArr
import Derived.Test.YtcpkmidgpbhpkaaWZeros
import Derived.Test.YtcpkmidgpbhpkaaWFoot
import Derived.Test.YtcpkmidgpbhpkaaWKept
import Derived.Test.YtcpkmidgpbhpkaaWShare
import Derived.Test.YtcpkmidgpbhpkaaWN
import Derived.Test.YtcpkmidgpbhpkaaWFootNe
import Derived.Test.YtcpkmidgpbhpkaaWAt
import Derived.Test.YtcpkmidgpbhpkaaWEqStruct
import Derived.Test.YtcpkmidgpbhpkaaWRepsOne
import Derived.Test.YtcpkmidgpbhpkaaWInv
import Derived.Test.YtcpkmidgpbhpkaaWInvWords
import Derived.Test.YtcpkmidgpbhpkaaWGuard
import Derived.Test.YtcpkmidgpbhpkaaWNEv
import Derived.Test.YtcpkmidgpbhpkaaWMore
namespace Go.Proofs.Ytcpkmidgpbhpkaa.PAll
open Go.RowKit Go.Proofs.YtcpkmidgpbhpkaaW.PrintWords Go.Proofs.YtcpkmidgpbhpkaaW.PrintLast Go.Proofs.YtcpkmidgpbhpkaaW.PrintMore
attribute [local go_sem] max2_int min2_int max_two min_two max_three min_three max_four min_four   -- for this text's walks alone
set_option linter.unusedVariables false
set_option linter.unusedSimpArgs false



def errW : Option Int → Value
  | none => .nilIface
  | some c => .iface 0 (.int .i64 c)
theorem errW_none : errW none = .nilIface := rfl
theorem errW_some (c : Int) : errW (some c) = .iface 0 (.int .i64 c) := rfl

-- the values' own types

end Go.Proofs.Ytcpkmidgpbhpkaa.PAll
