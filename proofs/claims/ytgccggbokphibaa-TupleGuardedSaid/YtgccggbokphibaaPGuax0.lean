-- SPLICED by sprint.py: out of the kit's printer, with some functions by this session's own texts. No printed file. Lean checks it.
import Derived.Test.YtgccggbokphibaaProg
import Derived.Below
import Derived.Deep.Draws
import Derived.Deep.AppendLies
import Derived.Maps.AppendAt
import Derived.OwnWalk
import Derived.Laws.BytesArg
import Derived.Laws.MakeOwn
import Derived.Laws.OwnMore
import Derived.Deep.OwnRows
import Derived.Tactics
import Derived.Lib.ConvBytes
import Derived.Laws.Slices
import Derived.WalkKit
import Derived.KernelRfl
import Derived.RowKit3
import Derived.Deep.LoopGhost
import Derived.Deep.QuietTactic
import Derived.BigQuiet
import Derived.WideLaws
import Derived.Deep.DeepCutAuto
import Derived.Deep.CutBlock
import Derived.Deep.RegionHeld3
import Derived.Laws.Rows
import Derived.Lib.AppendStr
import Derived.ArgAppend
import Derived.Laws.IdiomCopy
import Derived.OrdersHeld
import Derived.Laws.BitsLemmas
import Derived.RowKit
import Derived.Lib.Strings
import Derived.Laws.RangeString
import Derived.WalkMore
import Derived.Test.YtgccggbokphibaaShelf
import Derived.Test.YtgccggbokphibaaWWords
import Derived.Test.YtgccggbokphibaaWLast
import Derived.Test.YtgccggbokphibaaWTab
import Derived.Test.YtgccggbokphibaaWFour
import Derived.Test.YtgccggbokphibaaWQPut
import Derived.Test.YtgccggbokphibaaWApart
import Derived.Test.YtgccggbokphibaaWArr
import Derived.Test.YtgccggbokphibaaWZeros
import Derived.Test.YtgccggbokphibaaWFoot
import Derived.Test.YtgccggbokphibaaWKept
import Derived.Test.YtgccggbokphibaaWShare
import Derived.Test.YtgccggbokphibaaWN
import Derived.Test.YtgccggbokphibaaWFootNe
import Derived.Test.YtgccggbokphibaaWAt
import Derived.Test.YtgccggbokphibaaWEqStruct
import Derived.Test.YtgccggbokphibaaWRepsOne
import Derived.Test.YtgccggbokphibaaWInv
import Derived.Test.YtgccggbokphibaaWInvWords
import Derived.Test.YtgccggbokphibaaWGuard
import Derived.Test.YtgccggbokphibaaWNEv
import Derived.Test.YtgccggbokphibaaWMore
namespace Go.Proofs.Ytgccggbokphibaa.PGua
open Go.RowKit Go.Proofs.YtgccggbokphibaaW.PrintWords Go.Proofs.YtgccggbokphibaaW.PrintLast Go.Proofs.YtgccggbokphibaaW.PrintMore
attribute [local go_sem] max2_int min2_int max_two min_two max_three min_three max_four min_four   -- for this text's walks alone
set_option linter.unusedVariables false
set_option linter.unusedSimpArgs false



def errW : Option Int → Value
  | none => .nilIface
  | some c => .iface 0 (.int .i64 c)
theorem errW_none : errW none = .nilIface := rfl
theorem errW_some (c : Int) : errW (some c) = .iface 0 (.int .i64 c) := rfl

-- the values' own types

end Go.Proofs.Ytgccggbokphibaa.PGua
