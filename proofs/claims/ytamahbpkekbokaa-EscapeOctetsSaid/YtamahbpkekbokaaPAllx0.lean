-- SPLICED by sprint.py: out of the kit's printer, with some functions by this session's own texts. No printed file. Lean checks it.
import Derived.Test.YtamahbpkekbokaaProg
import Derived.Below
import Derived.Deep.Draws
import Derived.Deep.AppendLies
import Derived.Maps.AppendAt
import Derived.OwnWalk
import Derived.Laws.BytesArg
import Derived.Laws.MakeOwn
import Derived.Laws.OwnMore
import Derived.Deep.OwnRows
import Derived.Tactics
import Derived.Lib.ConvBytes
import Derived.Laws.Slices
import Derived.WalkKit
import Derived.KernelRfl
import Derived.RowKit3
import Derived.Deep.LoopGhost
import Derived.Deep.QuietTactic
import Derived.BigQuiet
import Derived.WideLaws
import Derived.Deep.DeepCutAuto
import Derived.Deep.CutBlock
import Derived.Deep.RegionHeld3
import Derived.Laws.Rows
import Derived.Lib.AppendStr
import Derived.ArgAppend
import Derived.Laws.IdiomCopy
import Derived.OrdersHeld
import Derived.Laws.BitsLemmas
import Derived.RowKit
import Derived.Test.YtamahbpkekbokaaRg
import Derived.Test.YtamahbpkekbokaaBy
import Derived.Lib.AppendStr
import Derived.Maps.AppendAt
import Derived.Test.YtamahbpkekbokaaWWords
import Derived.Test.YtamahbpkekbokaaWLast
import Derived.Test.YtamahbpkekbokaaWTab
import Derived.Test.YtamahbpkekbokaaWFour
import Derived.Test.YtamahbpkekbokaaWQPut
import Derived.Test.YtamahbpkekbokaaWApart
import Derived.Test.YtamahbpkekbokaaWArr
import Derived.Test.YtamahbpkekbokaaWZeros
import Derived.Test.YtamahbpkekbokaaWFoot
import Derived.Test.YtamahbpkekbokaaWKept
import Derived.Test.YtamahbpkekbokaaWShare
import Derived.Test.YtamahbpkekbokaaWN
import Derived.Test.YtamahbpkekbokaaWFootNe
import Derived.Test.YtamahbpkekbokaaWAt
import Derived.Test.YtamahbpkekbokaaWEqStruct
import Derived.Test.YtamahbpkekbokaaWRepsOne
import Derived.Test.YtamahbpkekbokaaWInv
import Derived.Test.YtamahbpkekbokaaWInvWords
import Derived.Test.YtamahbpkekbokaaWGuard
import Derived.Test.YtamahbpkekbokaaWNEv
import Derived.Test.YtamahbpkekbokaaWMore
namespace Go.Proofs.Ytamahbpkekbokaa.PAll
open Go.RowKit Go.Proofs.YtamahbpkekbokaaW.PrintWords Go.Proofs.YtamahbpkekbokaaW.PrintLast Go.Proofs.YtamahbpkekbokaaW.PrintMore
attribute [local go_sem] max2_int min2_int max_two min_two max_three min_three max_four min_four   -- for this text's walks alone
set_option linter.unusedVariables false
set_option linter.unusedSimpArgs false



def errW : Option Int → Value
  | none => .nilIface
  | some c => .iface 0 (.int .i64 c)
theorem errW_none : errW none = .nilIface := rfl
theorem errW_some (c : Int) : errW (some c) = .iface 0 (.int .i64 c) := rfl

theorem info5 : (Try.prog.info? 5).map (fun i => (i.zero, i.size, i.bytes)) = some (some (.int .u8 0), 1, 1) := by kernel_rfl
-- the values' own types

end Go.Proofs.Ytamahbpkekbokaa.PAll
