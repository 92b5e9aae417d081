-- SPLICED by sprint.py: out of the kit's printer, with some functions by this session's own texts. No printed file. Lean checks it.
import Derived.Test.YtedaalklakokkaaProg
import Derived.Below
import Derived.Deep.Draws
import Derived.Deep.AppendLies
import Derived.Maps.AppendAt
import Derived.OwnWalk
import Derived.Laws.BytesArg
import Derived.Laws.MakeOwn
import Derived.Laws.OwnMore
import Derived.Deep.OwnRows
import Derived.Tactics
import Derived.Lib.ConvBytes
import Derived.Laws.Slices
import Derived.WalkKit
import Derived.KernelRfl
import Derived.RowKit3
import Derived.Deep.LoopGhost
import Derived.Deep.QuietTactic
import Derived.BigQuiet
import Derived.WideLaws
import Derived.Deep.DeepCutAuto
import Derived.Deep.CutBlock
import Derived.Deep.RegionHeld3
import Derived.Laws.Rows
import Derived.Lib.AppendStr
import Derived.ArgAppend
import Derived.Laws.IdiomCopy
import Derived.OrdersHeld
import Derived.Laws.BitsLemmas
import Derived.RowKit
import Derived.LoopN
import Derived.Lib.Strings
import Derived.Lib.OthersKept
import Derived.IntWalk
import Derived.Test.YtedaalklakokkaaWWords
import Derived.Test.YtedaalklakokkaaWLast
import Derived.Test.YtedaalklakokkaaWTab
import Derived.Test.YtedaalklakokkaaWFour
import Derived.Test.YtedaalklakokkaaWQPut
import Derived.Test.YtedaalklakokkaaWApart
import Derived.Test.YtedaalklakokkaaWArr
import Derived.Test.YtedaalklakokkaaWZeros
import Derived.Test.YtedaalklakokkaaWFoot
import Derived.Test.YtedaalklakokkaaWKept
import Derived.Test.YtedaalklakokkaaWShare
import Derived.Test.YtedaalklakokkaaWN
import Derived.Test.YtedaalklakokkaaWFootNe
import Derived.Test.YtedaalklakokkaaWAt
import Derived.Test.YtedaalklakokkaaWEqStruct
import Derived.Test.YtedaalklakokkaaWRepsOne
import Derived.Test.YtedaalklakokkaaWInv
import Derived.Test.YtedaalklakokkaaWInvWords
import Derived.Test.YtedaalklakokkaaWGuard
import Derived.Test.YtedaalklakokkaaWNEv
import Derived.Test.YtedaalklakokkaaWMore
namespace Go.Proofs.Ytedaalklakokkaa.PAll
open Go.RowKit Go.Proofs.YtedaalklakokkaaW.PrintWords Go.Proofs.YtedaalklakokkaaW.PrintLast Go.Proofs.YtedaalklakokkaaW.PrintMore
attribute [local go_sem] max2_int min2_int max_two min_two max_three min_three max_four min_four   -- for this text's walks alone
set_option linter.unusedVariables false
set_option linter.unusedSimpArgs false



def errW : Option Int → Value
  | none => .nilIface
  | some c => .iface 0 (.int .i64 c)
theorem errW_none : errW none = .nilIface := rfl
theorem errW_some (c : Int) : errW (some c) = .iface 0 (.int .i64 c) := rfl

theorem info3 : (Try.prog.info? 3).map (fun i => (i.zero, i.size, i.bytes)) = some (some (.int .i64 0), 1, 8) := by kernel_rfl
theorem info5 : (Try.prog.info? 5).map (fun i => (i.zero, i.size, i.bytes)) = some (some (.int .u8 0), 1, 1) := by kernel_rfl
-- the values' own types

end Go.Proofs.Ytedaalklakokkaa.PAll
