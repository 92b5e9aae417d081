-- SPLICED by sprint.py: out of the kit's printer, with some functions by this session's own texts. No printed file. Lean checks it.
import Derived.Test.YteebphjlecmgjaaProg
import Derived.Below
import Derived.Deep.Draws
import Derived.Deep.AppendLies
import Derived.Maps.AppendAt
import Derived.OwnWalk
import Derived.Laws.BytesArg
import Derived.Laws.MakeOwn
import Derived.Laws.OwnMore
import Derived.Deep.OwnRows
import Derived.Tactics
import Derived.Lib.ConvBytes
import Derived.Laws.Slices
import Derived.WalkKit
import Derived.KernelRfl
import Derived.RowKit3
import Derived.Deep.LoopGhost
import Derived.Deep.QuietTactic
import Derived.BigQuiet
import Derived.WideLaws
import Derived.Deep.DeepCutAuto
import Derived.Deep.CutBlock
import Derived.Deep.RegionHeld3
import Derived.Laws.Rows
import Derived.Lib.AppendStr
import Derived.ArgAppend
import Derived.Laws.IdiomCopy
import Derived.OrdersHeld
import Derived.Laws.BitsLemmas
import Derived.RowKit
import Derived.Laws.CopyRow
import Derived.Deep.RegionLaw
import Derived.Lib.Strings
import Derived.Test.YteebphjlecmgjaaWWords
import Derived.Test.YteebphjlecmgjaaWLast
import Derived.Test.YteebphjlecmgjaaWTab
import Derived.Test.YteebphjlecmgjaaWFour
import Derived.Test.YteebphjlecmgjaaWQPut
import Derived.Test.YteebphjlecmgjaaWApart
import Derived.Test.YteebphjlecmgjaaWArr
import Derived.Test.YteebphjlecmgjaaWZeros
import Derived.Test.YteebphjlecmgjaaWFoot
import Derived.Test.YteebphjlecmgjaaWKept
import Derived.Test.YteebphjlecmgjaaWShare
import Derived.Test.YteebphjlecmgjaaWN
import Derived.Test.YteebphjlecmgjaaWFootNe
import Derived.Test.YteebphjlecmgjaaWAt
import Derived.Test.YteebphjlecmgjaaWEqStruct
import Derived.Test.YteebphjlecmgjaaWRepsOne
import Derived.Test.YteebphjlecmgjaaWInv
import Derived.Test.YteebphjlecmgjaaWInvWords
import Derived.Test.YteebphjlecmgjaaWGuard
import Derived.Test.YteebphjlecmgjaaWNEv
import Derived.Test.YteebphjlecmgjaaWMore
namespace Go.Proofs.Yteebphjlecmgjaa.PPie
open Go.RowKit Go.Proofs.YteebphjlecmgjaaW.PrintWords Go.Proofs.YteebphjlecmgjaaW.PrintLast Go.Proofs.YteebphjlecmgjaaW.PrintMore
attribute [local go_sem] max2_int min2_int max_two min_two max_three min_three max_four min_four   -- for this text's walks alone
set_option linter.unusedVariables false
set_option linter.unusedSimpArgs false



def errW : Option Int → Value
  | none => .nilIface
  | some c => .iface 0 (.int .i64 c)
theorem errW_none : errW none = .nilIface := rfl
theorem errW_some (c : Int) : errW (some c) = .iface 0 (.int .i64 c) := rfl

theorem info9 : (Try.prog.info? 9).map (fun i => (i.zero, i.size, i.bytes)) = some (some (.string ⟨#[]⟩), 1, 16) := by kernel_rfl
-- the values' own types

end Go.Proofs.Yteebphjlecmgjaa.PPie
