-- SPLICED by sprint.py: out of the kit's printer, with some functions by this session's own texts. No printed file. Lean checks it.
import Derived.Test.YteebphjlecmgjaaDoorProg
import Derived.Below
import Derived.Deep.Draws
import Derived.Deep.AppendLies
import Derived.Maps.AppendAt
import Derived.OwnWalk
import Derived.Laws.BytesArg
import Derived.Laws.MakeOwn
import Derived.Laws.OwnMore
import Derived.Deep.OwnRows
import Derived.Tactics
import Derived.Lib.ConvBytes
import Derived.Laws.Slices
import Derived.WalkKit
import Derived.KernelRfl
import Derived.RowKit3
import Derived.Deep.LoopGhost
import Derived.Deep.QuietTactic
import Derived.BigQuiet
import Derived.WideLaws
import Derived.Deep.DeepCutAuto
import Derived.Deep.CutBlock
import Derived.Deep.RegionHeld3
import Derived.Laws.Rows
import Derived.Lib.AppendStr
import Derived.ArgAppend
import Derived.Laws.IdiomCopy
import Derived.OrdersHeld
import Derived.Laws.BitsLemmas
import Derived.RowKit
import Derived.Laws.CopyRow
import Derived.Deep.RegionLaw
import Derived.Lib.Strings
import Derived.Test.YteebphjlecmgjaaDoorShelf
import Derived.Test.YteebphjlecmgjaaDoorWWords
import Derived.Test.YteebphjlecmgjaaDoorWLast
import Derived.Test.YteebphjlecmgjaaDoorWTab
import Derived.Test.YteebphjlecmgjaaDoorWFour
import Derived.Test.YteebphjlecmgjaaDoorWQPut
import Derived.Test.YteebphjlecmgjaaDoorWApart
import Derived.Test.YteebphjlecmgjaaDoorWArr
import Derived.Test.YteebphjlecmgjaaDoorWZeros
import Derived.Test.YteebphjlecmgjaaDoorWFoot
import Derived.Test.YteebphjlecmgjaaDoorWKept
import Derived.Test.YteebphjlecmgjaaDoorWShare
import Derived.Test.YteebphjlecmgjaaDoorWN
import Derived.Test.YteebphjlecmgjaaDoorWFootNe
import Derived.Test.YteebphjlecmgjaaDoorWAt
import Derived.Test.YteebphjlecmgjaaDoorWEqStruct
import Derived.Test.YteebphjlecmgjaaDoorWRepsOne
import Derived.Test.YteebphjlecmgjaaDoorWInv
import Derived.Test.YteebphjlecmgjaaDoorWInvWords
import Derived.Test.YteebphjlecmgjaaDoorWGuard
import Derived.Test.YteebphjlecmgjaaDoorWNEv
import Derived.Test.YteebphjlecmgjaaDoorWMore
namespace Go.Proofs.YteebphjlecmgjaaDoor.PAll
open Go.RowKit Go.Proofs.YteebphjlecmgjaaDoorW.PrintWords Go.Proofs.YteebphjlecmgjaaDoorW.PrintLast Go.Proofs.YteebphjlecmgjaaDoorW.PrintMore
attribute [local go_sem] max2_int min2_int max_two min_two max_three min_three max_four min_four   -- for this text's walks alone
set_option linter.unusedVariables false
set_option linter.unusedSimpArgs false



def errW : Option Int → Value
  | none => .nilIface
  | some c => .iface 0 (.int .i64 c)
theorem errW_none : errW none = .nilIface := rfl
theorem errW_some (c : Int) : errW (some c) = .iface 0 (.int .i64 c) := rfl

theorem info9 : (Tryd.prog.info? 9).map (fun i => (i.zero, i.size, i.bytes)) = some (some (.string ⟨#[]⟩), 1, 16) := by kernel_rfl
-- the values' own types

end Go.Proofs.YteebphjlecmgjaaDoor.PAll
