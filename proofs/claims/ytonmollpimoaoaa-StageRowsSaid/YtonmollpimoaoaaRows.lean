/-
  No cell of these rows narrows 'for every input' (looked for: loops, veiled, ifaces, maps, wideKeys, modest, calm, conditions, laid).
  DERIVED. THE GIVEN ROWS OF THIS SEAT. 3 by the template 'for every input the law returns true; each argument reads behind the call as it read before'; 0 by the template 'total and deterministic' (their statements: YtonmollpimoaoaaTotals.lean).
  GIVEN WITH THE SEED: the statements are not yours to turn. If you find one false, say at which input.
  Laid BY PROGRAM, IN A SANDBOX (cutbox-rows.mjs): the forced cells as the released guide's own fill.sh prints them over the translation eafc6bb358051058… (all of the seat's roots in one cut). By AI agents, Wed Nov 11 2026. No macro, syntax, notation, axiom, sorry.
-/
import Derived.Test.YtonmollpimoaoaaChecked
import GoSem.Claim
import GoSem.ClaimJoined
import GoSem.ClaimMapViews
import Derived.JoinedTies
import Derived.KernelRfl
namespace Go.Proofs.Ytonmollpimoaoaa
/- THE CELL 'sum', in the pinned program and in every row, IS THE sha256 OF THE DUMP (.gsa) THAT YtonmollpimoaoaaProg.lean LOADS. Nothing in Lean hashes anything: it is a label: what it is worth is what the hold of that sum in a sandbox is worth. -/
noncomputable def Try.pinned : Pinned := { name := "ytonmollpimoaoaa", sum := "eafc6bb358051058fd13130f467ea5bc060438965f1784b3309f6493416d63d8", checked := Try.checked }
namespace Rows
def none {H : Type} : Left H := { results := [], args := [] }

/-- 'monikerlaw05.StageTells': WHATEVER THE INPUT: true; the input reads as it did. -/
def stageTellsSpec : ChangeSpec := { name := "stageTells", fn := fun _ => fun
  | [d1, d2, d3] => { results := [.lit (.bool true)], args := [d1, d2, d3] }
  | _ => none }
def stageTellsRow : OpenClaim := { program := "ytonmollpimoaoaa", sum := "eafc6bb358051058fd13130f467ea5bc060438965f1784b3309f6493416d63d8", func := "moniker/monikerlaw05.StageTells", spec := "stageTells", plainKeys := false, apart := false }
def StageTellsSaid : Prop := stageTellsRow.holds Try.pinned (OpenSpec.ofChange stageTellsSpec)

/-- ITS FALSE NEIGHBOUR: 'it returns false'. Refute it at one input. -/
def stageTellsWrong : ChangeSpec := { name := "stageTells", fn := fun _ => fun
  | [d1, d2, d3] => { results := [.lit (.bool false)], args := [d1, d2, d3] }
  | _ => none }
def StageTellsWrongFalsely : Prop := stageTellsRow.holds Try.pinned (OpenSpec.ofChange stageTellsWrong)

/-- 'monikerlaw05.StageFull': WHATEVER THE INPUT: true; the input reads as it did. -/
def stageFullSpec : ChangeSpec := { name := "stageFull", fn := fun _ => fun
  | [d] => { results := [.lit (.bool true)], args := [d] }
  | _ => none }
def stageFullRow : OpenClaim := { program := "ytonmollpimoaoaa", sum := "eafc6bb358051058fd13130f467ea5bc060438965f1784b3309f6493416d63d8", func := "moniker/monikerlaw05.StageFull", spec := "stageFull", plainKeys := false, apart := false }
def StageFullSaid : Prop := stageFullRow.holds Try.pinned (OpenSpec.ofChange stageFullSpec)

/-- ITS FALSE NEIGHBOUR: 'it returns false'. Refute it at one input. -/
def stageFullWrong : ChangeSpec := { name := "stageFull", fn := fun _ => fun
  | [d] => { results := [.lit (.bool false)], args := [d] }
  | _ => none }
def StageFullWrongFalsely : Prop := stageFullRow.holds Try.pinned (OpenSpec.ofChange stageFullWrong)

/-- 'monikerlaw05.StageRows': WHATEVER THE INPUT: true; the input reads as it did. -/
def stageRowsSpec : ChangeSpec := { name := "stageRows", fn := fun _ => fun
  | [d1, d2] => { results := [.lit (.bool true)], args := [d1, d2] }
  | _ => none }
def stageRowsRow : OpenClaim := { program := "ytonmollpimoaoaa", sum := "eafc6bb358051058fd13130f467ea5bc060438965f1784b3309f6493416d63d8", func := "moniker/monikerlaw05.StageRows", spec := "stageRows", plainKeys := false, apart := false }
def StageRowsSaid : Prop := stageRowsRow.holds Try.pinned (OpenSpec.ofChange stageRowsSpec)

/-- ITS FALSE NEIGHBOUR: 'it returns false'. Refute it at one input. -/
def stageRowsWrong : ChangeSpec := { name := "stageRows", fn := fun _ => fun
  | [d1, d2] => { results := [.lit (.bool false)], args := [d1, d2] }
  | _ => none }
def StageRowsWrongFalsely : Prop := stageRowsRow.holds Try.pinned (OpenSpec.ofChange stageRowsWrong)

/- THE SECOND FORM. 'bulk': how many values and letters a reading holds, each counted each time it is reached (what is shared counts as often as it is met; a slice's spare places count too). A statement '..UptoSaid' is the law's where the arguments, and the package variables that the reading takes, are together of bulk at most 1048576: NARROWER than '..Said'. Prove '..Said' where nothing that the law and all that it calls make is longer than what came in: it says more and counts as full. Else prove '..UptoSaid'. A law counts once. -/
mutual
def uptoBulk {H : Type} : DataW H → Nat
  | .lit (.string bytes) => bytes.length + 1
  | .lit _ => 1
  | .nil => 1
  | .ptr d => uptoBulk d + 1
  | .slice elems spare => uptoBulkAll elems + uptoBulkAll spare + 1
  | .agg parts => uptoBulkAll parts + 1
  | .iface _ d => uptoBulk d + 1
  | .map entries => uptoBulkEntries entries + 1
  | .held _ => 1
def uptoBulkAll {H : Type} : List (DataW H) → Nat
  | [] => 0
  | d :: r => uptoBulk d + uptoBulkAll r
def uptoBulkEntries {H : Type} : List (Lit × DataW H) → Nat
  | [] => 0
  | x :: r => uptoBulkEntry x + uptoBulkEntries r
def uptoBulkEntry {H : Type} : Lit × DataW H → Nat
  | (.string bytes, d) => bytes.length + uptoBulk d + 1
  | (_, d) => uptoBulk d + 1
 end
def uptoSmall : (H : Type) → List (DataW H) → Bool := fun _ ds => decide (uptoBulkAll ds ≤ 1048576)
def OpenSpec.upto (s : _root_.Go.ChangeSpec) : _root_.Go.OpenSpec := { _root_.Go.OpenSpec.ofChange s with cond := some uptoSmall }

/-- 'monikerlaw05.StageTells', WHERE WHAT IT READS IS OF BULK AT MOST 1048576: true; the input reads as it did. -/
def stageTellsUptoRow : OpenClaim := { program := "ytonmollpimoaoaa", sum := "eafc6bb358051058fd13130f467ea5bc060438965f1784b3309f6493416d63d8", func := "moniker/monikerlaw05.StageTells", spec := "stageTells", plainKeys := false, apart := false, narrowed := true }
def StageTellsUptoSaid : Prop := stageTellsUptoRow.holds Try.pinned (OpenSpec.upto stageTellsSpec)

/-- 'monikerlaw05.StageFull', WHERE WHAT IT READS IS OF BULK AT MOST 1048576: true; the input reads as it did. -/
def stageFullUptoRow : OpenClaim := { program := "ytonmollpimoaoaa", sum := "eafc6bb358051058fd13130f467ea5bc060438965f1784b3309f6493416d63d8", func := "moniker/monikerlaw05.StageFull", spec := "stageFull", plainKeys := false, apart := false, narrowed := true }
def StageFullUptoSaid : Prop := stageFullUptoRow.holds Try.pinned (OpenSpec.upto stageFullSpec)

/-- 'monikerlaw05.StageRows', WHERE WHAT IT READS IS OF BULK AT MOST 1048576: true; the input reads as it did. -/
def stageRowsUptoRow : OpenClaim := { program := "ytonmollpimoaoaa", sum := "eafc6bb358051058fd13130f467ea5bc060438965f1784b3309f6493416d63d8", func := "moniker/monikerlaw05.StageRows", spec := "stageRows", plainKeys := false, apart := false, narrowed := true }
def StageRowsUptoSaid : Prop := stageRowsUptoRow.holds Try.pinned (OpenSpec.upto stageRowsSpec)

end Rows
end Go.Proofs.Ytonmollpimoaoaa
