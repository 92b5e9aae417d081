/-
  No cell of these rows narrows 'for every input' (looked for: loops, veiled, ifaces, maps, wideKeys, modest, calm, conditions, laid).
  DERIVED. THE GIVEN ROWS OF THIS SEAT. 3 by the template 'for every input the law returns true; each argument reads behind the call as it read before'; 0 by the template 'total and deterministic' (their statements: YteebphjlecmgjaaTotals.lean).
  GIVEN WITH THE SEED: the statements are not yours to turn. If you find one false, say at which input.
  Laid BY PROGRAM, IN A SANDBOX (cutbox-rows.mjs): the forced cells as the released guide's own fill.sh prints them over the translation 663548e5cce080e3… (all of the seat's roots in one cut). By AI agents, Wed Nov 11 2026. No macro, syntax, notation, axiom, sorry.
-/
import Derived.Test.YteebphjlecmgjaaChecked
import GoSem.Claim
import GoSem.ClaimJoined
import GoSem.ClaimMapViews
import Derived.JoinedTies
import Derived.KernelRfl
namespace Go.Proofs.Yteebphjlecmgjaa
/- THE CELL 'sum', in the pinned program and in every row, IS THE sha256 OF THE DUMP (.gsa) THAT YteebphjlecmgjaaProg.lean LOADS. Nothing in Lean hashes anything: it is a label: what it is worth is what the hold of that sum in a sandbox is worth. -/
noncomputable def Try.pinned : Pinned := { name := "yteebphjlecmgjaa", sum := "663548e5cce080e3bf1244d360c05449b958a071500438f870cacca4be36b516", checked := Try.checked }
namespace Rows
def none {H : Type} : Left H := { results := [], args := [] }

/-- 'monikerlaw23.DotsShort': WHATEVER THE INPUT: true; the input reads as it did. -/
def dotsShortSpec : ChangeSpec := { name := "dotsShort", fn := fun _ => fun
  | [d] => { results := [.lit (.bool true)], args := [d] }
  | _ => none }
def dotsShortRow : OpenClaim := { program := "yteebphjlecmgjaa", sum := "663548e5cce080e3bf1244d360c05449b958a071500438f870cacca4be36b516", func := "moniker/monikerlaw23.DotsShort", spec := "dotsShort", apart := false }
def DotsShortSaid : Prop := dotsShortRow.holds Try.pinned (OpenSpec.ofChange dotsShortSpec)

/-- ITS FALSE NEIGHBOUR: 'it returns false'. Refute it at one input. -/
def dotsShortWrong : ChangeSpec := { name := "dotsShort", fn := fun _ => fun
  | [d] => { results := [.lit (.bool false)], args := [d] }
  | _ => none }
def DotsShortWrongFalsely : Prop := dotsShortRow.holds Try.pinned (OpenSpec.ofChange dotsShortWrong)

/-- 'monikerlaw23.DotsUp': WHATEVER THE INPUT: true; the input reads as it did. -/
def dotsUpSpec : ChangeSpec := { name := "dotsUp", fn := fun _ => fun
  | [d1, d2] => { results := [.lit (.bool true)], args := [d1, d2] }
  | _ => none }
def dotsUpRow : OpenClaim := { program := "yteebphjlecmgjaa", sum := "663548e5cce080e3bf1244d360c05449b958a071500438f870cacca4be36b516", func := "moniker/monikerlaw23.DotsUp", spec := "dotsUp", apart := false }
def DotsUpSaid : Prop := dotsUpRow.holds Try.pinned (OpenSpec.ofChange dotsUpSpec)

/-- ITS FALSE NEIGHBOUR: 'it returns false'. Refute it at one input. -/
def dotsUpWrong : ChangeSpec := { name := "dotsUp", fn := fun _ => fun
  | [d1, d2] => { results := [.lit (.bool false)], args := [d1, d2] }
  | _ => none }
def DotsUpWrongFalsely : Prop := dotsUpRow.holds Try.pinned (OpenSpec.ofChange dotsUpWrong)

/-- 'monikerlaw23.DotsPieces': WHATEVER THE INPUT: true; the input reads as it did. -/
def dotsPiecesSpec : ChangeSpec := { name := "dotsPieces", fn := fun _ => fun
  | [d] => { results := [.lit (.bool true)], args := [d] }
  | _ => none }
def dotsPiecesRow : OpenClaim := { program := "yteebphjlecmgjaa", sum := "663548e5cce080e3bf1244d360c05449b958a071500438f870cacca4be36b516", func := "moniker/monikerlaw23.DotsPieces", spec := "dotsPieces", apart := false }
def DotsPiecesSaid : Prop := dotsPiecesRow.holds Try.pinned (OpenSpec.ofChange dotsPiecesSpec)

/-- ITS FALSE NEIGHBOUR: 'it returns false'. Refute it at one input. -/
def dotsPiecesWrong : ChangeSpec := { name := "dotsPieces", fn := fun _ => fun
  | [d] => { results := [.lit (.bool false)], args := [d] }
  | _ => none }
def DotsPiecesWrongFalsely : Prop := dotsPiecesRow.holds Try.pinned (OpenSpec.ofChange dotsPiecesWrong)

/- THE SECOND FORM. 'bulk': how many values and letters a reading holds, each counted each time it is reached (what is shared counts as often as it is met; a slice's spare places count too). A statement '..UptoSaid' is the law's where the arguments, and the package variables that the reading takes, are together of bulk at most 1048576: NARROWER than '..Said'. Prove '..Said' where nothing that the law and all that it calls make is longer than what came in: it says more and counts as full. Else prove '..UptoSaid'. A law counts once. -/
mutual
def uptoBulk {H : Type} : DataW H → Nat
  | .lit (.string bytes) => bytes.length + 1
  | .lit _ => 1
  | .nil => 1
  | .ptr d => uptoBulk d + 1
  | .slice elems spare => uptoBulkAll elems + uptoBulkAll spare + 1
  | .agg parts => uptoBulkAll parts + 1
  | .iface _ d => uptoBulk d + 1
  | .map entries => uptoBulkEntries entries + 1
  | .held _ => 1
def uptoBulkAll {H : Type} : List (DataW H) → Nat
  | [] => 0
  | d :: r => uptoBulk d + uptoBulkAll r
def uptoBulkEntries {H : Type} : List (Lit × DataW H) → Nat
  | [] => 0
  | x :: r => uptoBulkEntry x + uptoBulkEntries r
def uptoBulkEntry {H : Type} : Lit × DataW H → Nat
  | (.string bytes, d) => bytes.length + uptoBulk d + 1
  | (_, d) => uptoBulk d + 1
 end
def uptoSmall : (H : Type) → List (DataW H) → Bool := fun _ ds => decide (uptoBulkAll ds ≤ 1048576)
def OpenSpec.upto (s : _root_.Go.ChangeSpec) : _root_.Go.OpenSpec := { _root_.Go.OpenSpec.ofChange s with cond := some uptoSmall }

/-- 'monikerlaw23.DotsShort', WHERE WHAT IT READS IS OF BULK AT MOST 1048576: true; the input reads as it did. -/
def dotsShortUptoRow : OpenClaim := { program := "yteebphjlecmgjaa", sum := "663548e5cce080e3bf1244d360c05449b958a071500438f870cacca4be36b516", func := "moniker/monikerlaw23.DotsShort", spec := "dotsShort", apart := false, narrowed := true }
def DotsShortUptoSaid : Prop := dotsShortUptoRow.holds Try.pinned (OpenSpec.upto dotsShortSpec)

/-- 'monikerlaw23.DotsUp', WHERE WHAT IT READS IS OF BULK AT MOST 1048576: true; the input reads as it did. -/
def dotsUpUptoRow : OpenClaim := { program := "yteebphjlecmgjaa", sum := "663548e5cce080e3bf1244d360c05449b958a071500438f870cacca4be36b516", func := "moniker/monikerlaw23.DotsUp", spec := "dotsUp", apart := false, narrowed := true }
def DotsUpUptoSaid : Prop := dotsUpUptoRow.holds Try.pinned (OpenSpec.upto dotsUpSpec)

/-- 'monikerlaw23.DotsPieces', WHERE WHAT IT READS IS OF BULK AT MOST 1048576: true; the input reads as it did. -/
def dotsPiecesUptoRow : OpenClaim := { program := "yteebphjlecmgjaa", sum := "663548e5cce080e3bf1244d360c05449b958a071500438f870cacca4be36b516", func := "moniker/monikerlaw23.DotsPieces", spec := "dotsPieces", apart := false, narrowed := true }
def DotsPiecesUptoSaid : Prop := dotsPiecesUptoRow.holds Try.pinned (OpenSpec.upto dotsPiecesSpec)

end Rows
end Go.Proofs.Yteebphjlecmgjaa
