/-
  No cell of these rows narrows 'for every input' (looked for: loops, veiled, ifaces, maps, wideKeys, modest, calm, conditions, laid).
  DERIVED. THE GIVEN ROWS OF THIS SEAT. 3 by the template 'for every input the law returns true; each argument reads behind the call as it read before'; 0 by the template 'total and deterministic' (their statements: YtcpkmidgpbhpkaaTotals.lean).
  GIVEN WITH THE SEED: the statements are not yours to turn. If you find one false, say at which input.
  Laid BY PROGRAM, IN A SANDBOX (cutbox-rows.mjs): the forced cells as the released guide's own fill.sh prints them over the translation 430d1481c621b6be… (all of the seat's roots in one cut). By AI agents, Wed Nov 11 2026. No macro, syntax, notation, axiom, sorry.
-/
import Derived.Test.YtcpkmidgpbhpkaaChecked
import GoSem.Claim
import GoSem.ClaimJoined
import GoSem.ClaimMapViews
import Derived.JoinedTies
import Derived.KernelRfl
namespace Go.Proofs.Ytcpkmidgpbhpkaa
/- THE CELL 'sum', in the pinned program and in every row, IS THE sha256 OF THE DUMP (.gsa) THAT YtcpkmidgpbhpkaaProg.lean LOADS. Nothing in Lean hashes anything: it is a label: what it is worth is what the hold of that sum in a sandbox is worth. -/
noncomputable def Try.pinned : Pinned := { name := "ytcpkmidgpbhpkaa", sum := "430d1481c621b6bebbc33c1dd702697eecc52d51194a8de0f4c8bc6331b654ff", checked := Try.checked }
namespace Rows
def none {H : Type} : Left H := { results := [], args := [] }

/-- 'monikerlaw03.BufferParts': WHATEVER THE INPUT: true; the input reads as it did. -/
def bufferPartsSpec : ChangeSpec := { name := "bufferParts", fn := fun _ => fun
  | [d1, d2] => { results := [.lit (.bool true)], args := [d1, d2] }
  | _ => none }
def bufferPartsRow : OpenClaim := { program := "ytcpkmidgpbhpkaa", sum := "430d1481c621b6bebbc33c1dd702697eecc52d51194a8de0f4c8bc6331b654ff", func := "moniker/monikerlaw03.BufferParts", spec := "bufferParts", apart := false }
def BufferPartsSaid : Prop := bufferPartsRow.holds Try.pinned (OpenSpec.ofChange bufferPartsSpec)

/-- ITS FALSE NEIGHBOUR: 'it returns false'. Refute it at one input. -/
def bufferPartsWrong : ChangeSpec := { name := "bufferParts", fn := fun _ => fun
  | [d1, d2] => { results := [.lit (.bool false)], args := [d1, d2] }
  | _ => none }
def BufferPartsWrongFalsely : Prop := bufferPartsRow.holds Try.pinned (OpenSpec.ofChange bufferPartsWrong)

/-- 'monikerlaw03.BufferNew': WHATEVER THE INPUT: true; the input reads as it did. -/
def bufferNewSpec : ChangeSpec := { name := "bufferNew", fn := fun _ => fun
  | [d] => { results := [.lit (.bool true)], args := [d] }
  | _ => none }
def bufferNewRow : OpenClaim := { program := "ytcpkmidgpbhpkaa", sum := "430d1481c621b6bebbc33c1dd702697eecc52d51194a8de0f4c8bc6331b654ff", func := "moniker/monikerlaw03.BufferNew", spec := "bufferNew", apart := false }
def BufferNewSaid : Prop := bufferNewRow.holds Try.pinned (OpenSpec.ofChange bufferNewSpec)

/-- ITS FALSE NEIGHBOUR: 'it returns false'. Refute it at one input. -/
def bufferNewWrong : ChangeSpec := { name := "bufferNew", fn := fun _ => fun
  | [d] => { results := [.lit (.bool false)], args := [d] }
  | _ => none }
def BufferNewWrongFalsely : Prop := bufferNewRow.holds Try.pinned (OpenSpec.ofChange bufferNewWrong)

/-- 'monikerlaw03.BufferPlays': WHATEVER THE INPUT: true; the input reads as it did. -/
def bufferPlaysSpec : ChangeSpec := { name := "bufferPlays", fn := fun _ => fun
  | [d1, d2] => { results := [.lit (.bool true)], args := [d1, d2] }
  | _ => none }
def bufferPlaysRow : OpenClaim := { program := "ytcpkmidgpbhpkaa", sum := "430d1481c621b6bebbc33c1dd702697eecc52d51194a8de0f4c8bc6331b654ff", func := "moniker/monikerlaw03.BufferPlays", spec := "bufferPlays", apart := false }
def BufferPlaysSaid : Prop := bufferPlaysRow.holds Try.pinned (OpenSpec.ofChange bufferPlaysSpec)

/-- ITS FALSE NEIGHBOUR: 'it returns false'. Refute it at one input. -/
def bufferPlaysWrong : ChangeSpec := { name := "bufferPlays", fn := fun _ => fun
  | [d1, d2] => { results := [.lit (.bool false)], args := [d1, d2] }
  | _ => none }
def BufferPlaysWrongFalsely : Prop := bufferPlaysRow.holds Try.pinned (OpenSpec.ofChange bufferPlaysWrong)

/- THE SECOND FORM. 'bulk': how many values and letters a reading holds, each counted each time it is reached (what is shared counts as often as it is met; a slice's spare places count too). A statement '..UptoSaid' is the law's where the arguments, and the package variables that the reading takes, are together of bulk at most 1048576: NARROWER than '..Said'. Prove '..Said' where nothing that the law and all that it calls make is longer than what came in: it says more and counts as full. Else prove '..UptoSaid'. A law counts once. -/
mutual
def uptoBulk {H : Type} : DataW H → Nat
  | .lit (.string bytes) => bytes.length + 1
  | .lit _ => 1
  | .nil => 1
  | .ptr d => uptoBulk d + 1
  | .slice elems spare => uptoBulkAll elems + uptoBulkAll spare + 1
  | .agg parts => uptoBulkAll parts + 1
  | .iface _ d => uptoBulk d + 1
  | .map entries => uptoBulkEntries entries + 1
  | .held _ => 1
def uptoBulkAll {H : Type} : List (DataW H) → Nat
  | [] => 0
  | d :: r => uptoBulk d + uptoBulkAll r
def uptoBulkEntries {H : Type} : List (Lit × DataW H) → Nat
  | [] => 0
  | x :: r => uptoBulkEntry x + uptoBulkEntries r
def uptoBulkEntry {H : Type} : Lit × DataW H → Nat
  | (.string bytes, d) => bytes.length + uptoBulk d + 1
  | (_, d) => uptoBulk d + 1
 end
def uptoSmall : (H : Type) → List (DataW H) → Bool := fun _ ds => decide (uptoBulkAll ds ≤ 1048576)
def OpenSpec.upto (s : _root_.Go.ChangeSpec) : _root_.Go.OpenSpec := { _root_.Go.OpenSpec.ofChange s with cond := some uptoSmall }

/-- 'monikerlaw03.BufferParts', WHERE WHAT IT READS IS OF BULK AT MOST 1048576: true; the input reads as it did. -/
def bufferPartsUptoRow : OpenClaim := { program := "ytcpkmidgpbhpkaa", sum := "430d1481c621b6bebbc33c1dd702697eecc52d51194a8de0f4c8bc6331b654ff", func := "moniker/monikerlaw03.BufferParts", spec := "bufferParts", apart := false, narrowed := true }
def BufferPartsUptoSaid : Prop := bufferPartsUptoRow.holds Try.pinned (OpenSpec.upto bufferPartsSpec)

/-- 'monikerlaw03.BufferNew', WHERE WHAT IT READS IS OF BULK AT MOST 1048576: true; the input reads as it did. -/
def bufferNewUptoRow : OpenClaim := { program := "ytcpkmidgpbhpkaa", sum := "430d1481c621b6bebbc33c1dd702697eecc52d51194a8de0f4c8bc6331b654ff", func := "moniker/monikerlaw03.BufferNew", spec := "bufferNew", apart := false, narrowed := true }
def BufferNewUptoSaid : Prop := bufferNewUptoRow.holds Try.pinned (OpenSpec.upto bufferNewSpec)

/-- 'monikerlaw03.BufferPlays', WHERE WHAT IT READS IS OF BULK AT MOST 1048576: true; the input reads as it did. -/
def bufferPlaysUptoRow : OpenClaim := { program := "ytcpkmidgpbhpkaa", sum := "430d1481c621b6bebbc33c1dd702697eecc52d51194a8de0f4c8bc6331b654ff", func := "moniker/monikerlaw03.BufferPlays", spec := "bufferPlays", apart := false, narrowed := true }
def BufferPlaysUptoSaid : Prop := bufferPlaysUptoRow.holds Try.pinned (OpenSpec.upto bufferPlaysSpec)

end Rows
end Go.Proofs.Ytcpkmidgpbhpkaa
