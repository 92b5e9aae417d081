/-
  No cell of these rows narrows 'for every input' (looked for: loops, veiled, ifaces, maps, wideKeys, modest, calm, conditions, laid).
  DERIVED. THE GIVEN ROWS OF THIS SEAT. 4 by the template 'for every input the law returns true; each argument reads behind the call as it read before'; 0 by the template 'total and deterministic' (their statements: YtamahbpkekbokaaTotals.lean).
  GIVEN WITH THE SEED: the statements are not yours to turn. If you find one false, say at which input.
  Laid BY PROGRAM, IN A SANDBOX (cutbox-rows.mjs): the forced cells as the released guide's own fill.sh prints them over the translation 357a7bef4bd48766… (all of the seat's roots in one cut). By AI agents, Wed Nov 11 2026. No macro, syntax, notation, axiom, sorry.
-/
import Derived.Test.YtamahbpkekbokaaChecked
import GoSem.Claim
import GoSem.ClaimJoined
import GoSem.ClaimMapViews
import Derived.JoinedTies
import Derived.KernelRfl
namespace Go.Proofs.Ytamahbpkekbokaa
/- THE CELL 'sum', in the pinned program and in every row, IS THE sha256 OF THE DUMP (.gsa) THAT YtamahbpkekbokaaProg.lean LOADS. Nothing in Lean hashes anything: it is a label: what it is worth is what the hold of that sum in a sandbox is worth. -/
noncomputable def Try.pinned : Pinned := { name := "ytamahbpkekbokaa", sum := "357a7bef4bd48766f21c87039dfa8ea5ccde3df57ec041e9b7d9be2ebc810e9b", checked := Try.checked }
namespace Rows
def none {H : Type} : Left H := { results := [], args := [] }

/-- 'monikerlaw04.EscapeSome': WHATEVER THE INPUT: true; the input reads as it did. -/
def escapeSomeSpec : ChangeSpec := { name := "escapeSome", fn := fun _ => fun
  | [d1, d2] => { results := [.lit (.bool true)], args := [d1, d2] }
  | _ => none }
def escapeSomeRow : OpenClaim := { program := "ytamahbpkekbokaa", sum := "357a7bef4bd48766f21c87039dfa8ea5ccde3df57ec041e9b7d9be2ebc810e9b", func := "moniker/monikerlaw04.EscapeSome", spec := "escapeSome", unfollowed := true, recurses := true, apart := false }
def EscapeSomeSaid : Prop := escapeSomeRow.holds Try.pinned (OpenSpec.ofChange escapeSomeSpec)

/-- ITS FALSE NEIGHBOUR: 'it returns false'. Refute it at one input. -/
def escapeSomeWrong : ChangeSpec := { name := "escapeSome", fn := fun _ => fun
  | [d1, d2] => { results := [.lit (.bool false)], args := [d1, d2] }
  | _ => none }
def EscapeSomeWrongFalsely : Prop := escapeSomeRow.holds Try.pinned (OpenSpec.ofChange escapeSomeWrong)

/-- 'monikerlaw04.EscapeOctets': WHATEVER THE INPUT: true; the input reads as it did. -/
def escapeOctetsSpec : ChangeSpec := { name := "escapeOctets", fn := fun _ => fun
  | [d] => { results := [.lit (.bool true)], args := [d] }
  | _ => none }
def escapeOctetsRow : OpenClaim := { program := "ytamahbpkekbokaa", sum := "357a7bef4bd48766f21c87039dfa8ea5ccde3df57ec041e9b7d9be2ebc810e9b", func := "moniker/monikerlaw04.EscapeOctets", spec := "escapeOctets", unfollowed := true, recurses := true, apart := false }
def EscapeOctetsSaid : Prop := escapeOctetsRow.holds Try.pinned (OpenSpec.ofChange escapeOctetsSpec)

/-- ITS FALSE NEIGHBOUR: 'it returns false'. Refute it at one input. -/
def escapeOctetsWrong : ChangeSpec := { name := "escapeOctets", fn := fun _ => fun
  | [d] => { results := [.lit (.bool false)], args := [d] }
  | _ => none }
def EscapeOctetsWrongFalsely : Prop := escapeOctetsRow.holds Try.pinned (OpenSpec.ofChange escapeOctetsWrong)

/-- 'monikerlaw04.EscapeCodes': WHATEVER THE INPUT: true; the input reads as it did. -/
def escapeCodesSpec : ChangeSpec := { name := "escapeCodes", fn := fun _ => fun
  | [d1, d2] => { results := [.lit (.bool true)], args := [d1, d2] }
  | _ => none }
def escapeCodesRow : OpenClaim := { program := "ytamahbpkekbokaa", sum := "357a7bef4bd48766f21c87039dfa8ea5ccde3df57ec041e9b7d9be2ebc810e9b", func := "moniker/monikerlaw04.EscapeCodes", spec := "escapeCodes", unfollowed := true, recurses := true, apart := false }
def EscapeCodesSaid : Prop := escapeCodesRow.holds Try.pinned (OpenSpec.ofChange escapeCodesSpec)

/-- ITS FALSE NEIGHBOUR: 'it returns false'. Refute it at one input. -/
def escapeCodesWrong : ChangeSpec := { name := "escapeCodes", fn := fun _ => fun
  | [d1, d2] => { results := [.lit (.bool false)], args := [d1, d2] }
  | _ => none }
def EscapeCodesWrongFalsely : Prop := escapeCodesRow.holds Try.pinned (OpenSpec.ofChange escapeCodesWrong)

/-- 'monikerlaw04.EscapeDecodes': WHATEVER THE INPUT: true; the input reads as it did. -/
def escapeDecodesSpec : ChangeSpec := { name := "escapeDecodes", fn := fun _ => fun
  | [d] => { results := [.lit (.bool true)], args := [d] }
  | _ => none }
def escapeDecodesRow : OpenClaim := { program := "ytamahbpkekbokaa", sum := "357a7bef4bd48766f21c87039dfa8ea5ccde3df57ec041e9b7d9be2ebc810e9b", func := "moniker/monikerlaw04.EscapeDecodes", spec := "escapeDecodes", unfollowed := true, recurses := true, apart := false }
def EscapeDecodesSaid : Prop := escapeDecodesRow.holds Try.pinned (OpenSpec.ofChange escapeDecodesSpec)

/-- ITS FALSE NEIGHBOUR: 'it returns false'. Refute it at one input. -/
def escapeDecodesWrong : ChangeSpec := { name := "escapeDecodes", fn := fun _ => fun
  | [d] => { results := [.lit (.bool false)], args := [d] }
  | _ => none }
def EscapeDecodesWrongFalsely : Prop := escapeDecodesRow.holds Try.pinned (OpenSpec.ofChange escapeDecodesWrong)

/- THE SECOND FORM. 'bulk': how many values and letters a reading holds, each counted each time it is reached (what is shared counts as often as it is met; a slice's spare places count too). A statement '..UptoSaid' is the law's where the arguments, and the package variables that the reading takes, are together of bulk at most 1048576: NARROWER than '..Said'. Prove '..Said' where nothing that the law and all that it calls make is longer than what came in: it says more and counts as full. Else prove '..UptoSaid'. A law counts once. -/
mutual
def uptoBulk {H : Type} : DataW H → Nat
  | .lit (.string bytes) => bytes.length + 1
  | .lit _ => 1
  | .nil => 1
  | .ptr d => uptoBulk d + 1
  | .slice elems spare => uptoBulkAll elems + uptoBulkAll spare + 1
  | .agg parts => uptoBulkAll parts + 1
  | .iface _ d => uptoBulk d + 1
  | .map entries => uptoBulkEntries entries + 1
  | .held _ => 1
def uptoBulkAll {H : Type} : List (DataW H) → Nat
  | [] => 0
  | d :: r => uptoBulk d + uptoBulkAll r
def uptoBulkEntries {H : Type} : List (Lit × DataW H) → Nat
  | [] => 0
  | x :: r => uptoBulkEntry x + uptoBulkEntries r
def uptoBulkEntry {H : Type} : Lit × DataW H → Nat
  | (.string bytes, d) => bytes.length + uptoBulk d + 1
  | (_, d) => uptoBulk d + 1
 end
def uptoSmall : (H : Type) → List (DataW H) → Bool := fun _ ds => decide (uptoBulkAll ds ≤ 1048576)
def OpenSpec.upto (s : _root_.Go.ChangeSpec) : _root_.Go.OpenSpec := { _root_.Go.OpenSpec.ofChange s with cond := some uptoSmall }

/-- 'monikerlaw04.EscapeSome', WHERE WHAT IT READS IS OF BULK AT MOST 1048576: true; the input reads as it did. -/
def escapeSomeUptoRow : OpenClaim := { program := "ytamahbpkekbokaa", sum := "357a7bef4bd48766f21c87039dfa8ea5ccde3df57ec041e9b7d9be2ebc810e9b", func := "moniker/monikerlaw04.EscapeSome", spec := "escapeSome", unfollowed := true, recurses := true, apart := false, narrowed := true }
def EscapeSomeUptoSaid : Prop := escapeSomeUptoRow.holds Try.pinned (OpenSpec.upto escapeSomeSpec)

/-- 'monikerlaw04.EscapeOctets', WHERE WHAT IT READS IS OF BULK AT MOST 1048576: true; the input reads as it did. -/
def escapeOctetsUptoRow : OpenClaim := { program := "ytamahbpkekbokaa", sum := "357a7bef4bd48766f21c87039dfa8ea5ccde3df57ec041e9b7d9be2ebc810e9b", func := "moniker/monikerlaw04.EscapeOctets", spec := "escapeOctets", unfollowed := true, recurses := true, apart := false, narrowed := true }
def EscapeOctetsUptoSaid : Prop := escapeOctetsUptoRow.holds Try.pinned (OpenSpec.upto escapeOctetsSpec)

/-- 'monikerlaw04.EscapeCodes', WHERE WHAT IT READS IS OF BULK AT MOST 1048576: true; the input reads as it did. -/
def escapeCodesUptoRow : OpenClaim := { program := "ytamahbpkekbokaa", sum := "357a7bef4bd48766f21c87039dfa8ea5ccde3df57ec041e9b7d9be2ebc810e9b", func := "moniker/monikerlaw04.EscapeCodes", spec := "escapeCodes", unfollowed := true, recurses := true, apart := false, narrowed := true }
def EscapeCodesUptoSaid : Prop := escapeCodesUptoRow.holds Try.pinned (OpenSpec.upto escapeCodesSpec)

/-- 'monikerlaw04.EscapeDecodes', WHERE WHAT IT READS IS OF BULK AT MOST 1048576: true; the input reads as it did. -/
def escapeDecodesUptoRow : OpenClaim := { program := "ytamahbpkekbokaa", sum := "357a7bef4bd48766f21c87039dfa8ea5ccde3df57ec041e9b7d9be2ebc810e9b", func := "moniker/monikerlaw04.EscapeDecodes", spec := "escapeDecodes", unfollowed := true, recurses := true, apart := false, narrowed := true }
def EscapeDecodesUptoSaid : Prop := escapeDecodesUptoRow.holds Try.pinned (OpenSpec.upto escapeDecodesSpec)

end Rows
end Go.Proofs.Ytamahbpkekbokaa
