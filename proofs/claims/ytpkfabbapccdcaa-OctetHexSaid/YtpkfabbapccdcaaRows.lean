/-
  No cell of these rows narrows 'for every input' (looked for: loops, veiled, ifaces, maps, wideKeys, modest, calm, conditions, laid).
  DERIVED. THE GIVEN ROWS OF THIS SEAT. 5 by the template 'for every input the law returns true; each argument reads behind the call as it read before'; 0 by the template 'total and deterministic' (their statements: YtpkfabbapccdcaaTotals.lean).
  GIVEN WITH THE SEED: the statements are not yours to turn. If you find one false, say at which input.
  Laid BY PROGRAM, IN A SANDBOX (cutbox-rows.mjs): the forced cells as the released guide's own fill.sh prints them over the translation 548b72b2ddf10ced… (all of the seat's roots in one cut). By AI agents, Wed Nov 11 2026. No macro, syntax, notation, axiom, sorry.
-/
import Derived.Test.YtpkfabbapccdcaaChecked
import GoSem.Claim
import GoSem.ClaimJoined
import GoSem.ClaimMapViews
import Derived.JoinedTies
import Derived.KernelRfl
namespace Go.Proofs.Ytpkfabbapccdcaa
/- THE CELL 'sum', in the pinned program and in every row, IS THE sha256 OF THE DUMP (.gsa) THAT YtpkfabbapccdcaaProg.lean LOADS. Nothing in Lean hashes anything: it is a label: what it is worth is what the hold of that sum in a sandbox is worth. -/
noncomputable def Try.pinned : Pinned := { name := "ytpkfabbapccdcaa", sum := "548b72b2ddf10ced2625fc8deae6256c9778861f7920ced40289b9c5102f4933", checked := Try.checked }
namespace Rows
def none {H : Type} : Left H := { results := [], args := [] }

/-- 'monikerlaw01.OctetClasses': WHATEVER THE INPUT: true; the input reads as it did. -/
def octetClassesSpec : ChangeSpec := { name := "octetClasses", fn := fun _ => fun
  | [d1, d2] => { results := [.lit (.bool true)], args := [d1, d2] }
  | _ => none }
def octetClassesRow : OpenClaim := { program := "ytpkfabbapccdcaa", sum := "548b72b2ddf10ced2625fc8deae6256c9778861f7920ced40289b9c5102f4933", func := "moniker/monikerlaw01.OctetClasses", spec := "octetClasses", apart := false }
def OctetClassesSaid : Prop := octetClassesRow.holds Try.pinned (OpenSpec.ofChange octetClassesSpec)

/-- ITS FALSE NEIGHBOUR: 'it returns false'. Refute it at one input. -/
def octetClassesWrong : ChangeSpec := { name := "octetClasses", fn := fun _ => fun
  | [d1, d2] => { results := [.lit (.bool false)], args := [d1, d2] }
  | _ => none }
def OctetClassesWrongFalsely : Prop := octetClassesRow.holds Try.pinned (OpenSpec.ofChange octetClassesWrong)

/-- 'monikerlaw01.OctetSpans': WHATEVER THE INPUT: true; the input reads as it did. -/
def octetSpansSpec : ChangeSpec := { name := "octetSpans", fn := fun _ => fun
  | [d1, d2, d3, d4] => { results := [.lit (.bool true)], args := [d1, d2, d3, d4] }
  | _ => none }
def octetSpansRow : OpenClaim := { program := "ytpkfabbapccdcaa", sum := "548b72b2ddf10ced2625fc8deae6256c9778861f7920ced40289b9c5102f4933", func := "moniker/monikerlaw01.OctetSpans", spec := "octetSpans", apart := false }
def OctetSpansSaid : Prop := octetSpansRow.holds Try.pinned (OpenSpec.ofChange octetSpansSpec)

/-- ITS FALSE NEIGHBOUR: 'it returns false'. Refute it at one input. -/
def octetSpansWrong : ChangeSpec := { name := "octetSpans", fn := fun _ => fun
  | [d1, d2, d3, d4] => { results := [.lit (.bool false)], args := [d1, d2, d3, d4] }
  | _ => none }
def OctetSpansWrongFalsely : Prop := octetSpansRow.holds Try.pinned (OpenSpec.ofChange octetSpansWrong)

/-- 'monikerlaw01.OctetSame': WHATEVER THE INPUT: true; the input reads as it did. -/
def octetSameSpec : ChangeSpec := { name := "octetSame", fn := fun _ => fun
  | [d1, d2] => { results := [.lit (.bool true)], args := [d1, d2] }
  | _ => none }
def octetSameRow : OpenClaim := { program := "ytpkfabbapccdcaa", sum := "548b72b2ddf10ced2625fc8deae6256c9778861f7920ced40289b9c5102f4933", func := "moniker/monikerlaw01.OctetSame", spec := "octetSame", apart := false }
def OctetSameSaid : Prop := octetSameRow.holds Try.pinned (OpenSpec.ofChange octetSameSpec)

/-- ITS FALSE NEIGHBOUR: 'it returns false'. Refute it at one input. -/
def octetSameWrong : ChangeSpec := { name := "octetSame", fn := fun _ => fun
  | [d1, d2] => { results := [.lit (.bool false)], args := [d1, d2] }
  | _ => none }
def OctetSameWrongFalsely : Prop := octetSameRow.holds Try.pinned (OpenSpec.ofChange octetSameWrong)

/-- 'monikerlaw01.OctetCases': WHATEVER THE INPUT: true; the input reads as it did. -/
def octetCasesSpec : ChangeSpec := { name := "octetCases", fn := fun _ => fun
  | [d] => { results := [.lit (.bool true)], args := [d] }
  | _ => none }
def octetCasesRow : OpenClaim := { program := "ytpkfabbapccdcaa", sum := "548b72b2ddf10ced2625fc8deae6256c9778861f7920ced40289b9c5102f4933", func := "moniker/monikerlaw01.OctetCases", spec := "octetCases", apart := false }
def OctetCasesSaid : Prop := octetCasesRow.holds Try.pinned (OpenSpec.ofChange octetCasesSpec)

/-- ITS FALSE NEIGHBOUR: 'it returns false'. Refute it at one input. -/
def octetCasesWrong : ChangeSpec := { name := "octetCases", fn := fun _ => fun
  | [d] => { results := [.lit (.bool false)], args := [d] }
  | _ => none }
def OctetCasesWrongFalsely : Prop := octetCasesRow.holds Try.pinned (OpenSpec.ofChange octetCasesWrong)

/-- 'monikerlaw01.OctetHex': WHATEVER THE INPUT: true; the input reads as it did. -/
def octetHexSpec : ChangeSpec := { name := "octetHex", fn := fun _ => fun
  | [d1, d2] => { results := [.lit (.bool true)], args := [d1, d2] }
  | _ => none }
def octetHexRow : OpenClaim := { program := "ytpkfabbapccdcaa", sum := "548b72b2ddf10ced2625fc8deae6256c9778861f7920ced40289b9c5102f4933", func := "moniker/monikerlaw01.OctetHex", spec := "octetHex", apart := false }
def OctetHexSaid : Prop := octetHexRow.holds Try.pinned (OpenSpec.ofChange octetHexSpec)

/-- ITS FALSE NEIGHBOUR: 'it returns false'. Refute it at one input. -/
def octetHexWrong : ChangeSpec := { name := "octetHex", fn := fun _ => fun
  | [d1, d2] => { results := [.lit (.bool false)], args := [d1, d2] }
  | _ => none }
def OctetHexWrongFalsely : Prop := octetHexRow.holds Try.pinned (OpenSpec.ofChange octetHexWrong)

/- THE SECOND FORM. 'bulk': how many values and letters a reading holds, each counted each time it is reached (what is shared counts as often as it is met; a slice's spare places count too). A statement '..UptoSaid' is the law's where the arguments, and the package variables that the reading takes, are together of bulk at most 1048576: NARROWER than '..Said'. Prove '..Said' where nothing that the law and all that it calls make is longer than what came in: it says more and counts as full. Else prove '..UptoSaid'. A law counts once. -/
mutual
def uptoBulk {H : Type} : DataW H → Nat
  | .lit (.string bytes) => bytes.length + 1
  | .lit _ => 1
  | .nil => 1
  | .ptr d => uptoBulk d + 1
  | .slice elems spare => uptoBulkAll elems + uptoBulkAll spare + 1
  | .agg parts => uptoBulkAll parts + 1
  | .iface _ d => uptoBulk d + 1
  | .map entries => uptoBulkEntries entries + 1
  | .held _ => 1
def uptoBulkAll {H : Type} : List (DataW H) → Nat
  | [] => 0
  | d :: r => uptoBulk d + uptoBulkAll r
def uptoBulkEntries {H : Type} : List (Lit × DataW H) → Nat
  | [] => 0
  | x :: r => uptoBulkEntry x + uptoBulkEntries r
def uptoBulkEntry {H : Type} : Lit × DataW H → Nat
  | (.string bytes, d) => bytes.length + uptoBulk d + 1
  | (_, d) => uptoBulk d + 1
 end
def uptoSmall : (H : Type) → List (DataW H) → Bool := fun _ ds => decide (uptoBulkAll ds ≤ 1048576)
def OpenSpec.upto (s : _root_.Go.ChangeSpec) : _root_.Go.OpenSpec := { _root_.Go.OpenSpec.ofChange s with cond := some uptoSmall }

/-- 'monikerlaw01.OctetClasses', WHERE WHAT IT READS IS OF BULK AT MOST 1048576: true; the input reads as it did. -/
def octetClassesUptoRow : OpenClaim := { program := "ytpkfabbapccdcaa", sum := "548b72b2ddf10ced2625fc8deae6256c9778861f7920ced40289b9c5102f4933", func := "moniker/monikerlaw01.OctetClasses", spec := "octetClasses", apart := false, narrowed := true }
def OctetClassesUptoSaid : Prop := octetClassesUptoRow.holds Try.pinned (OpenSpec.upto octetClassesSpec)

/-- 'monikerlaw01.OctetSpans', WHERE WHAT IT READS IS OF BULK AT MOST 1048576: true; the input reads as it did. -/
def octetSpansUptoRow : OpenClaim := { program := "ytpkfabbapccdcaa", sum := "548b72b2ddf10ced2625fc8deae6256c9778861f7920ced40289b9c5102f4933", func := "moniker/monikerlaw01.OctetSpans", spec := "octetSpans", apart := false, narrowed := true }
def OctetSpansUptoSaid : Prop := octetSpansUptoRow.holds Try.pinned (OpenSpec.upto octetSpansSpec)

/-- 'monikerlaw01.OctetSame', WHERE WHAT IT READS IS OF BULK AT MOST 1048576: true; the input reads as it did. -/
def octetSameUptoRow : OpenClaim := { program := "ytpkfabbapccdcaa", sum := "548b72b2ddf10ced2625fc8deae6256c9778861f7920ced40289b9c5102f4933", func := "moniker/monikerlaw01.OctetSame", spec := "octetSame", apart := false, narrowed := true }
def OctetSameUptoSaid : Prop := octetSameUptoRow.holds Try.pinned (OpenSpec.upto octetSameSpec)

/-- 'monikerlaw01.OctetCases', WHERE WHAT IT READS IS OF BULK AT MOST 1048576: true; the input reads as it did. -/
def octetCasesUptoRow : OpenClaim := { program := "ytpkfabbapccdcaa", sum := "548b72b2ddf10ced2625fc8deae6256c9778861f7920ced40289b9c5102f4933", func := "moniker/monikerlaw01.OctetCases", spec := "octetCases", apart := false, narrowed := true }
def OctetCasesUptoSaid : Prop := octetCasesUptoRow.holds Try.pinned (OpenSpec.upto octetCasesSpec)

/-- 'monikerlaw01.OctetHex', WHERE WHAT IT READS IS OF BULK AT MOST 1048576: true; the input reads as it did. -/
def octetHexUptoRow : OpenClaim := { program := "ytpkfabbapccdcaa", sum := "548b72b2ddf10ced2625fc8deae6256c9778861f7920ced40289b9c5102f4933", func := "moniker/monikerlaw01.OctetHex", spec := "octetHex", apart := false, narrowed := true }
def OctetHexUptoSaid : Prop := octetHexUptoRow.holds Try.pinned (OpenSpec.upto octetHexSpec)

end Rows
end Go.Proofs.Ytpkfabbapccdcaa
