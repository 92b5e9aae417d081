/-
  No cell of these rows narrows 'for every input' (looked for: loops, veiled, ifaces, maps, wideKeys, modest, calm, conditions, laid).
  DERIVED. THE GIVEN ROWS OF THIS SEAT. 4 by the template 'for every input the law returns true; each argument reads behind the call as it read before'; 0 by the template 'total and deterministic' (their statements: YtgccggbokphibaaTotals.lean).
  GIVEN WITH THE SEED: the statements are not yours to turn. If you find one false, say at which input.
  Laid BY PROGRAM, IN A SANDBOX (cutbox-rows.mjs): the forced cells as the released guide's own fill.sh prints them over the translation 1599e4ad54e440a4… (all of the seat's roots in one cut). By AI agents, Wed Nov 11 2026. No macro, syntax, notation, axiom, sorry.
-/
import Derived.Test.YtgccggbokphibaaChecked
import GoSem.Claim
import GoSem.ClaimJoined
import GoSem.ClaimMapViews
import Derived.JoinedTies
import Derived.KernelRfl
namespace Go.Proofs.Ytgccggbokphibaa
/- THE CELL 'sum', in the pinned program and in every row, IS THE sha256 OF THE DUMP (.gsa) THAT YtgccggbokphibaaProg.lean LOADS. Nothing in Lean hashes anything: it is a label: what it is worth is what the hold of that sum in a sandbox is worth. -/
noncomputable def Try.pinned : Pinned := { name := "ytgccggbokphibaa", sum := "1599e4ad54e440a400efa302e19d14034d6fc3feec2a1824c192b76a04d87a45", checked := Try.checked }
namespace Rows
def none {H : Type} : Left H := { results := [], args := [] }

/-- 'monikerlaw20.TupleGuards': WHATEVER THE INPUT: true; the input reads as it did. -/
def tupleGuardsSpec : ChangeSpec := { name := "tupleGuards", fn := fun _ => fun
  | [d] => { results := [.lit (.bool true)], args := [d] }
  | _ => none }
def tupleGuardsRow : OpenClaim := { program := "ytgccggbokphibaa", sum := "1599e4ad54e440a400efa302e19d14034d6fc3feec2a1824c192b76a04d87a45", func := "moniker/monikerlaw20.TupleGuards", spec := "tupleGuards", inPlace := ["internal/bytealg.IndexByteString", "internal/bytealg.IndexString"], named := ["internal/bytealg.MaxLen"], apart := false }
def TupleGuardsSaid : Prop := tupleGuardsRow.holds Try.pinned (OpenSpec.ofChange tupleGuardsSpec)

/-- ITS FALSE NEIGHBOUR: 'it returns false'. Refute it at one input. -/
def tupleGuardsWrong : ChangeSpec := { name := "tupleGuards", fn := fun _ => fun
  | [d] => { results := [.lit (.bool false)], args := [d] }
  | _ => none }
def TupleGuardsWrongFalsely : Prop := tupleGuardsRow.holds Try.pinned (OpenSpec.ofChange tupleGuardsWrong)

/-- 'monikerlaw20.TupleGuarded': WHATEVER THE INPUT: true; the input reads as it did. -/
def tupleGuardedSpec : ChangeSpec := { name := "tupleGuarded", fn := fun _ => fun
  | [d1, d2, d3, d4, d5, d6] => { results := [.lit (.bool true)], args := [d1, d2, d3, d4, d5, d6] }
  | _ => none }
def tupleGuardedRow : OpenClaim := { program := "ytgccggbokphibaa", sum := "1599e4ad54e440a400efa302e19d14034d6fc3feec2a1824c192b76a04d87a45", func := "moniker/monikerlaw20.TupleGuarded", spec := "tupleGuarded", inPlace := ["internal/bytealg.IndexByteString", "internal/bytealg.IndexString"], named := ["internal/bytealg.MaxLen"], apart := false }
def TupleGuardedSaid : Prop := tupleGuardedRow.holds Try.pinned (OpenSpec.ofChange tupleGuardedSpec)

/-- ITS FALSE NEIGHBOUR: 'it returns false'. Refute it at one input. -/
def tupleGuardedWrong : ChangeSpec := { name := "tupleGuarded", fn := fun _ => fun
  | [d1, d2, d3, d4, d5, d6] => { results := [.lit (.bool false)], args := [d1, d2, d3, d4, d5, d6] }
  | _ => none }
def TupleGuardedWrongFalsely : Prop := tupleGuardedRow.holds Try.pinned (OpenSpec.ofChange tupleGuardedWrong)

/-- 'monikerlaw20.TupleSplits': WHATEVER THE INPUT: true; the input reads as it did. -/
def tupleSplitsSpec : ChangeSpec := { name := "tupleSplits", fn := fun _ => fun
  | [d] => { results := [.lit (.bool true)], args := [d] }
  | _ => none }
def tupleSplitsRow : OpenClaim := { program := "ytgccggbokphibaa", sum := "1599e4ad54e440a400efa302e19d14034d6fc3feec2a1824c192b76a04d87a45", func := "moniker/monikerlaw20.TupleSplits", spec := "tupleSplits", inPlace := ["internal/bytealg.IndexByteString", "internal/bytealg.IndexString"], named := ["internal/bytealg.MaxLen"], apart := false }
def TupleSplitsSaid : Prop := tupleSplitsRow.holds Try.pinned (OpenSpec.ofChange tupleSplitsSpec)

/-- ITS FALSE NEIGHBOUR: 'it returns false'. Refute it at one input. -/
def tupleSplitsWrong : ChangeSpec := { name := "tupleSplits", fn := fun _ => fun
  | [d] => { results := [.lit (.bool false)], args := [d] }
  | _ => none }
def TupleSplitsWrongFalsely : Prop := tupleSplitsRow.holds Try.pinned (OpenSpec.ofChange tupleSplitsWrong)

/-- 'monikerlaw20.TupleJoins': WHATEVER THE INPUT: true; the input reads as it did. -/
def tupleJoinsSpec : ChangeSpec := { name := "tupleJoins", fn := fun _ => fun
  | [d] => { results := [.lit (.bool true)], args := [d] }
  | _ => none }
def tupleJoinsRow : OpenClaim := { program := "ytgccggbokphibaa", sum := "1599e4ad54e440a400efa302e19d14034d6fc3feec2a1824c192b76a04d87a45", func := "moniker/monikerlaw20.TupleJoins", spec := "tupleJoins", inPlace := ["internal/bytealg.IndexByteString", "internal/bytealg.IndexString"], named := ["internal/bytealg.MaxLen"], apart := false }
def TupleJoinsSaid : Prop := tupleJoinsRow.holds Try.pinned (OpenSpec.ofChange tupleJoinsSpec)

/-- ITS FALSE NEIGHBOUR: 'it returns false'. Refute it at one input. -/
def tupleJoinsWrong : ChangeSpec := { name := "tupleJoins", fn := fun _ => fun
  | [d] => { results := [.lit (.bool false)], args := [d] }
  | _ => none }
def TupleJoinsWrongFalsely : Prop := tupleJoinsRow.holds Try.pinned (OpenSpec.ofChange tupleJoinsWrong)

/- THE SECOND FORM. 'bulk': how many values and letters a reading holds, each counted each time it is reached (what is shared counts as often as it is met; a slice's spare places count too). A statement '..UptoSaid' is the law's where the arguments, and the package variables that the reading takes, are together of bulk at most 1048576: NARROWER than '..Said'. Prove '..Said' where nothing that the law and all that it calls make is longer than what came in: it says more and counts as full. Else prove '..UptoSaid'. A law counts once. -/
mutual
def uptoBulk {H : Type} : DataW H → Nat
  | .lit (.string bytes) => bytes.length + 1
  | .lit _ => 1
  | .nil => 1
  | .ptr d => uptoBulk d + 1
  | .slice elems spare => uptoBulkAll elems + uptoBulkAll spare + 1
  | .agg parts => uptoBulkAll parts + 1
  | .iface _ d => uptoBulk d + 1
  | .map entries => uptoBulkEntries entries + 1
  | .held _ => 1
def uptoBulkAll {H : Type} : List (DataW H) → Nat
  | [] => 0
  | d :: r => uptoBulk d + uptoBulkAll r
def uptoBulkEntries {H : Type} : List (Lit × DataW H) → Nat
  | [] => 0
  | x :: r => uptoBulkEntry x + uptoBulkEntries r
def uptoBulkEntry {H : Type} : Lit × DataW H → Nat
  | (.string bytes, d) => bytes.length + uptoBulk d + 1
  | (_, d) => uptoBulk d + 1
 end
def uptoSmall : (H : Type) → List (DataW H) → Bool := fun _ ds => decide (uptoBulkAll ds ≤ 1048576)
def OpenSpec.upto (s : _root_.Go.ChangeSpec) : _root_.Go.OpenSpec := { _root_.Go.OpenSpec.ofChange s with cond := some uptoSmall }

/-- 'monikerlaw20.TupleGuards', WHERE WHAT IT READS IS OF BULK AT MOST 1048576: true; the input reads as it did. -/
def tupleGuardsUptoRow : OpenClaim := { program := "ytgccggbokphibaa", sum := "1599e4ad54e440a400efa302e19d14034d6fc3feec2a1824c192b76a04d87a45", func := "moniker/monikerlaw20.TupleGuards", spec := "tupleGuards", inPlace := ["internal/bytealg.IndexByteString", "internal/bytealg.IndexString"], named := ["internal/bytealg.MaxLen"], apart := false, narrowed := true }
def TupleGuardsUptoSaid : Prop := tupleGuardsUptoRow.holds Try.pinned (OpenSpec.upto tupleGuardsSpec)

/-- 'monikerlaw20.TupleGuarded', WHERE WHAT IT READS IS OF BULK AT MOST 1048576: true; the input reads as it did. -/
def tupleGuardedUptoRow : OpenClaim := { program := "ytgccggbokphibaa", sum := "1599e4ad54e440a400efa302e19d14034d6fc3feec2a1824c192b76a04d87a45", func := "moniker/monikerlaw20.TupleGuarded", spec := "tupleGuarded", inPlace := ["internal/bytealg.IndexByteString", "internal/bytealg.IndexString"], named := ["internal/bytealg.MaxLen"], apart := false, narrowed := true }
def TupleGuardedUptoSaid : Prop := tupleGuardedUptoRow.holds Try.pinned (OpenSpec.upto tupleGuardedSpec)

/-- 'monikerlaw20.TupleSplits', WHERE WHAT IT READS IS OF BULK AT MOST 1048576: true; the input reads as it did. -/
def tupleSplitsUptoRow : OpenClaim := { program := "ytgccggbokphibaa", sum := "1599e4ad54e440a400efa302e19d14034d6fc3feec2a1824c192b76a04d87a45", func := "moniker/monikerlaw20.TupleSplits", spec := "tupleSplits", inPlace := ["internal/bytealg.IndexByteString", "internal/bytealg.IndexString"], named := ["internal/bytealg.MaxLen"], apart := false, narrowed := true }
def TupleSplitsUptoSaid : Prop := tupleSplitsUptoRow.holds Try.pinned (OpenSpec.upto tupleSplitsSpec)

/-- 'monikerlaw20.TupleJoins', WHERE WHAT IT READS IS OF BULK AT MOST 1048576: true; the input reads as it did. -/
def tupleJoinsUptoRow : OpenClaim := { program := "ytgccggbokphibaa", sum := "1599e4ad54e440a400efa302e19d14034d6fc3feec2a1824c192b76a04d87a45", func := "moniker/monikerlaw20.TupleJoins", spec := "tupleJoins", inPlace := ["internal/bytealg.IndexByteString", "internal/bytealg.IndexString"], named := ["internal/bytealg.MaxLen"], apart := false, narrowed := true }
def TupleJoinsUptoSaid : Prop := tupleJoinsUptoRow.holds Try.pinned (OpenSpec.upto tupleJoinsSpec)

end Rows
end Go.Proofs.Ytgccggbokphibaa
