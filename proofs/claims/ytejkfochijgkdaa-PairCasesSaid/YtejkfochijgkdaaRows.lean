/-
  No cell of these rows narrows 'for every input' (looked for: loops, veiled, ifaces, maps, wideKeys, modest, calm, conditions, laid).
  DERIVED. THE GIVEN ROWS OF THIS SEAT. 4 by the template 'for every input the law returns true; each argument reads behind the call as it read before'; 0 by the template 'total and deterministic' (their statements: YtejkfochijgkdaaTotals.lean).
  GIVEN WITH THE SEED: the statements are not yours to turn. If you find one false, say at which input.
  Laid BY PROGRAM, IN A SANDBOX (cutbox-rows.mjs): the forced cells as the released guide's own fill.sh prints them over the translation 76c71ff553da3a8a… (all of the seat's roots in one cut). By AI agents, Wed Nov 11 2026. No macro, syntax, notation, axiom, sorry.
-/
import Derived.Test.YtejkfochijgkdaaChecked
import GoSem.Claim
import GoSem.ClaimJoined
import GoSem.ClaimMapViews
import Derived.JoinedTies
import Derived.KernelRfl
namespace Go.Proofs.Ytejkfochijgkdaa
/- THE CELL 'sum', in the pinned program and in every row, IS THE sha256 OF THE DUMP (.gsa) THAT YtejkfochijgkdaaProg.lean LOADS. Nothing in Lean hashes anything: it is a label: what it is worth is what the hold of that sum in a sandbox is worth. -/
noncomputable def Try.pinned : Pinned := { name := "ytejkfochijgkdaa", sum := "76c71ff553da3a8ad8f642da0c0205bf58b39ce5095847e225482b2573433de0", checked := Try.checked }
namespace Rows
def none {H : Type} : Left H := { results := [], args := [] }

/-- 'monikerlaw07.PairMakes': WHATEVER THE INPUT: true; the input reads as it did. -/
def pairMakesSpec : ChangeSpec := { name := "pairMakes", fn := fun _ => fun
  | [d] => { results := [.lit (.bool true)], args := [d] }
  | _ => none }
def pairMakesRow : OpenClaim := { program := "ytejkfochijgkdaa", sum := "76c71ff553da3a8ad8f642da0c0205bf58b39ce5095847e225482b2573433de0", func := "moniker/monikerlaw07.PairMakes", spec := "pairMakes", plainKeys := false, apart := false }
def PairMakesSaid : Prop := pairMakesRow.holds Try.pinned (OpenSpec.ofChange pairMakesSpec)

/-- ITS FALSE NEIGHBOUR: 'it returns false'. Refute it at one input. -/
def pairMakesWrong : ChangeSpec := { name := "pairMakes", fn := fun _ => fun
  | [d] => { results := [.lit (.bool false)], args := [d] }
  | _ => none }
def PairMakesWrongFalsely : Prop := pairMakesRow.holds Try.pinned (OpenSpec.ofChange pairMakesWrong)

/-- 'monikerlaw07.PairBack': WHATEVER THE INPUT: true; the input reads as it did. -/
def pairBackSpec : ChangeSpec := { name := "pairBack", fn := fun _ => fun
  | [d1, d2, d3] => { results := [.lit (.bool true)], args := [d1, d2, d3] }
  | _ => none }
def pairBackRow : OpenClaim := { program := "ytejkfochijgkdaa", sum := "76c71ff553da3a8ad8f642da0c0205bf58b39ce5095847e225482b2573433de0", func := "moniker/monikerlaw07.PairBack", spec := "pairBack", plainKeys := false, apart := false }
def PairBackSaid : Prop := pairBackRow.holds Try.pinned (OpenSpec.ofChange pairBackSpec)

/-- ITS FALSE NEIGHBOUR: 'it returns false'. Refute it at one input. -/
def pairBackWrong : ChangeSpec := { name := "pairBack", fn := fun _ => fun
  | [d1, d2, d3] => { results := [.lit (.bool false)], args := [d1, d2, d3] }
  | _ => none }
def PairBackWrongFalsely : Prop := pairBackRow.holds Try.pinned (OpenSpec.ofChange pairBackWrong)

/-- 'monikerlaw07.PairCases': WHATEVER THE INPUT: true; the input reads as it did. -/
def pairCasesSpec : ChangeSpec := { name := "pairCases", fn := fun _ => fun
  | [d] => { results := [.lit (.bool true)], args := [d] }
  | _ => none }
def pairCasesRow : OpenClaim := { program := "ytejkfochijgkdaa", sum := "76c71ff553da3a8ad8f642da0c0205bf58b39ce5095847e225482b2573433de0", func := "moniker/monikerlaw07.PairCases", spec := "pairCases", plainKeys := false, apart := false }
def PairCasesSaid : Prop := pairCasesRow.holds Try.pinned (OpenSpec.ofChange pairCasesSpec)

/-- ITS FALSE NEIGHBOUR: 'it returns false'. Refute it at one input. -/
def pairCasesWrong : ChangeSpec := { name := "pairCases", fn := fun _ => fun
  | [d] => { results := [.lit (.bool false)], args := [d] }
  | _ => none }
def PairCasesWrongFalsely : Prop := pairCasesRow.holds Try.pinned (OpenSpec.ofChange pairCasesWrong)

/-- 'monikerlaw07.PairTells': WHATEVER THE INPUT: true; the input reads as it did. -/
def pairTellsSpec : ChangeSpec := { name := "pairTells", fn := fun _ => fun
  | [d] => { results := [.lit (.bool true)], args := [d] }
  | _ => none }
def pairTellsRow : OpenClaim := { program := "ytejkfochijgkdaa", sum := "76c71ff553da3a8ad8f642da0c0205bf58b39ce5095847e225482b2573433de0", func := "moniker/monikerlaw07.PairTells", spec := "pairTells", plainKeys := false, apart := false }
def PairTellsSaid : Prop := pairTellsRow.holds Try.pinned (OpenSpec.ofChange pairTellsSpec)

/-- ITS FALSE NEIGHBOUR: 'it returns false'. Refute it at one input. -/
def pairTellsWrong : ChangeSpec := { name := "pairTells", fn := fun _ => fun
  | [d] => { results := [.lit (.bool false)], args := [d] }
  | _ => none }
def PairTellsWrongFalsely : Prop := pairTellsRow.holds Try.pinned (OpenSpec.ofChange pairTellsWrong)

/- THE SECOND FORM. 'bulk': how many values and letters a reading holds, each counted each time it is reached (what is shared counts as often as it is met; a slice's spare places count too). A statement '..UptoSaid' is the law's where the arguments, and the package variables that the reading takes, are together of bulk at most 1048576: NARROWER than '..Said'. Prove '..Said' where nothing that the law and all that it calls make is longer than what came in: it says more and counts as full. Else prove '..UptoSaid'. A law counts once. -/
mutual
def uptoBulk {H : Type} : DataW H → Nat
  | .lit (.string bytes) => bytes.length + 1
  | .lit _ => 1
  | .nil => 1
  | .ptr d => uptoBulk d + 1
  | .slice elems spare => uptoBulkAll elems + uptoBulkAll spare + 1
  | .agg parts => uptoBulkAll parts + 1
  | .iface _ d => uptoBulk d + 1
  | .map entries => uptoBulkEntries entries + 1
  | .held _ => 1
def uptoBulkAll {H : Type} : List (DataW H) → Nat
  | [] => 0
  | d :: r => uptoBulk d + uptoBulkAll r
def uptoBulkEntries {H : Type} : List (Lit × DataW H) → Nat
  | [] => 0
  | x :: r => uptoBulkEntry x + uptoBulkEntries r
def uptoBulkEntry {H : Type} : Lit × DataW H → Nat
  | (.string bytes, d) => bytes.length + uptoBulk d + 1
  | (_, d) => uptoBulk d + 1
 end
def uptoSmall : (H : Type) → List (DataW H) → Bool := fun _ ds => decide (uptoBulkAll ds ≤ 1048576)
def OpenSpec.upto (s : _root_.Go.ChangeSpec) : _root_.Go.OpenSpec := { _root_.Go.OpenSpec.ofChange s with cond := some uptoSmall }

/-- 'monikerlaw07.PairMakes', WHERE WHAT IT READS IS OF BULK AT MOST 1048576: true; the input reads as it did. -/
def pairMakesUptoRow : OpenClaim := { program := "ytejkfochijgkdaa", sum := "76c71ff553da3a8ad8f642da0c0205bf58b39ce5095847e225482b2573433de0", func := "moniker/monikerlaw07.PairMakes", spec := "pairMakes", plainKeys := false, apart := false, narrowed := true }
def PairMakesUptoSaid : Prop := pairMakesUptoRow.holds Try.pinned (OpenSpec.upto pairMakesSpec)

/-- 'monikerlaw07.PairBack', WHERE WHAT IT READS IS OF BULK AT MOST 1048576: true; the input reads as it did. -/
def pairBackUptoRow : OpenClaim := { program := "ytejkfochijgkdaa", sum := "76c71ff553da3a8ad8f642da0c0205bf58b39ce5095847e225482b2573433de0", func := "moniker/monikerlaw07.PairBack", spec := "pairBack", plainKeys := false, apart := false, narrowed := true }
def PairBackUptoSaid : Prop := pairBackUptoRow.holds Try.pinned (OpenSpec.upto pairBackSpec)

/-- 'monikerlaw07.PairCases', WHERE WHAT IT READS IS OF BULK AT MOST 1048576: true; the input reads as it did. -/
def pairCasesUptoRow : OpenClaim := { program := "ytejkfochijgkdaa", sum := "76c71ff553da3a8ad8f642da0c0205bf58b39ce5095847e225482b2573433de0", func := "moniker/monikerlaw07.PairCases", spec := "pairCases", plainKeys := false, apart := false, narrowed := true }
def PairCasesUptoSaid : Prop := pairCasesUptoRow.holds Try.pinned (OpenSpec.upto pairCasesSpec)

/-- 'monikerlaw07.PairTells', WHERE WHAT IT READS IS OF BULK AT MOST 1048576: true; the input reads as it did. -/
def pairTellsUptoRow : OpenClaim := { program := "ytejkfochijgkdaa", sum := "76c71ff553da3a8ad8f642da0c0205bf58b39ce5095847e225482b2573433de0", func := "moniker/monikerlaw07.PairTells", spec := "pairTells", plainKeys := false, apart := false, narrowed := true }
def PairTellsUptoSaid : Prop := pairTellsUptoRow.holds Try.pinned (OpenSpec.upto pairTellsSpec)

end Rows
end Go.Proofs.Ytejkfochijgkdaa
