/-
  DERIVED. GIVEN WITH THE SEED: THE CARDS: each row of YteebphjlecmgjaaDoorRows.lean that lists a variable, with what it lists TIED to the program's text (the seventh form; the later family's looks); each row that meets fmt, with fmt's text TOLD by the authors' own Lean function (tested against real Go, not proved from fmt's source: count such statements apart). THE CARD IS WHAT COUNTS. Prove the row's statement (the work); the ties are given (YteebphjlecmgjaaDoorTie.lean); close each card by the builder's one call (the guide's Derived/Test/ToyasCard.lean, 'card_holds'). Laid BY PROGRAM, IN A SANDBOX (cutbox-door.mjs). By AI agents, Wed Nov 11 2026. No macro, syntax, notation, axiom, sorry.
-/
import Derived.Test.YteebphjlecmgjaaDoorRows
import GoSem.ClaimSeven
namespace Go.Proofs.YteebphjlecmgjaaDoor
namespace Rows

/-- THE TIED CARD OF 'monikerlaw23.DotsRemove'. -/
def dotsRemoveCard : Claim7 := { stood := { row := dotsRemoveRow, standIns := [], harness := (true, "a38aa237ac06e4db66ee61249d7ce872e045f4ff1363a29b499152dd84f4cfbd"), looks := false }, kinds := [], alts := [], laidByText := true, laidKinds := [.data, .pinned], laidTests := true, laidLooks := .later }
def DotsRemoveCardSaid : Prop := Claim7.holds Tryd.pinned (.plain (OpenSpec.ofChange dotsRemoveSpec)) dotsRemoveCard

/-- THE SECOND FORM's CARD OF 'monikerlaw23.DotsRemove'. -/
def dotsRemoveUptoCard : Claim7 := { stood := { row := dotsRemoveUptoRow, standIns := [], harness := (true, "a38aa237ac06e4db66ee61249d7ce872e045f4ff1363a29b499152dd84f4cfbd"), looks := false }, kinds := [], alts := [], laidByText := true, laidKinds := [.data, .pinned], laidTests := true, laidLooks := .later }
def DotsRemoveUptoCardSaid : Prop := Claim7.holds Tryd.pinned (.plain (OpenSpec.upto dotsRemoveSpec)) dotsRemoveUptoCard
end Rows
end Go.Proofs.YteebphjlecmgjaaDoor
