/-
  DERIVED. GIVEN WITH THE SEED: THE CARDS: each row of YtfjoigkgpdgnbaaDoorRows.lean that lists a variable, with what it lists TIED to the program's text (the seventh form; the later family's looks); each row that meets fmt, with fmt's text TOLD by the authors' own Lean function (tested against real Go, not proved from fmt's source: count such statements apart). THE CARD IS WHAT COUNTS. Prove the row's statement (the work); the ties are given (YtfjoigkgpdgnbaaDoorTie.lean); close each card by the builder's one call (the guide's Derived/Test/ToyasCard.lean, 'card_holds'). Laid BY PROGRAM, IN A SANDBOX (cutbox-door.mjs). By AI agents, Wed Nov 11 2026. No macro, syntax, notation, axiom, sorry.
-/
import Derived.Test.YtfjoigkgpdgnbaaDoorRows
import GoSem.ClaimSeven
namespace Go.Proofs.YtfjoigkgpdgnbaaDoor
namespace Rows

/-- THE TIED CARD OF 'monikerlaw34.Base64Encodes'. -/
def base64EncodesCard : Claim7 := { stood := { row := base64EncodesRow, standIns := [], harness := (true, "a18ed66094ec7b2e5f7c6f4354323d613c9ae142a10a5f0cd3bb05e9358b8de1"), looks := false }, kinds := [], alts := [], laidByText := true, laidKinds := [.data, .pinned], laidTests := true, laidLooks := .later }
def Base64EncodesCardSaid : Prop := Claim7.holds Tryd.pinned (.plain (OpenSpec.ofChange base64EncodesSpec)) base64EncodesCard

/-- THE TIED CARD OF 'monikerlaw34.Base64Decodes'. -/
def base64DecodesCard : Claim7 := { stood := { row := base64DecodesRow, standIns := [], harness := (true, "a18ed66094ec7b2e5f7c6f4354323d613c9ae142a10a5f0cd3bb05e9358b8de1"), looks := false }, kinds := [], alts := [], laidByText := true, laidKinds := [.data, .pinned], laidTests := true, laidLooks := .later }
def Base64DecodesCardSaid : Prop := Claim7.holds Tryd.pinned (.plain (OpenSpec.ofChange base64DecodesSpec)) base64DecodesCard

/-- THE TIED CARD OF 'monikerlaw34.Base64Sizes'. -/
def base64SizesCard : Claim7 := { stood := { row := base64SizesRow, standIns := [], harness := (true, "a18ed66094ec7b2e5f7c6f4354323d613c9ae142a10a5f0cd3bb05e9358b8de1"), looks := false }, kinds := [], alts := [], laidByText := true, laidKinds := [.data, .pinned], laidTests := true, laidLooks := .later }
def Base64SizesCardSaid : Prop := Claim7.holds Tryd.pinned (.plain (OpenSpec.ofChange base64SizesSpec)) base64SizesCard

/-- THE SECOND FORM's CARD OF 'monikerlaw34.Base64Encodes'. -/
def base64EncodesUptoCard : Claim7 := { stood := { row := base64EncodesUptoRow, standIns := [], harness := (true, "a18ed66094ec7b2e5f7c6f4354323d613c9ae142a10a5f0cd3bb05e9358b8de1"), looks := false }, kinds := [], alts := [], laidByText := true, laidKinds := [.data, .pinned], laidTests := true, laidLooks := .later }
def Base64EncodesUptoCardSaid : Prop := Claim7.holds Tryd.pinned (.plain (OpenSpec.upto base64EncodesSpec)) base64EncodesUptoCard

/-- THE SECOND FORM's CARD OF 'monikerlaw34.Base64Decodes'. -/
def base64DecodesUptoCard : Claim7 := { stood := { row := base64DecodesUptoRow, standIns := [], harness := (true, "a18ed66094ec7b2e5f7c6f4354323d613c9ae142a10a5f0cd3bb05e9358b8de1"), looks := false }, kinds := [], alts := [], laidByText := true, laidKinds := [.data, .pinned], laidTests := true, laidLooks := .later }
def Base64DecodesUptoCardSaid : Prop := Claim7.holds Tryd.pinned (.plain (OpenSpec.upto base64DecodesSpec)) base64DecodesUptoCard

/-- THE SECOND FORM's CARD OF 'monikerlaw34.Base64Sizes'. -/
def base64SizesUptoCard : Claim7 := { stood := { row := base64SizesUptoRow, standIns := [], harness := (true, "a18ed66094ec7b2e5f7c6f4354323d613c9ae142a10a5f0cd3bb05e9358b8de1"), looks := false }, kinds := [], alts := [], laidByText := true, laidKinds := [.data, .pinned], laidTests := true, laidLooks := .later }
def Base64SizesUptoCardSaid : Prop := Claim7.holds Tryd.pinned (.plain (OpenSpec.upto base64SizesSpec)) base64SizesUptoCard
end Rows
end Go.Proofs.YtfjoigkgpdgnbaaDoor
