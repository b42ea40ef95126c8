/-
  DERIVED. GIVEN WITH THE SEED: THE CARDS: each row of YtfaogpjikadajaaGreatDoorRows.lean that lists a variable, with what it lists TIED to the program's text (the seventh form; the later family's looks); each row that meets fmt, with fmt's text TOLD by the authors' own Lean function (tested against real Go, not proved from fmt's source: count such statements apart). THE CARD IS WHAT COUNTS. Prove the row's statement (the work); the ties are given (YtfaogpjikadajaaGreatDoorTie.lean); close each card by the builder's one call (the guide's Derived/Test/ToyasCard.lean, 'card_holds'). Laid BY PROGRAM, IN A SANDBOX (cutbox-door.mjs). By AI agents, Wed Nov 11 2026. No macro, syntax, notation, axiom, sorry.
-/
import Derived.Test.YtfaogpjikadajaaGreatDoorRows
import GoSem.ClaimSeven
namespace Go.Proofs.YtfaogpjikadajaaGreatDoor
namespace Rows

/-- THE TIED CARD OF 'cardindexlaw18.RowsNone'. -/
def rowsNoneCard : Claim7 := { stood := { row := rowsNoneRow, standIns := [], harness := (true, "c9d2aa006ead1ccaf299f6d600c418287acc533d96721c3c893dca1d9341f4a1"), looks := true }, kinds := [], alts := [], laidByText := true, laidKinds := [.data, .data, .data, .data, .sentinel, .sentinel, .listed, .data, .pinned, .pinned], laidTests := true, laidLooks := .later }
def RowsNoneCardSaid : Prop := Claim7.holds Tryz.pinned (.plain (OpenSpec.ofChange rowsNoneSpec)) rowsNoneCard

/-- THE SECOND FORM's CARD OF 'cardindexlaw18.RowsNone'. -/
def rowsNoneUptoCard : Claim7 := { stood := { row := rowsNoneUptoRow, standIns := [], harness := (true, "c9d2aa006ead1ccaf299f6d600c418287acc533d96721c3c893dca1d9341f4a1"), looks := true }, kinds := [], alts := [], laidByText := true, laidKinds := [.data, .data, .data, .data, .sentinel, .sentinel, .listed, .data, .pinned, .pinned], laidTests := true, laidLooks := .later }
def RowsNoneUptoCardSaid : Prop := Claim7.holds Tryz.pinned (.plain (OpenSpec.upto rowsNoneSpec)) rowsNoneUptoCard
end Rows
end Go.Proofs.YtfaogpjikadajaaGreatDoor
