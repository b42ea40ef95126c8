/-
  DERIVED. GIVEN WITH THE SEED: THE CARDS: each row of YtkpaphoeldcakaaDoorRows.lean that lists a variable, with what it lists TIED to the program's text (the seventh form; the later family's looks); each row that meets fmt, with fmt's text TOLD by the authors' own Lean function (tested against real Go, not proved from fmt's source: count such statements apart). THE CARD IS WHAT COUNTS. Prove the row's statement (the work); the ties are given (YtkpaphoeldcakaaDoorTie.lean); close each card by the builder's one call (the guide's Derived/Test/ToyasCard.lean, 'card_holds'). Laid BY PROGRAM, IN A SANDBOX (cutbox-door.mjs). By AI agents, Wed Nov 11 2026. No macro, syntax, notation, axiom, sorry.
-/
import Derived.Test.YtkpaphoeldcakaaDoorRows
import GoSem.ClaimSeven
namespace Go.Proofs.YtkpaphoeldcakaaDoor
namespace Rows

/-- THE TIED CARD OF 'cardindexlaw20.GenReads'. -/
def genReadsCard : Claim7 := { stood := { row := genReadsRow, standIns := [], harness := (true, "2be0cbd310e9215f79380d7c3340a0601ce62fc708a915b4472c3e0f326b0564"), looks := false }, kinds := [], alts := [], laidByText := true, laidKinds := [.listed, .data], laidTests := true, laidLooks := .later }
def GenReadsCardSaid : Prop := Claim7.holds Tryd.pinned (.plain (OpenSpec.ofChange genReadsSpec)) genReadsCard

/-- THE TIED CARD OF 'cardindexlaw20.GenMany'. -/
def genManyCard : Claim7 := { stood := { row := genManyRow, standIns := [], harness := (true, "2be0cbd310e9215f79380d7c3340a0601ce62fc708a915b4472c3e0f326b0564"), looks := false }, kinds := [], alts := [], laidByText := true, laidKinds := [.listed, .data], laidTests := true, laidLooks := .later }
def GenManyCardSaid : Prop := Claim7.holds Tryd.pinned (.plain (OpenSpec.ofChange genManySpec)) genManyCard

/-- THE SECOND FORM's CARD OF 'cardindexlaw20.GenReads'. -/
def genReadsUptoCard : Claim7 := { stood := { row := genReadsUptoRow, standIns := [], harness := (true, "2be0cbd310e9215f79380d7c3340a0601ce62fc708a915b4472c3e0f326b0564"), looks := false }, kinds := [], alts := [], laidByText := true, laidKinds := [.listed, .data], laidTests := true, laidLooks := .later }
def GenReadsUptoCardSaid : Prop := Claim7.holds Tryd.pinned (.plain (OpenSpec.upto genReadsSpec)) genReadsUptoCard

/-- THE SECOND FORM's CARD OF 'cardindexlaw20.GenMany'. -/
def genManyUptoCard : Claim7 := { stood := { row := genManyUptoRow, standIns := [], harness := (true, "2be0cbd310e9215f79380d7c3340a0601ce62fc708a915b4472c3e0f326b0564"), looks := false }, kinds := [], alts := [], laidByText := true, laidKinds := [.listed, .data], laidTests := true, laidLooks := .later }
def GenManyUptoCardSaid : Prop := Claim7.holds Tryd.pinned (.plain (OpenSpec.upto genManySpec)) genManyUptoCard
end Rows
end Go.Proofs.YtkpaphoeldcakaaDoor
