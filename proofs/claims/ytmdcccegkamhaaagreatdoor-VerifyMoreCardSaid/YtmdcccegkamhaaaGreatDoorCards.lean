/-
  DERIVED. GIVEN WITH THE SEED: THE CARDS: each row of YtmdcccegkamhaaaGreatDoorRows.lean that lists a variable, with what it lists TIED to the program's text (the seventh form; the later family's looks); each row that meets fmt, with fmt's text TOLD by the authors' own Lean function (tested against real Go, not proved from fmt's source: count such statements apart). THE CARD IS WHAT COUNTS. Prove the row's statement (the work); the ties are given (YtmdcccegkamhaaaGreatDoorTie.lean); close each card by the builder's one call (the guide's Derived/Test/ToyasCard.lean, 'card_holds'). Laid BY PROGRAM, IN A SANDBOX (cutbox-door.mjs). By AI agents, Wed Nov 11 2026. No macro, syntax, notation, axiom, sorry.
-/
import Derived.Test.YtmdcccegkamhaaaGreatDoorRows
import GoSem.ClaimSeven
namespace Go.Proofs.YtmdcccegkamhaaaGreatDoor
namespace Rows

/-- THE TIED CARD OF 'cardindexlaw17.VerifyGrows'. -/
def verifyGrowsCard : Claim7 := { stood := { row := verifyGrowsRow, standIns := [], harness := (true, "c2629e0b344d38ee71bfb794638bb3789def49e0f19c995399a9bc1e88feb038"), looks := true }, kinds := [], alts := [], laidByText := true, laidKinds := [.data, .data, .data, .data, .sentinel, .sentinel, .listed, .data, .pinned, .pinned], laidTests := true, laidLooks := .later }
def VerifyGrowsCardSaid : Prop := Claim7.holds Tryz.pinned (.plain (OpenSpec.ofChange verifyGrowsSpec)) verifyGrowsCard

/-- THE TIED CARD OF 'cardindexlaw17.VerifyMore'. -/
def verifyMoreCard : Claim7 := { stood := { row := verifyMoreRow, standIns := [], harness := (true, "c2629e0b344d38ee71bfb794638bb3789def49e0f19c995399a9bc1e88feb038"), looks := true }, kinds := [], alts := [], laidByText := true, laidKinds := [.data, .data, .data, .data, .sentinel, .sentinel, .listed, .data, .pinned, .pinned], laidTests := true, laidLooks := .later }
def VerifyMoreCardSaid : Prop := Claim7.holds Tryz.pinned (.plain (OpenSpec.ofChange verifyMoreSpec)) verifyMoreCard

/-- THE TIED CARD OF 'cardindexlaw17.VerifyUnset'. -/
def verifyUnsetCard : Claim7 := { stood := { row := verifyUnsetRow, standIns := [], harness := (true, "c2629e0b344d38ee71bfb794638bb3789def49e0f19c995399a9bc1e88feb038"), looks := true }, kinds := [], alts := [], laidByText := true, laidKinds := [.data, .data, .data, .data, .sentinel, .sentinel, .listed, .data, .pinned, .pinned], laidTests := true, laidLooks := .later }
def VerifyUnsetCardSaid : Prop := Claim7.holds Tryz.pinned (.plain (OpenSpec.ofChange verifyUnsetSpec)) verifyUnsetCard

/-- THE SECOND FORM's CARD OF 'cardindexlaw17.VerifyGrows'. -/
def verifyGrowsUptoCard : Claim7 := { stood := { row := verifyGrowsUptoRow, standIns := [], harness := (true, "c2629e0b344d38ee71bfb794638bb3789def49e0f19c995399a9bc1e88feb038"), looks := true }, kinds := [], alts := [], laidByText := true, laidKinds := [.data, .data, .data, .data, .sentinel, .sentinel, .listed, .data, .pinned, .pinned], laidTests := true, laidLooks := .later }
def VerifyGrowsUptoCardSaid : Prop := Claim7.holds Tryz.pinned (.plain (OpenSpec.upto verifyGrowsSpec)) verifyGrowsUptoCard

/-- THE SECOND FORM's CARD OF 'cardindexlaw17.VerifyMore'. -/
def verifyMoreUptoCard : Claim7 := { stood := { row := verifyMoreUptoRow, standIns := [], harness := (true, "c2629e0b344d38ee71bfb794638bb3789def49e0f19c995399a9bc1e88feb038"), looks := true }, kinds := [], alts := [], laidByText := true, laidKinds := [.data, .data, .data, .data, .sentinel, .sentinel, .listed, .data, .pinned, .pinned], laidTests := true, laidLooks := .later }
def VerifyMoreUptoCardSaid : Prop := Claim7.holds Tryz.pinned (.plain (OpenSpec.upto verifyMoreSpec)) verifyMoreUptoCard

/-- THE SECOND FORM's CARD OF 'cardindexlaw17.VerifyUnset'. -/
def verifyUnsetUptoCard : Claim7 := { stood := { row := verifyUnsetUptoRow, standIns := [], harness := (true, "c2629e0b344d38ee71bfb794638bb3789def49e0f19c995399a9bc1e88feb038"), looks := true }, kinds := [], alts := [], laidByText := true, laidKinds := [.data, .data, .data, .data, .sentinel, .sentinel, .listed, .data, .pinned, .pinned], laidTests := true, laidLooks := .later }
def VerifyUnsetUptoCardSaid : Prop := Claim7.holds Tryz.pinned (.plain (OpenSpec.upto verifyUnsetSpec)) verifyUnsetUptoCard
end Rows
end Go.Proofs.YtmdcccegkamhaaaGreatDoor
