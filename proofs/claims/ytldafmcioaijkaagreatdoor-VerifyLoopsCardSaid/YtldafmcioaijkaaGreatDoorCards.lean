/-
  DERIVED. GIVEN WITH THE SEED: THE CARDS: each row of YtldafmcioaijkaaGreatDoorRows.lean that lists a variable, with what it lists TIED to the program's text (the seventh form; the later family's looks); each row that meets fmt, with fmt's text TOLD by the authors' own Lean function (tested against real Go, not proved from fmt's source: count such statements apart). THE CARD IS WHAT COUNTS. Prove the row's statement (the work); the ties are given (YtldafmcioaijkaaGreatDoorTie.lean); close each card by the builder's one call (the guide's Derived/Test/ToyasCard.lean, 'card_holds'). Laid BY PROGRAM, IN A SANDBOX (cutbox-door.mjs). By AI agents, Wed Nov 11 2026. No macro, syntax, notation, axiom, sorry.
-/
import Derived.Test.YtldafmcioaijkaaGreatDoorRows
import GoSem.ClaimSeven
namespace Go.Proofs.YtldafmcioaijkaaGreatDoor
namespace Rows

/-- THE TIED CARD OF 'cardindexlaw17.VerifyLoops'. -/
def verifyLoopsCard : Claim7 := { stood := { row := verifyLoopsRow, standIns := [], harness := (true, "8d9b754a6cc351bdf752864462b1f606ac3cc82a52de7b448c7b15a8df382ebe"), looks := true }, kinds := [], alts := [], laidByText := true, laidKinds := [.data, .data, .data, .data, .sentinel, .sentinel, .listed, .data, .pinned, .pinned], laidTests := true, laidLooks := .later }
def VerifyLoopsCardSaid : Prop := Claim7.holds Tryz.pinned (.plain (OpenSpec.ofChange verifyLoopsSpec)) verifyLoopsCard

/-- THE TIED CARD OF 'cardindexlaw17.VerifyFeeds'. -/
def verifyFeedsCard : Claim7 := { stood := { row := verifyFeedsRow, standIns := [], harness := (true, "8d9b754a6cc351bdf752864462b1f606ac3cc82a52de7b448c7b15a8df382ebe"), looks := true }, kinds := [], alts := [], laidByText := true, laidKinds := [.data, .data, .data, .data, .sentinel, .sentinel, .listed, .data, .pinned, .pinned], laidTests := true, laidLooks := .later }
def VerifyFeedsCardSaid : Prop := Claim7.holds Tryz.pinned (.plain (OpenSpec.ofChange verifyFeedsSpec)) verifyFeedsCard

/-- THE TIED CARD OF 'cardindexlaw17.VerifyInts'. -/
def verifyIntsCard : Claim7 := { stood := { row := verifyIntsRow, standIns := [], harness := (true, "8d9b754a6cc351bdf752864462b1f606ac3cc82a52de7b448c7b15a8df382ebe"), looks := true }, kinds := [], alts := [], laidByText := true, laidKinds := [.data, .data, .data, .data, .sentinel, .sentinel, .listed, .data, .pinned, .pinned], laidTests := true, laidLooks := .later }
def VerifyIntsCardSaid : Prop := Claim7.holds Tryz.pinned (.plain (OpenSpec.ofChange verifyIntsSpec)) verifyIntsCard

/-- THE TIED CARD OF 'cardindexlaw17.VerifyLess'. -/
def verifyLessCard : Claim7 := { stood := { row := verifyLessRow, standIns := [], harness := (true, "8d9b754a6cc351bdf752864462b1f606ac3cc82a52de7b448c7b15a8df382ebe"), looks := true }, kinds := [], alts := [], laidByText := true, laidKinds := [.data, .data, .data, .data, .sentinel, .sentinel, .listed, .data, .pinned, .pinned], laidTests := true, laidLooks := .later }
def VerifyLessCardSaid : Prop := Claim7.holds Tryz.pinned (.plain (OpenSpec.ofChange verifyLessSpec)) verifyLessCard

/-- THE SECOND FORM's CARD OF 'cardindexlaw17.VerifyLoops'. -/
def verifyLoopsUptoCard : Claim7 := { stood := { row := verifyLoopsUptoRow, standIns := [], harness := (true, "8d9b754a6cc351bdf752864462b1f606ac3cc82a52de7b448c7b15a8df382ebe"), looks := true }, kinds := [], alts := [], laidByText := true, laidKinds := [.data, .data, .data, .data, .sentinel, .sentinel, .listed, .data, .pinned, .pinned], laidTests := true, laidLooks := .later }
def VerifyLoopsUptoCardSaid : Prop := Claim7.holds Tryz.pinned (.plain (OpenSpec.upto verifyLoopsSpec)) verifyLoopsUptoCard

/-- THE SECOND FORM's CARD OF 'cardindexlaw17.VerifyFeeds'. -/
def verifyFeedsUptoCard : Claim7 := { stood := { row := verifyFeedsUptoRow, standIns := [], harness := (true, "8d9b754a6cc351bdf752864462b1f606ac3cc82a52de7b448c7b15a8df382ebe"), looks := true }, kinds := [], alts := [], laidByText := true, laidKinds := [.data, .data, .data, .data, .sentinel, .sentinel, .listed, .data, .pinned, .pinned], laidTests := true, laidLooks := .later }
def VerifyFeedsUptoCardSaid : Prop := Claim7.holds Tryz.pinned (.plain (OpenSpec.upto verifyFeedsSpec)) verifyFeedsUptoCard

/-- THE SECOND FORM's CARD OF 'cardindexlaw17.VerifyInts'. -/
def verifyIntsUptoCard : Claim7 := { stood := { row := verifyIntsUptoRow, standIns := [], harness := (true, "8d9b754a6cc351bdf752864462b1f606ac3cc82a52de7b448c7b15a8df382ebe"), looks := true }, kinds := [], alts := [], laidByText := true, laidKinds := [.data, .data, .data, .data, .sentinel, .sentinel, .listed, .data, .pinned, .pinned], laidTests := true, laidLooks := .later }
def VerifyIntsUptoCardSaid : Prop := Claim7.holds Tryz.pinned (.plain (OpenSpec.upto verifyIntsSpec)) verifyIntsUptoCard

/-- THE SECOND FORM's CARD OF 'cardindexlaw17.VerifyLess'. -/
def verifyLessUptoCard : Claim7 := { stood := { row := verifyLessUptoRow, standIns := [], harness := (true, "8d9b754a6cc351bdf752864462b1f606ac3cc82a52de7b448c7b15a8df382ebe"), looks := true }, kinds := [], alts := [], laidByText := true, laidKinds := [.data, .data, .data, .data, .sentinel, .sentinel, .listed, .data, .pinned, .pinned], laidTests := true, laidLooks := .later }
def VerifyLessUptoCardSaid : Prop := Claim7.holds Tryz.pinned (.plain (OpenSpec.upto verifyLessSpec)) verifyLessUptoCard
end Rows
end Go.Proofs.YtldafmcioaijkaaGreatDoor
