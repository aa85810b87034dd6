/-
  DERIVED. GIVEN WITH THE SEED: THE CARDS: each row of YtibofabkpgigoaaGreatDoorRows.lean that lists a variable, with what it lists TIED to the program's text (the seventh form; the later family's looks); each row that meets fmt, with fmt's text TOLD by the authors' own Lean function (tested against real Go, not proved from fmt's source: count such statements apart). THE CARD IS WHAT COUNTS. Prove the row's statement (the work); the ties are given (YtibofabkpgigoaaGreatDoorTie.lean); close each card by the builder's one call (the guide's Derived/Test/ToyasCard.lean, 'card_holds'). Laid BY PROGRAM, IN A SANDBOX (cutbox-door.mjs). By AI agents, Wed Nov 11 2026. No macro, syntax, notation, axiom, sorry.
-/
import Derived.Test.YtibofabkpgigoaaGreatDoorRows
import GoSem.ClaimSeven
namespace Go.Proofs.YtibofabkpgigoaaGreatDoor
namespace Rows

/-- THE TIED CARD OF 'marsheslaw20.ListingBack'. -/
def listingBackCard : Claim7 := { stood := { row := listingBackRow, standIns := [], harness := (true, "378fec1aa10e3eaa6577e782e349b0262e2093c7cdde002b526efe2064b7c8e4"), looks := false }, kinds := [], alts := [], laidByText := true, laidKinds := [.data, .pinned], laidTests := true, laidLooks := .later }
def ListingBackCardSaid : Prop := Claim7.holds Tryz.pinned (.plain (OpenSpec.ofChange listingBackSpec)) listingBackCard

/-- THE TIED CARD OF 'marsheslaw20.ListingSets'. -/
def listingSetsCard : Claim7 := { stood := { row := listingSetsRow, standIns := [], harness := (true, "378fec1aa10e3eaa6577e782e349b0262e2093c7cdde002b526efe2064b7c8e4"), looks := false }, kinds := [], alts := [], laidByText := true, laidKinds := [.data, .pinned], laidTests := true, laidLooks := .later }
def ListingSetsCardSaid : Prop := Claim7.holds Tryz.pinned (.plain (OpenSpec.ofChange listingSetsSpec)) listingSetsCard

/-- THE TIED CARD OF 'marsheslaw20.ListingJoins'. -/
def listingJoinsCard : Claim7 := { stood := { row := listingJoinsRow, standIns := [], harness := (true, "378fec1aa10e3eaa6577e782e349b0262e2093c7cdde002b526efe2064b7c8e4"), looks := false }, kinds := [], alts := [], laidByText := true, laidKinds := [.data, .pinned], laidTests := true, laidLooks := .later }
def ListingJoinsCardSaid : Prop := Claim7.holds Tryz.pinned (.plain (OpenSpec.ofChange listingJoinsSpec)) listingJoinsCard

/-- THE TIED CARD OF 'marsheslaw20.ListingForms'. -/
def listingFormsCard : Claim7 := { stood := { row := listingFormsRow, standIns := [], harness := (true, "378fec1aa10e3eaa6577e782e349b0262e2093c7cdde002b526efe2064b7c8e4"), looks := false }, kinds := [], alts := [], laidByText := true, laidKinds := [.data, .pinned], laidTests := true, laidLooks := .later }
def ListingFormsCardSaid : Prop := Claim7.holds Tryz.pinned (.plain (OpenSpec.ofChange listingFormsSpec)) listingFormsCard

/-- THE SECOND FORM's CARD OF 'marsheslaw20.ListingBack'. -/
def listingBackUptoCard : Claim7 := { stood := { row := listingBackUptoRow, standIns := [], harness := (true, "378fec1aa10e3eaa6577e782e349b0262e2093c7cdde002b526efe2064b7c8e4"), looks := false }, kinds := [], alts := [], laidByText := true, laidKinds := [.data, .pinned], laidTests := true, laidLooks := .later }
def ListingBackUptoCardSaid : Prop := Claim7.holds Tryz.pinned (.plain (OpenSpec.upto listingBackSpec)) listingBackUptoCard

/-- THE SECOND FORM's CARD OF 'marsheslaw20.ListingSets'. -/
def listingSetsUptoCard : Claim7 := { stood := { row := listingSetsUptoRow, standIns := [], harness := (true, "378fec1aa10e3eaa6577e782e349b0262e2093c7cdde002b526efe2064b7c8e4"), looks := false }, kinds := [], alts := [], laidByText := true, laidKinds := [.data, .pinned], laidTests := true, laidLooks := .later }
def ListingSetsUptoCardSaid : Prop := Claim7.holds Tryz.pinned (.plain (OpenSpec.upto listingSetsSpec)) listingSetsUptoCard

/-- THE SECOND FORM's CARD OF 'marsheslaw20.ListingJoins'. -/
def listingJoinsUptoCard : Claim7 := { stood := { row := listingJoinsUptoRow, standIns := [], harness := (true, "378fec1aa10e3eaa6577e782e349b0262e2093c7cdde002b526efe2064b7c8e4"), looks := false }, kinds := [], alts := [], laidByText := true, laidKinds := [.data, .pinned], laidTests := true, laidLooks := .later }
def ListingJoinsUptoCardSaid : Prop := Claim7.holds Tryz.pinned (.plain (OpenSpec.upto listingJoinsSpec)) listingJoinsUptoCard

/-- THE SECOND FORM's CARD OF 'marsheslaw20.ListingForms'. -/
def listingFormsUptoCard : Claim7 := { stood := { row := listingFormsUptoRow, standIns := [], harness := (true, "378fec1aa10e3eaa6577e782e349b0262e2093c7cdde002b526efe2064b7c8e4"), looks := false }, kinds := [], alts := [], laidByText := true, laidKinds := [.data, .pinned], laidTests := true, laidLooks := .later }
def ListingFormsUptoCardSaid : Prop := Claim7.holds Tryz.pinned (.plain (OpenSpec.upto listingFormsSpec)) listingFormsUptoCard
end Rows
end Go.Proofs.YtibofabkpgigoaaGreatDoor
