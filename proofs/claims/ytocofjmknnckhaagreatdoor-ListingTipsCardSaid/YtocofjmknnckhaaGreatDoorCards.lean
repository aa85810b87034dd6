/-
  DERIVED. GIVEN WITH THE SEED: THE CARDS: each row of YtocofjmknnckhaaGreatDoorRows.lean that lists a variable, with what it lists TIED to the program's text (the seventh form; the later family's looks); each row that meets fmt, with fmt's text TOLD by the authors' own Lean function (tested against real Go, not proved from fmt's source: count such statements apart). THE CARD IS WHAT COUNTS. Prove the row's statement (the work); the ties are given (YtocofjmknnckhaaGreatDoorTie.lean); close each card by the builder's one call (the guide's Derived/Test/ToyasCard.lean, 'card_holds'). Laid BY PROGRAM, IN A SANDBOX (cutbox-door.mjs). By AI agents, Wed Nov 11 2026. No macro, syntax, notation, axiom, sorry.
-/
import Derived.Test.YtocofjmknnckhaaGreatDoorRows
import GoSem.ClaimSeven
namespace Go.Proofs.YtocofjmknnckhaaGreatDoor
namespace Rows

/-- THE TIED CARD OF 'marsheslaw20.ListingTips'. -/
def listingTipsCard : Claim7 := { stood := { row := listingTipsRow, standIns := [], harness := (true, "b09bd38979af3c561977cbab634a8932cfb426ba49b4d1d0a315150d948fed2e"), looks := true }, kinds := [], alts := [], laidByText := true, laidKinds := [.data, .data, .data, .pinned], laidTests := true, laidLooks := .later }
def ListingTipsCardSaid : Prop := Claim7.holds Tryz.pinned (.plain (OpenSpec.ofChange listingTipsSpec)) listingTipsCard

/-- THE SECOND FORM's CARD OF 'marsheslaw20.ListingTips'. -/
def listingTipsUptoCard : Claim7 := { stood := { row := listingTipsUptoRow, standIns := [], harness := (true, "b09bd38979af3c561977cbab634a8932cfb426ba49b4d1d0a315150d948fed2e"), looks := true }, kinds := [], alts := [], laidByText := true, laidKinds := [.data, .data, .data, .pinned], laidTests := true, laidLooks := .later }
def ListingTipsUptoCardSaid : Prop := Claim7.holds Tryz.pinned (.plain (OpenSpec.upto listingTipsSpec)) listingTipsUptoCard
end Rows
end Go.Proofs.YtocofjmknnckhaaGreatDoor
