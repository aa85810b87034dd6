/-
  DERIVED. GIVEN WITH THE SEED: THE CARDS: each row of YtfffdhafbbbpcaaGreatDoorRows.lean that lists a variable, with what it lists TIED to the program's text (the seventh form; the later family's looks); each row that meets fmt, with fmt's text TOLD by the authors' own Lean function (tested against real Go, not proved from fmt's source: count such statements apart). THE CARD IS WHAT COUNTS. Prove the row's statement (the work); the ties are given (YtfffdhafbbbpcaaGreatDoorTie.lean); close each card by the builder's one call (the guide's Derived/Test/ToyasCard.lean, 'card_holds'). Laid BY PROGRAM, IN A SANDBOX (cutbox-door.mjs). By AI agents, Wed Nov 11 2026. No macro, syntax, notation, axiom, sorry.
-/
import Derived.Test.YtfffdhafbbbpcaaGreatDoorRows
import GoSem.ClaimSeven
namespace Go.Proofs.YtfffdhafbbbpcaaGreatDoor
namespace Rows

/-- THE TIED CARD OF 'marsheslaw21.TableLoads'. -/
def tableLoadsCard : Claim7 := { stood := { row := tableLoadsRow, standIns := [], harness := (true, "52365226c552cf94311e9cee6dc40b5d565e22df7f3967cbb7dcadc49b5d9b9c"), looks := true }, kinds := [], alts := [], laidByText := true, laidKinds := [.data, .pinned], laidTests := true, laidLooks := .later }
def TableLoadsCardSaid : Prop := Claim7.holds Tryz.pinned (.plain (OpenSpec.ofChange tableLoadsSpec)) tableLoadsCard

/-- THE TIED CARD OF 'marsheslaw21.TableNames'. -/
def tableNamesCard : Claim7 := { stood := { row := tableNamesRow, standIns := [], harness := (true, "52365226c552cf94311e9cee6dc40b5d565e22df7f3967cbb7dcadc49b5d9b9c"), looks := true }, kinds := [], alts := [], laidByText := true, laidKinds := [.data, .pinned], laidTests := true, laidLooks := .later }
def TableNamesCardSaid : Prop := Claim7.holds Tryz.pinned (.plain (OpenSpec.ofChange tableNamesSpec)) tableNamesCard

/-- THE SECOND FORM's CARD OF 'marsheslaw21.TableLoads'. -/
def tableLoadsUptoCard : Claim7 := { stood := { row := tableLoadsUptoRow, standIns := [], harness := (true, "52365226c552cf94311e9cee6dc40b5d565e22df7f3967cbb7dcadc49b5d9b9c"), looks := true }, kinds := [], alts := [], laidByText := true, laidKinds := [.data, .pinned], laidTests := true, laidLooks := .later }
def TableLoadsUptoCardSaid : Prop := Claim7.holds Tryz.pinned (.plain (OpenSpec.upto tableLoadsSpec)) tableLoadsUptoCard

/-- THE SECOND FORM's CARD OF 'marsheslaw21.TableNames'. -/
def tableNamesUptoCard : Claim7 := { stood := { row := tableNamesUptoRow, standIns := [], harness := (true, "52365226c552cf94311e9cee6dc40b5d565e22df7f3967cbb7dcadc49b5d9b9c"), looks := true }, kinds := [], alts := [], laidByText := true, laidKinds := [.data, .pinned], laidTests := true, laidLooks := .later }
def TableNamesUptoCardSaid : Prop := Claim7.holds Tryz.pinned (.plain (OpenSpec.upto tableNamesSpec)) tableNamesUptoCard
end Rows
end Go.Proofs.YtfffdhafbbbpcaaGreatDoor
