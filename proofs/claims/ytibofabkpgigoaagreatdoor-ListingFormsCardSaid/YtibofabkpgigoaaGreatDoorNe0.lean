/- The resolved forms of functions, and that they stand for the code. -/
import Derived.Test.YtibofabkpgigoaaGreatDoorEnP
import Derived.Test.YtibofabkpgigoaaGreatDoorChecked
import Derived.KernelRfl
set_option linter.unusedSimpArgs false
set_option linter.unusedVariables false
namespace Go.Proofs.YtibofabkpgigoaaGreatDoor
open Go.En
/-- (*strings.Builder).WriteString -/
def m39 : MC := .sq (.rg [⟨some 4, none, .mv (.const (.int .i64 0))⟩, ⟨some 5, none, .mv (.const (.nilIface))⟩]) (.sq (.rg [⟨some 6, none, .mv (.tmp 0)⟩, ⟨some 7, none, .cl 67 [.tmp 6]⟩]) (.sq (.rg [⟨some 8, none, .mv (.tmp 0)⟩, ⟨some 9, none, .mv (.tmp 0)⟩, ⟨some 10, none, .nc (.tmp 9)⟩, ⟨some 11, none, .fa (.tmp 10) 1⟩, ⟨some 12, none, .ld (.tmp 11) none⟩, ⟨some 13, none, .mv (.tmp 1)⟩, ⟨some 14, none, .ap 5 1 1 [(1, .int .u8 0)] (.tmp 12) (.tmp 13)⟩, ⟨some 15, none, .nc (.tmp 8)⟩, ⟨some 16, none, .fa (.tmp 15) 1⟩, ⟨none, none, .st (.tmp 16) (.tmp 14) 1⟩]) (.sq (.rg [⟨some 17, none, .mv (.tmp 1)⟩, ⟨some 18, none, .ln true (.tmp 17)⟩, ⟨some 4, none, .mv (.tmp 18)⟩, ⟨some 5, none, .mv (.const (.nilIface))⟩]) (.rt))))
theorem k39 : Tryz.f39.body.any (fun c => chkC Tryz.prog c m39 && allD (dlt 19) m39) = true := by kernel_rfl
end Go.Proofs.YtibofabkpgigoaaGreatDoor
