/- The resolved forms of functions, and that they stand for the code. -/
import Derived.Test.YtegjocpjmfaigaaEnQ
import Derived.Test.YtegjocpjmfaigaaChecked
import Derived.KernelRfl
set_option linter.unusedSimpArgs false
set_option linter.unusedVariables false
namespace Go.Proofs.Ytegjocpjmfaigaa
open Go.En
/-- marshes/marsheslaw15.Great -/
def m50 : MC := .sq (.rg [⟨some 2, none, .mv (.const (.int .i64 0))⟩]) (.sq (.sq (.rg [⟨some 4, none, .mv (.tmp 0)⟩, ⟨some 5, none, .ln false (.tmp 4)⟩, ⟨some 6, none, .cm .gtr (.tmp 5) (.const (.int .i64 60))⟩]) (.cd (.tmp 6) (.sq (.rg [⟨some 2, none, .mv (.const (.int .i64 1))⟩]) (.rt)) (.sk))) (.sq (.sq (.rg [⟨some 7, none, .mv (.tmp 0)⟩, ⟨some 8, none, .ln false (.tmp 7)⟩, ⟨some 9, none, .mv (.const (.int .i64 0))⟩]) (.bk 0 (.lp (.sq (.rg [⟨some 10, none, .cm .lss (.tmp 9) (.tmp 8)⟩]) (.sq (.cd (.tmp 10) (.sk) (.xt 0)) (.sq (.bk 1 (.sq (.rg [⟨some 11, none, .mv (.tmp 9)⟩, ⟨some 3, none, .mv (.tmp 11)⟩]) (.sq (.rg [⟨some 12, none, .mv (.tmp 0)⟩, ⟨some 13, none, .mv (.tmp 3)⟩, ⟨some 14, none, .ias (.tmp 12) (.tmp 13) 7⟩, ⟨some 15, none, .fa (.tmp 14) 2⟩, ⟨some 16, none, .ld (.tmp 15) none⟩, ⟨some 17, none, .ln false (.tmp 16)⟩, ⟨some 18, none, .cm .gtr (.tmp 17) (.const (.int .i64 1000))⟩]) (.cd (.tmp 18) (.sq (.rg [⟨some 2, none, .mv (.const (.int .i64 1))⟩]) (.rt)) (.sk))))) (.rg [⟨some 19, none, .ar .add .i64 (.tmp 9) (.const (.int .i64 1)) true⟩, ⟨some 9, none, .mv (.tmp 19)⟩]))))))) (.sq (.rg [⟨some 2, none, .mv (.const (.int .i64 0))⟩]) (.rt))))
theorem k50 : Try.f50.body.any (fun c => chkC Try.prog c m50 && allD (dlt 20) m50) = true := by kernel_rfl
end Go.Proofs.Ytegjocpjmfaigaa
