/- The resolved forms of functions, and that they stand for the code. -/
import Derived.Test.YtegjocpjmfaigaaEnQ
import Derived.Test.YtegjocpjmfaigaaChecked
import Derived.KernelRfl
set_option linter.unusedSimpArgs false
set_option linter.unusedVariables false
namespace Go.Proofs.Ytegjocpjmfaigaa
open Go.En
/-- marshes/marshesref15.Needs -/
def m51 : MC := .sq (.rg [⟨some 2, none, .mv (.const (.int .i64 0))⟩]) (.sq (.sq (.rg [⟨some 4, none, .mv (.tmp 0)⟩, ⟨some 5, none, .cm .lss (.tmp 4) (.const (.int .i64 0))⟩]) (.cd (.tmp 5) (.sq (.rg [⟨some 2, none, .mv (.const (.int .i64 0))⟩]) (.rt)) (.sk))) (.sq (.rg [⟨some 3, none, .mv (.const (.int .i64 1))⟩]) (.sq (.bk 0 (.lp (.sq (.sq (.rg [⟨some 6, none, .mv (.tmp 0)⟩, ⟨some 7, none, .cm .gtr (.tmp 6) (.const (.int .i64 0))⟩]) (.cd (.tmp 7) (.sk) (.xt 0))) (.bk 1 (.sq (.rg [⟨some 8, none, .mv (.tmp 3)⟩, ⟨some 9, none, .ar .add .i64 (.tmp 8) (.const (.int .i64 1)) true⟩, ⟨some 3, none, .mv (.tmp 9)⟩]) (.rg [⟨some 10, none, .mv (.tmp 0)⟩, ⟨some 11, none, .ar .sub .i64 (.tmp 10) (.const (.int .i64 119)) true⟩, ⟨some 0, none, .mv (.tmp 11)⟩])))))) (.sq (.rg [⟨some 12, none, .mv (.tmp 3)⟩, ⟨some 2, none, .mv (.tmp 12)⟩]) (.rt)))))
theorem k51 : Try.f51.body.any (fun c => chkC Try.prog c m51 && allD (dlt 13) m51) = true := by kernel_rfl
end Go.Proofs.Ytegjocpjmfaigaa
