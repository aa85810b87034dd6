/- The resolved forms of functions, and that they stand for the code. -/
import Derived.Test.YtbdpcpafjphmpaaDoorEnP
import Derived.Test.YtbdpcpafjphmpaaDoorChecked
import Derived.KernelRfl
set_option linter.unusedSimpArgs false
set_option linter.unusedVariables false
namespace Go.Proofs.YtbdpcpafjphmpaaDoor
open Go.En
/-- marshes/refname.Check -/
def m25 : MC := .sq (.rg [⟨some 2, none, .mv (.const (.int .i64 0))⟩]) (.sq (.sq (.rg [⟨some 3, none, .mv (.tmp 0)⟩, ⟨some 4, none, .cl 31 [.tmp 3]⟩, ⟨some 5, none, .cm .neq (.tmp 4) (.const (.int .i64 0))⟩]) (.cd (.tmp 5) (.sq (.rg [⟨some 2, none, .mv (.const (.int .i64 40))⟩]) (.rt)) (.sk))) (.sq (.rg [⟨some 2, none, .mv (.const (.int .i64 0))⟩]) (.rt)))
theorem k25 : Tryd.f25.body.any (fun c => chkC Tryd.prog c m25 && allD (dlt 6) m25) = true := by kernel_rfl
def m31u0 : MC := .rg [⟨some 4, none, .al [(1, .int .i64 0), (1, .nilFunc)] 94⟩, ⟨none, none, .st (.tmp 4) (.tmp 6) 2⟩]
def m31v0 : MC := .bk 1 (.sq (.rg [⟨some 7, none, .fa (.tmp 4) 1⟩, ⟨some 8, none, .ld (.tmp 7) none⟩, ⟨some 9, none, .ld (.tmp 1) none⟩, ⟨some 10, none, .cv (.tmp 8) [.tmp 9]⟩]) (.cd (.tmp 10) (.sq (.rg [⟨some 11, none, .fa (.tmp 4) 0⟩, ⟨some 12, none, .ld (.tmp 11) none⟩, ⟨none, none, .st (.tmp 3) (.tmp 12) 1⟩]) (.xt 0)) (.sk)))
/-- marshes/refname.Breaks -/
def m31 : MC := .sq (.rg [⟨some 1, none, .bx 9 (.tmp 0)⟩, ⟨some 2, none, .mv (.const (.int .i64 0))⟩]) (.sc (.sq (.rg [⟨some 3, none, .al [(1, .int .i64 0)] 3⟩, ⟨none, none, .st (.tmp 3) (.const (.int .i64 0)) 1⟩]) (.sq (.lb 0) (.sq (.sq (.rg [⟨some 5, none, .cl 44 []⟩]) (.bk 0 (.rf (.tmp 5) [6] m31u0 m31v0))) (.sq (.rg [⟨some 13, none, .ld (.tmp 3) none⟩, ⟨some 2, none, .mv (.tmp 13)⟩]) (.rt))))))
theorem k31 : Tryd.f31.body.any (fun c => chkC Tryd.prog c m31 && allD (dlt 14) m31) = true := by kernel_rfl
/-- marshes/refname.rules -/
def m44 : MC := .sq (.rg [⟨some 0, none, .mv (.const (.nilFunc))⟩]) (.sq (.rg [⟨some 2, none, .bd [(1, .int .i64 0), (1, .nilFunc)] [(0, 1, .const (.int .i64 1)), (1, 1, .func 50)]⟩, ⟨some 3, none, .bd [(1, .int .i64 0), (1, .nilFunc)] [(0, 1, .const (.int .i64 2)), (1, 1, .func 51)]⟩, ⟨some 4, none, .cl 52 [.func 53]⟩, ⟨some 5, none, .bd [(1, .int .i64 0), (1, .nilFunc)] [(0, 1, .const (.int .i64 3)), (1, 1, .tmp 4)]⟩, ⟨some 6, none, .cl 52 [.func 54]⟩, ⟨some 7, none, .bd [(1, .int .i64 0), (1, .nilFunc)] [(0, 1, .const (.int .i64 4)), (1, 1, .tmp 6)]⟩, ⟨some 8, none, .cl 56 [.const (.string ⟨#[46, 46]⟩)]⟩, ⟨some 9, none, .bd [(1, .int .i64 0), (1, .nilFunc)] [(0, 1, .const (.int .i64 5)), (1, 1, .tmp 8)]⟩, ⟨some 10, none, .cl 52 [.func 57]⟩, ⟨some 11, none, .bd [(1, .int .i64 0), (1, .nilFunc)] [(0, 1, .const (.int .i64 6)), (1, 1, .tmp 10)]⟩, ⟨some 12, none, .bd [(1, .int .i64 0), (1, .nilFunc)] [(0, 1, .const (.int .i64 7)), (1, 1, .func 59)]⟩, ⟨some 13, none, .cl 56 [.const (.string ⟨#[64, 123]⟩)]⟩, ⟨some 14, none, .bd [(1, .int .i64 0), (1, .nilFunc)] [(0, 1, .const (.int .i64 8)), (1, 1, .tmp 13)]⟩, ⟨some 15, none, .bl 94 2 [.tmp 2, .tmp 3, .tmp 5, .tmp 7, .tmp 9, .tmp 11, .tmp 12, .tmp 14]⟩, ⟨some 1, none, .al [(1, .slice none 0 0)] 104⟩, ⟨none, none, .st (.tmp 1) (.tmp 15) 1⟩]) (.sq (.rg [⟨some 16, none, .mf 60 [] [.tmp 1]⟩, ⟨some 0, none, .mv (.tmp 16)⟩]) (.rt)))
theorem k44 : Tryd.f44.body.any (fun c => chkC Tryd.prog c m44 && allD (dlt 17) m44) = true := by kernel_rfl
/-- marshes/refname.rules$1 -/
def m50 : MC := .sq (.rg [⟨some 2, none, .mv (.const (.bool false))⟩]) (.sq (.rg [⟨some 3, none, .mv (.tmp 0)⟩, ⟨some 4, none, .se .eql (.tmp 3) (.const (.string ⟨#[]⟩))⟩, ⟨some 5, none, .mv (.tmp 4)⟩, ⟨some 6, some (5, false), .mv (.tmp 0)⟩, ⟨some 7, some (5, false), .ln true (.tmp 6)⟩, ⟨some 8, some (5, false), .cm .gtr (.tmp 7) (.const (.int .i64 100))⟩, ⟨some 9, none, .pk (.tmp 5) (.const (.bool true)) (.tmp 8)⟩, ⟨some 2, none, .mv (.tmp 9)⟩]) (.rt))
theorem k50 : Tryd.f50.body.any (fun c => chkC Tryd.prog c m50 && allD (dlt 10) m50) = true := by kernel_rfl
/-- marshes/refname.rules$2 -/
def m53 : MC := .sq (.rg [⟨some 2, none, .mv (.const (.bool false))⟩]) (.sq (.rg [⟨some 3, none, .mv (.tmp 0)⟩, ⟨some 4, none, .se .eql (.tmp 3) (.const (.string ⟨#[]⟩))⟩, ⟨some 2, none, .mv (.tmp 4)⟩]) (.rt))
theorem k53 : Tryd.f53.body.any (fun c => chkC Tryd.prog c m53 && allD (dlt 5) m53) = true := by kernel_rfl
/-- marshes/refname.rules$3 -/
def m54 : MC := .sq (.rg [⟨some 2, none, .mv (.const (.bool false))⟩]) (.sq (.rg [⟨some 3, none, .mv (.tmp 0)⟩, ⟨some 4, none, .cl 55 [.tmp 3, .const (.string ⟨#[46]⟩)]⟩, ⟨some 2, none, .mv (.tmp 4)⟩]) (.rt))
theorem k54 : Tryd.f54.body.any (fun c => chkC Tryd.prog c m54 && allD (dlt 5) m54) = true := by kernel_rfl
/-- marshes/refname.rules$4 -/
def m57 : MC := .sq (.rg [⟨some 2, none, .mv (.const (.bool false))⟩]) (.sq (.rg [⟨some 3, none, .mv (.tmp 0)⟩, ⟨some 4, none, .cl 58 [.tmp 3, .const (.string ⟨#[46, 108, 111, 99, 107]⟩)]⟩, ⟨some 2, none, .mv (.tmp 4)⟩]) (.rt))
theorem k57 : Tryd.f57.body.any (fun c => chkC Tryd.prog c m57 && allD (dlt 5) m57) = true := by kernel_rfl
/-- marshes/refname.rules$5 -/
def m59 : MC := .sq (.rg [⟨some 2, none, .mv (.const (.bool false))⟩]) (.sq (.rg [⟨some 3, none, .mv (.tmp 0)⟩, ⟨some 4, none, .cl 58 [.tmp 3, .const (.string ⟨#[46]⟩)]⟩, ⟨some 2, none, .mv (.tmp 4)⟩]) (.rt))
theorem k59 : Tryd.f59.body.any (fun c => chkC Tryd.prog c m59 && allD (dlt 5) m59) = true := by kernel_rfl
/-- marshes/refname.rules$6 -/
def m60 : MC := .sq (.rg [⟨some 5, none, .ld (.tmp 1) none⟩, ⟨some 6, none, .ln false (.tmp 5)⟩, ⟨some 7, none, .mv (.const (.int .i64 0))⟩]) (.bk 0 (.lp (.sq (.rg [⟨some 8, none, .cm .lss (.tmp 7) (.tmp 6)⟩]) (.sq (.cd (.tmp 8) (.sk) (.xt 0)) (.sq (.bk 1 (.sq (.rg [⟨some 9, none, .ias (.tmp 5) (.tmp 7) 2⟩, ⟨some 10, none, .ld (.tmp 9) (some 2)⟩, ⟨some 4, none, .al [(1, .int .i64 0), (1, .nilFunc)] 94⟩, ⟨none, none, .st (.tmp 4) (.tmp 10) 2⟩]) (.sq (.rg [⟨some 11, none, .mv (.tmp 0)⟩, ⟨some 12, none, .ld (.tmp 4) (some 2)⟩, ⟨some 13, none, .cv (.tmp 11) [.tmp 12]⟩, ⟨some 14, none, .nt (.tmp 13)⟩]) (.cd (.tmp 14) (.rt) (.sk))))) (.rg [⟨some 15, none, .ar .add .i64 (.tmp 7) (.const (.int .i64 1)) true⟩, ⟨some 7, none, .mv (.tmp 15)⟩]))))))
theorem k60 : Tryd.f60.body.any (fun c => chkC Tryd.prog c m60 && allD (dlt 16) m60) = true := by kernel_rfl
/-- marshes/refname.byByte -/
def m51 : MC := .sq (.rg [⟨some 2, none, .mv (.const (.bool false))⟩]) (.sq (.sq (.rg [⟨some 5, none, .mv (.tmp 0)⟩, ⟨some 6, none, .rg (.tmp 5)⟩]) (.bk 0 (.lp (.sq (.rg [⟨some 7, none, .nx (.tmp 6)⟩, ⟨some 8, none, .ex (.tmp 7) 0⟩]) (.sq (.cd (.tmp 8) (.sk) (.xt 0)) (.bk 1 (.sq (.rg [⟨some 9, none, .ex (.tmp 7) 2⟩, ⟨some 4, none, .mv (.tmp 9)⟩]) (.sq (.rg [⟨some 10, none, .mv (.tmp 4)⟩, ⟨some 11, none, .cm .lss (.tmp 10) (.const (.int .i32 33))⟩, ⟨some 12, none, .mv (.tmp 11)⟩, ⟨some 13, some (12, false), .mv (.tmp 4)⟩, ⟨some 14, some (12, false), .cm .gtr (.tmp 13) (.const (.int .i32 126))⟩, ⟨some 15, none, .pk (.tmp 12) (.const (.bool true)) (.tmp 14)⟩, ⟨some 16, none, .mv (.tmp 15)⟩, ⟨some 17, some (16, false), .mv (.tmp 4)⟩, ⟨some 18, some (16, false), .rs (.tmp 17)⟩, ⟨some 19, some (16, false), .cl 62 [.const (.string ⟨#[126, 94, 58, 63, 42, 91, 92]⟩), .tmp 18]⟩, ⟨some 20, none, .pk (.tmp 16) (.const (.bool true)) (.tmp 19)⟩]) (.cd (.tmp 20) (.sq (.rg [⟨some 2, none, .mv (.const (.bool true))⟩]) (.rt)) (.sk)))))))))) (.sq (.rg [⟨some 2, none, .mv (.const (.bool false))⟩]) (.rt)))
theorem k51 : Tryd.f51.body.any (fun c => chkC Tryd.prog c m51 && allD (dlt 21) m51) = true := by kernel_rfl
/-- marshes/refname.byPart -/
def m52 : MC := .sq (.rg [⟨some 1, none, .bx 92 (.tmp 0)⟩, ⟨some 2, none, .mv (.const (.nilFunc))⟩]) (.sq (.rg [⟨some 3, none, .mf 63 [] [.tmp 1]⟩, ⟨some 2, none, .mv (.tmp 3)⟩]) (.rt))
theorem k52 : Tryd.f52.body.any (fun c => chkC Tryd.prog c m52 && allD (dlt 4) m52) = true := by kernel_rfl
/-- marshes/refname.byPart$1 -/
def m63 : MC := .sq (.rg [⟨some 3, none, .mv (.const (.bool false))⟩]) (.sq (.sq (.rg [⟨some 6, none, .mv (.tmp 0)⟩, ⟨some 7, none, .cl 64 [.tmp 6, .const (.string ⟨#[47]⟩)]⟩, ⟨some 8, none, .ln false (.tmp 7)⟩, ⟨some 9, none, .mv (.const (.int .i64 0))⟩]) (.bk 0 (.lp (.sq (.rg [⟨some 10, none, .cm .lss (.tmp 9) (.tmp 8)⟩]) (.sq (.cd (.tmp 10) (.sk) (.xt 0)) (.sq (.bk 1 (.sq (.rg [⟨some 11, none, .ias (.tmp 7) (.tmp 9) 1⟩, ⟨some 12, none, .ld (.tmp 11) none⟩, ⟨some 5, none, .mv (.tmp 12)⟩]) (.sq (.rg [⟨some 13, none, .ld (.tmp 1) none⟩, ⟨some 14, none, .mv (.tmp 5)⟩, ⟨some 15, none, .cv (.tmp 13) [.tmp 14]⟩]) (.cd (.tmp 15) (.sq (.rg [⟨some 3, none, .mv (.const (.bool true))⟩]) (.rt)) (.sk))))) (.rg [⟨some 16, none, .ar .add .i64 (.tmp 9) (.const (.int .i64 1)) true⟩, ⟨some 9, none, .mv (.tmp 16)⟩]))))))) (.sq (.rg [⟨some 3, none, .mv (.const (.bool false))⟩]) (.rt)))
theorem k63 : Tryd.f63.body.any (fun c => chkC Tryd.prog c m63 && allD (dlt 17) m63) = true := by kernel_rfl
/-- marshes/refname.has -/
def m56 : MC := .sq (.rg [⟨some 1, none, .bx 9 (.tmp 0)⟩, ⟨some 2, none, .mv (.const (.nilFunc))⟩]) (.sq (.rg [⟨some 3, none, .mf 66 [] [.tmp 1]⟩, ⟨some 2, none, .mv (.tmp 3)⟩]) (.rt))
theorem k56 : Tryd.f56.body.any (fun c => chkC Tryd.prog c m56 && allD (dlt 4) m56) = true := by kernel_rfl
/-- marshes/refname.has$1 -/
def m66 : MC := .sq (.rg [⟨some 3, none, .mv (.const (.bool false))⟩]) (.sq (.rg [⟨some 4, none, .mv (.tmp 0)⟩, ⟨some 5, none, .ld (.tmp 1) none⟩, ⟨some 6, none, .cl 62 [.tmp 4, .tmp 5]⟩, ⟨some 3, none, .mv (.tmp 6)⟩]) (.rt))
theorem k66 : Tryd.f66.body.any (fun c => chkC Tryd.prog c m66 && allD (dlt 7) m66) = true := by kernel_rfl
end Go.Proofs.YtbdpcpafjphmpaaDoor
