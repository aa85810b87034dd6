/- Qc0 Qc1 EnX Qc2 Qd1 -/
import Derived.Test.YtocofjmknnckhaaGreatDoorPk6
import Derived.Test.YtocofjmknnckhaaGreatDoorChecked
import Derived.KernelRfl
set_option linter.unusedSimpArgs false
set_option linter.unusedVariables false
namespace Go.Proofs.YtocofjmknnckhaaGreatDoor
open Go.En
def m28 : MC := .sq (.rg [.c 2 (.int .i64 0)]) (.sq (.rg [.t 6 0, .o 7 (.cl 53 [.tmp 6]), .t 5 7, .o 8 (.ex (.tmp 5) 0), .o 9 (.ex (.tmp 5) 1), .o 3 (.al [(1, .int .i64 0), (2, .slice none 0 0), (32, .int .u8 0), (1, .slice none 0 0), (1, .int .i64 0), (32, .int .u8 0), (1, .string ⟨#[]⟩)] 79), .e (.st (.tmp 3) (.tmp 8) 70), .t 4 9]) (.sq (.rg [.o 10 (.fa (.tmp 3) 0), .o 11 (.ld (.tmp 10) none), .t 2 11]) (.rt)))
theorem k28 : Tryz.f28.body.any (fun c => chkC Tryz.prog c m28 && allD (dlt 12) m28) = true := by kernel_rfl
def m53 : MC := .sq (.rg [.o 2 (.al [(1, .int .i64 0), (2, .slice none 0 0), (32, .int .u8 0), (1, .slice none 0 0), (1, .int .i64 0), (32, .int .u8 0), (1, .string ⟨#[]⟩)] 79), .c 3 (.int .i64 0)]) (.sq (.rg [.t 7 0, .o 8 (.cl 90 [.tmp 7]), .o 9 (.bd [(1, .pointer none), (1, .bool false)] [(0, 1, .tmp 8)]), .o 10 (.bx 169 (.tmp 9)), .o 4 (.al [(1, .pointer none)] 165), .e (.st (.tmp 4) (.tmp 10) 1)]) (.sq (.rg [.o 11 (.ld (.tmp 4) none), .o 12 (.cl 91 [.tmp 11]), .o 13 (.bd [(1, .int .i64 0), (2, .slice none 0 0), (32, .int .u8 0), (1, .slice none 0 0), (1, .int .i64 0), (32, .int .u8 0), (1, .string ⟨#[]⟩)] [(0, 1, .tmp 12)]), .o 5 (.al [(1, .int .i64 0), (2, .slice none 0 0), (32, .int .u8 0), (1, .slice none 0 0), (1, .int .i64 0), (32, .int .u8 0), (1, .string ⟨#[]⟩)] 79), .e (.st (.tmp 5) (.tmp 13) 70)]) (.sq (.rg [.o 14 (.mf 92 [] [.tmp 4]), .o 6 (.al [(1, .nilFunc)] 172), .e (.st (.tmp 6) (.tmp 14) 1)]) (.sq (.sq (.rg [.o 15 (.fa (.tmp 5) 0), .o 16 (.ld (.tmp 15) none)]) (.bk 0 (.sq (.rg [.o 18 (.cm .eql (.tmp 16) (.const (.int .i64 1))), .t 17 18]) (.cd (.tmp 17) (.dr [.o 19 (.ld (.tmp 4) none), .o 20 (.ld (.tmp 4) none), .o 21 (.nc (.tmp 20)), .o 22 (.fa (.tmp 21) 0), .o 23 (.ld (.tmp 22) none), .o 24 (.mf 94 [.tmp 23] []), .o 25 (.cl 93 [.tmp 19, .tmp 24, .const (.int .i64 1024)]), .o 26 (.fa (.tmp 5) 1), .e (.st (.tmp 26) (.tmp 25) 1)] [0, 0, 2, 6, 14, 30, 63, 127, 255] (.q 0 (.q 1 (.q 2 (.q 3 (.q 4 (.q 5 (.e 6 [] (.q 7 (.e 8 [] (.fin))))))))))) (.sq (.rg [.o 28 (.cm .eql (.tmp 16) (.const (.int .i64 2))), .t 27 28]) (.cd (.tmp 27) (.rg [.o 29 (.ld (.tmp 4) none), .o 30 (.mf 96 [] [.tmp 6, .tmp 4]), .o 31 (.cl 95 [.tmp 29, .const (.int .u64 32), .tmp 30]), .o 32 (.fa (.tmp 5) 2), .e (.st (.tmp 32) (.tmp 31) 1)]) (.sq (.rg [.o 34 (.cm .eql (.tmp 16) (.const (.int .i64 3))), .t 33 34]) (.cd (.tmp 33) (.sq (.rg [.o 35 (.ld (.tmp 4) none), .o 36 (.cl 97 [.tmp 35]), .o 37 (.fa (.tmp 5) 3), .e (.st (.tmp 37) (.tmp 36) 32)]) (.sq (.rg [.o 38 (.ld (.tmp 4) none), .o 39 (.ld (.tmp 4) none), .o 40 (.mf 97 [.tmp 39] []), .o 41 (.cl 98 [.tmp 38, .const (.int .u64 4), .tmp 40]), .o 42 (.fa (.tmp 5) 35), .e (.st (.tmp 42) (.tmp 41) 1)]) (.rg [.o 43 (.ld (.tmp 6) none), .o 44 (.cv (.tmp 43) []), .o 45 (.fa (.tmp 5) 69), .e (.st (.tmp 45) (.tmp 44) 1)]))) (.sq (.rg [.o 47 (.cm .eql (.tmp 16) (.const (.int .i64 4))), .t 46 47]) (.cd (.tmp 46) (.sq (.rg [.o 48 (.ld (.tmp 4) none), .o 49 (.cl 91 [.tmp 48]), .o 50 (.fa (.tmp 5) 36), .o 51 (.fa (.tmp 50) 0), .e (.st (.tmp 51) (.tmp 49) 1)]) (.sq (.rg [.o 52 (.ld (.tmp 4) none), .o 53 (.cl 97 [.tmp 52]), .o 54 (.fa (.tmp 5) 36), .o 55 (.fa (.tmp 54) 1), .e (.st (.tmp 55) (.tmp 53) 32)]) (.rg [.o 56 (.ld (.tmp 6) none), .o 57 (.cv (.tmp 56) []), .o 58 (.fa (.tmp 5) 69), .e (.st (.tmp 58) (.tmp 57) 1)]))) (.sk))))))))))) (.sq (.sq (.rg [.o 59 (.ld (.tmp 4) none), .o 60 (.nc (.tmp 59)), .o 61 (.fa (.tmp 60) 1), .o 62 (.ld (.tmp 61) none), .t 63 62, .q 64 63 false (.ld (.tmp 4) none), .q 65 63 false (.nc (.tmp 64)), .q 66 63 false (.fa (.tmp 65) 0), .q 67 63 false (.ld (.tmp 66) none), .q 68 63 false (.cl 99 [.tmp 67]), .q 69 63 false (.cm .gtr (.tmp 68) (.const (.int .i64 0))), .o 70 (.pk (.tmp 63) (.const (.bool true)) (.tmp 69)), .t 71 70, .q 72 71 false (.ld (.tmp 5) (some 70)), .q 73 71 false (.cl 100 [.tmp 72]), .q 74 71 false (.cm .neq (.tmp 73) (.const (.int .i64 0))), .o 75 (.pk (.tmp 71) (.const (.bool true)) (.tmp 74))]) (.cd (.tmp 75) (.sq (.rg [.o 76 (.bd [(1, .int .i64 0), (2, .slice none 0 0), (32, .int .u8 0), (1, .slice none 0 0), (1, .int .i64 0), (32, .int .u8 0), (1, .string ⟨#[]⟩)] []), .e (.st (.tmp 2) (.tmp 76) 70), .c 3 (.int .i64 70)]) (.rt)) (.sk))) (.sq (.rg [.o 77 (.ld (.tmp 5) (some 70)), .e (.st (.tmp 2) (.tmp 77) 70), .c 3 (.int .i64 0)]) (.rt)))))))
theorem k53 : Tryz.f53.body.any (fun c => chkC Tryz.prog c m53 && allD (dlt 78) m53) = true := by kernel_rfl
def m92 : MC := .sq (.rg [.c 1 (.string ⟨#[]⟩)]) (.sq (.dr [.o 2 (.ld (.tmp 0) none), .o 3 (.ld (.tmp 0) none), .o 4 (.nc (.tmp 3)), .o 5 (.fa (.tmp 4) 0), .o 6 (.ld (.tmp 5) none), .o 7 (.mf 94 [.tmp 6] []), .o 8 (.cl 93 [.tmp 2, .tmp 7, .const (.int .i64 4000)]), .o 9 (.bs (.tmp 8)), .t 1 9] [0, 0, 2, 6, 14, 30, 63, 127, 255] (.q 0 (.q 1 (.q 2 (.q 3 (.q 4 (.q 5 (.e 6 [] (.q 7 (.q 8 (.fin))))))))))) (.rt))
theorem k92 : Tryz.f92.body.any (fun c => chkC Tryz.prog c m92 && allD (dlt 10) m92) = true := by kernel_rfl
def m96 : MC := .sq (.rg [.o 2 (.al [(1, .string ⟨#[]⟩), (1, .int .i64 0), (32, .int .u8 0)] 175)]) (.sq (.rg [.o 4 (.ld (.tmp 0) none), .o 5 (.cv (.tmp 4) []), .t 3 5]) (.sq (.dr [.t 6 3, .o 7 (.ld (.tmp 1) none), .o 8 (.cl 91 [.tmp 7]), .o 9 (.ld (.tmp 1) none), .o 10 (.cl 97 [.tmp 9]), .o 11 (.bd [(1, .string ⟨#[]⟩), (1, .int .i64 0), (32, .int .u8 0)] [(0, 1, .tmp 6), (1, 1, .tmp 8), (2, 32, .tmp 10)]), .e (.st (.tmp 2) (.tmp 11) 34)] [0, 0, 2, 0, 14, 31, 63] (.q 0 (.q 1 (.q 3 (.e 2 [3] (.e 4 [] (.q 5 (.e 6 [] (.fin))))))))) (.rt)))
theorem k96 : Tryz.f96.body.any (fun c => chkC Tryz.prog c m96 && allD (dlt 12) m96) = true := by kernel_rfl
def m91 : MC := .sq (.rg [.c 2 (.int .i64 0)]) (.sq (.rg [.t 5 0, .o 6 (.nc (.tmp 5)), .o 7 (.fa (.tmp 6) 0), .o 8 (.ld (.tmp 7) none), .o 9 (.mf 146 [.tmp 8] []), .t 3 9]) (.sq (.rg [.t 10 0, .t 11 3, .o 12 (.cl 93 [.tmp 10, .tmp 11, .const (.int .i64 1)]), .t 4 12]) (.sq (.sq (.rg [.t 13 4, .o 14 (.ln false (.tmp 13)), .o 15 (.cm .eql (.tmp 14) (.const (.int .i64 0)))]) (.cd (.tmp 15) (.sq (.rg [.c 2 (.int .i64 0)]) (.rt)) (.sk))) (.sq (.rg [.t 16 4, .o 17 (.ias (.tmp 16) (.const (.int .i64 0)) 1), .o 18 (.ld (.tmp 17) none), .o 19 (.ci .i64 (.tmp 18)), .t 2 19]) (.rt)))))
theorem k91 : Tryz.f91.body.any (fun c => chkC Tryz.prog c m91 && allD (dlt 20) m91) = true := by kernel_rfl
def m97 : MC := .sq (.rg [.o 2 (.al [(32, .int .u8 0)] 46)]) (.sq (.dr [.o 3 (.sp (.tmp 2) none none 32 1), .t 4 0, .t 5 0, .o 6 (.nc (.tmp 5)), .o 7 (.fa (.tmp 6) 0), .o 8 (.ld (.tmp 7) none), .o 9 (.mf 146 [.tmp 8] []), .o 10 (.cl 93 [.tmp 4, .tmp 9, .const (.int .i64 32)]), .o 11 (.cp 1 (.tmp 3) (.tmp 10))] [0, 0, 0, 4, 12, 28, 60, 126, 255] (.q 0 (.q 1 (.q 2 (.q 3 (.q 4 (.q 5 (.q 6 (.e 7 [] (.e 8 [] (.fin))))))))))) (.sq (.rg [.o 12 (.ld (.tmp 2) (some 32)), .e (.st (.tmp 2) (.tmp 12) 32)]) (.rt)))
theorem k97 : Tryz.f97.body.any (fun c => chkC Tryz.prog c m97 && allD (dlt 13) m97) = true := by kernel_rfl
def m93 : MC := .sq (.rg [.c 6 (.slice none 0 0)]) (.sq (.rg [.c 7 (.slice none 0 0)]) (.sq (.sq (.rg [.t 10 0, .o 11 (.nc (.tmp 10)), .o 12 (.fa (.tmp 11) 1), .o 13 (.ld (.tmp 12) none)]) (.cd (.tmp 13) (.sq (.rg [.t 14 7, .t 6 14]) (.rt)) (.sk))) (.sq (.rg [.t 16 1, .t 17 2, .o 18 (.cv (.tmp 16) [.tmp 17]), .t 15 18, .o 19 (.ex (.tmp 15) 0), .o 20 (.ex (.tmp 15) 1), .t 8 19, .t 9 20]) (.sq (.sq (.rg [.t 21 0, .t 22 9, .o 23 (.cm .neq (.tmp 22) (.const (.int .i64 0))), .o 24 (.nc (.tmp 21)), .o 25 (.fa (.tmp 24) 1), .e (.st (.tmp 25) (.tmp 23) 1)]) (.sq (.rg [.t 26 0, .o 27 (.nc (.tmp 26)), .o 28 (.fa (.tmp 27) 1), .o 29 (.ld (.tmp 28) none)]) (.cd (.tmp 29) (.sq (.rg [.t 30 7, .t 6 30]) (.rt)) (.sk)))) (.sq (.rg [.t 31 8, .t 6 31]) (.rt))))))
theorem k93 : Tryz.f93.body.any (fun c => chkC Tryz.prog c m93 && allD (dlt 32) m93) = true := by kernel_rfl
def m149 : MC := .sq (.rg [.c 6 (.int .u64 0)]) (.sq (.rg [.c 7 (.int .u64 0)]) (.sq (.sq (.rg [.t 10 0, .o 11 (.nc (.tmp 10)), .o 12 (.fa (.tmp 11) 1), .o 13 (.ld (.tmp 12) none)]) (.cd (.tmp 13) (.sq (.rg [.t 14 7, .t 6 14]) (.rt)) (.sk))) (.sq (.rg [.t 16 1, .t 17 2, .o 18 (.cv (.tmp 16) [.tmp 17]), .t 15 18, .o 19 (.ex (.tmp 15) 0), .o 20 (.ex (.tmp 15) 1), .t 8 19, .t 9 20]) (.sq (.sq (.rg [.t 21 0, .t 22 9, .o 23 (.cm .neq (.tmp 22) (.const (.int .i64 0))), .o 24 (.nc (.tmp 21)), .o 25 (.fa (.tmp 24) 1), .e (.st (.tmp 25) (.tmp 23) 1)]) (.sq (.rg [.t 26 0, .o 27 (.nc (.tmp 26)), .o 28 (.fa (.tmp 27) 1), .o 29 (.ld (.tmp 28) none)]) (.cd (.tmp 29) (.sq (.rg [.t 30 7, .t 6 30]) (.rt)) (.sk)))) (.sq (.rg [.t 31 8, .t 6 31]) (.rt))))))
theorem k149 : Tryz.f149.body.any (fun c => chkC Tryz.prog c m149 && allD (dlt 32) m149) = true := by kernel_rfl
def m95 : MC := .sq (.rg [.c 6 (.slice none 0 0)]) (.sq (.rg [.c 7 (.slice none 0 0)]) (.sq (.sq (.rg [.t 9 0, .t 10 0, .o 11 (.nc (.tmp 10)), .o 12 (.fa (.tmp 11) 0), .o 13 (.ld (.tmp 12) none), .o 14 (.mf 148 [.tmp 13] []), .t 15 1, .o 16 (.cl 149 [.tmp 9, .tmp 14, .tmp 15]), .t 8 16]) (.bk 0 (.lp (.sq (.sq (.rg [.t 17 8, .o 18 (.cm .gtr (.tmp 17) (.const (.int .u64 0))), .t 19 18, .q 20 19 true (.mv (.tmp 0)), .q 21 19 true (.nc (.tmp 20)), .q 22 19 true (.fa (.tmp 21) 1), .q 23 19 true (.ld (.tmp 22) none), .q 24 19 true (.nt (.tmp 23)), .o 25 (.pk (.tmp 19) (.tmp 24) (.const (.bool false)))]) (.cd (.tmp 25) (.sk) (.xt 0))) (.sq (.bk 1 (.rg [.t 28 7, .t 29 2, .o 30 (.cv (.tmp 29) []), .o 31 (.bl 175 34 [.tmp 30]), .o 32 (.ap 175 34 56 [(1, .string ⟨#[]⟩), (1, .int .i64 0), (32, .int .u8 0)] (.tmp 28) (.tmp 31)), .t 7 32])) (.rg [.t 26 8, .o 27 (.ar .sub .u64 (.tmp 26) (.const (.int .u64 1)) false), .t 8 27])))))) (.sq (.rg [.t 33 7, .t 6 33]) (.rt))))
theorem k95 : Tryz.f95.body.any (fun c => chkC Tryz.prog c m95 && allD (dlt 34) m95) = true := by kernel_rfl
def m98 : MC := .sq (.rg [.c 6 (.slice none 0 0)]) (.sq (.rg [.c 7 (.slice none 0 0)]) (.sq (.sq (.rg [.t 9 0, .t 10 0, .o 11 (.nc (.tmp 10)), .o 12 (.fa (.tmp 11) 0), .o 13 (.ld (.tmp 12) none), .o 14 (.mf 148 [.tmp 13] []), .t 15 1, .o 16 (.cl 149 [.tmp 9, .tmp 14, .tmp 15]), .t 8 16]) (.bk 0 (.lp (.sq (.sq (.rg [.t 17 8, .o 18 (.cm .gtr (.tmp 17) (.const (.int .u64 0))), .t 19 18, .q 20 19 true (.mv (.tmp 0)), .q 21 19 true (.nc (.tmp 20)), .q 22 19 true (.fa (.tmp 21) 1), .q 23 19 true (.ld (.tmp 22) none), .q 24 19 true (.nt (.tmp 23)), .o 25 (.pk (.tmp 19) (.tmp 24) (.const (.bool false)))]) (.cd (.tmp 25) (.sk) (.xt 0))) (.sq (.bk 1 (.rg [.t 28 7, .t 29 2, .o 30 (.cv (.tmp 29) []), .o 31 (.bl 46 32 [.tmp 30]), .o 32 (.ap 46 32 32 [(32, .int .u8 0)] (.tmp 28) (.tmp 31)), .t 7 32])) (.rg [.t 26 8, .o 27 (.ar .sub .u64 (.tmp 26) (.const (.int .u64 1)) false), .t 8 27])))))) (.sq (.rg [.t 33 7, .t 6 33]) (.rt))))
theorem k98 : Tryz.f98.body.any (fun c => chkC Tryz.prog c m98 && allD (dlt 34) m98) = true := by kernel_rfl
def m100 : MC := .sq (.rg [.o 1 (.bx 79 (.tmp 0)), .c 2 (.int .i64 0)]) (.sq (.rg [.o 6 (.ld (.tmp 1) (some 70)), .o 7 (.cl 150 [.tmp 6]), .t 5 7, .o 8 (.ex (.tmp 5) 0), .o 9 (.ex (.tmp 5) 1), .t 3 8, .t 4 9]) (.sq (.sq (.dr [.t 10 4, .o 11 (.nt (.tmp 10)), .t 12 11, .q 13 12 false (.mv (.tmp 3)), .q 14 12 false (.iv (.tmp 13) "marshes/object.may" []), .q 15 12 false (.nt (.tmp 14)), .o 16 (.pk (.tmp 12) (.const (.bool true)) (.tmp 15)), .t 17 16, .q 18 17 false (.mv (.tmp 3)), .q 19 17 false (.iv (.tmp 18) "marshes/object.bare" []), .q 20 17 false (.ld (.tmp 1) (some 70)), .q 21 17 false (.cl 151 [.tmp 19, .tmp 20]), .q 22 17 false (.nt (.tmp 21)), .o 23 (.pk (.tmp 17) (.const (.bool true)) (.tmp 22))] [0, 1, 3, 7, 15, 31, 63, 127, 255, 511, 255, 2047, 4095, 8191] (.q 0 (.q 1 (.q 2 (.q 3 (.e 4 [] (.q 5 (.q 6 (.q 7 (.q 8 (.q 10 (.e 9 [10] (.e 11 [] (.q 12 (.q 13 (.fin)))))))))))))))) (.cd (.tmp 23) (.sq (.rg [.c 2 (.int .i64 70)]) (.rt)) (.sk))) (.sq (.rg [.c 2 (.int .i64 0)]) (.rt))))
theorem k100 : Tryz.f100.body.any (fun c => chkC Tryz.prog c m100 && allD (dlt 24) m100) = true := by kernel_rfl
def m150 : MC := .sq (.rg [.o 1 (.bx 79 (.tmp 0)), .c 2 (.nilIface), .c 3 (.bool false)]) (.sq (.sq (.rg [.o 4 (.fa (.tmp 1) 0), .o 5 (.ld (.tmp 4) none)]) (.bk 0 (.sq (.rg [.o 7 (.cm .eql (.tmp 5) (.const (.int .i64 1))), .t 6 7]) (.cd (.tmp 6) (.sq (.rg [.o 8 (.ld (.tmp 1) (some 70)), .o 9 (.bd [(1, .int .i64 0), (2, .slice none 0 0), (32, .int .u8 0), (1, .slice none 0 0), (1, .int .i64 0), (32, .int .u8 0), (1, .string ⟨#[]⟩)] [(0, 70, .tmp 8)]), .o 10 (.mi 252 (.tmp 9)), .t 2 10, .c 3 (.bool true)]) (.rt)) (.sq (.rg [.o 12 (.cm .eql (.tmp 5) (.const (.int .i64 2))), .t 11 12]) (.cd (.tmp 11) (.sq (.rg [.o 13 (.ld (.tmp 1) (some 70)), .o 14 (.bd [(1, .int .i64 0), (2, .slice none 0 0), (32, .int .u8 0), (1, .slice none 0 0), (1, .int .i64 0), (32, .int .u8 0), (1, .string ⟨#[]⟩)] [(0, 70, .tmp 13)]), .o 15 (.mi 253 (.tmp 14)), .t 2 15, .c 3 (.bool true)]) (.rt)) (.sq (.rg [.o 17 (.cm .eql (.tmp 5) (.const (.int .i64 3))), .t 16 17]) (.cd (.tmp 16) (.sq (.rg [.o 18 (.ld (.tmp 1) (some 70)), .o 19 (.bd [(1, .int .i64 0), (2, .slice none 0 0), (32, .int .u8 0), (1, .slice none 0 0), (1, .int .i64 0), (32, .int .u8 0), (1, .string ⟨#[]⟩)] [(0, 70, .tmp 18)]), .o 20 (.mi 254 (.tmp 19)), .t 2 20, .c 3 (.bool true)]) (.rt)) (.sq (.rg [.o 22 (.cm .eql (.tmp 5) (.const (.int .i64 4))), .t 21 22]) (.cd (.tmp 21) (.sq (.rg [.o 23 (.ld (.tmp 1) (some 70)), .o 24 (.bd [(1, .int .i64 0), (2, .slice none 0 0), (32, .int .u8 0), (1, .slice none 0 0), (1, .int .i64 0), (32, .int .u8 0), (1, .string ⟨#[]⟩)] [(0, 70, .tmp 23)]), .o 25 (.mi 255 (.tmp 24)), .t 2 25, .c 3 (.bool true)]) (.rt)) (.sk))))))))))) (.sq (.rg [.c 2 (.nilIface), .c 3 (.bool false)]) (.rt)))
theorem k150 : Tryz.f150.body.any (fun c => chkC Tryz.prog c m150 && allD (dlt 26) m150) = true := by kernel_rfl
def m151 : MC := .sq (.rg [.o 2 (.bx 79 (.tmp 0)), .o 3 (.bx 79 (.tmp 1)), .c 4 (.bool false)]) (.sq (.rg [.o 5 (.fa (.tmp 2) 0), .o 6 (.ld (.tmp 5) none), .o 7 (.fa (.tmp 3) 0), .o 8 (.ld (.tmp 7) none), .o 9 (.cm .eql (.tmp 6) (.tmp 8)), .t 10 9, .q 11 10 true (.fa (.tmp 2) 1), .q 12 10 true (.ld (.tmp 11) none), .q 13 10 true (.fa (.tmp 3) 1), .q 14 10 true (.ld (.tmp 13) none), .q 15 10 true (.cl 175 [.tmp 12, .tmp 14]), .o 16 (.pk (.tmp 10) (.tmp 15) (.const (.bool false))), .t 17 16, .q 18 17 true (.fa (.tmp 2) 2), .q 19 17 true (.ld (.tmp 18) none), .q 20 17 true (.fa (.tmp 3) 2), .q 21 17 true (.ld (.tmp 20) none), .q 22 17 true (.cl 176 [.tmp 19, .tmp 21]), .o 23 (.pk (.tmp 17) (.tmp 22) (.const (.bool false))), .t 24 23, .q 25 24 true (.fa (.tmp 2) 3), .q 26 24 true (.ld (.tmp 25) (some 32)), .q 27 24 true (.fa (.tmp 3) 3), .q 28 24 true (.ld (.tmp 27) (some 32)), .q 29 24 true (.aq .eql 32 (.tmp 26) (.tmp 28)), .o 30 (.pk (.tmp 24) (.tmp 29) (.const (.bool false))), .t 31 30, .q 32 31 true (.fa (.tmp 2) 35), .q 33 31 true (.ld (.tmp 32) none), .q 34 31 true (.fa (.tmp 3) 35), .q 35 31 true (.ld (.tmp 34) none), .q 36 31 true (.cl 177 [.tmp 33, .tmp 35]), .o 37 (.pk (.tmp 31) (.tmp 36) (.const (.bool false))), .t 38 37, .q 39 38 true (.fa (.tmp 2) 36), .q 40 38 true (.ld (.tmp 39) (some 33)), .q 41 38 true (.fa (.tmp 3) 36), .q 42 38 true (.ld (.tmp 41) (some 33)), .q 43 38 true (.eqd .eql ([.i .i64] ++ List.replicate 32 (.i .u8)) (.tmp 40) (.tmp 42)), .o 44 (.pk (.tmp 38) (.tmp 43) (.const (.bool false))), .t 45 44, .q 46 45 true (.fa (.tmp 2) 69), .q 47 45 true (.ld (.tmp 46) none), .q 48 45 true (.fa (.tmp 3) 69), .q 49 45 true (.ld (.tmp 48) none), .q 50 45 true (.se .eql (.tmp 47) (.tmp 49)), .o 51 (.pk (.tmp 45) (.tmp 50) (.const (.bool false))), .t 4 51]) (.rt))
theorem k151 : Tryz.f151.body.any (fun c => chkC Tryz.prog c m151 && allD (dlt 52) m151) = true := by kernel_rfl
def m251 : MC := .sq (.rg [.c 2 (.bool false)]) (.sq (.rg [.t 3 0, .o 4 (.cm .geq (.tmp 3) (.const (.int .i64 1))), .t 5 4, .q 6 5 true (.mv (.tmp 0)), .q 7 5 true (.cm .leq (.tmp 6) (.const (.int .i64 4))), .o 8 (.pk (.tmp 5) (.tmp 7) (.const (.bool false))), .t 2 8]) (.rt))
theorem k251 : Tryz.f251.body.any (fun c => chkC Tryz.prog c m251 && allD (dlt 9) m251) = true := by kernel_rfl
def m246 : MC := .sq (.rg [.c 2 (.bool false)]) (.sq (.rg [.t 3 0, .o 4 (.ln true (.tmp 3)), .o 5 (.cm .leq (.tmp 4) (.const (.int .i64 200))), .t 2 5]) (.rt))
theorem k246 : Tryz.f246.body.any (fun c => chkC Tryz.prog c m246 && allD (dlt 6) m246) = true := by kernel_rfl
def m226 : MC := .sq (.rg [.o 1 (.bx 252 (.tmp 0)), .o 2 (.al [(1, .int .i64 0), (2, .slice none 0 0), (32, .int .u8 0), (1, .slice none 0 0), (1, .int .i64 0), (32, .int .u8 0), (1, .string ⟨#[]⟩)] 79)]) (.sq (.rg [.o 3 (.fa (.tmp 1) 0), .o 4 (.fa (.tmp 3) 0), .o 5 (.ld (.tmp 4) none), .o 6 (.fa (.tmp 1) 0), .o 7 (.fa (.tmp 6) 1), .o 8 (.ld (.tmp 7) none), .o 9 (.bd [(1, .int .i64 0), (2, .slice none 0 0), (32, .int .u8 0), (1, .slice none 0 0), (1, .int .i64 0), (32, .int .u8 0), (1, .string ⟨#[]⟩)] [(0, 1, .tmp 5), (1, 1, .tmp 8)]), .e (.st (.tmp 2) (.tmp 9) 70)]) (.rt))
theorem k226 : Tryz.f226.body.any (fun c => chkC Tryz.prog c m226 && allD (dlt 10) m226) = true := by kernel_rfl
def m228 : MC := .sq (.rg [.o 1 (.bx 252 (.tmp 0)), .c 2 (.bool false)]) (.sq (.rg [.o 3 (.fa (.tmp 1) 0), .o 4 (.fa (.tmp 3) 1), .o 5 (.ld (.tmp 4) none), .o 6 (.ln false (.tmp 5)), .o 7 (.cm .leq (.tmp 6) (.const (.int .i64 1024))), .t 2 7]) (.rt))
theorem k228 : Tryz.f228.body.any (fun c => chkC Tryz.prog c m228 && allD (dlt 8) m228) = true := by kernel_rfl
def m230 : MC := .sq (.rg [.o 1 (.bx 253 (.tmp 0)), .o 2 (.al [(1, .int .i64 0), (2, .slice none 0 0), (32, .int .u8 0), (1, .slice none 0 0), (1, .int .i64 0), (32, .int .u8 0), (1, .string ⟨#[]⟩)] 79)]) (.sq (.rg [.o 3 (.fa (.tmp 1) 0), .o 4 (.fa (.tmp 3) 0), .o 5 (.ld (.tmp 4) none), .o 6 (.fa (.tmp 1) 0), .o 7 (.fa (.tmp 6) 2), .o 8 (.ld (.tmp 7) none), .o 9 (.bd [(1, .int .i64 0), (2, .slice none 0 0), (32, .int .u8 0), (1, .slice none 0 0), (1, .int .i64 0), (32, .int .u8 0), (1, .string ⟨#[]⟩)] [(0, 1, .tmp 5), (2, 1, .tmp 8)]), .e (.st (.tmp 2) (.tmp 9) 70)]) (.rt))
theorem k230 : Tryz.f230.body.any (fun c => chkC Tryz.prog c m230 && allD (dlt 10) m230) = true := by kernel_rfl
def m232 : MC := .sq (.rg [.o 1 (.bx 253 (.tmp 0)), .c 2 (.bool false)]) (.sq (.rg [.c 3 (.string ⟨#[]⟩)]) (.sq (.sq (.rg [.o 6 (.fa (.tmp 1) 0), .o 7 (.fa (.tmp 6) 2), .o 8 (.ld (.tmp 7) none), .o 9 (.ln false (.tmp 8)), .c 10 (.int .i64 0)]) (.bk 0 (.lp (.sq (.rg [.o 11 (.cm .lss (.tmp 10) (.tmp 9))]) (.sq (.cd (.tmp 11) (.sk) (.xt 0)) (.sq (.bk 1 (.sq (.rg [.o 12 (.ias (.tmp 8) (.tmp 10) 34), .o 13 (.ld (.tmp 12) (some 34)), .o 5 (.al [(1, .string ⟨#[]⟩), (1, .int .i64 0), (32, .int .u8 0)] 175), .e (.st (.tmp 5) (.tmp 13) 34)]) (.sq (.sq (.rg [.o 14 (.fa (.tmp 5) 0), .o 15 (.ld (.tmp 14) none), .t 16 3, .o 17 (.sc .leq (.tmp 15) (.tmp 16)), .t 18 17, .q 19 18 false (.fa (.tmp 5) 0), .q 20 18 false (.ld (.tmp 19) none), .q 21 18 false (.ln true (.tmp 20)), .q 22 18 false (.cm .gtr (.tmp 21) (.const (.int .i64 64))), .o 23 (.pk (.tmp 18) (.const (.bool true)) (.tmp 22)), .t 24 23, .q 25 24 false (.fa (.tmp 5) 0), .q 26 24 false (.ld (.tmp 25) none), .q 27 24 false (.cl 234 [.tmp 26, .const (.string ⟨#[47, 0]⟩)]), .o 28 (.pk (.tmp 24) (.const (.bool true)) (.tmp 27)), .t 29 28, .q 30 29 false (.fa (.tmp 5) 1), .q 31 29 false (.ld (.tmp 30) none), .q 32 29 false (.cm .neq (.tmp 31) (.const (.int .i64 1))), .q 33 29 false (.mv (.tmp 32)), .q 34 33 true (.fa (.tmp 5) 1), .q 35 33 true (.ld (.tmp 34) none), .q 36 33 true (.cm .neq (.tmp 35) (.const (.int .i64 2))), .q 37 29 false (.pk (.tmp 33) (.tmp 36) (.const (.bool false))), .o 38 (.pk (.tmp 29) (.const (.bool true)) (.tmp 37))]) (.cd (.tmp 38) (.sq (.rg [.c 2 (.bool false)]) (.rt)) (.sk))) (.rg [.o 39 (.fa (.tmp 5) 0), .o 40 (.ld (.tmp 39) none), .t 3 40])))) (.rg [.o 41 (.ar .add .i64 (.tmp 10) (.const (.int .i64 1)) true), .t 10 41]))))))) (.sq (.rg [.o 42 (.fa (.tmp 1) 0), .o 43 (.fa (.tmp 42) 2), .o 44 (.ld (.tmp 43) none), .o 45 (.ln false (.tmp 44)), .o 46 (.cm .leq (.tmp 45) (.const (.int .i64 32))), .t 2 46]) (.rt))))
theorem k232 : Tryz.f232.body.any (fun c => chkC Tryz.prog c m232 && allD (dlt 47) m232) = true := by kernel_rfl
def m242 : MC := .sq (.rg [.o 1 (.bx 254 (.tmp 0)), .o 2 (.al [(1, .int .i64 0), (2, .slice none 0 0), (32, .int .u8 0), (1, .slice none 0 0), (1, .int .i64 0), (32, .int .u8 0), (1, .string ⟨#[]⟩)] 79)]) (.sq (.rg [.o 3 (.fa (.tmp 1) 0), .o 4 (.fa (.tmp 3) 0), .o 5 (.ld (.tmp 4) none), .o 6 (.fa (.tmp 1) 0), .o 7 (.fa (.tmp 6) 3), .o 8 (.ld (.tmp 7) (some 32)), .o 9 (.fa (.tmp 1) 0), .o 10 (.fa (.tmp 9) 35), .o 11 (.ld (.tmp 10) none), .o 12 (.fa (.tmp 1) 0), .o 13 (.fa (.tmp 12) 69), .o 14 (.ld (.tmp 13) none), .o 15 (.bd [(1, .int .i64 0), (2, .slice none 0 0), (32, .int .u8 0), (1, .slice none 0 0), (1, .int .i64 0), (32, .int .u8 0), (1, .string ⟨#[]⟩)] [(0, 1, .tmp 5), (3, 32, .tmp 8), (35, 1, .tmp 11), (69, 1, .tmp 14)]), .e (.st (.tmp 2) (.tmp 15) 70)]) (.rt))
theorem k242 : Tryz.f242.body.any (fun c => chkC Tryz.prog c m242 && allD (dlt 16) m242) = true := by kernel_rfl
def m244 : MC := .sq (.rg [.o 1 (.bx 254 (.tmp 0)), .c 2 (.bool false)]) (.sq (.dr [.o 3 (.fa (.tmp 1) 0), .o 4 (.fa (.tmp 3) 35), .o 5 (.ld (.tmp 4) none), .o 6 (.ln false (.tmp 5)), .o 7 (.cm .leq (.tmp 6) (.const (.int .i64 4))), .t 8 7, .q 9 8 true (.fa (.tmp 1) 0), .q 10 8 true (.fa (.tmp 9) 35), .q 11 8 true (.ld (.tmp 10) none), .q 12 8 true (.cl 17 [.tmp 11]), .q 13 8 true (.ln false (.tmp 12)), .q 14 8 true (.fa (.tmp 1) 0), .q 15 8 true (.fa (.tmp 14) 35), .q 16 8 true (.ld (.tmp 15) none), .q 17 8 true (.ln false (.tmp 16)), .q 18 8 true (.cm .eql (.tmp 13) (.tmp 17)), .o 19 (.pk (.tmp 8) (.tmp 18) (.const (.bool false))), .t 20 19, .q 21 20 true (.fa (.tmp 1) 0), .q 22 20 true (.fa (.tmp 21) 69), .q 23 20 true (.ld (.tmp 22) none), .q 24 20 true (.cl 246 [.tmp 23]), .o 25 (.pk (.tmp 20) (.tmp 24) (.const (.bool false))), .t 2 25] [0, 1, 3, 7, 15, 31, 63, 127, 255, 511, 1023, 63, 2111, 6207, 14399, 32767, 65535, 131071, 262143, 524287, 1048575, 2097151, 4194303, 8388607] (.q 0 (.q 1 (.q 2 (.q 3 (.q 4 (.q 5 (.q 6 (.q 7 (.q 8 (.q 11 (.q 12 (.q 13 (.q 14 (.e 9 [13] (.q 10 (.q 15 (.q 16 (.q 17 (.q 18 (.q 19 (.q 20 (.e 21 [] (.q 22 (.q 23 (.fin)))))))))))))))))))))))))) (.rt))
theorem k244 : Tryz.f244.body.any (fun c => chkC Tryz.prog c m244 && allD (dlt 26) m244) = true := by kernel_rfl
def m247 : MC := .sq (.rg [.o 1 (.bx 255 (.tmp 0)), .o 2 (.al [(1, .int .i64 0), (2, .slice none 0 0), (32, .int .u8 0), (1, .slice none 0 0), (1, .int .i64 0), (32, .int .u8 0), (1, .string ⟨#[]⟩)] 79)]) (.sq (.rg [.o 3 (.fa (.tmp 1) 0), .o 4 (.fa (.tmp 3) 0), .o 5 (.ld (.tmp 4) none), .o 6 (.fa (.tmp 1) 0), .o 7 (.fa (.tmp 6) 36), .o 8 (.ld (.tmp 7) (some 33)), .o 9 (.fa (.tmp 1) 0), .o 10 (.fa (.tmp 9) 69), .o 11 (.ld (.tmp 10) none), .o 12 (.bd [(1, .int .i64 0), (2, .slice none 0 0), (32, .int .u8 0), (1, .slice none 0 0), (1, .int .i64 0), (32, .int .u8 0), (1, .string ⟨#[]⟩)] [(0, 1, .tmp 5), (36, 33, .tmp 8), (69, 1, .tmp 11)]), .e (.st (.tmp 2) (.tmp 12) 70)]) (.rt))
theorem k247 : Tryz.f247.body.any (fun c => chkC Tryz.prog c m247 && allD (dlt 13) m247) = true := by kernel_rfl
def m249 : MC := .sq (.rg [.o 1 (.bx 255 (.tmp 0)), .c 2 (.bool false)]) (.sq (.rg [.o 3 (.fa (.tmp 1) 0), .o 4 (.fa (.tmp 3) 36), .o 5 (.fa (.tmp 4) 0), .o 6 (.ld (.tmp 5) none), .o 7 (.cl 251 [.tmp 6]), .t 8 7, .q 9 8 true (.fa (.tmp 1) 0), .q 10 8 true (.fa (.tmp 9) 69), .q 11 8 true (.ld (.tmp 10) none), .q 12 8 true (.cl 246 [.tmp 11]), .o 13 (.pk (.tmp 8) (.tmp 12) (.const (.bool false))), .t 2 13]) (.rt))
theorem k249 : Tryz.f249.body.any (fun c => chkC Tryz.prog c m249 && allD (dlt 14) m249) = true := by kernel_rfl
def m175 : MC := .sq (.rg [.c 4 (.bool false)]) (.sq (.rg [.t 5 0, .o 6 (.bs (.tmp 5)), .t 7 1, .o 8 (.bs (.tmp 7)), .o 9 (.se .eql (.tmp 6) (.tmp 8)), .t 4 9]) (.rt))
theorem k175 : Tryz.f175.body.any (fun c => chkC Tryz.prog c m175 && allD (dlt 10) m175) = true := by kernel_rfl
def m176 : MC := .sq (.rg [.c 4 (.bool false)]) (.sq (.sq (.rg [.t 6 0, .o 7 (.ln false (.tmp 6)), .t 8 1, .o 9 (.ln false (.tmp 8)), .o 10 (.cm .neq (.tmp 7) (.tmp 9))]) (.cd (.tmp 10) (.sq (.rg [.c 4 (.bool false)]) (.rt)) (.sk))) (.sq (.sq (.rg [.t 11 0, .o 12 (.ln false (.tmp 11)), .c 13 (.int .i64 0)]) (.bk 0 (.lp (.sq (.rg [.o 14 (.cm .lss (.tmp 13) (.tmp 12))]) (.sq (.cd (.tmp 14) (.sk) (.xt 0)) (.sq (.bk 1 (.sq (.rg [.t 15 13, .t 5 15]) (.sq (.dr [.t 16 0, .t 17 5, .o 18 (.ias (.tmp 16) (.tmp 17) 34), .o 19 (.ld (.tmp 18) (some 34)), .t 20 1, .t 21 5, .o 22 (.ias (.tmp 20) (.tmp 21) 34), .o 23 (.ld (.tmp 22) (some 34)), .o 24 (.eqd .neq ([.s] ++ [.i .i64] ++ List.replicate 32 (.i .u8)) (.tmp 19) (.tmp 23))] [0, 0, 3, 7, 0, 0, 48, 112, 255] (.q 0 (.q 1 (.q 2 (.q 3 (.q 4 (.q 5 (.q 6 (.q 7 (.q 8 (.fin))))))))))) (.cd (.tmp 24) (.sq (.rg [.c 4 (.bool false)]) (.rt)) (.sk))))) (.rg [.o 25 (.ar .add .i64 (.tmp 13) (.const (.int .i64 1)) true), .t 13 25]))))))) (.sq (.rg [.c 4 (.bool true)]) (.rt))))
theorem k176 : Tryz.f176.body.any (fun c => chkC Tryz.prog c m176 && allD (dlt 26) m176) = true := by kernel_rfl
def m177 : MC := .sq (.rg [.c 4 (.bool false)]) (.sq (.sq (.rg [.t 6 0, .o 7 (.ln false (.tmp 6)), .t 8 1, .o 9 (.ln false (.tmp 8)), .o 10 (.cm .neq (.tmp 7) (.tmp 9))]) (.cd (.tmp 10) (.sq (.rg [.c 4 (.bool false)]) (.rt)) (.sk))) (.sq (.sq (.rg [.t 11 0, .o 12 (.ln false (.tmp 11)), .c 13 (.int .i64 0)]) (.bk 0 (.lp (.sq (.rg [.o 14 (.cm .lss (.tmp 13) (.tmp 12))]) (.sq (.cd (.tmp 14) (.sk) (.xt 0)) (.sq (.bk 1 (.sq (.rg [.t 15 13, .t 5 15]) (.sq (.dr [.t 16 0, .t 17 5, .o 18 (.ias (.tmp 16) (.tmp 17) 32), .o 19 (.ld (.tmp 18) (some 32)), .t 20 1, .t 21 5, .o 22 (.ias (.tmp 20) (.tmp 21) 32), .o 23 (.ld (.tmp 22) (some 32)), .o 24 (.aq .neq 32 (.tmp 19) (.tmp 23))] [0, 0, 3, 7, 0, 0, 48, 112, 255] (.q 0 (.q 1 (.q 2 (.q 3 (.q 4 (.q 5 (.q 6 (.q 7 (.q 8 (.fin))))))))))) (.cd (.tmp 24) (.sq (.rg [.c 4 (.bool false)]) (.rt)) (.sk))))) (.rg [.o 25 (.ar .add .i64 (.tmp 13) (.const (.int .i64 1)) true), .t 13 25]))))))) (.sq (.rg [.c 4 (.bool true)]) (.rt))))
theorem k177 : Tryz.f177.body.any (fun c => chkC Tryz.prog c m177 && allD (dlt 26) m177) = true := by kernel_rfl
def m234 : MC := .sq (.rg [.c 4 (.bool false)]) (.sq (.rg [.t 5 0, .t 6 1, .o 7 (.cl 235 [.tmp 5, .tmp 6]), .o 8 (.cm .geq (.tmp 7) (.const (.int .i64 0))), .t 4 8]) (.rt))
theorem k234 : Tryz.f234.body.any (fun c => chkC Tryz.prog c m234 && allD (dlt 9) m234) = true := by kernel_rfl
def m235 : MC := .sq (.rg [.c 4 (.int .i64 0)]) (.sq (.sq (.rg [.t 11 1, .o 12 (.se .eql (.tmp 11) (.const (.string ⟨#[]⟩)))]) (.cd (.tmp 12) (.sq (.rg [.c 4 (.int .i64 (-1))]) (.rt)) (.sk))) (.sq (.sq (.rg [.t 13 1, .o 14 (.ln true (.tmp 13)), .o 15 (.cm .eql (.tmp 14) (.const (.int .i64 1)))]) (.cd (.tmp 15) (.sq (.rg [.t 16 1, .o 17 (.ixs (.tmp 16) (.const (.int .i64 0))), .o 18 (.ci .i32 (.tmp 17)), .t 5 18]) (.sq (.sq (.rg [.t 19 5, .o 20 (.cm .geq (.tmp 19) (.const (.int .i32 128)))]) (.cd (.tmp 20) (.rg [.c 5 (.int .i32 65533)]) (.sk))) (.sq (.rg [.t 21 0, .t 22 5, .o 23 (.cl 236 [.tmp 21, .tmp 22]), .t 4 23]) (.rt)))) (.sk))) (.sq (.sq (.rg [.t 24 0, .o 25 (.ln true (.tmp 24)), .o 26 (.cl 237 [.tmp 25])]) (.cd (.tmp 26) (.sq (.rg [.t 28 1, .o 29 (.cl 238 [.tmp 28]), .t 27 29, .o 30 (.ex (.tmp 27) 0), .o 31 (.ex (.tmp 27) 1), .o 6 (.al [(256, .bool false)] 294), .e (.st (.tmp 6) (.tmp 30) 256), .t 7 31]) (.sq (.rg [.t 32 7]) (.cd (.tmp 32) (.sq (.sq (.rg [.c 8 (.int .i64 0)]) (.bk 0 (.lp (.sq (.sq (.rg [.t 33 8, .t 34 0, .o 35 (.ln true (.tmp 34)), .o 36 (.cm .lss (.tmp 33) (.tmp 35))]) (.cd (.tmp 36) (.sk) (.xt 0))) (.sq (.bk 1 (.sq (.rg [.t 39 0, .t 40 8, .o 41 (.ixs (.tmp 39) (.tmp 40)), .o 42 (.cl 239 [.tmp 6, .tmp 41])]) (.cd (.tmp 42) (.sq (.rg [.t 43 8, .t 4 43]) (.rt)) (.sk)))) (.rg [.t 37 8, .o 38 (.ar .add .i64 (.tmp 37) (.const (.int .i64 1)) true), .t 8 38])))))) (.sq (.rg [.c 4 (.int .i64 (-1))]) (.rt))) (.sk)))) (.sk))) (.sq (.sq (.rg [.t 44 0, .o 45 (.rg (.tmp 44))]) (.bk 2 (.lp (.sq (.rg [.o 46 (.nx (.tmp 45)), .o 47 (.ex (.tmp 46) 0)]) (.sq (.cd (.tmp 47) (.sk) (.xt 2)) (.bk 3 (.sq (.rg [.o 48 (.ex (.tmp 46) 1), .o 49 (.ex (.tmp 46) 2), .t 9 48, .t 10 49]) (.sq (.rg [.t 50 1, .t 51 10, .o 52 (.cl 236 [.tmp 50, .tmp 51]), .o 53 (.cm .geq (.tmp 52) (.const (.int .i64 0)))]) (.cd (.tmp 53) (.sq (.rg [.t 54 9, .t 4 54]) (.rt)) (.sk)))))))))) (.sq (.rg [.c 4 (.int .i64 (-1))]) (.rt))))))
theorem k235 : Tryz.f235.body.any (fun c => chkC Tryz.prog c m235 && allD (dlt 55) m235) = true := by kernel_rfl
def m236 : MC := .sq (.rg [.c 4 (.int .i64 0)]) (.bk 0 (.sq (.rg [.t 161 1, .o 162 (.cm .leq (.const (.int .i32 0)) (.tmp 161)), .t 163 162, .q 164 163 true (.mv (.tmp 1)), .q 165 163 true (.cm .lss (.tmp 164) (.const (.int .i32 128))), .o 166 (.pk (.tmp 163) (.tmp 165) (.const (.bool false))), .t 160 166]) (.cd (.tmp 160) (.sq (.rg [.t 167 0, .t 168 1, .o 169 (.ci .u8 (.tmp 168)), .o 170 (.cl 240 [.tmp 167, .tmp 169]), .t 4 170]) (.rt)) (.sq (.rg [.t 172 1, .o 173 (.cm .eql (.tmp 172) (.const (.int .i32 65533))), .t 171 173]) (.cd (.tmp 171) (.sq (.sq (.rg [.t 174 0, .o 175 (.rg (.tmp 174))]) (.bk 9 (.lp (.sq (.rg [.o 176 (.nx (.tmp 175)), .o 177 (.ex (.tmp 176) 0)]) (.sq (.cd (.tmp 177) (.sk) (.xt 9)) (.bk 10 (.sq (.rg [.o 178 (.ex (.tmp 176) 1), .o 179 (.ex (.tmp 176) 2), .t 5 178, .t 6 179]) (.sq (.rg [.t 180 6, .o 181 (.cm .eql (.tmp 180) (.const (.int .i32 65533)))]) (.cd (.tmp 181) (.sq (.rg [.t 182 5, .t 4 182]) (.rt)) (.sk)))))))))) (.sq (.rg [.c 4 (.int .i64 (-1))]) (.rt))) (.sq (.rg [.t 184 1, .o 185 (.cl 241 [.tmp 184]), .o 186 (.nt (.tmp 185)), .t 183 186]) (.cd (.tmp 183) (.sq (.rg [.c 4 (.int .i64 (-1))]) (.rt)) (.sc (.sq (.rg [.t 17 1, .o 18 (.rs (.tmp 17)), .t 7 18]) (.sq (.rg [.t 19 7, .o 20 (.ln true (.tmp 19)), .o 21 (.ar .sub .i64 (.tmp 20) (.const (.int .i64 1)) true), .t 8 21]) (.sq (.rg [.t 22 8, .t 9 22]) (.sq (.rg [.c 10 (.int .i64 0)]) (.sq (.bk 1 (.lp (.sq (.sq (.rg [.t 23 9, .t 24 0, .o 25 (.ln true (.tmp 24)), .o 26 (.cm .lss (.tmp 23) (.tmp 25))]) (.cd (.tmp 26) (.sk) (.xt 1))) (.bk 2 (.sc (.sq (.sq (.dr [.t 27 0, .t 28 9, .o 29 (.ixs (.tmp 27) (.tmp 28)), .t 30 7, .t 31 8, .o 32 (.ixs (.tmp 30) (.tmp 31)), .o 33 (.cm .neq (.tmp 29) (.tmp 32))] [0, 0, 3, 0, 0, 24, 63] (.q 0 (.q 1 (.q 2 (.q 3 (.q 4 (.q 5 (.q 6 (.fin))))))))) (.cd (.tmp 33) (.sq (.dr [.t 34 0, .t 35 9, .o 36 (.ar .add .i64 (.tmp 35) (.const (.int .i64 1)) true), .o 37 (.ss (.tmp 34) (some (.tmp 36)) none), .t 38 7, .t 39 8, .o 40 (.ixs (.tmp 38) (.tmp 39)), .o 41 (.cl 240 [.tmp 37, .tmp 40]), .t 11 41] [0, 0, 2, 7, 0, 0, 48, 127, 255] (.q 0 (.q 1 (.q 2 (.q 3 (.q 4 (.q 5 (.q 6 (.e 7 [] (.q 8 (.fin))))))))))) (.sq (.sq (.rg [.t 42 11, .o 43 (.cm .lss (.tmp 42) (.const (.int .i64 0)))]) (.cd (.tmp 43) (.sq (.rg [.c 4 (.int .i64 (-1))]) (.rt)) (.sk))) (.rg [.t 44 9, .t 45 11, .o 46 (.ar .add .i64 (.tmp 45) (.const (.int .i64 1)) true), .o 47 (.ar .add .i64 (.tmp 44) (.tmp 46) true), .t 9 47]))) (.sk))) (.sq (.sq (.rg [.c 12 (.int .i64 1)]) (.bk 3 (.lp (.sq (.sq (.rg [.t 48 12, .t 49 7, .o 50 (.ln true (.tmp 49)), .o 51 (.cm .lss (.tmp 48) (.tmp 50))]) (.cd (.tmp 51) (.sk) (.xt 3))) (.sq (.bk 4 (.sq (.dr [.t 54 0, .t 55 9, .t 56 12, .o 57 (.ar .sub .i64 (.tmp 55) (.tmp 56) true), .o 58 (.ixs (.tmp 54) (.tmp 57)), .t 59 7, .t 60 8, .t 61 12, .o 62 (.ar .sub .i64 (.tmp 60) (.tmp 61) true), .o 63 (.ixs (.tmp 59) (.tmp 62)), .o 64 (.cm .neq (.tmp 58) (.tmp 63))] [0, 0, 0, 6, 15, 0, 0, 0, 192, 480, 1023] (.q 0 (.q 1 (.q 2 (.q 3 (.q 4 (.q 5 (.q 6 (.q 7 (.q 8 (.q 9 (.q 10 (.fin))))))))))))) (.cd (.tmp 64) (.gt) (.sk)))) (.rg [.t 52 12, .o 53 (.ar .add .i64 (.tmp 52) (.const (.int .i64 1)) true), .t 12 53])))))) (.sq (.sq (.rg [.t 65 9, .t 66 8, .o 67 (.ar .sub .i64 (.tmp 65) (.tmp 66) true), .t 4 67]) (.rt)) (.sq (.lb 0) (.sq (.rg [.t 68 10, .o 69 (.ar .add .i64 (.tmp 68) (.const (.int .i64 1)) true), .t 10 69]) (.sq (.rg [.t 70 9, .o 71 (.ar .add .i64 (.tmp 70) (.const (.int .i64 1)) true), .t 9 71]) (.sq (.rg [.c 72 (.bool true), .q 73 72 true (.mv (.tmp 10)), .q 74 72 true (.mv (.tmp 9)), .q 75 72 true (.cl 190 [.tmp 74]), .q 76 72 true (.cm .gtr (.tmp 73) (.tmp 75)), .o 77 (.pk (.tmp 72) (.tmp 76) (.const (.bool false))), .t 78 77, .q 79 78 true (.mv (.tmp 9)), .q 80 78 true (.mv (.tmp 0)), .q 81 78 true (.ln true (.tmp 80)), .q 82 78 true (.cm .lss (.tmp 79) (.tmp 81)), .o 83 (.pk (.tmp 78) (.tmp 82) (.const (.bool false))), .t 84 83, .q 85 84 false (.mv (.const (.bool false))), .q 86 85 true (.mv (.tmp 10)), .q 87 85 true (.mv (.tmp 9)), .q 88 85 true (.sh .shr .i64 (.tmp 87) (.const (.int .u64 4))), .q 89 85 true (.ar .add .i64 (.const (.int .i64 4)) (.tmp 88) true), .q 90 85 true (.cm .geq (.tmp 86) (.tmp 89)), .q 91 84 false (.pk (.tmp 85) (.tmp 90) (.const (.bool false))), .q 92 84 false (.mv (.tmp 91)), .q 93 92 true (.mv (.tmp 9)), .q 94 92 true (.mv (.tmp 0)), .q 95 92 true (.ln true (.tmp 94)), .q 96 92 true (.cm .lss (.tmp 93) (.tmp 95)), .q 97 84 false (.pk (.tmp 92) (.tmp 96) (.const (.bool false))), .o 98 (.pk (.tmp 84) (.const (.bool true)) (.tmp 97))]) (.cd (.tmp 98) (.gt) (.sk)))))))))))))) (.sq (.sq (.rg [.c 4 (.int .i64 (-1))]) (.rt)) (.sq (.lb 1) (.sq (.cd (.const (.bool true)) (.sq (.rg [.t 99 0, .t 100 9, .t 101 8, .o 102 (.ar .sub .i64 (.tmp 100) (.tmp 101) true), .o 103 (.ss (.tmp 99) (some (.tmp 102)) none), .t 104 1, .o 105 (.rs (.tmp 104)), .o 106 (.xl 189 [.tmp 103, .tmp 105]), .t 13 106]) (.sq (.rg [.t 107 13, .o 108 (.cm .geq (.tmp 107) (.const (.int .i64 0)))]) (.cd (.tmp 108) (.sq (.rg [.t 109 9, .t 110 13, .o 111 (.ar .add .i64 (.tmp 109) (.tmp 110) true), .t 112 8, .o 113 (.ar .sub .i64 (.tmp 111) (.tmp 112) true), .t 4 113]) (.rt)) (.sk)))) (.sc (.sq (.rg [.t 114 7, .t 115 8, .o 116 (.ixs (.tmp 114) (.tmp 115)), .t 14 116]) (.sq (.rg [.t 117 7, .t 118 8, .o 119 (.ar .sub .i64 (.tmp 118) (.const (.int .i64 1)) true), .o 120 (.ixs (.tmp 117) (.tmp 119)), .t 15 120]) (.sq (.lb 2) (.bk 5 (.lp (.sq (.sq (.rg [.t 121 9, .t 122 0, .o 123 (.ln true (.tmp 122)), .o 124 (.cm .lss (.tmp 121) (.tmp 123))]) (.cd (.tmp 124) (.sk) (.xt 5))) (.sq (.bk 6 (.sq (.rg [.t 127 0, .t 128 9, .o 129 (.ixs (.tmp 127) (.tmp 128)), .t 130 14, .o 131 (.cm .eql (.tmp 129) (.tmp 130)), .t 132 131, .q 133 132 true (.mv (.tmp 0)), .q 134 132 true (.mv (.tmp 9)), .q 135 132 true (.ar .sub .i64 (.tmp 134) (.const (.int .i64 1)) true), .q 136 132 true (.ixs (.tmp 133) (.tmp 135)), .q 137 132 true (.mv (.tmp 15)), .q 138 132 true (.cm .eql (.tmp 136) (.tmp 137)), .o 139 (.pk (.tmp 132) (.tmp 138) (.const (.bool false)))]) (.cd (.tmp 139) (.sq (.sq (.rg [.c 16 (.int .i64 2)]) (.bk 7 (.lp (.sq (.sq (.rg [.t 140 16, .t 141 7, .o 142 (.ln true (.tmp 141)), .o 143 (.cm .lss (.tmp 140) (.tmp 142))]) (.cd (.tmp 143) (.sk) (.xt 7))) (.sq (.bk 8 (.sq (.dr [.t 146 0, .t 147 9, .t 148 16, .o 149 (.ar .sub .i64 (.tmp 147) (.tmp 148) true), .o 150 (.ixs (.tmp 146) (.tmp 149)), .t 151 7, .t 152 8, .t 153 16, .o 154 (.ar .sub .i64 (.tmp 152) (.tmp 153) true), .o 155 (.ixs (.tmp 151) (.tmp 154)), .o 156 (.cm .neq (.tmp 150) (.tmp 155))] [0, 0, 0, 6, 15, 0, 0, 0, 192, 480, 1023] (.q 0 (.q 1 (.q 2 (.q 3 (.q 4 (.q 5 (.q 6 (.q 7 (.q 8 (.q 9 (.q 10 (.fin))))))))))))) (.cd (.tmp 156) (.xt 6) (.sk)))) (.rg [.t 144 16, .o 145 (.ar .add .i64 (.tmp 144) (.const (.int .i64 1)) true), .t 16 145])))))) (.sq (.rg [.t 157 9, .t 158 8, .o 159 (.ar .sub .i64 (.tmp 157) (.tmp 158) true), .t 4 159]) (.rt))) (.sk)))) (.rg [.t 125 9, .o 126 (.ar .add .i64 (.tmp 125) (.const (.int .i64 1)) true), .t 9 126])))))))))) (.sq (.rg [.c 4 (.int .i64 (-1))]) (.rt))))))))))))))))))
theorem k236 : Tryz.f236.body.any (fun c => chkC Tryz.prog c m236 && allD (dlt 187) m236) = true := by kernel_rfl
abbrev Rst := Bs × Bool
def rawS (n : Nat) (b : Bs) : Option (Bs × Bs) := if b.length < n then none else some (b.take n, b.drop n)
def bytS (most : Nat) (b : Bs) : Option (Bs × Bs) := if bytE b most = 0 then some (bytB b, bytR b) else none
def numS (most : Nat) (b : Bs) : Option (Nat × Bs) := if numEM b most = 0 then some (numN b, b.drop (numK b)) else none
def gotS {α : Type} (z : α) (f : Bs → Option (α × Bs)) (s : Rst) : α × Rst := if s.2 = true then (z, s.1, true) else match f s.1 with
 | none => (z, s.1, true)
 | some (x, r) => (x, r, false)
def oneS (s : Rst) : Nat × Rst := (((gotS [] (rawS 1) s).1.getD 0 0).toNat, (gotS [] (rawS 1) s).2)
def idS (s : Rst) : Bs × Rst := ((gotS [] (rawS 32) s).1 ++ List.replicate (32 - (gotS [] (rawS 32) s).1.length) 0, (gotS [] (rawS 32) s).2)
def txtS (s : Rst) : Bs × Rst := gotS [] (bytS 4000) s
def sevS {α : Type} (f : Rst → α × Rst) : Nat → Rst → List α × Rst
 | 0, s => ([], s)
 | n + 1, s => if s.2 = true then ([], s) else ((f s).1 :: (sevS f n (f s).2).1, (sevS f n (f s).2).2)
theorem gotS_t {α : Type} (z : α) (f : Bs → Option (α × Bs)) (b : Bs) : gotS z f (b, true) = (z, b, true) := rfl
theorem gotS_n {α : Type} {z : α} {f : Bs → Option (α × Bs)} {b : Bs} (h : f b = none) : gotS z f (b, false) = (z, b, true) := by unfold gotS; simp [h]
theorem gotS_s {α : Type} {z : α} {f : Bs → Option (α × Bs)} {b : Bs} {x : α} {r : Bs} (h : f b = some (x, r)) : gotS z f (b, false) = (x, r, false) := by unfold gotS; simp [h]
def RdrR (r s0 : Nat) (v0 : Value) (all : Bs) (v : Value) (wr : Bool) : List Res := [cel r [dp s0, .bool wr] 169, cel s0 [v] 219, rdR v0 5 1 all.length (bys all)]
section
variable {w w0 : World} {S0 : Nat → Prop} {L B : List Res} {K : Value → World → Prop} {s : Bs} {E0 E1 E2 : Nat}
theorem b_getB {r s0 f : Nat} {v0 v : Value} {all : Bs} {st : Rst} {m : Int} {res : Bs → Option (Bs × Bs)} (hf : ∀ (args : Array Value) (w : World), (callFunc f args).run Tryz.prog w = .ok (.enter f args) w) (hv : SubV v0 all v st.1)
  (hc : ∀ {w : World} {S0 : Nat → Prop} {w0 : World} {K : Value → World → Prop}, St w0 S0 w (SrcR s0 v0 all v) → (res st.1 = none → ∀ e w', e ≠ 0 → St w0 S0 w' (SrcR s0 v0 all v) → K (.tuple ⟨[.slice none 0 0, .int .i64 e]⟩) w') →
   (∀ x rest, res st.1 = some (x, rest) → ∀ v' u w', SubV v0 all v' rest → St w0 S0 w' (SrcR s0 v0 all v' ++ [row u 5 1 x.length (bys x)]) → K (.tuple ⟨[u, .int .i64 0]⟩) w') → CK Tryz.prog f [dp s0, .int .i64 m] w K)
  (hS : St w0 S0 w (RdrR r s0 v0 all v st.2)) (h : ∀ v' u w', SubV v0 all v' (gotS [] res st).2.1 → St w0 S0 w' (RdrR r s0 v0 all v' (gotS [] res st).2.2 ++ [row u 5 1 (gotS [] res st).1.length (bys (gotS [] res st).1)]) → K u w') : CK Tryz.prog 93 [dp r, .func (.func f) ⟨[dp s0]⟩ ⟨[]⟩, .int .i64 m] w K := by
 obtain ⟨b, wr⟩ := st
 dsimp only at hv hc hS
 refine call_k Tryz.func93 k93 Tryz.ntmps93 (Nat.le_of_ble_eq_true rfl) ?_
 refine gW ?_
 refine g_l1 rfl rfl (hS.b  0 rfl) rfl ?_
 cases wr with
 | true =>
  refine gW ?_
  exact g_ret (q_1 rfl (h v _ _ hv (hS.nilrow 5 1)))
 | false =>
  replace hS : St w0 S0 w (SrcR s0 v0 all v ++ [cel r [dp s0, .bool false] 169]) := hS.sel [1, 2, 0] rfl rfl
  have hF := hS.frame
  refine gW ?_
  refine g_ef rfl (ef_cv (first := [dp s0]) (cap := []) rfl rfl hf (hc hF.1 (fun hn e w1 he h' => ?_) (fun x rest hx v' u w1 hv' h' => ?_)))
  ·replace hS := hF.2 _ _ h'
   rw [gotS_n hn] at h
   refine gW ?_
   rw [cmv_ye he]
   refine g_ef0 rfl (ef_st hS 2 rfl rfl rfl rfl (Nat.le_of_ble_eq_true rfl) rfl fun w1 hS => ?_)
   refine gW ?_
   refine g_l1 rfl rfl (hS.b  2 rfl) rfl ?_
   refine gW ?_
   exact g_ret (q_1 rfl (h v _ _ hv ((hS.sel [2, 0, 1] rfl rfl).nilrow 5 1)))
  ·replace hS := hF.2 _ _ h'
   rw [gotS_s hx] at h
   refine gW ?_
   refine g_ef0 rfl (ef_st hS 3 rfl rfl rfl rfl (Nat.le_of_ble_eq_true rfl) rfl fun w1 hS => ?_)
   refine gW ?_
   refine g_l1 rfl rfl (hS.b  3 rfl) rfl ?_
   refine gW ?_
   exact g_ret (q_1 rfl (h v' _ _ hv' (hS.sel [3, 0, 1, 2] rfl rfl)))
theorem b_getN {r s0 most : Nat} {v0 v : Value} {all : Bs} {st : Rst} (hv : SubV v0 all v st.1) (hb : st.1.length < 1000000000) (hS : St w0 S0 w (RdrR r s0 v0 all v st.2)) (h : ∀ v' w', SubV v0 all v' (gotS 0 (numS most) st).2.1 → St w0 S0 w' (RdrR r s0 v0 all v' (gotS 0 (numS most) st).2.2) → K (.int .u64 ((gotS 0 (numS most) st).1 : Int)) w') : CK Tryz.prog 149 [dp r, .func (.func 148) ⟨[dp s0]⟩ ⟨[]⟩, .int .u64 (most : Int)] w K := by
 obtain ⟨b, wr⟩ := st
 dsimp only at hv hb hS
 refine call_k Tryz.func149 k149 Tryz.ntmps149 (Nat.le_of_ble_eq_true rfl) ?_
 refine gW ?_
 refine g_l1 rfl rfl (hS.b  0 rfl) rfl ?_
 cases wr with
 | true =>
  refine gW ?_
  exact g_ret (q_1 rfl (h v _ hv hS))
 | false =>
  replace hS : St w0 S0 w (SrcR s0 v0 all v ++ [cel r [dp s0, .bool false] 169]) := hS.sel [1, 2, 0] rfl rfl
  have hF := hS.frame
  refine gW ?_
  refine g_ef rfl (ef_cv (first := [dp s0]) (cap := []) rfl rfl (callFunc_of Tryz.func148 rfl rfl) (b_Number (most := most) hv hb hF.1 (fun he w1 h' => ?_) (fun he v' w1 hv' h' => ?_)))
  ·replace hS := hF.2 _ _ h'
   have hn : numS most b = none := by unfold numS; exact if_neg he
   rw [gotS_n hn] at h
   refine gW ?_
   rw [cmv_ye he]
   refine g_ef0 rfl (ef_st hS 2 rfl rfl rfl rfl (Nat.le_of_ble_eq_true rfl) rfl fun w1 hS => ?_)
   refine gW ?_
   refine g_l1 rfl rfl (hS.b  2 rfl) rfl ?_
   refine gW ?_
   exact g_ret (q_1 rfl (h v _ hv (hS.sel [2, 0, 1] rfl rfl)))
  ·replace hS := hF.2 _ _ h'
   have hx : numS most b = some (numN b, b.drop (numK b)) := by unfold numS; exact if_pos he
   rw [gotS_s hx] at h
   refine gW ?_
   refine g_ef0 rfl (ef_st hS 2 rfl rfl rfl rfl (Nat.le_of_ble_eq_true rfl) rfl fun w1 hS => ?_)
   refine gW ?_
   refine g_l1 rfl rfl (hS.b  2 rfl) rfl ?_
   refine gW ?_
   exact g_ret (q_1 rfl (h v' _ hv' (hS.sel [2, 0, 1] rfl rfl)))
theorem c_rawS {s0 n : Nat} {v0 v : Value} {all b : Bs} (hv : SubV v0 all v b) (hb : b.length < 1000000000) (hn : n < 1000000000) {w : World} {S0 : Nat → Prop} {w0 : World} {K : Value → World → Prop} (hS : St w0 S0 w (SrcR s0 v0 all v)) (h1 : rawS n b = none → ∀ e w', e ≠ 0 → St w0 S0 w' (SrcR s0 v0 all v) → K (.tuple ⟨[.slice none 0 0, .int .i64 e]⟩) w')
  (h2 : ∀ x rest, rawS n b = some (x, rest) → ∀ v' u w', SubV v0 all v' rest → St w0 S0 w' (SrcR s0 v0 all v' ++ [row u 5 1 x.length (bys x)]) → K (.tuple ⟨[u, .int .i64 0]⟩) w') : CK Tryz.prog 146 [dp s0, .int .i64 (n : Int)] w K := by
 refine b_Raw hv hb hn hS (fun hlt w' hS => h1 (if_pos hlt) 10 w' (by decide) hS) (fun hge v' u w' hv' hS => h2 (b.take n) (b.drop n) (if_neg (by omega)) v' u w' hv' ?_)
 rw [List.length_take, Nat.min_eq_left hge]
 exact hS
theorem c_bytS {s0 most : Nat} {v0 v : Value} {all b : Bs} (hv : SubV v0 all v b) (hb : b.length < 1000000000) (hn : most < 1000000000) {w : World} {S0 : Nat → Prop} {w0 : World} {K : Value → World → Prop} (hS : St w0 S0 w (SrcR s0 v0 all v)) (h1 : bytS most b = none → ∀ e w', e ≠ 0 → St w0 S0 w' (SrcR s0 v0 all v) → K (.tuple ⟨[.slice none 0 0, .int .i64 e]⟩) w')
  (h2 : ∀ x rest, bytS most b = some (x, rest) → ∀ v' u w', SubV v0 all v' rest → St w0 S0 w' (SrcR s0 v0 all v' ++ [row u 5 1 x.length (bys x)]) → K (.tuple ⟨[u, .int .i64 0]⟩) w') : CK Tryz.prog 94 [dp s0, .int .i64 (most : Int)] w K :=
 b_Bytes hv hb hn hS (fun he w' hS => h1 (if_neg he) _ w' he hS) (fun he v' u w' hv' hS => h2 _ _ (if_pos he) v' u w' hv' hS)
theorem gotS_len {α : Type} {z : α} {f : Bs → Option (α × Bs)} (hf : ∀ b x r, f b = some (x, r) → r.length ≤ b.length) (s : Rst) : (gotS z f s).2.1.length ≤ s.1.length := by
 obtain ⟨b, wr⟩ := s
 cases wr with
 | true => exact Nat.le_refl _
 | false =>
  cases h : f b with
  | none => rw [gotS_n h]; exact Nat.le_refl _
  | some p => obtain ⟨x, r⟩ := p; rw [gotS_s h]; exact hf b x r h
theorem raw_len (n : Nat) : ∀ b x r, rawS n b = some (x, r) → r.length ≤ b.length := fun b x r h => by
 unfold rawS at h
 split at h
 ·cases h
 ·cases h; rw [List.length_drop]; omega
theorem byt_len (n : Nat) : ∀ b x r, bytS n b = some (x, r) → r.length ≤ b.length := fun b x r h => by
 unfold bytS at h
 split at h
 ·cases h; unfold bytR; rw [List.length_drop, List.length_drop]; omega
 ·cases h
theorem num_len (n : Nat) : ∀ b x r, numS n b = some (x, r) → r.length ≤ b.length := fun b x r h => by
 unfold numS at h
 split at h
 ·cases h; rw [List.length_drop]; omega
 ·cases h
theorem got_raw {n : Nat} (s : Rst) : (gotS [] (rawS n) s).1.length = 0 ∨ (gotS [] (rawS n) s).1.length = n := by
 obtain ⟨b, wr⟩ := s
 cases wr with
 | true => exact .inl rfl
 | false =>
  by_cases h : b.length < n
  ·rw [gotS_n (show rawS n b = none from if_pos h)]; exact .inl rfl
  ·rw [gotS_s (show rawS n b = _ from if_neg h)]
   right
   show (b.take n).length = n
   rw [List.length_take]; omega
theorem id_len (s : Rst) : (idS s).1.length = 32 := by
 have := got_raw (n := 32) s
 unfold idS
 simp only [List.length_append, List.length_replicate]
 omega
theorem b_one {r s0 : Nat} {v0 v : Value} {all : Bs} {st : Rst} (hv : SubV v0 all v st.1) (hb : st.1.length < 1000000000) (hS : St w0 S0 w (RdrR r s0 v0 all v st.2)) (h : ∀ v' w', SubV v0 all v' (oneS st).2.1 → St w0 S0 w' (RdrR r s0 v0 all v' (oneS st).2.2) → K (.int .i64 ((oneS st).1 : Int)) w') : CK Tryz.prog 91 [dp r] w K := by
 refine call_k Tryz.func91 k91 Tryz.ntmps91 (Nat.le_of_ble_eq_true rfl) ?_
 refine gW ?_
 refine g_l1 rfl rfl (hS.b  0 rfl) rfl ?_
 refine gW ?_
 refine g_cl rfl rfl (b_getB (m := 1) (callFunc_of Tryz.func146 rfl rfl) hv (fun hS h1 h2 => c_rawS (n := 1) hv hb (by decide) hS h1 h2) hS fun v' u w1 hv' hS => ?_)
 obtain ⟨a, c, rfl⟩ := hS.rlen 3 rfl
 have hl := got_raw (n := 1) st
 unfold oneS at h
 generalize gotS [] (rawS 1) st = g at *
 obtain ⟨x, st'⟩ := g
 dsimp only at *
 rcases hl with h0 | h0
 ·have e : x = [] := List.eq_nil_of_length_eq_zero h0
  subst e
  refine gW ?_
  exact g_ret (q_1 rfl (h v' _ hv' (hS.sel [0, 1, 2] rfl rfl)))
 ·match x, h0 with
  | [y], _ =>
   obtain ⟨b, cap, rest, e, hcap, hB, hl2⟩ := row_blk hS 3 rfl (Nat.zero_lt_one)
   cases e
   refine gW ?_
   refine g_rq rfl rfl ⟨by decide, by show (0 : Int) < 1; decide⟩ ?_
   refine g_l1 rfl rfl hB (v := .int .u8 (y.toNat : Int)) rfl ?_
   refine gW ?_
   rw [show IntKind.i64.wrap (y.toNat : Int) = (y.toNat : Int) from wrap_in (in64 (by have := y.toNat_lt; omega))]
   refine gW ?_
   exact g_ret (q_1 rfl (h v' _ hv' (hS.sel [0, 1, 2] rfl rfl)))
theorem b_id {r s0 : Nat} {v0 v : Value} {all : Bs} {st : Rst} (hv : SubV v0 all v st.1) (hb : st.1.length < 1000000000) (hS : St w0 S0 w (RdrR r s0 v0 all v st.2)) (h : ∀ v' w', SubV v0 all v' (idS st).2.1 → St w0 S0 w' (RdrR r s0 v0 all v' (idS st).2.2) → K (.agg ⟨bys (idS st).1⟩) w') : CK Tryz.prog 97 [dp r] w K := by
 have l32 : (bys (idS st).1).length = 32 := by rw [bys_length, id_len]
 refine call_k Tryz.func97 k97 Tryz.ntmps97 (Nat.le_of_ble_eq_true rfl) ?_
 refine gW ?_
 refine g_ef rfl (ef_al hS fun b2 w1 hS => ?_)
 replace hS : St w0 S0 w1 (RdrR r s0 v0 all v st.2 ++ [cel b2 (bys (List.replicate 32 0)) 46]) := hS
 refine gW ?_
 refine g_dr mixed ?_
 replace hS := hS.drew
 refine d_rq rfl rfl rfl ⟨by decide, by decide, by decide⟩ ?_
 refine gD ?_
 refine d_l1 rfl rfl rfl (hS.b 0 rfl) rfl ?_
 refine gD ?_
 have hF := hS.frame
 refine d_cl rfl rfl rfl (b_getB (m := 32) (callFunc_of Tryz.func146 rfl rfl) hv (fun hS h1 h2 => c_rawS (n := 32) hv hb (by decide) hS h1 h2) hF.1 fun v' u w1 hv' h' => ⟨rc_0, ?_⟩)
 replace hS := hF.2 _ _ h'
 have hl := got_raw (n := 32) st
 unfold idS at h l32
 generalize gotS [] (rawS 32) st = g at *
 obtain ⟨x, st'⟩ := g
 dsimp only at *
 refine d_e rfl rfl ?_
 refine ef_cp (m := x.length) (ys := bys x) hS 4 rfl rfl rfl (.inl ⟨_, Ow.rd (hS.ok 3 _ rfl)⟩) (by rw [bys_length, List.length_replicate]; decide) (bys_one _) fun w1 hS => ⟨rc_0, ?_⟩
 replace hS := hS.ceq (l' := bys (x ++ List.replicate (32 - x.length) 0)) 4 rfl (by
  have e1 : (bys x).take (min x.length (32 - 0) * 1) = bys x := List.take_of_length_le (by rw [bys_length]; omega)
  have e2 := spl_mid [] (List.replicate 32 0) x (by rw [List.length_replicate]; omega)
  rw [List.nil_append, List.nil_append, List.drop_replicate] at e2
  have e3 : spl (bys (List.replicate 32 0)) 0 ((bys x).take (min x.length (32 - 0) * 1)) = bys (x ++ List.replicate (32 - x.length) 0) := by rw [e1]; exact e2
  exact e3)
 refine d_fin ?_
 refine gW ?_
 refine g_lm rfl rfl (hS.b 4 rfl) (Nat.le_of_eq (by rw [l32])) ?_
 rw [List.drop_zero, List.take_of_length_le (Nat.le_of_eq l32)]
 refine g_ef0 rfl (ef_st hS 4 rfl rfl rfl l32 (Nat.le_of_eq (by rw [l32])) (bys_one _) fun w1 hS => ?_)
 replace hS := hS.ceq (l' := bys (x ++ List.replicate (32 - x.length) 0)) 4 rfl (spl_full _ _ rfl)
 refine gW ?_
 refine g_ret (q_c1 (n := 32) rfl (by kernel_rfl) (hS.b 4 rfl) (Nat.le_of_eq (by rw [l32])) ?_)
 rw [List.drop_zero, List.take_of_length_le (Nat.le_of_eq l32)]
 exact h v' _ hv' (hS.sel [0, 1, 2] rfl rfl)
end
end Go.Proofs.YtocofjmknnckhaaGreatDoor
namespace Go.En
section
variable {w w0 : World} {S0 S : Nat → Prop} {K : Value → World → Prop} {B L : List Res} {E : Env} {ks : List KI} {T : TT} {D : List Deferred} {Q : QX} {P : Program}
theorem Rd.hd {a : Option Addr} {n c E sz m : Nat} {xs : List Value} (h : Rd (.slice a n c) E sz n xs w) (hm : m ≤ n) : Rd (.slice a m c) E sz m (xs.take (m * sz)) w := by
 rcases h with ⟨⟨a', h⟩, rfl, rfl⟩ | ⟨b', off', cap', l, h, hn, hl, hx, hb⟩
 ·cases h
  have : m = 0 := by omega
  subst this
  exact .inl ⟨⟨_, rfl⟩, rfl, by simp⟩
 ·cases h
  have := Nat.mul_le_mul_right sz hm
  refine .inr ⟨b', off', _, l, rfl, by omega, hl, ?_, hb⟩
  rw [← hx, List.take_take]
  congr 1
  omega
theorem sl_drop {a : Option Addr} {n c El sz lo : Nat} {xs : List Value} (hr : Rd (.slice a n c) El sz n xs w) (hc : n ≤ c) (hlo : lo ≤ n) :
  ∃ a', Rd (.slice a' (n - lo) (c - lo)) El sz (n - lo) (xs.drop (lo * sz)) w ∧ ∀ {P : Program} {T : TT} {x y : Operand} {k : IntKind} (w : World), ev T x = some (.slice a n c) → ev T y = some (.int k (lo : Int)) → Qt P (.sl x (some y) none none sz) T w (.slice a' (n - lo) (c - lo)) := by
 have key : ∀ a' : Option Addr, (∀ {z : Option Addr}, z = a → (match z with | none => none | some ⟨b, o, sp⟩ => some (if c = lo then ⟨b, o, sp⟩ else (⟨b, o, sp⟩ : Addr).add (lo * sz))) = a') → ∀ {P : Program} {T : TT} {x y : Operand} {k : IntKind} (w : World), ev T x = some (.slice a n c) → ev T y = some (.int k (lo : Int)) → Qt P (.sl x (some y) none none sz) T w (.slice a' (n - lo) (c - lo)) := fun a' h P T x y k w hx hy => by
  have q := qt_sl (P := P) (w := w) (sz := sz) (lo := some y) (hi := none) (mx := none) (l := (lo : Int)) (h := (n : Int)) (m := (c : Int)) (a' := a') hx (by simp [bnd, hy]) rfl rfl ⟨by omega, by omega, by omega, by omega⟩ (by
   rw [← h rfl]
   cases a <;> simp)
  simpa only [Int.toNat_natCast] using q
 rcases hr with ⟨⟨a', h⟩, rfl, rfl⟩ | ⟨b, off, cap, l, h, hn, hl, hxs, hb⟩
 ·cases h
  obtain rfl : lo = 0 := by omega
  exact ⟨_, .inl ⟨⟨_, rfl⟩, by omega, by simp⟩, key _ fun e => by subst e; rfl⟩
 ·cases h
  by_cases e : c = lo
  ·have hnl : n = lo := by omega
   subst hnl
   have hxl : xs.length ≤ n * sz := by rw [← hxs]; simp; omega
   refine ⟨some ⟨b, off, none⟩, .inr ⟨b, off, c - n, l, rfl, by omega, ?_, ?_, hb⟩, key _ fun h => by subst h; simp only [if_pos e]⟩
   ·have : (c - n) * sz ≤ c * sz := Nat.mul_le_mul_right sz (by omega)
    omega
   ·rw [List.drop_eq_nil_of_le hxl]
    simp
  ·have h1 : c * sz = lo * sz + (c - lo) * sz := by rw [← Nat.add_mul]; congr 1; omega
   refine ⟨some ⟨b, off + lo * sz, none⟩, .inr ⟨b, off + lo * sz, c - lo, l, rfl, by omega, by omega, ?_, hb⟩, key _ fun h => by subst h; simp only [if_neg e, add_plain]⟩
   rw [← hxs, ← List.drop_drop, List.drop_take, ← Nat.sub_mul]
end
section
variable {α : Type}
def insAt (o : List α) (j : Nat) (x : α) : List α := o.take j ++ x :: o.drop j
theorem insAt_pw {R : α → α → Prop} {o : List α} {j : Nat} {x : α} (ho : o.Pairwise R) (h1 : ∀ a ∈ o.take j, R a x) (h2 : ∀ b ∈ o.drop j, R x b) : (insAt o j x).Pairwise R := by
 unfold insAt
 rw [List.pairwise_append]
 refine ⟨ho.sublist (List.take_sublist _ _), List.pairwise_cons.2 ⟨h2, ho.sublist (List.drop_sublist _ _)⟩, fun a ha b hb => ?_⟩
 rcases List.mem_cons.1 hb with rfl | hb
 ·exact h1 a ha
 ·rw [← List.take_append_drop j o, List.pairwise_append] at ho
  exact ho.2.2 a ha b hb
theorem insAt_mem (o : List α) (j : Nat) (x y : α) : y ∈ insAt o j x ↔ y = x ∨ y ∈ o := by
 unfold insAt
 conv => rhs; rw [← List.take_append_drop j o]
 rw [List.mem_append, List.mem_cons, List.mem_append]
 constructor
 ·rintro (h | h | h)
  ·exact .inr (.inl h)
  ·exact .inl h
  ·exact .inr (.inr h)
 ·rintro (h | h | h)
  ·exact .inr (.inl h)
  ·exact .inl h
  ·exact .inr (.inr h)
theorem insAt_len (o : List α) {j : Nat} (x : α) : (insAt o j x).length = o.length + 1 := by
 unfold insAt
 rw [List.length_append, List.length_cons, List.length_take, List.length_drop]
 omega
theorem drop_pw {R : α → α → Prop} {o : List α} {j : Nat} (ho : o.Pairwise R) {b : α} (hb : b ∈ o.drop j) : ∃ h : j < o.length, b = o[j] ∨ R o[j] b := by
 have hj : j < o.length := by
  rcases Nat.lt_or_ge j o.length with h | h
  ·exact h
  ·rw [List.drop_eq_nil_of_le h] at hb; cases hb
 refine ⟨hj, ?_⟩
 rw [List.drop_eq_getElem_cons hj] at hb
 rcases List.mem_cons.1 hb with rfl | hb
 ·exact .inl rfl
 ·right
  have h1 := ho.sublist (List.drop_sublist j o)
  rw [List.drop_eq_getElem_cons hj] at h1
  exact (List.pairwise_cons.1 h1).1 b hb
end
section
variable {w : World} {E : Env} {ks : List KI} {T : TT} {D : List Deferred} {Q : QX}
theorem d_qp {l : List MOp} {i s : Nat} {g : Option (Nat × Bool)} {k : MK} {v : Value} {t : DT} (hl : l[i]? = some ⟨some s, g, k⟩) (hg : gv T ⟨some s, g, k⟩ = some true) (hn : k.plain = true) (hp : ∀ w, Qt E.P k T w v) (h : G E (.d l t :: ks) ((s, v) :: T) D w Q) : G E (.d l (.q i t) :: ks) T D w Q :=
 ⟨_, v, hl, rfl, .inl ⟨hg, .inl ⟨hn, hp⟩⟩, h⟩
end
end Go.En
namespace Go.Proofs.YtocofjmknnckhaaGreatDoor
open Go.En
abbrev En := Bs × Nat × Id
def enC (e : En) : List Value := sv e.1 :: .int .i64 (e.2.1 : Int) :: bys e.2.2.1
theorem enC_len (e : En) : (enC e).length = 34 := by unfold enC; rw [List.length_cons, List.length_cons, bys_length, e.2.2.2]
theorem enC_one (e : En) : ∀ v ∈ enC e, v.oneCell' = true := fun v hv => by
 unfold enC at hv
 rcases List.mem_cons.1 hv with rfl | hv
 ·rfl
 ·rcases List.mem_cons.1 hv with rfl | hv
  ·rfl
  ·exact ic_one e.2.2 v hv
def idT (s : Rst) : Id × Rst := (⟨(idS s).1, id_len s⟩, (idS s).2)
def entS (s : Rst) : En × Rst := (((txtS s).1, (oneS (txtS s).2).1, (idT (oneS (txtS s).2).2).1), (idT (oneS (txtS s).2).2).2)
theorem one_rl (s : Rst) : (oneS s).2.1.length ≤ s.1.length := gotS_len (raw_len 1) s
theorem idT_rl (s : Rst) : (idT s).2.1.length ≤ s.1.length := gotS_len (raw_len 32) s
theorem txt_rl (s : Rst) : (txtS s).2.1.length ≤ s.1.length := gotS_len (byt_len 4000) s
theorem ent_rl (s : Rst) : (entS s).2.1.length ≤ s.1.length := Nat.le_trans (idT_rl _) (Nat.le_trans (one_rl _) (txt_rl _))
theorem sev_rl {α : Type} {f : Rst → α × Rst} (hf : ∀ s, (f s).2.1.length ≤ s.1.length) : ∀ n s, (sevS f n s).2.1.length ≤ s.1.length
 | 0, s => Nat.le_refl _
 | n + 1, s => by
  unfold sevS
  split
  ·exact Nat.le_refl _
  ·exact Nat.le_trans (sev_rl hf n _) (hf s)
section
variable {w w0 : World} {S0 : Nat → Prop} {L B : List Res} {K : Value → World → Prop} {s : Bs} {E0 E1 E2 : Nat}
theorem fill_en {T : TT} {a b c : Operand} (e : En) (ha : ev T a = some (sv e.1)) (hb : ev T b = some (.int .i64 (e.2.1 : Int))) (hc : ev T c = some (.agg ⟨bys e.2.2.1⟩)) : fillP T [(0, 1, a), (1, 1, b), (2, 32, c)] (zx [(1, .string ⟨#[]⟩), (1, .int .i64 0), (32, .int .u8 0)]) = some (enC e) := by
 have l1 : (bys e.2.2.1).length = 32 := by rw [bys_length, e.2.2.2]
 have e1 : Nat.beq (bys e.2.2.1).length 32 = true := by rw [l1]; rfl
 have e2 : Nat.ble (2 + (bys e.2.2.1).length) 34 = true := by rw [l1]; rfl
 unfold fillP
 rw [ha]
 show fillP T [(1, 1, b), (2, 32, c)] (sv e.1 :: .int .i64 0 :: List.replicate 32 (.int .u8 0)) = _
 unfold fillP
 rw [hb]
 show fillP T [(2, 32, c)] (sv e.1 :: .int .i64 (e.2.1 : Int) :: List.replicate 32 (.int .u8 0)) = _
 unfold fillP
 rw [hc]
 show (match Nat.beq (bys e.2.2.1).length 32, Nat.ble (2 + (bys e.2.2.1).length) 34 with | true, true => fillP T [] _ | _, _ => none) = _
 rw [e1, e2]
 show some (spl (sv e.1 :: .int .i64 (e.2.1 : Int) :: List.replicate 32 (.int .u8 0)) 2 (bys e.2.2.1)) = _
 simp [spl, enC, e.2.2.2]
theorem b_text {r s0 b4 : Nat} {v0 v : Value} {all : Bs} {st : Rst} (hv : SubV v0 all v st.1) (hb : st.1.length < 1000000000) (hS : St w0 S0 w (RdrR r s0 v0 all v st.2 ++ [cel b4 [dp r] 165])) (h : ∀ v' w', SubV v0 all v' (txtS st).2.1 → St w0 S0 w' (RdrR r s0 v0 all v' (txtS st).2.2 ++ [cel b4 [dp r] 165]) → K (sv (txtS st).1) w') : CK Tryz.prog 92 [dp b4] w K := by
 refine call_k Tryz.func92 k92 Tryz.ntmps92 (Nat.le_of_ble_eq_true rfl) ?_
 refine gW ?_
 refine g_dr mixed ?_
 replace hS := hS.drew
 refine d_l1 rfl rfl rfl (hS.b 3 rfl) rfl ?_
 refine d_l1 rfl rfl rfl (hS.b 3 rfl) rfl ?_
 refine gD ?_
 refine d_l1 rfl rfl rfl (hS.b 0 rfl) rfl ?_
 refine gD ?_
 have hF := hS.frame
 refine d_cl rfl rfl rfl (b_getB (m := 4000) (callFunc_of Tryz.func94 rfl rfl) hv (fun hS h1 h2 => c_bytS (most := 4000) hv hb (by decide) hS h1 h2) hF.1 fun v' u w1 hv' h' => ⟨rc_0, ?_⟩)
 replace hS := hF.2 _ _ h'
 refine d_qt rfl rfl rfl (qt_bsR rfl (Ow.rd (hS.ok 3 _ rfl))) ?_
 refine gD ?_
 refine d_fin ?_
 refine gW ?_
 exact g_ret (q_1 rfl (h v' _ hv' (hS.sel [0, 1, 2, 4] rfl rfl)))
def PrsM (r b4 b6 : Nat) : List Res := [cel b4 [dp r] 165, cel b6 [.func (.func 92) ⟨[]⟩ ⟨[dp b4]⟩] 172]
set_option maxHeartbeats 1000000 in
theorem b_entry {r s0 b4 b6 : Nat} {v0 v : Value} {all : Bs} {st : Rst} (hv : SubV v0 all v st.1) (hb : st.1.length < 1000000000) (hS : St w0 S0 w (RdrR r s0 v0 all v st.2 ++ PrsM r b4 b6)) (h : ∀ v' w', SubV v0 all v' (entS st).2.1 → St w0 S0 w' (RdrR r s0 v0 all v' (entS st).2.2 ++ PrsM r b4 b6) → K (.agg ⟨enC (entS st).1⟩) w') : CK Tryz.prog 96 [dp b6, dp b4] w K := by
 have hl1 := txt_rl st
 have hl2 := one_rl (txtS st).2
 refine call_k Tryz.func96 k96 Tryz.ntmps96 (Nat.le_of_ble_eq_true rfl) ?_
 refine gW ?_
 refine g_ef rfl (ef_al hS fun b2 w1 hS => ?_)
 replace hS : St w0 S0 w1 ((RdrR r s0 v0 all v st.2 ++ [cel b4 [dp r] 165]) ++ [cel b6 [.func (.func 92) ⟨[]⟩ ⟨[dp b4]⟩] 172, cel b2 (zx [(1, .string ⟨#[]⟩), (1, .int .i64 0), (32, .int .u8 0)]) 175]) := hS
 refine gW ?_
 refine g_l1 rfl rfl (hS.b  4 rfl) rfl ?_
 have hF := hS.frame
 refine g_ef rfl (ef_cv (first := []) (cap := [dp b4]) rfl rfl (callFunc_of Tryz.func92 rfl rfl) (b_text hv hb hF.1 fun v1 w1 hv1 h' => ?_))
 replace hS := hF.2 _ _ h'
 refine gW ?_
 refine g_dr mixed ?_
 replace hS := hS.drew
 refine gD ?_
 refine d_l1 rfl rfl rfl (hS.b 3 rfl) rfl ?_
 refine d_l1 rfl rfl rfl (hS.b 3 rfl) rfl ?_
 replace hS : St w0 S0 w1.drew (RdrR r s0 v0 all v1 (txtS st).2.2 ++ [cel b4 [dp r] 165, cel b6 [.func (.func 92) ⟨[]⟩ ⟨[dp b4]⟩] 172, cel b2 (zx [(1, .string ⟨#[]⟩), (1, .int .i64 0), (32, .int .u8 0)]) 175]) := hS
 have hF := hS.frame
 refine d_cl rfl rfl rfl (b_one hv1 (by omega) hF.1 fun v2 w2 hv2 h' => ?_)
 replace hS := hF.2 _ _ h'
 refine ⟨rc_1 rfl rfl rfl rfl (hS.b 3 rfl) rfl rc_0, ?_⟩
 have hF := hS.frame
 refine d_cl rfl rfl rfl (b_id hv2 (by omega) hF.1 fun v3 w3 hv3 h' => ⟨rc_0, ?_⟩)
 replace hS := hF.2 _ _ h'
 refine d_qp rfl rfl rfl (fun w => qt_bd (out := enC (entS st).1) (fill_en (entS st).1 rfl rfl rfl) w) ?_
 refine d_e0 rfl rfl ?_
 refine ef_st hS 5 rfl rfl rfl (enC_len _) (Nat.le_of_ble_eq_true rfl) (List.all_eq_true.2 (enC_one _)) fun w4 hS => ⟨rc_0, ?_⟩
 replace hS := hS.ceq (l' := enC (entS st).1) 5 rfl (spl_full _ _ (by show (enC _).length = _; rw [enC_len]; rfl))
 refine d_fin ?_
 refine g_ret (q_c1 (n := 34) rfl (by kernel_rfl) (hS.b 5 rfl) (Nat.le_of_eq (by rw [enC_len])) ?_)
 rw [List.drop_zero, List.take_of_length_le (Nat.le_of_eq (enC_len _))]
 exact h v3 _ hv3 (hS.sel [0, 1, 2, 3, 4] rfl rfl)
set_option maxHeartbeats 1000000 in
theorem b_sevE {α : Type} {enc : α → List Value} {f : Rst → α × Rst} {r s0 most fn : Nat} {first cap : List Value} {v0 v : Value} {all : Bs} {st : Rst} {M : List Res} (hel : ∀ x, (enc x).length = 34) (he1 : ∀ x, ∀ v ∈ enc x, v.oneCell' = true) (hfl : ∀ s, (f s).2.1.length ≤ s.1.length) (hmost : most < 1000)
  (hfn : ∀ (args : Array Value) (w : World), (callFunc fn args).run Tryz.prog w = .ok (.enter fn args) w)
  (hc : ∀ (st : Rst) (v : Value) {w : World} {w0 : World} {S0 : Nat → Prop} {K : Value → World → Prop}, SubV v0 all v st.1 → st.1.length < 1000000000 → St w0 S0 w (RdrR r s0 v0 all v st.2 ++ M) → (∀ v' w', SubV v0 all v' (f st).2.1 → St w0 S0 w' (RdrR r s0 v0 all v' (f st).2.2 ++ M) → K (.agg ⟨enc (f st).1⟩) w') → CK Tryz.prog fn (first ++ [] ++ cap) w K)
  (hv : SubV v0 all v st.1) (hb : st.1.length < 1000000000) (hS : St w0 S0 w (RdrR r s0 v0 all v st.2 ++ M))
  (h : ∀ v' u w', SubV v0 all v' (sevS f (gotS 0 (numS most) st).1 (gotS 0 (numS most) st).2).2.1 → St w0 S0 w' ((RdrR r s0 v0 all v' (sevS f (gotS 0 (numS most) st).1 (gotS 0 (numS most) st).2).2.2 ++ M) ++ [row u 175 34 (sevS f (gotS 0 (numS most) st).1 (gotS 0 (numS most) st).2).1.length (fl enc (sevS f (gotS 0 (numS most) st).1 (gotS 0 (numS most) st).2).1)]) → K u w') :
  CK Tryz.prog 95 [dp r, .int .u64 (most : Int), .func (.func fn) ⟨first⟩ ⟨cap⟩] w K := by
 have hnm : (gotS 0 (numS most) st).1 ≤ most := by
  obtain ⟨b, wr⟩ := st
  cases wr with
  | true => exact Nat.zero_le _
  | false =>
   by_cases e : numEM b most = 0
   ·rw [gotS_s (show numS most b = _ from if_pos e)]; exact numEM_le e
   ·rw [gotS_n (show numS most b = none from if_neg e)]; exact Nat.zero_le _
 have hgl := gotS_len (z := 0) (num_len most) st
 refine call_k Tryz.func95 k95 Tryz.ntmps95 (Nat.le_of_ble_eq_true rfl) ?_
 refine gW ?_
 refine g_l1 rfl rfl (hS.b  0 rfl) rfl ?_
 refine gW ?_
 have hF := hS.frame
 refine g_cl rfl rfl (b_getN (most := most) hv hb hF.1 fun v1 w1 hv1 h' => ?_)
 replace hS := hF.2 _ _ h'
 clear h'
 generalize gotS 0 (numS most) st = g at *
 obtain ⟨N, st1⟩ := g
 dsimp only at *
 have hb1 : st1.1.length < 1000000000 := by omega
 replace hS := hS.nilrow 175 34
 refine gW ?_
 refine g_lp (ι := Nat × Rst × Value × List α × Value) (fun x => [(0, dp r), (2, .func (.func fn) ⟨first⟩ ⟨cap⟩), (7, x.2.2.2.2), (8, .int .u64 (x.1 : Int))]) (fun x w' => x.2.2.2.1.length + x.1 ≤ N ∧ x.2.1.1.length < 1000000000 ∧ SubV v0 all x.2.2.1 x.2.1.1 ∧ sevS f N st1 = (x.2.2.2.1 ++ (sevS f x.1 x.2.1).1, (sevS f x.1 x.2.1).2) ∧ St w0 S0 w' ((RdrR r s0 v0 all x.2.2.1 x.2.1.2 ++ M) ++ [row x.2.2.2.2 175 34 x.2.2.2.1.length (fl enc x.2.2.2.1)])) (fun x => x.1) (N, st1, v1, [], .slice none 0 0)
  ⟨rfl, rfl, rfl, rfl, trivial⟩ ⟨by simp, hb1, hv1, by simp, hS⟩ ?_
 clear hS hv1
 rintro ⟨n, st2, v2, acc, va⟩ w1 ⟨hn, hb2, hv2, he, hS⟩
 dsimp only at hn hb2 hv2 he hS ⊢
 have fin : sevS f n st2 = ([], st2) → ∀ w', St w0 S0 w' ((RdrR r s0 v0 all v2 st2.2 ++ M) ++ [row va 175 34 acc.length (fl enc acc)]) → K va w' := fun e w' hS => by
  rw [e] at he
  rw [he] at h
  rw [List.append_nil] at h
  exact h v2 va w' hv2 hS
 refine gW ?_
 cases n with
 | zero =>
  refine gW ?_
  exact g_ret (q_1 rfl (fin rfl _ hS))
 | succ n =>
  refine gW ?_
  have eg : cmv .gtr ((n + 1 : Nat) : Int) 0 = true := by simp only [cmv]; exact decide_eq_true (by omega)
  rw [eg]
  refine gW ?_
  refine g_l1 (off := 1) rfl rfl (hS.b 0 rfl) rfl ?_
  obtain ⟨b2, wr⟩ := st2
  dsimp only at hn hb2 hv2 he hS fin ⊢
  cases wr with
  | true =>
   refine gW ?_
   exact g_ret (q_1 rfl (fin rfl _ hS))
  | false =>
   have es : sevS f (n + 1) (b2, false) = ((f (b2, false)).1 :: (sevS f n (f (b2, false)).2).1, (sevS f n (f (b2, false)).2).2) := rfl
   have hl2 := hfl (b2, false)
   have hF := hS.frame
   refine gW ?_
   refine g_ef rfl (ef_cv (first := first) (cap := cap) rfl rfl hfn (hc (b2, false) v2 hv2 hb2 hF.1 fun v3 w2 hv3 h' => ?_))
   replace hS := hF.2 _ _ h'
   clear h'
   generalize f (b2, false) = y at es hl2 hv3 hS
   obtain ⟨x, st3⟩ := y
   dsimp only at es hl2 hv3 hS
   refine g_ef rfl (ef_bl (rs := enc x) hS (evcs_1 rfl (hel x)) fun g w2 hS => ?_)
   refine g_ef rfl (ef_ap (n := acc.length) (m := 1) (ys := enc x) hS (RdrR r s0 v0 all v3 st3.2 ++ M).length (getA getL) rfl rfl (.inl ⟨175, .inr ⟨g, 0, 1, _, rfl, Nat.le_refl _, Nat.le_of_eq (by rw [hel]), by rw [List.drop_zero, List.take_of_length_le (Nat.le_of_eq (hel _))], (hS.b _ getL).r⟩⟩) (List.all_eq_true.2 (he1 x)) (by omega) (by omega) fun va' w2 hS => ?_)
   rw [List.set_append_left _ _ (by simp), setL] at hS
   replace hS := hS.init
   have est : fl enc acc ++ enc x = fl enc (acc ++ [x]) := by rw [fl_app]; simp [fl]
   have etl : acc.length + 1 = (acc ++ [x]).length := by simp
   rw [est, etl] at hS
   refine gW ?_
   rw [show IntKind.u64.wrap (arv .sub ((n + 1 : Nat) : Int) 1) = (n : Int) by rw [show arv .sub ((n + 1 : Nat) : Int) 1 = (n : Int) by simp only [arv]; omega]; exact u64n (by omega)]
   refine gW ?_
   refine g_l (n, st3, v3, acc ++ [x], va') ⟨rfl, rfl, rfl, rfl, trivial⟩ ⟨by rw [← etl]; simp only; omega, by simp only; omega, hv3, ?_, hS⟩ (Nat.lt_succ_self n)
   show sevS f N st1 = (acc ++ [x] ++ (sevS f n st3).1, (sevS f n st3).2)
   rw [he, es, List.append_assoc]
   rfl
set_option maxHeartbeats 1000000 in
theorem b_sevI {α : Type} {enc : α → List Value} {f : Rst → α × Rst} {r s0 most fn : Nat} {first cap : List Value} {v0 v : Value} {all : Bs} {st : Rst} {M : List Res} (hel : ∀ x, (enc x).length = 32) (he1 : ∀ x, ∀ v ∈ enc x, v.oneCell' = true) (hfl : ∀ s, (f s).2.1.length ≤ s.1.length) (hmost : most < 1000)
  (hfn : ∀ (args : Array Value) (w : World), (callFunc fn args).run Tryz.prog w = .ok (.enter fn args) w)
  (hc : ∀ (st : Rst) (v : Value) {w : World} {w0 : World} {S0 : Nat → Prop} {K : Value → World → Prop}, SubV v0 all v st.1 → st.1.length < 1000000000 → St w0 S0 w (RdrR r s0 v0 all v st.2 ++ M) → (∀ v' w', SubV v0 all v' (f st).2.1 → St w0 S0 w' (RdrR r s0 v0 all v' (f st).2.2 ++ M) → K (.agg ⟨enc (f st).1⟩) w') → CK Tryz.prog fn (first ++ [] ++ cap) w K)
  (hv : SubV v0 all v st.1) (hb : st.1.length < 1000000000) (hS : St w0 S0 w (RdrR r s0 v0 all v st.2 ++ M))
  (h : ∀ v' u w', SubV v0 all v' (sevS f (gotS 0 (numS most) st).1 (gotS 0 (numS most) st).2).2.1 → St w0 S0 w' ((RdrR r s0 v0 all v' (sevS f (gotS 0 (numS most) st).1 (gotS 0 (numS most) st).2).2.2 ++ M) ++ [row u 46 32 (sevS f (gotS 0 (numS most) st).1 (gotS 0 (numS most) st).2).1.length (fl enc (sevS f (gotS 0 (numS most) st).1 (gotS 0 (numS most) st).2).1)]) → K u w') :
  CK Tryz.prog 98 [dp r, .int .u64 (most : Int), .func (.func fn) ⟨first⟩ ⟨cap⟩] w K := by
 have hnm : (gotS 0 (numS most) st).1 ≤ most := by
  obtain ⟨b, wr⟩ := st
  cases wr with
  | true => exact Nat.zero_le _
  | false =>
   by_cases e : numEM b most = 0
   ·rw [gotS_s (show numS most b = _ from if_pos e)]; exact numEM_le e
   ·rw [gotS_n (show numS most b = none from if_neg e)]; exact Nat.zero_le _
 have hgl := gotS_len (z := 0) (num_len most) st
 refine call_k Tryz.func98 k98 Tryz.ntmps98 (Nat.le_of_ble_eq_true rfl) ?_
 refine gW ?_
 refine g_l1 rfl rfl (hS.b  0 rfl) rfl ?_
 refine gW ?_
 have hF := hS.frame
 refine g_cl rfl rfl (b_getN (most := most) hv hb hF.1 fun v1 w1 hv1 h' => ?_)
 replace hS := hF.2 _ _ h'
 clear h'
 generalize gotS 0 (numS most) st = g at *
 obtain ⟨N, st1⟩ := g
 dsimp only at *
 have hb1 : st1.1.length < 1000000000 := by omega
 replace hS := hS.nilrow 46 32
 refine gW ?_
 refine g_lp (ι := Nat × Rst × Value × List α × Value) (fun x => [(0, dp r), (2, .func (.func fn) ⟨first⟩ ⟨cap⟩), (7, x.2.2.2.2), (8, .int .u64 (x.1 : Int))]) (fun x w' => x.2.2.2.1.length + x.1 ≤ N ∧ x.2.1.1.length < 1000000000 ∧ SubV v0 all x.2.2.1 x.2.1.1 ∧ sevS f N st1 = (x.2.2.2.1 ++ (sevS f x.1 x.2.1).1, (sevS f x.1 x.2.1).2) ∧ St w0 S0 w' ((RdrR r s0 v0 all x.2.2.1 x.2.1.2 ++ M) ++ [row x.2.2.2.2 46 32 x.2.2.2.1.length (fl enc x.2.2.2.1)])) (fun x => x.1) (N, st1, v1, [], .slice none 0 0)
  ⟨rfl, rfl, rfl, rfl, trivial⟩ ⟨by simp, hb1, hv1, by simp, hS⟩ ?_
 clear hS hv1
 rintro ⟨n, st2, v2, acc, va⟩ w1 ⟨hn, hb2, hv2, he, hS⟩
 dsimp only at hn hb2 hv2 he hS ⊢
 have fin : sevS f n st2 = ([], st2) → ∀ w', St w0 S0 w' ((RdrR r s0 v0 all v2 st2.2 ++ M) ++ [row va 46 32 acc.length (fl enc acc)]) → K va w' := fun e w' hS => by
  rw [e] at he
  rw [he] at h
  rw [List.append_nil] at h
  exact h v2 va w' hv2 hS
 refine gW ?_
 cases n with
 | zero =>
  refine gW ?_
  exact g_ret (q_1 rfl (fin rfl _ hS))
 | succ n =>
  refine gW ?_
  have eg : cmv .gtr ((n + 1 : Nat) : Int) 0 = true := by simp only [cmv]; exact decide_eq_true (by omega)
  rw [eg]
  refine gW ?_
  refine g_l1 (off := 1) rfl rfl (hS.b 0 rfl) rfl ?_
  obtain ⟨b2, wr⟩ := st2
  dsimp only at hn hb2 hv2 he hS fin ⊢
  cases wr with
  | true =>
   refine gW ?_
   exact g_ret (q_1 rfl (fin rfl _ hS))
  | false =>
   have es : sevS f (n + 1) (b2, false) = ((f (b2, false)).1 :: (sevS f n (f (b2, false)).2).1, (sevS f n (f (b2, false)).2).2) := rfl
   have hl2 := hfl (b2, false)
   have hF := hS.frame
   refine gW ?_
   refine g_ef rfl (ef_cv (first := first) (cap := cap) rfl rfl hfn (hc (b2, false) v2 hv2 hb2 hF.1 fun v3 w2 hv3 h' => ?_))
   replace hS := hF.2 _ _ h'
   clear h'
   generalize f (b2, false) = y at es hl2 hv3 hS
   obtain ⟨x, st3⟩ := y
   dsimp only at es hl2 hv3 hS
   refine g_ef rfl (ef_bl (rs := enc x) hS (evcs_1 rfl (hel x)) fun g w2 hS => ?_)
   refine g_ef rfl (ef_ap (n := acc.length) (m := 1) (ys := enc x) hS (RdrR r s0 v0 all v3 st3.2 ++ M).length (getA getL) rfl rfl (.inl ⟨46, .inr ⟨g, 0, 1, _, rfl, Nat.le_refl _, Nat.le_of_eq (by rw [hel]), by rw [List.drop_zero, List.take_of_length_le (Nat.le_of_eq (hel _))], (hS.b _ getL).r⟩⟩) (List.all_eq_true.2 (he1 x)) (by omega) (by omega) fun va' w2 hS => ?_)
   rw [List.set_append_left _ _ (by simp), setL] at hS
   replace hS := hS.init
   have est : fl enc acc ++ enc x = fl enc (acc ++ [x]) := by rw [fl_app]; simp [fl]
   have etl : acc.length + 1 = (acc ++ [x]).length := by simp
   rw [est, etl] at hS
   refine gW ?_
   rw [show IntKind.u64.wrap (arv .sub ((n + 1 : Nat) : Int) 1) = (n : Int) by rw [show arv .sub ((n + 1 : Nat) : Int) 1 = (n : Int) by simp only [arv]; omega]; exact u64n (by omega)]
   refine gW ?_
   refine g_l (n, st3, v3, acc ++ [x], va') ⟨rfl, rfl, rfl, rfl, trivial⟩ ⟨by rw [← etl]; simp only; omega, by simp only; omega, hv3, ?_, hS⟩ (Nat.lt_succ_self n)
   show sevS f N st1 = (acc ++ [x] ++ (sevS f n st3).1, (sevS f n st3).2)
   rw [he, es, List.append_assoc]
   rfl
end
def idZ : Id := ⟨zid, zid_len⟩
structure Obj where
 kind : Nat
 data : Bs
 ents : List En
 tree : Id
 pars : List Id
 tk : Nat
 tid : Id
 msg : Bs
def obZ : Obj := ⟨0, [], [], idZ, [], 0, idZ, []⟩
def oc (o : Obj) (vd ve vp : Value) : List Value := .int .i64 (o.kind : Int) :: vd :: ve :: (ic o.tree ++ vp :: .int .i64 (o.tk : Int) :: (ic o.tid ++ [sv o.msg]))
theorem oc_len (o : Obj) (vd ve vp : Value) : (oc o vd ve vp).length = 70 := by
 unfold oc
 simp [ic_len]
def nmB (s : Bs) : Bool := decide (1 ≤ s.length) && decide (s.length ≤ 64) && s.all fun c => decide (c ≠ 47) && decide (c ≠ 0)
def enB (e : En) : Bool := nmB e.1 && decide (e.2.1 = 1 ∨ e.2.1 = 2)
def ordB (l : List En) : Prop := l.Pairwise fun a b => Lib.compareBytes a.1 b.1 < 0
def okO (o : Obj) : Prop :=
 (o.kind = 1 ∧ o.data.length ≤ 1024 ∧ o.ents = [] ∧ o.tree = idZ ∧ o.pars = [] ∧ o.tk = 0 ∧ o.tid = idZ ∧ o.msg = []) ∨
 (o.kind = 2 ∧ (o.ents.length ≤ 32 ∧ (∀ e ∈ o.ents, enB e = true) ∧ ordB o.ents) ∧ o.data = [] ∧ o.tree = idZ ∧ o.pars = [] ∧ o.tk = 0 ∧ o.tid = idZ ∧ o.msg = []) ∨
 (o.kind = 3 ∧ (o.pars.length ≤ 4 ∧ o.pars.Nodup ∧ o.msg.length ≤ 200) ∧ o.data = [] ∧ o.ents = [] ∧ o.tk = 0 ∧ o.tid = idZ) ∨
 (o.kind = 4 ∧ (1 ≤ o.tk ∧ o.tk ≤ 4 ∧ o.msg.length ≤ 200) ∧ o.data = [] ∧ o.ents = [] ∧ o.tree = idZ ∧ o.pars = [])
def prS1 (s : Rst) : Obj × Rst := ({ obZ with kind := 1, data := (gotS [] (bytS 1024) s).1 }, (gotS [] (bytS 1024) s).2)
def prS2 (s : Rst) : Obj × Rst := ({ obZ with kind := 2, ents := (sevS entS (gotS 0 (numS 32) s).1 (gotS 0 (numS 32) s).2).1 }, (sevS entS (gotS 0 (numS 32) s).1 (gotS 0 (numS 32) s).2).2)
def prS3b (t : Id) (s : Rst) : Obj × Rst := ({ obZ with kind := 3, tree := t, pars := (sevS idT (gotS 0 (numS 4) s).1 (gotS 0 (numS 4) s).2).1, msg := (txtS (sevS idT (gotS 0 (numS 4) s).1 (gotS 0 (numS 4) s).2).2).1 }, (txtS (sevS idT (gotS 0 (numS 4) s).1 (gotS 0 (numS 4) s).2).2).2)
def prS3 (s : Rst) : Obj × Rst := prS3b (idT s).1 (idT s).2
def prS4 (s : Rst) : Obj × Rst := ({ obZ with kind := 4, tk := (oneS s).1, tid := (idT (oneS s).2).1, msg := (txtS (idT (oneS s).2).2).1 }, (txtS (idT (oneS s).2).2).2)
def prSk (k : Nat) (s : Rst) : Obj × Rst := if k = 1 then prS1 s else if k = 2 then prS2 s else if k = 3 then prS3 s else if k = 4 then prS4 s else ({ obZ with kind := k }, s)
def prS (b : Bs) : Obj × Rst := prSk (oneS (b, false)).1 (oneS (b, false)).2
def okP (b : Bs) : Prop := (prS b).2 = ([], false) ∧ okO (prS b).1
noncomputable instance (b : Bs) : Decidable (okP b) := Classical.propDecidable _
noncomputable instance (o : Obj) : Decidable (okO o) := Classical.propDecidable _
noncomputable def obP (b : Bs) : Obj := if okP b then (prS b).1 else obZ
theorem obP_kind (b : Bs) : (obP b).kind = 0 ↔ ¬ okP b := by
 unfold obP
 by_cases h : okP b
 ·rw [if_pos h]
  refine ⟨fun h0 => ?_, fun h0 => absurd h h0⟩
  rcases h.2 with ⟨h, _⟩ | ⟨h, _⟩ | ⟨h, _⟩ | ⟨h, _⟩ <;> omega
 ·rw [if_neg h]; exact ⟨fun _ => h, fun _ => rfl⟩
def encB (b : Bs) : Bs := encN b.length ++ b
def encE (e : En) : Bs := encB e.1 ++ UInt8.ofNat e.2.1 :: e.2.2.1
def encO (o : Obj) : Bs := UInt8.ofNat o.kind ::
 (if o.kind = 1 then encB o.data else if o.kind = 2 then encN o.ents.length ++ (o.ents.map encE).flatten
  else if o.kind = 3 then o.tree.1 ++ (encN o.pars.length ++ ((o.pars.map (·.1)).flatten ++ encB o.msg))
  else if o.kind = 4 then UInt8.ofNat o.tk :: (o.tid.1 ++ encB o.msg) else encB o.msg)
def okS {α : Type} (f : Rst → α × Rst) (e : α → Bs) : Prop := ∀ (s : Rst) (x : α) (r : Bs), f s = (x, r, false) → s.2 = false ∧ s.1 = e x ++ r
theorem gotS_ok {α : Type} {z : α} {f : Bs → Option (α × Bs)} {e : α → Bs} (hf : ∀ b x r, f b = some (x, r) → b = e x ++ r) : okS (gotS z f) e := fun s x r h => by
 obtain ⟨b, wr⟩ := s
 cases wr with
 | true => rw [gotS_t] at h; cases h
 | false =>
  cases hb : f b with
  | none => rw [gotS_n hb] at h; cases h
  | some p =>
   obtain ⟨y, q⟩ := p
   rw [gotS_s hb] at h
   cases h
   exact ⟨rfl, hf _ _ _ hb⟩
theorem raw_ok (n : Nat) : ∀ b x r, rawS n b = some (x, r) → b = x ++ r := fun b x r h => by
 unfold rawS at h
 split at h
 ·cases h
 ·cases h; exact (List.take_append_drop n b).symm
theorem numE_0 {b : Bs} (h : numE b = 0) : b = encN (numN b) ++ b.drop (numK b) := by
 unfold numE at h
 cases hf : fin b with
 | none =>
  rw [hf] at h
  dsimp only at h
  split at h <;> exact absurd h (by decide)
 | some k =>
  rw [hf] at h
  dsimp only at h
  split at h
  ·exact absurd h (by decide)
  ·rename_i hn
   have hk9 : k ≤ 9 := Nat.le_of_not_lt fun hk => hn (.inl hk)
   have hi := (enc_iff hf hk9).2 fun hb => hn (.inr hb)
   have eK : numK b = k + 1 := by unfold numK; rw [hf]
   have eN : numN b = valN b (k + 1) := by unfold numN; rw [hf]
   have h1 := enc_val 10 _ (Nat.lt_of_lt_of_le (Nat.mod_lt (valN b (k + 1)) (show 0 < 18446744073709551616 by decide)) (show 18446744073709551616 ≤ 128 ^ (10 + 1) by decide))
   rw [show encF 10 (valN b (k + 1) % 18446744073709551616) = b.take (k + 1) from hi, ← valN_L b (k + 1) (by have := (fin_lt hf).1; omega)] at h1
   rw [← h1] at hi
   rw [eN, eK, hi]
   exact (List.take_append_drop _ _).symm
theorem num_ok (most : Nat) : ∀ b x r, numS most b = some (x, r) → b = encN x ++ r := fun b x r h => by
 unfold numS at h
 split at h
 ·rename_i e
  cases h
  refine numE_0 ?_
  unfold numEM at e
  split at e
  ·rename_i h1; exact absurd e h1
  ·rename_i h1; exact Decidable.of_not_not h1
 ·cases h
theorem byt_ok (most : Nat) : ∀ b x r, bytS most b = some (x, r) → b = encB x ++ r := fun b x r h => by
 unfold bytS at h
 split at h
 ·rename_i e
  cases h
  unfold bytE at e
  split at e
  ·rename_i h1; exact absurd e h1
  ·split at e
   ·exact absurd e (by decide)
   ·rename_i h1 h2
    have h1 : numEM b most = 0 := Decidable.of_not_not h1
    have hb := num_ok most b _ _ (if_pos h1)
    unfold encB bytB bytR
    rw [List.length_take, Nat.min_eq_left (by omega), List.append_assoc, List.take_append_drop]
    exact hb
 ·cases h
theorem one_ok (s : Rst) (x : Nat) (r : Bs) (h : oneS s = (x, r, false)) : s.2 = false ∧ s.1 = UInt8.ofNat x :: r ∧ x < 256 := by
 unfold oneS at h
 generalize hg : gotS [] (rawS 1) s = g at h
 obtain ⟨y, t⟩ := g
 dsimp only at h
 cases h
 have := gotS_ok (z := []) (raw_ok 1) s y r hg
 obtain ⟨h1, h2⟩ := this
 have hl : y.length = 1 := by
  obtain ⟨b, wr⟩ := s
  dsimp only at h1
  subst h1
  cases hb : rawS 1 b with
  | none => rw [gotS_n hb] at hg; cases hg
  | some p =>
   obtain ⟨y', q⟩ := p
   rw [gotS_s hb] at hg
   cases hg
   unfold rawS at hb
   split at hb
   ·cases hb
   ·cases hb; rw [List.length_take]; omega
 match y, hl with
 | [c], _ =>
  refine ⟨h1, ?_, c.toNat_lt⟩
  rw [h2]
  show [c] ++ r = UInt8.ofNat c.toNat :: r
  rw [UInt8.ofNat_toNat]
  rfl
theorem id_ok : okS idT (fun x => x.1) := fun s x r h => by
 have hx : x.1 = (gotS [] (rawS 32) s).1 ++ List.replicate (32 - (gotS [] (rawS 32) s).1.length) 0 := (congrArg (fun p : Id × Rst => p.1.1) h).symm
 have hs : (gotS [] (rawS 32) s).2 = (r, false) := congrArg Prod.snd h
 clear h
 generalize hg : gotS [] (rawS 32) s = g at hx hs
 obtain ⟨y, t⟩ := g
 dsimp only at hx hs
 subst hs
 obtain ⟨h1, h2⟩ := gotS_ok (z := []) (raw_ok 32) s y r hg
 refine ⟨h1, ?_⟩
 have hl : y.length = 32 := by
  obtain ⟨b, wr⟩ := s
  dsimp only at h1
  subst h1
  cases hb : rawS 32 b with
  | none => rw [gotS_n hb] at hg; cases hg
  | some p =>
   obtain ⟨y', q⟩ := p
   rw [gotS_s hb] at hg
   cases hg
   unfold rawS at hb
   split at hb
   ·cases hb
   ·cases hb; rw [List.length_take]; omega
 rw [h2]
 show y ++ r = x.1 ++ r
 rw [hx, hl]
 simp
theorem txt_ok : okS txtS encB := gotS_ok (byt_ok 4000)
theorem ent_ok : okS entS encE := fun s x r h => by
 unfold entS at h
 cases h1 : txtS s with
 | mk n s1 =>
 rw [h1] at h
 cases h2 : oneS s1 with
 | mk k s2 =>
 rw [show (n, s1).2 = s1 from rfl, h2] at h
 cases h3 : idT s2 with
 | mk i s3 =>
 rw [show (k, s2).2 = s2 from rfl, h3] at h
 cases h
 obtain ⟨e3, e3'⟩ := id_ok _ _ _ h3
 obtain ⟨s2a, s2b⟩ := s2
 dsimp only at e3 e3'
 subst e3
 obtain ⟨e2, e2', _⟩ := one_ok _ _ _ h2
 obtain ⟨s1a, s1b⟩ := s1
 dsimp only at e2 e2'
 subst e2
 obtain ⟨e1, e1'⟩ := txt_ok _ _ _ h1
 refine ⟨e1, ?_⟩
 rw [e1', e2', e3']
 simp [encE]
theorem sev_ok {α : Type} {f : Rst → α × Rst} {e : α → Bs} (hf : okS f e) : ∀ n s l r, sevS f n s = (l, r, false) → s.2 = false ∧ s.1 = (l.map e).flatten ++ r ∧ l.length = n
 | 0, s, l, r, h => by
  rw [show sevS f 0 s = ([], s) from rfl] at h
  cases h
  exact ⟨rfl, rfl, rfl⟩
 | n + 1, s, l, r, h => by
  unfold sevS at h
  split at h
  ·rename_i h1
   cases h
   exact absurd h1 (by simp)
  ·rename_i h1
   cases h2 : f s with
   | mk x s1 =>
   rw [h2] at h
   dsimp only at h
   cases h3 : sevS f n s1 with
   | mk l2 s2 =>
   rw [h3] at h
   dsimp only at h
   cases h
   obtain ⟨e3, e4, e5⟩ := sev_ok hf n _ _ _ h3
   obtain ⟨s1a, s1b⟩ := s1
   dsimp only at e3 e4
   subst e3
   obtain ⟨e6, e7⟩ := hf _ _ _ h2
   refine ⟨e6, ?_, by rw [List.length_cons, e5]⟩
   rw [e7, e4]
   simp
theorem prSk_ok {k : Nat} {s : Rst} {o : Obj} {r : Bs} (hk : k = 1 ∨ k = 2 ∨ k = 3 ∨ k = 4) (h : prSk k s = (o, r, false)) : s.2 = false ∧ o.kind = k ∧ UInt8.ofNat k :: s.1 = encO o ++ r := by
 unfold prSk at h
 rcases hk with rfl | rfl | rfl | rfl
 ·rw [if_pos rfl] at h
  unfold prS1 at h
  cases h1 : gotS [] (bytS 1024) s with
  | mk d s1 =>
  rw [h1] at h
  cases h
  obtain ⟨e1, e2⟩ := gotS_ok (byt_ok 1024) _ _ _ h1
  refine ⟨e1, rfl, ?_⟩
  rw [e2]; rfl
 ·rw [if_neg (by decide), if_pos rfl] at h
  unfold prS2 at h
  cases h1 : gotS 0 (numS 32) s with
  | mk n s1 =>
  rw [h1] at h
  dsimp only at h
  cases h2 : sevS entS n s1 with
  | mk l s2 =>
  rw [h2] at h
  cases h
  obtain ⟨e1, e2, e3⟩ := sev_ok ent_ok _ _ _ _ h2
  obtain ⟨s1a, s1b⟩ := s1
  dsimp only at e1 e2
  subst e1
  obtain ⟨e4, e5⟩ := gotS_ok (num_ok 32) _ _ _ h1
  refine ⟨e4, rfl, ?_⟩
  rw [e5, e2, ← e3]
  simp [encO]
 ·rw [if_neg (by decide), if_neg (by decide), if_pos rfl] at h
  unfold prS3 at h
  cases h0 : idT s with
  | mk t s0 =>
  rw [h0] at h
  dsimp only at h
  unfold prS3b at h
  cases h1 : gotS 0 (numS 4) s0 with
  | mk n s1 =>
  rw [h1] at h
  dsimp only at h
  cases h2 : sevS idT n s1 with
  | mk l s2 =>
  rw [h2] at h
  dsimp only at h
  cases h3 : txtS s2 with
  | mk m s3 =>
  rw [h3] at h
  cases h
  obtain ⟨e6, e7⟩ := txt_ok _ _ _ h3
  obtain ⟨s2a, s2b⟩ := s2
  dsimp only at e6 e7
  subst e6
  obtain ⟨e1, e2, e3⟩ := sev_ok id_ok _ _ _ _ h2
  obtain ⟨s1a, s1b⟩ := s1
  dsimp only at e1 e2
  subst e1
  obtain ⟨e4, e5⟩ := gotS_ok (num_ok 4) _ _ _ h1
  obtain ⟨s0a, s0b⟩ := s0
  dsimp only at e4 e5
  subst e4
  obtain ⟨e8, e9⟩ := id_ok _ _ _ h0
  refine ⟨e8, rfl, ?_⟩
  rw [e9, e5, e2, ← e3, e7]
  simp [encO]
 ·rw [if_neg (by decide), if_neg (by decide), if_neg (by decide), if_pos rfl] at h
  unfold prS4 at h
  cases h1 : oneS s with
  | mk k s1 =>
  rw [h1] at h
  dsimp only at h
  cases h2 : idT s1 with
  | mk i s2 =>
  rw [h2] at h
  dsimp only at h
  cases h3 : txtS s2 with
  | mk m s3 =>
  rw [h3] at h
  cases h
  obtain ⟨e6, e7⟩ := txt_ok _ _ _ h3
  obtain ⟨s2a, s2b⟩ := s2
  dsimp only at e6 e7
  subst e6
  obtain ⟨e1, e2⟩ := id_ok _ _ _ h2
  obtain ⟨s1a, s1b⟩ := s1
  dsimp only at e1 e2
  subst e1
  obtain ⟨e4, e5, _⟩ := one_ok _ _ _ h1
  refine ⟨e4, rfl, ?_⟩
  rw [e5, e2, e7]
  simp [encO]
theorem prS_ok {b : Bs} {o : Obj} {r : Bs} (h : prS b = (o, r, false)) (hk : o.kind = 1 ∨ o.kind = 2 ∨ o.kind = 3 ∨ o.kind = 4) : b = encO o ++ r := by
 unfold prS at h
 cases h1 : oneS (b, false) with
 | mk k s =>
 rw [h1] at h
 dsimp only at h
 have hk' : k = 1 ∨ k = 2 ∨ k = 3 ∨ k = 4 := by
  by_cases e1 : k = 1
  ·exact .inl e1
  by_cases e2 : k = 2
  ·exact .inr (.inl e2)
  by_cases e3 : k = 3
  ·exact .inr (.inr (.inl e3))
  by_cases e4 : k = 4
  ·exact .inr (.inr (.inr e4))
  unfold prSk at h
  rw [if_neg e1, if_neg e2, if_neg e3, if_neg e4] at h
  cases h
  exact hk
 obtain ⟨e1, e2, e3⟩ := prSk_ok hk' h
 obtain ⟨sa, sb⟩ := s
 dsimp only at e1 e3
 subst e1
 obtain ⟨_, e4, _⟩ := one_ok _ _ _ h1
 rw [← e3]
 exact e4
end Go.Proofs.YtocofjmknnckhaaGreatDoor
