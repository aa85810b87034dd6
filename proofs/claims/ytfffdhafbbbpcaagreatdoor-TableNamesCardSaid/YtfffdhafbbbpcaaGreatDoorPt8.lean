/- Nd1 Nh3 Rw3 Rw4 Rp1 Nj1 -/
import Derived.Test.YtfffdhafbbbpcaaGreatDoorPt7
import Derived.Test.YtfffdhafbbbpcaaGreatDoorChecked
import Derived.KernelRfl
set_option linter.unusedSimpArgs false
set_option linter.unusedVariables false
namespace Go.Proofs.YtfffdhafbbbpcaaGreatDoor
open Go.En
def m35 : MC := .sq (.rg [.c 4 (.bool false)]) (.sq (.sq (.rg [.t 6 0, .o 7 (.ln false (.tmp 6)), .t 8 1, .o 9 (.ln false (.tmp 8)), .o 10 (.cm .neq (.tmp 7) (.tmp 9))]) (.cd (.tmp 10) (.sq (.rg [.c 4 (.bool false)]) (.rt)) (.sk))) (.sq (.sq (.rg [.c 5 (.int .i64 0)]) (.bk 0 (.lp (.sq (.sq (.rg [.t 11 5, .t 12 0, .o 13 (.ln false (.tmp 12)), .o 14 (.cm .lss (.tmp 11) (.tmp 13))]) (.cd (.tmp 14) (.sk) (.xt 0))) (.sq (.bk 1 (.sq (.dr [.t 17 0, .t 18 5, .o 19 (.ias (.tmp 17) (.tmp 18) 33), .o 20 (.ld (.tmp 19) (some 33)), .t 21 1, .t 22 5, .o 23 (.ias (.tmp 21) (.tmp 22) 33), .o 24 (.ld (.tmp 23) (some 33)), .o 25 (.eqd .neq ([.s] ++ List.replicate 32 (.i .u8)) (.tmp 20) (.tmp 24))] [0, 0, 3, 7, 0, 0, 48, 112, 255] (.q 0 (.q 1 (.q 2 (.q 3 (.q 4 (.q 5 (.q 6 (.q 7 (.q 8 (.fin))))))))))) (.cd (.tmp 25) (.sq (.rg [.c 4 (.bool false)]) (.rt)) (.sk)))) (.rg [.t 15 5, .o 16 (.ar .add .i64 (.tmp 15) (.const (.int .i64 1)) true), .t 5 16])))))) (.sq (.rg [.c 4 (.bool true)]) (.rt))))
theorem k35 : Tryz.f35.body.any (fun c => chkC Tryz.prog c m35 && allD (dlt 26) m35) = true := by kernel_rfl
def m20 : MC := .sq (.rg [.c 4 (.bool false)]) (.sq (.sq (.rg [.t 6 0, .o 7 (.ln false (.tmp 6)), .t 8 1, .o 9 (.ln false (.tmp 8)), .o 10 (.cm .neq (.tmp 7) (.tmp 9))]) (.cd (.tmp 10) (.sq (.rg [.c 4 (.bool false)]) (.rt)) (.sk))) (.sq (.sq (.rg [.c 5 (.int .i64 0)]) (.bk 0 (.lp (.sq (.sq (.rg [.t 11 5, .t 12 0, .o 13 (.ln false (.tmp 12)), .o 14 (.cm .lss (.tmp 11) (.tmp 13))]) (.cd (.tmp 14) (.sk) (.xt 0))) (.sq (.bk 1 (.sq (.dr [.t 17 0, .t 18 5, .o 19 (.ias (.tmp 17) (.tmp 18) 1), .o 20 (.ld (.tmp 19) none), .t 21 1, .t 22 5, .o 23 (.ias (.tmp 21) (.tmp 22) 1), .o 24 (.ld (.tmp 23) none), .o 25 (.se .neq (.tmp 20) (.tmp 24))] [0, 0, 3, 7, 0, 0, 48, 112, 255] (.q 0 (.q 1 (.q 2 (.q 3 (.q 4 (.q 5 (.q 6 (.q 7 (.q 8 (.fin))))))))))) (.cd (.tmp 25) (.sq (.rg [.c 4 (.bool false)]) (.rt)) (.sk)))) (.rg [.t 15 5, .o 16 (.ar .add .i64 (.tmp 15) (.const (.int .i64 1)) true), .t 5 16])))))) (.sq (.rg [.c 4 (.bool true)]) (.rt))))
theorem k20 : Tryz.f20.body.any (fun c => chkC Tryz.prog c m20 && allD (dlt 26) m20) = true := by kernel_rfl
def m106 : MC := .sq (.rg [.o 3 (.bx 59 (.tmp 1)), .c 4 (.slice none 0 0)]) (.sq (.rg [.c 5 (.int .i64 0)]) (.sq (.bk 0 (.lp (.sq (.sq (.dr [.t 7 5, .t 8 0, .o 9 (.ln false (.tmp 8)), .o 10 (.cm .lss (.tmp 7) (.tmp 9)), .t 11 10, .q 12 11 true (.mv (.tmp 0)), .q 13 11 true (.mv (.tmp 5)), .q 14 11 true (.ias (.tmp 12) (.tmp 13) 33), .q 15 11 true (.fa (.tmp 14) 0), .q 16 11 true (.ld (.tmp 15) none), .q 17 11 true (.fa (.tmp 3) 0), .q 18 11 true (.ld (.tmp 17) none), .q 19 11 true (.sc .leq (.tmp 16) (.tmp 18)), .o 20 (.pk (.tmp 11) (.tmp 19) (.const (.bool false)))] [0, 0, 2, 7, 15, 31, 31, 127, 255, 511, 31, 1055, 4095, 8191] (.q 0 (.q 1 (.q 2 (.q 3 (.q 4 (.q 5 (.q 6 (.q 7 (.q 8 (.q 9 (.q 10 (.q 11 (.q 12 (.q 13 (.fin)))))))))))))))) (.cd (.tmp 20) (.sk) (.xt 0))) (.bk 1 (.rg [.t 21 5, .o 22 (.ar .add .i64 (.tmp 21) (.const (.int .i64 1)) true), .t 5 22]))))) (.sq (.rg [.c 6 (.slice none 0 0)]) (.sq (.dr [.t 23 6, .t 24 0, .t 25 5, .o 26 (.sl (.tmp 24) none (some (.tmp 25)) none 33), .o 27 (.ap 59 33 48 [(1, .string ⟨#[]⟩), (32, .int .u8 0)] (.tmp 23) (.tmp 26)), .o 28 (.ld (.tmp 3) (some 33)), .o 29 (.bl 59 33 [.tmp 28]), .o 30 (.ap 59 33 48 [(1, .string ⟨#[]⟩), (32, .int .u8 0)] (.tmp 27) (.tmp 29)), .t 6 30] [0, 0, 0, 6, 15, 0, 32, 127, 255] (.q 0 (.q 1 (.q 2 (.q 3 (.q 5 (.alt [.e 4 [5] (.e 6 [] (.e 7 [] (.e 8 [] (.fin)))), .e 6 [] (.e 4 [] (.e 7 [] (.e 8 [] (.fin))))]))))))) (.sq (.rg [.t 31 6, .t 32 0, .t 33 5, .o 34 (.sl (.tmp 32) (some (.tmp 33)) none none 33), .o 35 (.ap 59 33 48 [(1, .string ⟨#[]⟩), (32, .int .u8 0)] (.tmp 31) (.tmp 34)), .t 4 35]) (.rt))))))
theorem k106 : Tryz.f106.body.any (fun c => chkC Tryz.prog c m106 && allD (dlt 36) m106) = true := by kernel_rfl
def m69 : MC := .sq (.rg [.c 4 (.slice none 0 0), .c 5 (.int .i64 0)]) (.sq (.sq (.rg [.t 9 0, .o 10 (.cl 99 [.tmp 9]), .o 11 (.cm .neq (.tmp 10) (.const (.int .i64 0)))]) (.cd (.tmp 11) (.sq (.rg [.c 4 (.slice none 0 0), .c 5 (.int .i64 40)]) (.rt)) (.sk))) (.sq (.rg [.t 12 1, .o 13 (.cl 68 [.tmp 12]), .t 6 13]) (.sq (.sq (.rg [.t 14 6, .o 15 (.ln false (.tmp 14)), .o 16 (.cm .eql (.tmp 15) (.const (.int .i64 1)))]) (.cd (.tmp 16) (.sq (.rg [.t 17 0, .t 18 6, .o 19 (.ias (.tmp 18) (.const (.int .i64 0)) 32), .o 20 (.ld (.tmp 19) (some 32)), .o 21 (.bd [(1, .string ⟨#[]⟩), (32, .int .u8 0)] [(0, 1, .tmp 17), (1, 32, .tmp 20)]), .o 22 (.bl 59 33 [.tmp 21]), .t 4 22, .c 5 (.int .i64 0)]) (.rt)) (.sk))) (.sq (.rg [.c 7 (.slice none 0 0)]) (.sq (.sq (.rg [.c 8 (.int .i64 0)]) (.bk 0 (.lp (.sq (.sq (.rg [.t 23 8, .t 24 6, .o 25 (.ln false (.tmp 24)), .o 26 (.cm .lss (.tmp 23) (.tmp 25))]) (.cd (.tmp 26) (.sk) (.xt 0))) (.sq (.bk 1 (.dr [.t 29 7, .t 30 0, .o 31 (.sa (.tmp 30) (.const (.string ⟨#[126]⟩))), .t 32 6, .t 33 8, .o 34 (.ias (.tmp 32) (.tmp 33) 32), .o 35 (.ld (.tmp 34) (some 32)), .o 36 (.cl 107 [.tmp 35]), .o 37 (.sa (.tmp 31) (.tmp 36)), .t 38 6, .t 39 8, .o 40 (.ias (.tmp 38) (.tmp 39) 32), .o 41 (.ld (.tmp 40) (some 32)), .o 42 (.bd [(1, .string ⟨#[]⟩), (32, .int .u8 0)] [(0, 1, .tmp 37), (1, 32, .tmp 41)]), .o 43 (.cl 106 [.tmp 29, .tmp 42]), .t 7 43] [0, 0, 2, 0, 0, 24, 56, 120, 254, 0, 0, 1536, 3584, 8190, 16383, 32767] (.q 0 (.q 1 (.q 2 (.q 3 (.q 4 (.q 5 (.q 6 (.q 9 (.q 10 (.q 11 (.q 12 (.e 7 [12] (.q 8 (.q 13 (.e 14 [] (.e 15 [] (.fin))))))))))))))))))) (.rg [.t 27 8, .o 28 (.ar .add .i64 (.tmp 27) (.const (.int .i64 1)) true), .t 8 28])))))) (.sq (.rg [.t 44 7, .t 4 44, .c 5 (.int .i64 0)]) (.rt)))))))
theorem k69 : Tryz.f69.body.any (fun c => chkC Tryz.prog c m69 && allD (dlt 45) m69) = true := by kernel_rfl
def m65 : MC := .sq (.rg [.c 4 (.slice none 0 0)]) (.sq (.rg [.t 5 0, .t 6 1, .o 7 (.cl 101 [.tmp 5, .tmp 6]), .o 8 (.cl 68 [.tmp 7]), .t 4 8]) (.rt))
theorem k65 : Tryz.f65.body.any (fun c => chkC Tryz.prog c m65 && allD (dlt 9) m65) = true := by kernel_rfl
def m70 : MC := .sq (.rg [.c 2 (.slice none 0 0), .c 3 (.int .i64 0)]) (.sq (.rg [.c 4 (.slice none 0 0)]) (.sq (.sq (.rg [.c 5 (.int .i64 0)]) (.bk 0 (.lp (.sq (.sq (.rg [.t 7 5, .t 8 0, .o 9 (.ln false (.tmp 8)), .o 10 (.cm .lss (.tmp 7) (.tmp 9))]) (.cd (.tmp 10) (.sk) (.xt 0))) (.sq (.bk 1 (.sq (.sq (.rg [.t 13 0, .t 14 5, .o 15 (.ias (.tmp 13) (.tmp 14) 1), .o 16 (.ld (.tmp 15) none), .o 17 (.cl 108 [.tmp 16]), .o 18 (.cm .neq (.tmp 17) (.const (.int .i64 0)))]) (.cd (.tmp 18) (.sq (.rg [.c 2 (.slice none 0 0), .c 3 (.int .i64 200)]) (.rt)) (.sk))) (.sq (.rg [.c 6 (.int .i64 0)]) (.bk 2 (.lp (.sq (.sq (.rg [.t 19 6, .t 20 0, .t 21 5, .o 22 (.ias (.tmp 20) (.tmp 21) 1), .o 23 (.ld (.tmp 22) none), .o 24 (.ln false (.tmp 23)), .o 25 (.cm .lss (.tmp 19) (.tmp 24))]) (.cd (.tmp 25) (.sk) (.xt 2))) (.sq (.bk 3 (.rg [.t 28 4, .t 29 0, .t 30 5, .o 31 (.ias (.tmp 29) (.tmp 30) 1), .o 32 (.ld (.tmp 31) none), .t 33 6, .o 34 (.ias (.tmp 32) (.tmp 33) 33), .o 35 (.ld (.tmp 34) (some 33)), .o 36 (.cl 106 [.tmp 28, .tmp 35]), .t 4 36])) (.rg [.t 26 6, .o 27 (.ar .add .i64 (.tmp 26) (.const (.int .i64 1)) true), .t 6 27])))))))) (.rg [.t 11 5, .o 12 (.ar .add .i64 (.tmp 11) (.const (.int .i64 1)) true), .t 5 12])))))) (.sq (.sq (.rg [.t 37 4, .o 38 (.cl 108 [.tmp 37]), .o 39 (.cm .neq (.tmp 38) (.const (.int .i64 0)))]) (.cd (.tmp 39) (.sq (.rg [.c 2 (.slice none 0 0), .c 3 (.int .i64 200)]) (.rt)) (.sk))) (.sq (.rg [.t 40 4, .t 2 40, .c 3 (.int .i64 0)]) (.rt)))))
theorem k70 : Tryz.f70.body.any (fun c => chkC Tryz.prog c m70 && allD (dlt 41) m70) = true := by kernel_rfl
def m108 : MC := .sq (.rg [.c 2 (.int .i64 0)]) (.sq (.sq (.rg [.c 3 (.int .i64 0)]) (.bk 0 (.lp (.sq (.sq (.rg [.t 11 3, .t 12 0, .o 13 (.ln false (.tmp 12)), .o 14 (.cm .lss (.tmp 11) (.tmp 13))]) (.cd (.tmp 14) (.sk) (.xt 0))) (.sq (.bk 1 (.sq (.rg [.t 18 0, .t 19 3, .o 20 (.ias (.tmp 18) (.tmp 19) 33), .o 21 (.ld (.tmp 20) (some 33)), .o 22 (.cl 143 [.tmp 21]), .t 17 22, .o 23 (.ex (.tmp 17) 0), .o 24 (.ex (.tmp 17) 1), .o 25 (.ex (.tmp 17) 2), .t 4 23, .t 5 24, .t 6 25]) (.sq (.sq (.dr [.t 26 6, .o 27 (.cm .neq (.tmp 26) (.const (.int .i64 0))), .t 28 27, .q 29 28 false (.mv (.tmp 3)), .q 30 28 false (.cm .gtr (.tmp 29) (.const (.int .i64 0))), .q 31 28 false (.mv (.tmp 30)), .q 32 31 true (.mv (.tmp 0)), .q 33 31 true (.mv (.tmp 3)), .q 34 31 true (.ar .sub .i64 (.tmp 33) (.const (.int .i64 1)) true), .q 35 31 true (.ias (.tmp 32) (.tmp 34) 33), .q 36 31 true (.fa (.tmp 35) 0), .q 37 31 true (.ld (.tmp 36) none), .q 38 31 true (.mv (.tmp 0)), .q 39 31 true (.mv (.tmp 3)), .q 40 31 true (.ias (.tmp 38) (.tmp 39) 33), .q 41 31 true (.fa (.tmp 40) 0), .q 42 31 true (.ld (.tmp 41) none), .q 43 31 true (.sc .geq (.tmp 37) (.tmp 42)), .q 44 28 false (.pk (.tmp 31) (.tmp 43) (.const (.bool false))), .o 45 (.pk (.tmp 28) (.const (.bool true)) (.tmp 44))] [0, 1, 3, 7, 15, 31, 63, 63, 191, 511, 1023, 2047, 63, 63, 12351, 28735, 61503, 131071, 262143, 524287] (.q 0 (.q 1 (.q 2 (.q 3 (.q 4 (.q 5 (.q 6 (.q 7 (.q 8 (.q 9 (.q 10 (.q 11 (.q 12 (.q 13 (.q 14 (.q 15 (.q 16 (.q 17 (.q 18 (.q 19 (.fin)))))))))))))))))))))) (.cd (.tmp 45) (.sq (.rg [.c 2 (.int .i64 200)]) (.rt)) (.sk))) (.sq (.rg [.c 7 (.int .i64 0)]) (.bk 2 (.lp (.sq (.sq (.rg [.t 46 7, .t 47 3, .o 48 (.cm .lss (.tmp 46) (.tmp 47))]) (.cd (.tmp 48) (.sk) (.xt 2))) (.sq (.bk 3 (.sq (.rg [.t 52 0, .t 53 7, .o 54 (.ias (.tmp 52) (.tmp 53) 33), .o 55 (.ld (.tmp 54) (some 33)), .o 56 (.cl 143 [.tmp 55]), .t 51 56, .o 57 (.ex (.tmp 51) 0), .o 58 (.ex (.tmp 51) 1), .o 59 (.ex (.tmp 51) 2), .t 8 57, .t 9 58, .t 10 59]) (.sq (.rg [.t 60 8, .t 61 4, .o 62 (.se .eql (.tmp 60) (.tmp 61)), .t 63 62, .q 64 63 true (.mv (.tmp 5)), .q 65 63 true (.mv (.tmp 9)), .q 66 63 true (.be .neq (.tmp 64) (.tmp 65)), .o 67 (.pk (.tmp 63) (.tmp 66) (.const (.bool false)))]) (.cd (.tmp 67) (.sq (.rg [.c 2 (.int .i64 200)]) (.rt)) (.sk))))) (.rg [.t 49 7, .o 50 (.ar .add .i64 (.tmp 49) (.const (.int .i64 1)) true), .t 7 50]))))))))) (.rg [.t 15 3, .o 16 (.ar .add .i64 (.tmp 15) (.const (.int .i64 1)) true), .t 3 16])))))) (.sq (.rg [.c 2 (.int .i64 0)]) (.rt)))
theorem k108 : Tryz.f108.body.any (fun c => chkC Tryz.prog c m108 && allD (dlt 68) m108) = true := by kernel_rfl
def m143 : MC := .sq (.rg [.o 1 (.bx 59 (.tmp 0)), .c 2 (.string ⟨#[]⟩), .c 3 (.bool false), .c 4 (.int .i64 0)]) (.sq (.rg [.o 10 (.fa (.tmp 1) 0), .o 11 (.ld (.tmp 10) none), .o 12 (.cl 193 [.tmp 11]), .t 9 12, .o 13 (.ex (.tmp 9) 0), .o 14 (.ex (.tmp 9) 1), .o 15 (.ex (.tmp 9) 2), .o 16 (.ex (.tmp 9) 3), .o 6 (.al [(32, .int .u8 0)] 38), .t 5 13, .e (.st (.tmp 6) (.tmp 14) 32), .t 7 15, .t 8 16]) (.sq (.sq (.rg [.t 17 8, .o 18 (.cm .neq (.tmp 17) (.const (.int .i64 0))), .t 19 18, .q 20 19 false (.mv (.tmp 7)), .q 21 19 false (.mv (.tmp 20)), .q 22 21 true (.ld (.tmp 6) (some 32)), .q 23 21 true (.fa (.tmp 1) 1), .q 24 21 true (.ld (.tmp 23) (some 32)), .q 25 21 true (.aq .neq 32 (.tmp 22) (.tmp 24)), .q 26 19 false (.pk (.tmp 21) (.tmp 25) (.const (.bool false))), .o 27 (.pk (.tmp 19) (.const (.bool true)) (.tmp 26))]) (.cd (.tmp 27) (.sq (.rg [.c 2 (.string ⟨#[]⟩), .c 3 (.bool false), .c 4 (.int .i64 200)]) (.rt)) (.sk))) (.sq (.rg [.t 28 5, .t 29 7, .t 2 28, .t 3 29, .c 4 (.int .i64 0)]) (.rt))))
theorem k143 : Tryz.f143.body.any (fun c => chkC Tryz.prog c m143 && allD (dlt 30) m143) = true := by kernel_rfl
def m14 : MC := .sq (.rg [.c 4 (.bool false)]) (.sq (.sq (.rg [.t 6 0, .o 7 (.ln false (.tmp 6)), .t 8 1, .o 9 (.ln false (.tmp 8)), .o 10 (.cm .neq (.tmp 7) (.tmp 9))]) (.cd (.tmp 10) (.sq (.rg [.c 4 (.bool false)]) (.rt)) (.sk))) (.sq (.sq (.rg [.c 5 (.int .i64 0)]) (.bk 0 (.lp (.sq (.sq (.rg [.t 11 5, .t 12 0, .o 13 (.ln false (.tmp 12)), .o 14 (.cm .lss (.tmp 11) (.tmp 13))]) (.cd (.tmp 14) (.sk) (.xt 0))) (.sq (.bk 1 (.sq (.dr [.t 17 0, .t 18 5, .o 19 (.ias (.tmp 17) (.tmp 18) 32), .o 20 (.ld (.tmp 19) (some 32)), .t 21 1, .t 22 5, .o 23 (.ias (.tmp 21) (.tmp 22) 32), .o 24 (.ld (.tmp 23) (some 32)), .o 25 (.aq .neq 32 (.tmp 20) (.tmp 24))] [0, 0, 3, 7, 0, 0, 48, 112, 255] (.q 0 (.q 1 (.q 2 (.q 3 (.q 4 (.q 5 (.q 6 (.q 7 (.q 8 (.fin))))))))))) (.cd (.tmp 25) (.sq (.rg [.c 4 (.bool false)]) (.rt)) (.sk)))) (.rg [.t 15 5, .o 16 (.ar .add .i64 (.tmp 15) (.const (.int .i64 1)) true), .t 5 16])))))) (.sq (.rg [.c 4 (.bool true)]) (.rt))))
theorem k14 : Tryz.f14.body.any (fun c => chkC Tryz.prog c m14 && allD (dlt 26) m14) = true := by kernel_rfl
def m68 : MC := .sq (.rg [.c 2 (.slice none 0 0)]) (.sq (.rg [.c 3 (.slice none 0 0)]) (.sq (.sq (.rg [.c 4 (.int .i64 0)]) (.bk 0 (.lp (.sq (.sq (.rg [.t 8 4, .t 9 0, .o 10 (.ln false (.tmp 9)), .o 11 (.cm .lss (.tmp 8) (.tmp 10))]) (.cd (.tmp 11) (.sk) (.xt 0))) (.sq (.bk 1 (.sq (.rg [.t 14 3, .t 15 0, .t 16 4, .o 17 (.ias (.tmp 15) (.tmp 16) 32), .o 18 (.ld (.tmp 17) (some 32)), .o 19 (.cl 104 [.tmp 14, .tmp 18]), .t 5 19]) (.sq (.sq (.rg [.t 20 5]) (.cd (.tmp 20) (.xt 1) (.sk))) (.sq (.rg [.c 6 (.int .i64 0)]) (.sq (.bk 2 (.lp (.sq (.sq (.dr [.t 21 6, .t 22 3, .o 23 (.ln false (.tmp 22)), .o 24 (.cm .lss (.tmp 21) (.tmp 23)), .t 25 24, .q 26 25 true (.mv (.tmp 3)), .q 27 25 true (.mv (.tmp 6)), .q 28 25 true (.ias (.tmp 26) (.tmp 27) 32), .q 29 25 true (.ld (.tmp 28) (some 32)), .q 30 25 true (.mv (.tmp 0)), .q 31 25 true (.mv (.tmp 4)), .q 32 25 true (.ias (.tmp 30) (.tmp 31) 32), .q 33 25 true (.ld (.tmp 32) (some 32)), .q 34 25 true (.cl 105 [.tmp 29, .tmp 33]), .q 35 25 true (.cm .lss (.tmp 34) (.const (.int .i64 0))), .o 36 (.pk (.tmp 25) (.tmp 35) (.const (.bool false)))] [0, 0, 2, 7, 15, 31, 31, 127, 255, 31, 31, 1567, 3615, 8191, 16383, 32767] (.q 0 (.q 1 (.q 2 (.q 3 (.q 4 (.q 5 (.q 6 (.q 7 (.q 8 (.q 9 (.q 10 (.q 11 (.q 12 (.e 13 [] (.q 14 (.q 15 (.fin)))))))))))))))))) (.cd (.tmp 36) (.sk) (.xt 2))) (.bk 3 (.rg [.t 37 6, .o 38 (.ar .add .i64 (.tmp 37) (.const (.int .i64 1)) true), .t 6 38]))))) (.sq (.rg [.c 7 (.slice none 0 0)]) (.sq (.dr [.t 39 7, .t 40 3, .t 41 6, .o 42 (.sl (.tmp 40) none (some (.tmp 41)) none 32), .o 43 (.ap 38 32 32 [(32, .int .u8 0)] (.tmp 39) (.tmp 42)), .t 44 0, .t 45 4, .o 46 (.ias (.tmp 44) (.tmp 45) 32), .o 47 (.ld (.tmp 46) (some 32)), .o 48 (.bl 38 32 [.tmp 47]), .o 49 (.ap 38 32 32 [(32, .int .u8 0)] (.tmp 43) (.tmp 48)), .t 7 49] [0, 0, 0, 6, 15, 0, 0, 96, 224, 480, 1023, 2047] (.q 0 (.q 1 (.q 2 (.q 3 (.q 5 (.q 6 (.q 7 (.q 8 (.alt [.e 4 [8] (.e 9 [] (.e 10 [] (.e 11 [] (.fin)))), .e 9 [] (.e 4 [] (.e 10 [] (.e 11 [] (.fin))))])))))))))) (.rg [.t 50 7, .t 51 3, .t 52 6, .o 53 (.sl (.tmp 51) (some (.tmp 52)) none none 32), .o 54 (.ap 38 32 32 [(32, .int .u8 0)] (.tmp 50) (.tmp 53)), .t 3 54])))))))) (.rg [.t 12 4, .o 13 (.ar .add .i64 (.tmp 12) (.const (.int .i64 1)) true), .t 4 13])))))) (.sq (.rg [.t 55 3, .t 2 55]) (.rt))))
theorem k68 : Tryz.f68.body.any (fun c => chkC Tryz.prog c m68 && allD (dlt 56) m68) = true := by kernel_rfl
def m107 : MC := .sq (.rg [.o 1 (.bx 38 (.tmp 0)), .c 2 (.string ⟨#[]⟩)]) (.sq (.rg [.c 3 (.string ⟨#[]⟩)]) (.sq (.sq (.rg [.c 4 (.int .i64 0)]) (.bk 0 (.lp (.sq (.sq (.rg [.t 5 4, .o 6 (.cm .lss (.tmp 5) (.const (.int .i64 32)))]) (.cd (.tmp 6) (.sk) (.xt 0))) (.sq (.bk 1 (.dr [.t 9 3, .t 10 4, .o 11 (.iaa (.tmp 1) (.tmp 10) 32 1), .o 12 (.ld (.tmp 11) none), .o 13 (.dv .quo .u8 (.tmp 12) (.const (.int .u8 16))), .t 14 4, .o 15 (.iaa (.tmp 1) (.tmp 14) 32 1), .o 16 (.ld (.tmp 15) none), .o 17 (.dv .quo .u8 (.tmp 16) (.const (.int .u8 16))), .o 18 (.ar .add .u8 (.tmp 17) (.const (.int .u8 1)) false), .o 19 (.ss (.const (.string ⟨#[48, 49, 50, 51, 52, 53, 54, 55, 56, 57, 97, 98, 99, 100, 101, 102]⟩)) (some (.tmp 13)) (some (.tmp 18))), .o 20 (.sa (.tmp 9) (.tmp 19)), .t 21 4, .o 22 (.iaa (.tmp 1) (.tmp 21) 32 1), .o 23 (.ld (.tmp 22) none), .o 24 (.dv .rem .u8 (.tmp 23) (.const (.int .u8 16))), .t 25 4, .o 26 (.iaa (.tmp 1) (.tmp 25) 32 1), .o 27 (.ld (.tmp 26) none), .o 28 (.dv .rem .u8 (.tmp 27) (.const (.int .u8 16))), .o 29 (.ar .add .u8 (.tmp 28) (.const (.int .u8 1)) false), .o 30 (.ss (.const (.string ⟨#[48, 49, 50, 51, 52, 53, 54, 55, 56, 57, 97, 98, 99, 100, 101, 102]⟩)) (some (.tmp 24)) (some (.tmp 29))), .o 31 (.sa (.tmp 20) (.tmp 30)), .t 3 31] [0, 0, 2, 6, 14, 0, 32, 96, 224, 480, 1022, 2047, 0, 4096, 12288, 28672, 0, 65536, 196608, 458752, 983040, 2093056, 4194303, 8388607] (.q 0 (.q 1 (.q 2 (.q 3 (.q 4 (.q 5 (.q 6 (.q 7 (.q 8 (.q 9 (.q 10 (.q 11 (.q 12 (.q 13 (.q 14 (.q 15 (.q 16 (.q 17 (.q 18 (.q 19 (.q 20 (.q 21 (.q 22 (.e 23 [] (.fin))))))))))))))))))))))))))) (.rg [.t 7 4, .o 8 (.ar .add .i64 (.tmp 7) (.const (.int .i64 1)) true), .t 4 8])))))) (.sq (.rg [.t 32 3, .t 2 32]) (.rt))))
theorem k107 : Tryz.f107.body.any (fun c => chkC Tryz.prog c m107 && allD (dlt 33) m107) = true := by kernel_rfl
def m104 : MC := .sq (.rg [.o 3 (.bx 38 (.tmp 1)), .c 4 (.bool false)]) (.sq (.sq (.rg [.c 5 (.int .i64 0)]) (.bk 0 (.lp (.sq (.sq (.rg [.t 6 5, .t 7 0, .o 8 (.ln false (.tmp 7)), .o 9 (.cm .lss (.tmp 6) (.tmp 8))]) (.cd (.tmp 9) (.sk) (.xt 0))) (.sq (.bk 1 (.sq (.dr [.t 12 0, .t 13 5, .o 14 (.ias (.tmp 12) (.tmp 13) 32), .o 15 (.ld (.tmp 14) (some 32)), .o 16 (.ld (.tmp 3) (some 32)), .o 17 (.aq .eql 32 (.tmp 15) (.tmp 16))] [0, 0, 3, 7, 0, 31] (.q 0 (.q 1 (.q 2 (.q 3 (.q 4 (.q 5 (.fin)))))))) (.cd (.tmp 17) (.sq (.rg [.c 4 (.bool true)]) (.rt)) (.sk)))) (.rg [.t 10 5, .o 11 (.ar .add .i64 (.tmp 10) (.const (.int .i64 1)) true), .t 5 11])))))) (.sq (.rg [.c 4 (.bool false)]) (.rt)))
theorem k104 : Tryz.f104.body.any (fun c => chkC Tryz.prog c m104 && allD (dlt 18) m104) = true := by kernel_rfl
def m105 : MC := .sq (.rg [.o 2 (.bx 38 (.tmp 0)), .o 3 (.bx 38 (.tmp 1)), .c 4 (.int .i64 0)]) (.sq (.sq (.rg [.c 5 (.int .i64 0)]) (.bk 0 (.lp (.sq (.sq (.rg [.t 6 5, .o 7 (.cm .lss (.tmp 6) (.const (.int .i64 32)))]) (.cd (.tmp 7) (.sk) (.xt 0))) (.sq (.bk 1 (.sq (.sq (.dr [.t 10 5, .o 11 (.iaa (.tmp 2) (.tmp 10) 32 1), .o 12 (.ld (.tmp 11) none), .t 13 5, .o 14 (.iaa (.tmp 3) (.tmp 13) 32 1), .o 15 (.ld (.tmp 14) none), .o 16 (.cm .lss (.tmp 12) (.tmp 15))] [0, 1, 3, 0, 8, 24, 63] (.q 0 (.q 1 (.q 2 (.q 3 (.q 4 (.q 5 (.q 6 (.fin))))))))) (.cd (.tmp 16) (.sq (.rg [.c 4 (.int .i64 (-1))]) (.rt)) (.sk))) (.sq (.dr [.t 17 5, .o 18 (.iaa (.tmp 2) (.tmp 17) 32 1), .o 19 (.ld (.tmp 18) none), .t 20 5, .o 21 (.iaa (.tmp 3) (.tmp 20) 32 1), .o 22 (.ld (.tmp 21) none), .o 23 (.cm .gtr (.tmp 19) (.tmp 22))] [0, 1, 3, 0, 8, 24, 63] (.q 0 (.q 1 (.q 2 (.q 3 (.q 4 (.q 5 (.q 6 (.fin))))))))) (.cd (.tmp 23) (.sq (.rg [.c 4 (.int .i64 1)]) (.rt)) (.sk))))) (.rg [.t 8 5, .o 9 (.ar .add .i64 (.tmp 8) (.const (.int .i64 1)) true), .t 5 9])))))) (.sq (.rg [.c 4 (.int .i64 0)]) (.rt)))
theorem k105 : Tryz.f105.body.any (fun c => chkC Tryz.prog c m105 && allD (dlt 24) m105) = true := by kernel_rfl
def m226 : MC := .sq (.rg [.o 2 (.al [(32, .int .u8 0)] 38), .c 3 (.int .i64 0)]) (.sq (.rg [.o 8 (.bd [(32, .int .u8 0)] []), .o 4 (.al [(32, .int .u8 0)] 38), .e (.st (.tmp 4) (.tmp 8) 32)]) (.sq (.sq (.rg [.t 9 0, .o 10 (.ln true (.tmp 9)), .o 11 (.cm .neq (.tmp 10) (.const (.int .i64 64)))]) (.cd (.tmp 11) (.sq (.rg [.o 12 (.ld (.tmp 4) (some 32)), .e (.st (.tmp 2) (.tmp 12) 32), .c 3 (.int .i64 30)]) (.rt)) (.sk))) (.sq (.sq (.rg [.c 5 (.int .i64 0)]) (.bk 0 (.lp (.sq (.sq (.rg [.t 13 5, .o 14 (.cm .lss (.tmp 13) (.const (.int .i64 32)))]) (.cd (.tmp 14) (.sk) (.xt 0))) (.sq (.bk 1 (.sq (.rg [.t 17 0, .t 18 5, .o 19 (.ar .mul .i64 (.const (.int .i64 2)) (.tmp 18) true), .o 20 (.ixs (.tmp 17) (.tmp 19)), .o 21 (.cl 253 [.tmp 20]), .t 6 21]) (.sq (.rg [.t 22 0, .t 23 5, .o 24 (.ar .mul .i64 (.const (.int .i64 2)) (.tmp 23) true), .o 25 (.ar .add .i64 (.tmp 24) (.const (.int .i64 1)) true), .o 26 (.ixs (.tmp 22) (.tmp 25)), .o 27 (.cl 253 [.tmp 26]), .t 7 27]) (.sq (.sq (.rg [.t 28 6, .o 29 (.cm .lss (.tmp 28) (.const (.int .i64 0))), .t 30 29, .q 31 30 false (.mv (.tmp 7)), .q 32 30 false (.cm .lss (.tmp 31) (.const (.int .i64 0))), .o 33 (.pk (.tmp 30) (.const (.bool true)) (.tmp 32))]) (.cd (.tmp 33) (.sq (.rg [.o 34 (.bd [(32, .int .u8 0)] []), .e (.st (.tmp 2) (.tmp 34) 32), .c 3 (.int .i64 30)]) (.rt)) (.sk))) (.rg [.t 35 5, .t 36 6, .o 37 (.ar .mul .i64 (.const (.int .i64 16)) (.tmp 36) true), .t 38 7, .o 39 (.ar .add .i64 (.tmp 37) (.tmp 38) true), .o 40 (.ci .u8 (.tmp 39)), .o 41 (.iaa (.tmp 4) (.tmp 35) 32 1), .e (.st (.tmp 41) (.tmp 40) 1)]))))) (.rg [.t 15 5, .o 16 (.ar .add .i64 (.tmp 15) (.const (.int .i64 1)) true), .t 5 16])))))) (.sq (.rg [.o 42 (.ld (.tmp 4) (some 32)), .e (.st (.tmp 2) (.tmp 42) 32), .c 3 (.int .i64 0)]) (.rt)))))
theorem k226 : Tryz.f226.body.any (fun c => chkC Tryz.prog c m226 && allD (dlt 43) m226) = true := by kernel_rfl
def m253 : MC := .sq (.rg [.c 2 (.int .i64 0)]) (.sq (.sq (.rg [.t 3 0, .o 4 (.cm .geq (.tmp 3) (.const (.int .u8 48))), .t 5 4, .q 6 5 true (.mv (.tmp 0)), .q 7 5 true (.cm .leq (.tmp 6) (.const (.int .u8 57))), .o 8 (.pk (.tmp 5) (.tmp 7) (.const (.bool false)))]) (.cd (.tmp 8) (.sq (.rg [.t 9 0, .o 10 (.ar .sub .u8 (.tmp 9) (.const (.int .u8 48)) false), .o 11 (.ci .i64 (.tmp 10)), .t 2 11]) (.rt)) (.sk))) (.sq (.sq (.rg [.t 12 0, .o 13 (.cm .geq (.tmp 12) (.const (.int .u8 97))), .t 14 13, .q 15 14 true (.mv (.tmp 0)), .q 16 14 true (.cm .leq (.tmp 15) (.const (.int .u8 102))), .o 17 (.pk (.tmp 14) (.tmp 16) (.const (.bool false)))]) (.cd (.tmp 17) (.sq (.rg [.t 18 0, .o 19 (.ar .sub .u8 (.tmp 18) (.const (.int .u8 97)) false), .o 20 (.ci .i64 (.tmp 19)), .o 21 (.ar .add .i64 (.tmp 20) (.const (.int .i64 10)) true), .t 2 21]) (.rt)) (.sk))) (.sq (.rg [.c 2 (.int .i64 (-1))]) (.rt))))
theorem k253 : Tryz.f253.body.any (fun c => chkC Tryz.prog c m253 && allD (dlt 22) m253) = true := by kernel_rfl
def m193 : MC := .sq (.rg [.c 2 (.string ⟨#[]⟩), .o 3 (.al [(32, .int .u8 0)] 38), .c 4 (.bool false), .c 5 (.int .i64 0)]) (.sq (.rg [.c 6 (.int .i64 (-1))]) (.sq (.sq (.rg [.t 10 0, .o 11 (.ln true (.tmp 10)), .o 12 (.ar .sub .i64 (.tmp 11) (.const (.int .i64 1)) true), .t 7 12]) (.bk 0 (.lp (.sq (.sq (.rg [.t 13 7, .o 14 (.cm .geq (.tmp 13) (.const (.int .i64 0)))]) (.cd (.tmp 14) (.sk) (.xt 0))) (.sq (.bk 1 (.sq (.rg [.t 17 0, .t 18 7, .o 19 (.ixs (.tmp 17) (.tmp 18)), .o 20 (.cm .eql (.tmp 19) (.const (.int .u8 126)))]) (.cd (.tmp 20) (.rg [.t 21 7, .t 6 21]) (.sk)))) (.rg [.t 15 7, .o 16 (.ar .sub .i64 (.tmp 15) (.const (.int .i64 1)) true), .t 7 16])))))) (.sq (.sq (.rg [.t 22 6, .o 23 (.cm .lss (.tmp 22) (.const (.int .i64 0)))]) (.cd (.tmp 23) (.sq (.sq (.rg [.t 24 0, .o 25 (.cl 99 [.tmp 24]), .o 26 (.cm .neq (.tmp 25) (.const (.int .i64 0)))]) (.cd (.tmp 26) (.sq (.rg [.o 27 (.bd [(32, .int .u8 0)] []), .c 2 (.string ⟨#[]⟩), .e (.st (.tmp 3) (.tmp 27) 32), .c 4 (.bool false), .c 5 (.int .i64 40)]) (.rt)) (.sk))) (.sq (.rg [.t 28 0, .o 29 (.bd [(32, .int .u8 0)] []), .t 2 28, .e (.st (.tmp 3) (.tmp 29) 32), .c 4 (.bool false), .c 5 (.int .i64 0)]) (.rt))) (.sk))) (.sq (.rg [.t 31 0, .t 32 6, .o 33 (.ar .add .i64 (.tmp 32) (.const (.int .i64 1)) true), .o 34 (.ss (.tmp 31) (some (.tmp 33)) none), .o 35 (.cl 226 [.tmp 34]), .t 30 35, .o 36 (.ex (.tmp 30) 0), .o 37 (.ex (.tmp 30) 1), .o 8 (.al [(32, .int .u8 0)] 38), .e (.st (.tmp 8) (.tmp 36) 32), .t 9 37]) (.sq (.sq (.rg [.t 38 9, .o 39 (.cm .neq (.tmp 38) (.const (.int .i64 0))), .t 40 39, .q 41 40 false (.mv (.tmp 0)), .q 42 40 false (.mv (.tmp 6)), .q 43 40 false (.ss (.tmp 41) none (some (.tmp 42))), .q 44 40 false (.cl 99 [.tmp 43]), .q 45 40 false (.cm .neq (.tmp 44) (.const (.int .i64 0))), .o 46 (.pk (.tmp 40) (.const (.bool true)) (.tmp 45))]) (.cd (.tmp 46) (.sq (.rg [.o 47 (.bd [(32, .int .u8 0)] []), .c 2 (.string ⟨#[]⟩), .e (.st (.tmp 3) (.tmp 47) 32), .c 4 (.bool false), .c 5 (.int .i64 40)]) (.rt)) (.sk))) (.sq (.dr [.t 48 0, .t 49 6, .o 50 (.ss (.tmp 48) none (some (.tmp 49))), .o 51 (.ld (.tmp 8) (some 32)), .t 2 50, .e (.st (.tmp 3) (.tmp 51) 32), .c 4 (.bool true), .c 5 (.int .i64 0)] [0, 0, 3, 0, 7, 31, 63, 127] (.q 0 (.q 1 (.q 2 (.q 3 (.q 4 (.e 5 [] (.q 6 (.q 7 (.fin)))))))))) (.rt)))))))
theorem k193 : Tryz.f193.body.any (fun c => chkC Tryz.prog c m193 && allD (dlt 52) m193) = true := by kernel_rfl
theorem dg_lo : ∀ n : Fin 256, 48 ≤ n.val → n.val ≤ 57 → isD (UInt8.ofNat n.val) = true ∧ IntKind.i64.wrap (IntKind.u8.wrap (arv .sub (n.val : Int) 48)) = (dgv (UInt8.ofNat n.val) : Int) := by decide +kernel
theorem dg_hi : ∀ n : Fin 256, 97 ≤ n.val → n.val ≤ 102 → isD (UInt8.ofNat n.val) = true ∧ arv .add (IntKind.i64.wrap (IntKind.u8.wrap (arv .sub (n.val : Int) 97))) 10 = (dgv (UInt8.ofNat n.val) : Int) ∧ 0 ≤ IntKind.i64.wrap (IntKind.u8.wrap (arv .sub (n.val : Int) 97)) ∧ IntKind.i64.wrap (IntKind.u8.wrap (arv .sub (n.val : Int) 97)) ≤ 255 := by decide +kernel
theorem dg_no : ∀ n : Fin 256, isD (UInt8.ofNat n.val) = true → (48 ≤ n.val ∧ n.val ≤ 57) ∨ (97 ≤ n.val ∧ n.val ≤ 102) := by decide +kernel
def dgI (c : UInt8) : Int := if isD c = true then (dgv c : Int) else -1
theorem iset_of {l m : List Id} (hm : m.Pairwise (lts fun x : Id => x.1)) (h : ∀ x, x ∈ m ↔ x ∈ l) : iset l = m :=
 lts_unique _ id_inj (kset_sorted _ id_inj l) hm fun x => (mem_kset _ l x).trans (h x).symm
theorem sv_app2 (a b : Bs) : (.string ((⟨a.toArray⟩ : ByteArray) ++ ⟨b.toArray⟩) : Value) = sv (a ++ b) := by
 rw [← sv_of]
 congr 1
theorem by_nib : ∀ n : Fin 256, IntKind.u8.wrap ((n.val : Int).tdiv 16) = ((n.val / 16 : Nat) : Int) ∧ IntKind.u8.wrap (arv .add ((n.val / 16 : Nat) : Int) 1) = ((n.val / 16 + 1 : Nat) : Int) ∧ (n.val : Int).tmod 16 = ((n.val % 16 : Nat) : Int) ∧ IntKind.u8.wrap (arv .add ((n.val % 16 : Nat) : Int) 1) = ((n.val % 16 + 1 : Nat) : Int) := by decide +kernel
theorem by_nib' (c : UInt8) : IntKind.u8.wrap ((c.toNat : Int).tdiv 16) = ((c.toNat / 16 : Nat) : Int) ∧ IntKind.u8.wrap (arv .add ((c.toNat / 16 : Nat) : Int) 1) = ((c.toNat / 16 + 1 : Nat) : Int) ∧ (c.toNat : Int).tmod 16 = ((c.toNat % 16 : Nat) : Int) ∧ IntKind.u8.wrap (arv .add ((c.toNat % 16 : Nat) : Int) 1) = ((c.toNat % 16 + 1 : Nat) : Int) := by_nib ⟨c.toNat, c.toNat_lt⟩
theorem dig_ext {i : Nat} (h : i < 16) : ((dig.drop i).take (i + 1 - i)) = [dig.getD i 0] := by
 have key : ∀ i : Fin 16, ((dig.drop i.val).take (i.val + 1 - i.val)) = [dig.getD i.val 0] := by decide
 exact key ⟨i, h⟩
theorem bys_get {l : Bs} {k : Nat} (h : k < l.length) : (bys l)[0 + k * 1]? = some (.int .u8 (l[k].toNat : Int)) := by
 rw [Nat.zero_add, Nat.mul_one]
 simp [bys, h]
section
variable {w w0 : World} {S0 : Nat → Prop} {L B : List Res} {K : Value → World → Prop} {s : Bs} {E0 E1 : Nat}
theorem r_digit {c : UInt8} (h : K (.int .i64 (dgI c)) w) : CK Tryz.prog 253 [.int .u8 (c.toNat : Int)] w K := by
 have hc := c.toNat_lt
 have e0 : UInt8.ofNat c.toNat = c := by simp
 have h1 := dg_lo ⟨c.toNat, hc⟩
 have h2 := dg_hi ⟨c.toNat, hc⟩
 have h3 := dg_no ⟨c.toNat, hc⟩
 dsimp only at h1 h2 h3
 rw [e0] at h1 h2 h3
 refine call_k Tryz.func253 k253 Tryz.ntmps253 (Nat.le_of_ble_eq_true rfl) ?_
 refine gW ?_
 by_cases a1 : 48 ≤ c.toNat ∧ c.toNat ≤ 57
 ·obtain ⟨g1, g2⟩ := h1 a1.1 a1.2
  (generalize q1 : cmv _ _ _ = q; cases q <;> simp only [cmv, arv, Bool.not_eq_true', Bool.not_eq_false', decide_eq_true_eq, decide_eq_false_iff_not] at q1 <;> first | (exfalso; omega) | skip)
  refine gW ?_
  (generalize q2 : cmv _ _ _ = q; cases q <;> simp only [cmv, arv, Bool.not_eq_true', Bool.not_eq_false', decide_eq_true_eq, decide_eq_false_iff_not] at q2 <;> first | (exfalso; omega) | skip)
  refine gW ?_
  refine g_ret (q_1 rfl ?_)
  rw [g2]
  unfold dgI at h
  rw [if_pos g1] at h
  exact h
 ·have e1 : ∀ (X : Prop), (48 ≤ c.toNat → c.toNat ≤ 57 → X) := fun X a b => absurd ⟨a, b⟩ a1
  by_cases a2 : 97 ≤ c.toNat ∧ c.toNat ≤ 102
  ·obtain ⟨g1, g2, g3, g4⟩ := h2 a2.1 a2.2
   (generalize q1 : cmv _ _ _ = q; cases q <;> simp only [cmv, arv, Bool.not_eq_true', Bool.not_eq_false', decide_eq_true_eq, decide_eq_false_iff_not] at q1 <;> first | (exfalso; omega) | skip)
   refine gW ?_
   (generalize q2 : cmv _ _ _ = q; cases q <;> simp only [cmv, arv, Bool.not_eq_true', Bool.not_eq_false', decide_eq_true_eq, decide_eq_false_iff_not] at q2 <;> first | (exfalso; omega) | skip)
   refine gW ?_
   (generalize q3 : cmv _ _ _ = q; cases q <;> simp only [cmv, arv, Bool.not_eq_true', Bool.not_eq_false', decide_eq_true_eq, decide_eq_false_iff_not] at q3 <;> first | (exfalso; omega) | skip)
   refine gW ?_
   (generalize q4 : cmv _ _ _ = q; cases q <;> simp only [cmv, arv, Bool.not_eq_true', Bool.not_eq_false', decide_eq_true_eq, decide_eq_false_iff_not] at q4 <;> first | (exfalso; omega) | skip)
   refine gW ?_
   refine g_rq rfl rfl (in64 (by rw [g2]; have := dgv_lt g1; omega)) ?_
   refine gW ?_
   refine g_ret (q_1 rfl ?_)
   rw [g2]
   unfold dgI at h
   rw [if_pos g1] at h
   exact h
  ·have g : isD c = false := by
    cases hD : isD c
    ·rfl
    ·rcases h3 hD with h | h
     ·exact absurd h a1
     ·exact absurd h a2
   unfold dgI at h
   rw [if_neg (by rw [g]; decide)] at h
   (generalize q1 : cmv _ _ _ = q; cases q <;> simp only [cmv, arv, Bool.not_eq_true', Bool.not_eq_false', decide_eq_true_eq, decide_eq_false_iff_not] at q1 <;> first | (exfalso; omega) | skip)
   ·refine gW ?_
    (generalize q3 : cmv _ _ _ = q; cases q <;> simp only [cmv, arv, Bool.not_eq_true', Bool.not_eq_false', decide_eq_true_eq, decide_eq_false_iff_not] at q3 <;> first | (exfalso; omega) | skip)
    refine gW ?_
    exact g_ret (q_1 rfl h)
   ·refine gW ?_
    (generalize q2 : cmv _ _ _ = q; cases q <;> simp only [cmv, arv, Bool.not_eq_true', Bool.not_eq_false', decide_eq_true_eq, decide_eq_false_iff_not] at q2 <;> first | (exfalso; omega) | skip)
    refine gW ?_
    (generalize q3 : cmv _ _ _ = q; cases q <;> simp only [cmv, arv, Bool.not_eq_true', Bool.not_eq_false', decide_eq_true_eq, decide_eq_false_iff_not] at q3 <;> first | (exfalso; omega) | skip)
    ·refine gW ?_
     exact g_ret (q_1 rfl h)
    ·refine gW ?_
     (generalize q4 : cmv _ _ _ = q; cases q <;> simp only [cmv, arv, Bool.not_eq_true', Bool.not_eq_false', decide_eq_true_eq, decide_eq_false_iff_not] at q4 <;> first | (exfalso; omega) | skip)
     refine gW ?_
     exact g_ret (q_1 rfl h)
theorem r_Text {id : Bs} (hl : id.length = 32) (h : ∀ w', St w (fun _ => False) w' [] → K (sv (hex id)) w') : CK Tryz.prog 107 [.agg ⟨bys id⟩] w K := by
 have hS := St.nil w (fun _ => False)
 refine call_k Tryz.func107 k107 Tryz.ntmps107 (Nat.le_of_ble_eq_true rfl) ?_
 refine gW ?_
 refine g_ef rfl (ef_bx hS rfl fun b1 w1 hS => ?_)
 replace hS : St w (fun _ => False) w1 [cel b1 (bys id) 38] := hS
 refine gW ?_
 refine g_lp (ι := Nat) (fun k => [(1, dp b1), (3, sv (hex (id.take k))), (4, .int .i64 k)]) (fun k w' => k ≤ 32 ∧ St w (fun _ => False) w' [cel b1 (bys id) 38]) (fun k => 32 - k) 0 ⟨rfl, rfl, rfl, trivial⟩ ⟨Nat.zero_le _, hS⟩ ?_
 clear hS
 rintro k w1 ⟨hk, hS⟩
 refine gW ?_
 (refine g_cd rfl (fun hc => ?_) (fun hc => ?_) <;> simp only [cmv, arv, Bool.not_eq_true', Bool.not_eq_false', decide_eq_true_eq, decide_eq_false_iff_not] at hc)
 ·have hlt : k < id.length := by omega
  have hg := bys_get hlt
  obtain ⟨n1, n2, n3, n4⟩ := by_nib' id[k]
  have hb := id[k].toNat_lt
  refine gW ?_
  refine g_dr mixed ?_
  replace hS := hS.drew
  refine gD ?_
  refine d_rq rfl rfl rfl ⟨by omega, by omega⟩ ?_
  refine d_l1 rfl rfl rfl (hS.b 0 rfl) (by rw [Int.toNat_natCast]; exact hg) ?_
  refine d_rq rfl rfl rfl (by decide) ?_
  rw [n1]
  refine gD ?_
  refine d_rq rfl rfl rfl ⟨by omega, by omega⟩ ?_
  refine d_l1 rfl rfl rfl (hS.b 0 rfl) (by rw [Int.toNat_natCast]; exact hg) ?_
  refine d_rq rfl rfl rfl (by decide) ?_
  rw [n1]
  refine gD ?_
  rw [n2]
  refine d_rq rfl rfl rfl ⟨by omega, by omega, by show ((id[k].toNat / 16 + 1 : Nat) : Int) ≤ 16; omega⟩ ?_
  refine d_rq rfl rfl rfl (by simp [Lib.size_eq, hex_len]; omega) ?_
  refine gD ?_
  refine d_rq rfl rfl rfl ⟨by omega, by omega⟩ ?_
  refine d_l1 rfl rfl rfl (hS.b 0 rfl) (by rw [Int.toNat_natCast]; exact hg) ?_
  refine d_rq rfl rfl rfl (by decide) ?_
  rw [n3]
  refine gD ?_
  refine d_rq rfl rfl rfl ⟨by omega, by omega⟩ ?_
  refine d_l1 rfl rfl rfl (hS.b 0 rfl) (by rw [Int.toNat_natCast]; exact hg) ?_
  refine d_rq rfl rfl rfl (by decide) ?_
  rw [n3]
  refine gD ?_
  rw [n4]
  refine d_rq rfl rfl rfl ⟨by omega, by omega, by show ((id[k].toNat % 16 + 1 : Nat) : Int) ≤ 16; omega⟩ ?_
  refine d_rq rfl rfl rfl (by simp [Lib.size_eq, hex_len]; omega) ?_
  refine d_e rfl rfl ?_
  refine ef_qt ((pev_ok rfl).2 _) ⟨rc_0, ?_⟩
  refine d_fin ?_
  refine gW ?_
  refine g_rq rfl rfl (in64 (by simp only [arv]; omega)) ?_
  refine gW ?_
  refine g_l (k + 1) ⟨rfl, ?_, rfl, trivial⟩ ⟨by omega, hS⟩ (by omega)
  have hst : hex (id.take (k + 1)) = hex (id.take k) ++ hx id[k] := by
   rw [List.take_succ_eq_append_getElem hlt, hex_app]
   simp [hex]
  have x1 : (⟨dig.toArray⟩ : ByteArray).extract (id[k].toNat / 16) (id[k].toNat / 16 + 1) = ⟨[dig.getD (id[k].toNat / 16) 0].toArray⟩ := by
   have := sv_ext dig (id[k].toNat / 16) (id[k].toNat / 16 + 1)
   rw [dig_ext (by omega)] at this
   exact Value.string.inj this
  have x2 : (⟨dig.toArray⟩ : ByteArray).extract (id[k].toNat % 16) (id[k].toNat % 16 + 1) = ⟨[dig.getD (id[k].toNat % 16) 0].toArray⟩ := by
   have := sv_ext dig (id[k].toNat % 16) (id[k].toNat % 16 + 1)
   rw [dig_ext (by omega)] at this
   exact Value.string.inj this
  show some (Value.string (((⟨(hex (id.take k)).toArray⟩ : ByteArray) ++ (⟨dig.toArray⟩ : ByteArray).extract (Int.toNat ((id[k].toNat / 16 : Nat) : Int)) (Int.toNat ((id[k].toNat / 16 + 1 : Nat) : Int))) ++ (⟨dig.toArray⟩ : ByteArray).extract (Int.toNat ((id[k].toNat % 16 : Nat) : Int)) (Int.toNat ((id[k].toNat % 16 + 1 : Nat) : Int)))) = some (sv (hex (id.take (k + 1))))
  rw [Int.toNat_natCast, Int.toNat_natCast, Int.toNat_natCast, Int.toNat_natCast, x1, x2, hst]
  have a1 := Value.string.inj (sv_app2 (hex (id.take k)) [dig.getD (id[k].toNat / 16) 0])
  rw [a1, sv_app2, List.append_assoc]
  rfl
 ·have e : id.take k = id := List.take_of_length_le (by omega)
  rw [e]
  refine gW ?_
  exact g_ret (q_1 rfl (h _ (hS.sel [] rfl rfl)))
end
def idk (s : Bs) (k : Nat) : Bs := (List.range 32).map fun i => if i < k then UInt8.ofNat (16 * dgv (s.getD (2 * i) 0) + dgv (s.getD (2 * i + 1) 0)) else 0
theorem idk_len (s : Bs) (k : Nat) : (idk s k).length = 32 := by simp [idk]
theorem idk_0 (s : Bs) : idk s 0 = zid := by
 unfold idk zid
 refine List.ext_getElem (by simp) fun i h1 h2 => ?_
 rw [List.getElem_map, if_neg (Nat.not_lt_zero _), List.getElem_replicate]
theorem idk_32 (s : Bs) : idk s 32 = unh s := by
 unfold idk unh
 refine List.map_congr_left fun i hi => ?_
 rw [if_pos (List.mem_range.1 hi)]
theorem idk_set (s : Bs) {k : Nat} (h : k < 32) : (idk s k).set k (UInt8.ofNat (16 * dgv (s.getD (2 * k) 0) + dgv (s.getD (2 * k + 1) 0))) = idk s (k + 1) := by
 refine List.ext_getElem (by simp [idk]) fun i h1 h2 => ?_
 rw [List.getElem_set]
 by_cases e : k = i
 ·subst e
  rw [if_pos rfl]
  simp [idk]
 ·rw [if_neg e]
  simp only [idk, List.getElem_map, List.getElem_range]
  by_cases h3 : i < k
  ·rw [if_pos h3, if_pos (by omega)]
  ·rw [if_neg h3, if_neg (by omega)]
theorem dgI_pos {c : UInt8} (h : isD c = true) : dgI c = ((dgv c : Nat) : Int) := by unfold dgI; rw [if_pos h]
theorem dgI_neg {c : UInt8} (h : isD c = false) : dgI c = -1 := by unfold dgI; rw [if_neg (by rw [h]; decide)]
theorem cb_at {a b : Bs} {k : Nat} (hp : a.take k = b.take k) (ha : k < a.length) (hb : k < b.length) : Lib.compareBytes a b = if a[k] < b[k] then -1 else if b[k] < a[k] then 1 else Lib.compareBytes (a.drop (k + 1)) (b.drop (k + 1)) := by
 conv => lhs; rw [← List.take_append_drop k a, ← List.take_append_drop k b, hp, cb_app, List.drop_eq_getElem_cons ha, List.drop_eq_getElem_cons hb]
 rw [Lib.compareBytes]
section
variable {w w0 : World} {S0 : Nat → Prop} {L B : List Res} {K : Value → World → Prop} {s : Bs} {E0 E1 : Nat}
theorem r_Parse (h : ∀ w', St w (fun _ => False) w' [] → K (.tuple ⟨[.agg ⟨bys (unhV s)⟩, .int .i64 (unhE s)]⟩) w') : CK Tryz.prog 226 [sv s] w K := by
 have hS := St.nil w (fun _ => False)
 have l0 : (bys zid).length = 32 := by rw [bys_length, zid_len]
 have bad : unhex s = none → ∀ w', St w (fun _ => False) w' [] → K (.tuple ⟨[.agg ⟨bys zid⟩, .int .i64 30]⟩) w' := fun e w' hS => by
  unfold unhV unhE at h
  rw [e] at h
  exact h w' hS
 refine call_k Tryz.func226 k226 Tryz.ntmps226 (Nat.le_of_ble_eq_true rfl) ?_
 refine gW ?_
 refine g_ef rfl (ef_al hS fun b2 w1 hS => ?_)
 refine gW ?_
 refine g_ef rfl (ef_al hS fun b4 w1 hS => ?_)
 replace hS : St w (fun _ => False) w1 [cel b2 (bys zid) 38, cel b4 (bys zid) 38] := hS
 refine g_ef0 rfl (ef_st (u := .agg ⟨bys zid⟩) hS 1 rfl rfl rfl l0 (Nat.le_of_eq l0.symm) (by decide) fun w1 hS => ?_)
 replace hS := hS.ceq (l' := bys zid) 1 rfl (spl_full _ _ rfl)
 replace hS : St w (fun _ => False) w1 [cel b2 (bys zid) 38, cel b4 (bys zid) 38] := hS
 refine gW ?_
 have esz : (⟨s.toArray⟩ : ByteArray).size = s.length := by rw [Lib.size_eq]
 rw [esz]
 (refine g_cd rfl (fun hc => ?_) (fun hc => ?_) <;> simp only [cmv, arv, Bool.not_eq_true', Bool.not_eq_false', decide_eq_true_eq, decide_eq_false_iff_not] at hc)
 ·have e : unhex s = none := by
   unfold unhex
   rw [if_neg]
   rintro ⟨h1, -⟩
   omega
  refine gW ?_
  refine g_lm rfl rfl (hS.b 1 rfl) (Nat.le_of_eq l0.symm) ?_
  rw [List.drop_zero, List.take_of_length_le (Nat.le_of_eq l0)]
  refine g_ef0 rfl (ef_st hS 0 rfl rfl rfl l0 (Nat.le_of_eq l0.symm) (by decide) fun w1 hS => ?_)
  replace hS := hS.ceq (l' := bys zid) 0 rfl (spl_full _ _ rfl)
  refine gW ?_
  refine g_ret (q_c2 (n := 32) rfl (by kernel_rfl) (hS.b 0 rfl) (Nat.le_of_eq l0.symm) rfl ?_)
  exact bad e _ (hS.sel [] rfl rfl)
 ·have hl : s.length = 64 := by omega
  refine gW ?_
  refine g_lp (ι := Nat) (fun k => [(0, sv s), (2, dp b2), (3, .int .i64 0), (4, dp b4), (5, .int .i64 k)])
   (fun k w' => k ≤ 32 ∧ (∀ j, j < k → isD (s.getD (2 * j) 0) = true ∧ isD (s.getD (2 * j + 1) 0) = true) ∧ St w (fun _ => False) w' [cel b2 (bys zid) 38, cel b4 (bys (idk s k)) 38]) (fun k => 32 - k) 0
   ⟨rfl, rfl, rfl, rfl, rfl, trivial⟩ ⟨Nat.zero_le _, fun j h => absurd h (Nat.not_lt_zero j), by rw [idk_0]; exact hS⟩ ?_
  clear hS
  rintro k w1 ⟨hk, hd, hS⟩
  refine gW ?_
  (refine g_cd rfl (fun hlt => ?_) (fun hlt => ?_) <;> simp only [cmv, arv, Bool.not_eq_true', Bool.not_eq_false', decide_eq_true_eq, decide_eq_false_iff_not] at hlt)
  ·have hlt : k < 32 := by omega
   have e1 : (arv BinOp.mul 2 (k : Int)).toNat = 2 * k := by simp only [arv]; omega
   have e2 : (arv BinOp.add (arv BinOp.mul 2 (k : Int)) 1).toNat = 2 * k + 1 := by simp only [arv]; omega
   have hsl : ((⟨s.toArray⟩ : ByteArray).data.toList.length : Int) = 64 := by
    have h9 : (⟨s.toArray⟩ : ByteArray).data.toList.length = s.length := rfl
    omega
   have bad1 : (isD (s.getD (2 * k) 0) = false ∨ isD (s.getD (2 * k + 1) 0) = false) → unhex s = none := fun h1 => by
    unfold unhex
    rw [if_neg]
    rintro ⟨-, h2⟩
    rw [List.all_eq_true] at h2
    rcases h1 with h1 | h1
    ·have := h2 (s.getD (2 * k) 0) (by rw [List.getD_eq_getElem?_getD, List.getElem?_eq_getElem (by omega)]; exact List.getElem_mem _)
     rw [h1] at this
     cases this
    ·have := h2 (s.getD (2 * k + 1) 0) (by rw [List.getD_eq_getElem?_getD, List.getElem?_eq_getElem (by omega)]; exact List.getElem_mem _)
     rw [h1] at this
     cases this
   refine gW ?_
   refine g_rq rfl rfl (in64 (by simp only [arv]; omega)) ?_
   refine g_rq rfl rfl ⟨by simp only [arv]; omega, by rw [hsl]; simp only [arv]; omega⟩ ?_
   rw [e1]
   refine g_cl rfl rfl (r_digit (c := s.getD (2 * k) 0) ?_)
   refine gW ?_
   refine g_rq rfl rfl (in64 (by simp only [arv]; omega)) ?_
   refine g_rq rfl rfl (in64 (by simp only [arv]; omega)) ?_
   refine g_rq rfl rfl ⟨by simp only [arv]; omega, by rw [hsl]; simp only [arv]; omega⟩ ?_
   rw [e2]
   refine g_cl rfl rfl (r_digit (c := s.getD (2 * k + 1) 0) ?_)
   refine gW ?_
   cases hA : isD (s.getD (2 * k) 0)
   ·rw [dgI_neg hA]
    refine gW ?_
    refine g_ef0 rfl (ef_st (u := .agg ⟨bys zid⟩) hS 0 rfl rfl rfl l0 (Nat.le_of_eq l0.symm) (by decide) fun w1 hS => ?_)
    replace hS := hS.ceq (l' := bys zid) 0 rfl (spl_full _ _ rfl)
    refine gW ?_
    refine g_ret (q_c2 (n := 32) rfl (by kernel_rfl) (hS.b 0 rfl) (Nat.le_of_eq l0.symm) rfl ?_)
    exact bad (bad1 (.inl hA)) _ (hS.sel [] rfl rfl)
   ·rw [dgI_pos hA]
    have hA1 := dgv_lt hA
    (generalize q1 : cmv _ _ _ = q; cases q <;> simp only [cmv, arv, Bool.not_eq_true', Bool.not_eq_false', decide_eq_true_eq, decide_eq_false_iff_not] at q1 <;> first | (exfalso; omega) | skip)
    refine gW ?_
    cases hB : isD (s.getD (2 * k + 1) 0)
    ·rw [dgI_neg hB]
     refine gW ?_
     refine g_ef0 rfl (ef_st (u := .agg ⟨bys zid⟩) hS 0 rfl rfl rfl l0 (Nat.le_of_eq l0.symm) (by decide) fun w1 hS => ?_)
     replace hS := hS.ceq (l' := bys zid) 0 rfl (spl_full _ _ rfl)
     refine gW ?_
     refine g_ret (q_c2 (n := 32) rfl (by kernel_rfl) (hS.b 0 rfl) (Nat.le_of_eq l0.symm) rfl ?_)
     exact bad (bad1 (.inr hB)) _ (hS.sel [] rfl rfl)
    ·rw [dgI_pos hB]
     have hB1 := dgv_lt hB
     (generalize q2 : cmv _ _ _ = q; cases q <;> simp only [cmv, arv, Bool.not_eq_true', Bool.not_eq_false', decide_eq_true_eq, decide_eq_false_iff_not] at q2 <;> first | (exfalso; omega) | skip)
     refine gW ?_
     refine g_rq rfl rfl (in64 (by simp only [arv]; omega)) ?_
     refine gW ?_
     refine g_rq rfl rfl (in64 (by simp only [arv]; omega)) ?_
     refine gW ?_
     refine g_rq rfl rfl ⟨by omega, by omega⟩ ?_
     have hv : IntKind.u8.wrap (arv BinOp.add (arv BinOp.mul 16 ((dgv (s.getD (2 * k) 0) : Nat) : Int)) ((dgv (s.getD (2 * k + 1) 0) : Nat) : Int)) = ((UInt8.ofNat (16 * dgv (s.getD (2 * k) 0) + dgv (s.getD (2 * k + 1) 0))).toNat : Int) := by
      have e3 : arv BinOp.add (arv BinOp.mul 16 ((dgv (s.getD (2 * k) 0) : Nat) : Int)) ((dgv (s.getD (2 * k + 1) 0) : Nat) : Int) = ((16 * dgv (s.getD (2 * k) 0) + dgv (s.getD (2 * k + 1) 0) : Nat) : Int) := by simp only [arv]; omega
      have e4 : (UInt8.ofNat (16 * dgv (s.getD (2 * k) 0) + dgv (s.getD (2 * k + 1) 0))).toNat = 16 * dgv (s.getD (2 * k) 0) + dgv (s.getD (2 * k + 1) 0) := by
       rw [UInt8.toNat_ofNat']
       omega
      rw [e3, e4, wrap_in]
      have h7 := (UInt8.ofNat (16 * dgv (s.getD (2 * k) 0) + dgv (s.getD (2 * k + 1) 0))).toNat_lt
      have h8 : (16 * dgv (s.getD (2 * k) 0) + dgv (s.getD (2 * k + 1) 0) : Nat) < 256 := by omega
      exact ⟨by show (0 : Int) ≤ _; omega, by show _ ≤ (255 : Int); omega⟩
     rw [hv]
     refine g_ef0 rfl (ef_st hS 1 rfl rfl rfl rfl (by rw [bys_length, idk_len, Int.toNat_natCast]; show 0 + k * 1 + 1 ≤ 32; omega) rfl fun w1 hS => ?_)
     have hcs := bys_set (idk s k) [] k (UInt8.ofNat (16 * dgv (s.getD (2 * k) 0) + dgv (s.getD (2 * k + 1) 0))) (by rw [idk_len]; exact hlt)
     rw [List.append_nil, List.append_nil, idk_set s hlt] at hcs
     replace hS := hS.ceq (l' := bys (idk s (k + 1))) 1 rfl (by rw [Int.toNat_natCast]; exact hcs)
     refine gW ?_
     refine g_rq rfl rfl (in64 (by simp only [arv]; omega)) ?_
     refine gW ?_
     refine g_l (k + 1) ⟨rfl, rfl, rfl, rfl, rfl, trivial⟩ ⟨by omega, fun j hj => ?_, hS⟩ (by omega)
     by_cases e : j = k
     ·subst e; exact ⟨hA, hB⟩
     ·exact hd j (by omega)
  ·have ek : k = 32 := by omega
   subst ek
   rw [idk_32] at hS
   have e : unhex s = some (unh s) := by
    have hall : s.all isD = true := by
     rw [List.all_eq_true]
     intro x hx
     obtain ⟨i, hi, rfl⟩ := List.getElem_of_mem hx
     have hi2 : i < 64 := by omega
     have := hd (i / 2) (by omega)
     have hg : s[i] = s.getD i 0 := by rw [List.getD_eq_getElem?_getD, List.getElem?_eq_getElem hi]; rfl
     rw [hg]
     rcases Nat.mod_two_eq_zero_or_one i with h0 | h0
     ·have e5 : i = 2 * (i / 2) := by omega
      rw [e5]; exact this.1
     ·have e5 : i = 2 * (i / 2) + 1 := by omega
      rw [e5]; exact this.2
    unfold unhex
    rw [if_pos ⟨hl, hall⟩]
   have l1 : (bys (unh s)).length = 32 := by rw [bys_length]; simp [unh]
   unfold unhV unhE at h
   rw [e] at h
   refine gW ?_
   refine g_lm rfl rfl (hS.b 1 rfl) (Nat.le_of_eq l1.symm) ?_
   rw [List.drop_zero, List.take_of_length_le (Nat.le_of_eq l1)]
   refine g_ef0 rfl (ef_st hS 0 rfl rfl rfl l1 (Nat.le_of_eq l0.symm) (bys_one _) fun w1 hS => ?_)
   replace hS := hS.ceq (l' := bys (unh s)) 0 rfl (spl_full _ _ (l1.trans l0.symm))
   refine gW ?_
   refine g_ret (q_c2 (n := 32) rfl (by kernel_rfl) (hS.b 0 rfl) (Nat.le_of_eq l1.symm) rfl ?_)
   rw [List.drop_zero, List.take_of_length_le (Nat.le_of_eq l1)]
   exact h _ (hS.sel [] rfl rfl)
theorem r_Compare {a b : Bs} (ha : a.length = 32) (hb : b.length = 32) (h : ∀ w', St w (fun _ => False) w' [] → K (.int .i64 (Lib.compareBytes a b)) w') : CK Tryz.prog 105 [.agg ⟨bys a⟩, .agg ⟨bys b⟩] w K := by
 have hS := St.nil w (fun _ => False)
 refine call_k Tryz.func105 k105 Tryz.ntmps105 (Nat.le_of_ble_eq_true rfl) ?_
 refine gW ?_
 refine g_ef rfl (ef_bx hS rfl fun b1 w1 hS => ?_)
 refine g_ef rfl (ef_bx hS rfl fun b2 w1 hS => ?_)
 replace hS : St w (fun _ => False) w1 [cel b1 (bys a) 38, cel b2 (bys b) 38] := hS
 refine gW ?_
 refine g_lp (ι := Nat) (fun k => [(2, dp b1), (3, dp b2), (5, .int .i64 k)]) (fun k w' => k ≤ 32 ∧ a.take k = b.take k ∧ St w (fun _ => False) w' [cel b1 (bys a) 38, cel b2 (bys b) 38]) (fun k => 32 - k) 0 ⟨rfl, rfl, rfl, trivial⟩ ⟨Nat.zero_le _, rfl, hS⟩ ?_
 clear hS
 rintro k w1 ⟨hk, hP, hS⟩
 refine gW ?_
 (refine g_cd rfl (fun hc => ?_) (fun hc => ?_) <;> simp only [cmv, arv, Bool.not_eq_true', Bool.not_eq_false', decide_eq_true_eq, decide_eq_false_iff_not] at hc)
 ·have hka : k < a.length := by omega
  have hkb : k < b.length := by omega
  have hcb := cb_at hP hka hkb
  refine gW ?_
  refine g_dr mixed ?_
  replace hS := hS.drew
  refine gD ?_
  refine d_rq rfl rfl rfl ⟨by omega, by omega⟩ ?_
  refine d_l1 rfl rfl rfl (hS.b 0 rfl) (by rw [Int.toNat_natCast]; exact bys_get hka) ?_
  refine gD ?_
  refine d_rq rfl rfl rfl ⟨by omega, by omega⟩ ?_
  refine d_l1 rfl rfl rfl (hS.b 1 rfl) (by rw [Int.toNat_natCast]; exact bys_get hkb) ?_
  refine gD ?_
  refine d_fin ?_
  (refine g_cd rfl (fun h1 => ?_) (fun h1 => ?_) <;> simp only [cmv, arv, Bool.not_eq_true', Bool.not_eq_false', decide_eq_true_eq, decide_eq_false_iff_not] at h1)
  ·refine gW ?_
   rw [if_pos (UInt8.lt_iff_toNat_lt.2 (by omega))] at hcb
   refine g_ret (q_1 rfl ?_)
   rw [hcb] at h
   exact h _ (hS.sel [] rfl rfl)
  ·rw [if_neg (fun h => h1 (by have := UInt8.lt_iff_toNat_lt.1 h; omega))] at hcb
   refine gW ?_
   refine g_dr mixed ?_
   replace hS := hS.drew
   refine gD ?_
   refine d_rq rfl rfl rfl ⟨by omega, by omega⟩ ?_
   refine d_l1 rfl rfl rfl (hS.b 0 rfl) (by rw [Int.toNat_natCast]; exact bys_get hka) ?_
   refine gD ?_
   refine d_rq rfl rfl rfl ⟨by omega, by omega⟩ ?_
   refine d_l1 rfl rfl rfl (hS.b 1 rfl) (by rw [Int.toNat_natCast]; exact bys_get hkb) ?_
   refine gD ?_
   refine d_fin ?_
   (refine g_cd rfl (fun h2 => ?_) (fun h2 => ?_) <;> simp only [cmv, arv, Bool.not_eq_true', Bool.not_eq_false', decide_eq_true_eq, decide_eq_false_iff_not] at h2)
   ·refine gW ?_
    rw [if_pos (UInt8.lt_iff_toNat_lt.2 (by omega))] at hcb
    refine g_ret (q_1 rfl ?_)
    rw [hcb] at h
    exact h _ (hS.sel [] rfl rfl)
   ·refine gW ?_
    refine g_rq rfl rfl (in64 (by simp only [arv]; omega)) ?_
    refine gW ?_
    have e : a[k] = b[k] := UInt8.toNat_inj.1 (by omega)
    refine g_l (k + 1) ⟨rfl, rfl, rfl, trivial⟩ ⟨by omega, ?_, hS⟩ (by omega)
    rw [List.take_succ_eq_append_getElem hka, List.take_succ_eq_append_getElem hkb, hP, e]
 ·rw [List.take_of_length_le (by omega), List.take_of_length_le (by omega)] at hP
  subst hP
  rw [cb_self] at h
  refine gW ?_
  exact g_ret (q_1 rfl (h _ (hS.sel [] rfl rfl)))
theorem r_Has {x : Id} {v : Value} {n : Nat} {d : List Id} (hd : d.length = n) (hn : n < 2000000) (hr : Rd v E0 32 n (fl ic d) w) (h : ∀ w', St w (fun _ => False) w' [] → K (.bool (decide (x ∈ d))) w') : CK Tryz.prog 104 [v, .agg ⟨bys x.1⟩] w K := by
 have hS := St.nil w (fun _ => False)
 have hrr : ∀ {L : List Res} (w' : World), St w (fun _ => False) w' L → Rd v E0 32 n (fl ic d) w' := fun w' hS => hr.same fun b hb => hS.fr.kept b (hr.lt b hb) (fun h => h)
 obtain ⟨a, c, rfl⟩ := hr.form
 have lx := ic_len x
 refine call_k Tryz.func104 k104 Tryz.ntmps104 (Nat.le_of_ble_eq_true rfl) ?_
 refine gW ?_
 refine g_ef rfl (ef_bx hS rfl fun b1 w1 hS => ?_)
 replace hS : St w (fun _ => False) w1 [cel b1 (ic x) 38] := hS
 refine gW ?_
 refine g_lp (ι := Nat) (fun k => [(0, .slice a n c), (3, dp b1), (5, .int .i64 k)]) (fun k w' => k ≤ n ∧ (∀ j (hj : j < d.length), j < k → d[j] ≠ x) ∧ St w (fun _ => False) w' [cel b1 (ic x) 38]) (fun k => n - k) 0 ⟨rfl, rfl, rfl, trivial⟩ ⟨Nat.zero_le _, fun j _ h => absurd h (Nat.not_lt_zero j), hS⟩ ?_
 clear hS
 rintro k w1 ⟨hk, hP, hS⟩
 refine gW ?_
 (refine g_cd rfl (fun hc => ?_) (fun hc => ?_) <;> simp only [cmv, arv, Bool.not_eq_true', Bool.not_eq_false', decide_eq_true_eq, decide_eq_false_iff_not] at hc)
 ·have hlt : k < d.length := by omega
  obtain ⟨b, off, cap, l, e1, hcap, hl, hx, hb⟩ := Rd.block (hrr _ hS.drew) (by omega)
  cases e1
  have hbd : off + k * 32 + 32 ≤ l.length := by have : (k + 1) * 32 ≤ c * 32 := Nat.mul_le_mul_right 32 (by omega); omega
  refine gW ?_
  refine g_dr mixed ?_
  replace hS := hS.drew
  refine gD ?_
  refine d_rq rfl rfl rfl ⟨by omega, by omega⟩ ?_
  refine d_qt rfl rfl rfl (qt_ldmr rfl hb (by rw [Int.toNat_natCast]; exact hbd)) ?_
  rw [Int.toNat_natCast, rd_at ic_len hx hd hlt]
  refine d_lm rfl rfl rfl (hS.b 0 rfl) (Nat.le_of_eq lx.symm) ?_
  rw [List.drop_zero, List.take_of_length_le (Nat.le_of_eq lx)]
  refine d_qt rfl rfl rfl (qt_aq (a := d[k].1) (b := x.1) rfl rfl d[k].2 x.2) ?_
  refine d_fin ?_
  refine g_cd rfl (fun hq => ?_) (fun hq => ?_)
  ·have e : d[k] = x := Subtype.ext (of_decide_eq_true hq)
   have e2 : decide (x ∈ d) = true := decide_eq_true (by rw [← e]; exact List.getElem_mem _)
   rw [e2] at h
   refine gW ?_
   exact g_ret (q_1 rfl (h _ (hS.sel [] rfl rfl)))
  ·have e : d[k] ≠ x := fun e => of_decide_eq_false hq (by rw [e])
   refine gW ?_
   refine g_rq rfl rfl (in64 (by simp only [arv]; omega)) ?_
   refine gW ?_
   refine g_l (k + 1) ⟨rfl, rfl, rfl, trivial⟩ ⟨by omega, fun j hj hjk => ?_, hS⟩ (by omega)
   by_cases e2 : j = k
   ·subst e2; exact e
   ·exact hP j hj (by omega)
 ·have e2 : decide (x ∈ d) = false := decide_eq_false fun hm => by
   obtain ⟨j, hj, e⟩ := List.getElem_of_mem hm
   exact hP j hj (by omega) e
  rw [e2] at h
  refine gW ?_
  exact g_ret (q_1 rfl (h _ (hS.sel [] rfl rfl)))
end
theorem set_ins {o : List Id} {x : Id} {j : Nat} (ho : o.Pairwise (lts fun x : Id => x.1)) (hx : x ∉ o) (h1 : ∀ i (hi : i < o.length), i < j → Lib.compareBytes o[i].1 x.1 < 0) (h2 : ∀ hj : j < o.length, ¬ Lib.compareBytes o[j].1 x.1 < 0) :
  (insAt o j x).Pairwise (lts fun x : Id => x.1) := by
 refine insAt_pw ho (fun a ha => ?_) (fun b hb => ?_)
 ·obtain ⟨i, hi, e⟩ := List.mem_take_iff_getElem.1 ha
  have h3 := h1 i (by omega) (by omega)
  rw [e] at h3
  refine ⟨?_, fun e => hx (by rw [← e]; exact List.mem_of_mem_take ha)⟩
  show ble a.1 x.1 = true
  unfold ble
  rw [decide_eq_true_eq]
  omega
 ·obtain ⟨hj, hb2⟩ := drop_pw ho hb
  have h3 := h2 hj
  have hle : ble x.1 o[j].1 = true := by
   unfold ble
   rw [decide_eq_true_eq]
   have := cb_neg o[j].1 x.1
   omega
  refine ⟨?_, fun e => hx (by rw [e]; exact List.mem_of_mem_drop hb)⟩
  rcases hb2 with rfl | hb2
  ·exact hle
  ·exact ble_trans hle hb2.1
section
variable {w w0 : World} {S0 : Nat → Prop} {L B : List Res} {K : Value → World → Prop} {s : Bs} {E0 E1 : Nat}
set_option maxHeartbeats 4000000 in
theorem r_Set {v : Value} {n : Nat} {d : List Id} (hd : d.length = n) (hn : n < 2000000) (hr : Rd v E0 32 n (fl ic d) w) (h : ∀ v' w', St w (fun _ => False) w' [row v' 38 32 (iset d).length (fl ic (iset d))] → K v' w') : CK Tryz.prog 68 [v] w K := by
 have hS := St.nil w (fun _ => False)
 have hrr : ∀ {L : List Res} (w' : World), St w (fun _ => False) w' L → Rd v E0 32 n (fl ic d) w' := fun w' hS => hr.same fun b hb => hS.fr.kept b (hr.lt b hb) (fun h => h)
 obtain ⟨a, c, rfl⟩ := hr.form
 refine call_k Tryz.func68 k68 Tryz.ntmps68 (Nat.le_of_ble_eq_true rfl) ?_
 refine gW ?_
 refine g_lp (ι := Nat × Value × List Id) (fun x => [(0, .slice a n c), (3, x.2.1), (4, .int .i64 x.1)]) (fun x w' => x.1 ≤ n ∧ x.2.2.length ≤ x.1 ∧ x.2.2.Pairwise (lts fun x : Id => x.1) ∧ (∀ y, y ∈ x.2.2 ↔ y ∈ d.take x.1) ∧ St w (fun _ => False) w' [row x.2.1 38 32 x.2.2.length (fl ic x.2.2)]) (fun x => n - x.1) (0, .slice none 0 0, [])
  ⟨rfl, rfl, rfl, trivial⟩ ⟨Nat.zero_le _, Nat.zero_le _, List.Pairwise.nil, fun y => Iff.rfl, hS.nilrow 38 32⟩ ?_
 clear hS
 rintro ⟨k, vo, o⟩ w1 ⟨hk, hol, ho, hm, hS⟩
 dsimp only at hk hol ho hm hS ⊢
 refine gW ?_
 (refine g_cd rfl (fun hc => ?_) (fun hc => ?_) <;> simp only [cmv, arv, Bool.not_eq_true', Bool.not_eq_false', decide_eq_true_eq, decide_eq_false_iff_not] at hc)
 ·have hlt : k < d.length := by omega
  obtain ⟨b, off, cap, l, e1, hcap, hl, hx, hb⟩ := Rd.block (hrr _ hS) (by omega)
  cases e1
  have hbd : off + k * 32 + 32 ≤ l.length := by have : (k + 1) * 32 ≤ c * 32 := Nat.mul_le_mul_right 32 (by omega); omega
  have hX0 := rd_at ic_len hx hd hlt
  obtain ⟨ao, co, rfl⟩ := hS.rlen 0 rfl
  refine gW ?_
  refine g_rq rfl rfl ⟨by omega, by omega⟩ ?_
  refine g_lmr rfl rfl hb (by rw [Int.toNat_natCast]; exact hbd) ?_
  rw [Int.toNat_natCast, hX0]
  have hmt : ∀ y, y ∈ d.take (k + 1) ↔ y = d[k] ∨ y ∈ d.take k := fun y => by
   rw [List.take_succ_eq_append_getElem hlt, List.mem_append, List.mem_singleton]
   exact Or.comm
  generalize hX : d[k] = X at hmt hX0
  refine g_cl rfl rfl (r_Has (x := X) rfl (by omega) (Ow.rd (hS.ok 0 _ rfl)) fun w1 h' => ?_)
  replace hS := hS.call0.2 _ _ h'
  rw [List.append_nil] at hS
  refine gW ?_
  cases hq : decide (X ∈ o)
  rotate_left
  ·have hin := of_decide_eq_true hq
   refine gW ?_
   refine g_rq rfl rfl (in64 (by simp only [arv]; omega)) ?_
   refine gW ?_
   refine g_l (k + 1, .slice ao o.length co, o) ⟨rfl, rfl, rfl, trivial⟩ ⟨by simp only; omega, by simp only; omega, ho, fun y => ?_, hS⟩ (by simp only; omega)
   dsimp only
   rw [hmt, ← hm]
   exact ⟨.inr, fun h => h.elim (fun e => e ▸ hin) id⟩
  ·have hin := of_decide_eq_false hq
   refine gW ?_
   refine g_atx (ι := Nat) 2 (fun j => [(0, .slice (some ⟨b, off, none⟩) n c), (3, .slice ao o.length co), (4, .int .i64 k), (6, .int .i64 j)]) (fun j w' => j ≤ o.length ∧ (∀ i (hi : i < o.length), i < j → Lib.compareBytes o[i].1 X.1 < 0) ∧ (∀ hj : j < o.length, ¬ Lib.compareBytes o[j].1 X.1 < 0) ∧ St w (fun _ => False) w' [row (.slice ao o.length co) 38 32 o.length (fl ic o)]) rfl ?_ ?_
   ·refine g_lp (ι := Nat) (fun j => [(0, .slice (some ⟨b, off, none⟩) n c), (3, .slice ao o.length co), (4, .int .i64 k), (6, .int .i64 j)]) (fun j w' => j ≤ o.length ∧ (∀ i (hi : i < o.length), i < j → Lib.compareBytes o[i].1 X.1 < 0) ∧ St w (fun _ => False) w' [row (.slice ao o.length co) 38 32 o.length (fl ic o)]) (fun j => o.length - j) 0 ⟨rfl, rfl, rfl, rfl, trivial⟩ ⟨Nat.zero_le _, fun i _ h => absurd h (Nat.not_lt_zero i), hS⟩ ?_
    clear hS
    rintro j w1 ⟨hj, h1, hS⟩
    refine gW ?_
    refine g_dr mixed ?_
    replace hS := hS.drew
    refine gD ?_
    generalize hq1 : cmv BinOp.lss (j : Int) (o.length : Int) = q1
    cases q1
    ·(simp only [cmv, arv, Bool.not_eq_true', Bool.not_eq_false', decide_eq_true_eq, decide_eq_false_iff_not] at hq1)
     refine gD ?_
     refine d_en rfl rfl rc_0 ?_
     refine gD ?_
     refine d_fin ?_
     refine gW ?_
     exact g_jx j ⟨rfl, rfl, rfl, rfl, trivial⟩ ⟨by omega, h1, fun hjo => absurd hjo (by omega), hS⟩
    ·(simp only [cmv, arv, Bool.not_eq_true', Bool.not_eq_false', decide_eq_true_eq, decide_eq_false_iff_not] at hq1)
     have hjo : j < o.length := by omega
     obtain ⟨b2, off2, cap2, l2, e2, hcap2, hl2, hx2, hb2⟩ := Rd.block (Ow.rd (hS.ok 0 _ rfl)) (by omega)
     cases e2
     have hbd2 : off2 + j * 32 + 32 ≤ l2.length := by have : (j + 1) * 32 ≤ co * 32 := Nat.mul_le_mul_right 32 (by omega); omega
     obtain ⟨b3, off3, cap3, l3, e3, hcap3, hl3, hx3, hb3⟩ := Rd.block (hrr _ hS) (by omega)
     cases e3
     refine gD ?_
     refine d_rq rfl rfl rfl ⟨by omega, by omega⟩ ?_
     refine d_qt rfl rfl rfl (qt_ldmr rfl hb2 (by rw [Int.toNat_natCast]; exact hbd2)) ?_
     rw [Int.toNat_natCast, rd_at ic_len hx2 rfl hjo]
     refine gD ?_
     refine d_rq rfl rfl rfl ⟨by omega, by omega⟩ ?_
     refine d_qt rfl rfl rfl (qt_ldmr rfl hb3 (by rw [Int.toNat_natCast]; have : (k + 1) * 32 ≤ c * 32 := Nat.mul_le_mul_right 32 (by omega); omega)) ?_
     rw [Int.toNat_natCast, rd_at ic_len hx3 hd hlt, hX]
     refine d_cl rfl rfl rfl (r_Compare o[j].2 X.2 fun w1 h' => ?_)
     replace hS := hS.call0.2 _ _ h'
     rw [List.append_nil] at hS
     refine ⟨rc_0, ?_⟩
     refine gD ?_
     refine d_fin ?_
     (refine g_cd rfl (fun hlc => ?_) (fun hlc => ?_) <;> simp only [cmv, arv, Bool.not_eq_true', Bool.not_eq_false', decide_eq_true_eq, decide_eq_false_iff_not] at hlc)
     ·refine gW ?_
      refine g_rq rfl rfl (in64 (by simp only [arv]; omega)) ?_
      refine gW ?_
      refine g_l (j + 1) ⟨rfl, rfl, rfl, rfl, trivial⟩ ⟨by omega, fun i hi hij => ?_, hS⟩ (by omega)
      by_cases e : i = j
      ·subst e; exact hlc
      ·exact h1 i hi (by omega)
     ·refine gW ?_
      exact g_jx j ⟨rfl, rfl, rfl, rfl, trivial⟩ ⟨by omega, h1, fun _ => hlc, hS⟩
   ·clear hS
    rintro j T w1 hT ⟨hj, h1, h2, hS⟩
    refine g_wkc hT ?_
    have hO := set_ins ho hin h1 h2
    have hOm := insAt_mem o j X
    have hOl := insAt_len o (j := j) X
    refine gW ?_
    refine g_atx (ι := Value) 1 (fun v => [(0, .slice (some ⟨b, off, none⟩) n c), (3, .slice ao o.length co), (4, .int .i64 k), (6, .int .i64 j), (7, v)]) (fun v w' => St w (fun _ => False) w' [row (.slice ao o.length co) 38 32 o.length (fl ic o), row v 38 32 (j + 1) (fl ic (o.take j ++ [X]))]) rfl ?_ ?_
    ·refine g_dr mixed ?_
     replace hS := hS.drew
     obtain ⟨b3, off3, cap3, l3, e3, hcap3, hl3, hx3, hb3⟩ := Rd.block (hrr _ hS) (by omega)
     cases e3
     have hbd3 : off + k * 32 + 32 ≤ l3.length := by have : (k + 1) * 32 ≤ c * 32 := Nat.mul_le_mul_right 32 (by omega); omega
     have hX3 : ((l3.drop (off + k * 32)).take 32) = ic X := by rw [rd_at ic_len hx3 hd hlt, hX]
     have hle := (hS.ok 0 _ rfl : Ow _ _ _ _ _ _).le
     have htk : (fl ic o).take (j * 32) = fl ic (o.take j) := fl_take ic_len j o
     have hrd : ∀ {L : List Res} {w' : World}, St w (fun _ => False) w' (row (.slice ao o.length co) 38 32 o.length (fl ic o) :: L) → Rd (.slice ao j co) 38 32 j (fl ic (o.take j)) w' := fun hS => by
      have := Rd.hd (Ow.rd (hS.ok 0 _ rfl)) hj
      rw [htk] at this
      exact this
     have hXR : ∀ {L : List Res} {w' : World}, St w (fun _ => False) w' L → ∀ {P : Program} {T : TT} {x : Operand}, ev T x = some (.pointer (some ⟨b, off + (k : Int).toNat * 32, none⟩)) → Qt P (.ld x (some 32)) T w' (.agg ⟨ic X⟩) := fun {L} {w'} hS {P} {T} {x} hev => by
      obtain ⟨b4, off4, cap4, l4, e4, hcap4, hl4, hx4, hb4⟩ := Rd.block (hrr _ hS) (by omega)
      cases e4
      have := qt_ldmr (P := P) (n := 32) hev hb4 (by rw [Int.toNat_natCast]; have : (k + 1) * 32 ≤ c * 32 := Nat.mul_le_mul_right 32 (by omega); omega)
      rw [Int.toNat_natCast, rd_at ic_len hx4 hd hlt, hX] at this
      exact this
     replace hS := hS.nilrow 38 32
     have hone : (ic X).all (·.oneCell') = true := List.all_eq_true.2 (ic_one X)
     have hap : fl ic (o.take j) ++ ic X = fl ic (o.take j ++ [X]) := by rw [fl_app]; simp [fl]
     refine gD ?_
     refine d_qp rfl rfl rfl (fun w => qt_slh rfl hle.2 rfl hj hle.1) ?_
     refine gD ?_
     refine d_rq rfl rfl rfl ⟨by omega, by omega⟩ ?_
     refine d_qt rfl rfl rfl (hXR hS rfl) ?_
     refine d_a2 ?_ (d_a1 ?_)
     ·refine d_e rfl rfl ?_
      refine ef_ap (bytes := 32) (n := 0) (m := j) (ys := fl ic (o.take j)) hS 1 rfl rfl rfl (.inl ⟨_, hrd hS⟩) (fl_one ic_one _) (by omega) (by omega) fun v1 w2 hS => ?_
      rw [Nat.zero_add, List.nil_append] at hS
      refine ⟨rc_qt rfl rfl rfl rfl (hXR hS rfl) rc_0, ?_⟩
      refine d_e rfl rfl ?_
      refine ef_bl (rs := ic X) hS (evcs_1 rfl (ic_len _)) fun g w2 hS => ⟨rc_0, ?_⟩
      refine d_e rfl rfl ?_
      refine ef_ap (bytes := 32) (n := j) (m := 1) (ys := ic X) hS 1 rfl rfl rfl (.inl ⟨38, .inr ⟨g, 0, 1, _, rfl, Nat.le_refl _, Nat.le_of_eq (by rw [ic_len]), by rw [List.drop_zero, List.take_of_length_le (Nat.le_of_eq (ic_len _))], (hS.b 2 rfl).r⟩⟩) hone (by omega) (by omega) fun v2 w2 hS => ⟨rc_0, ?_⟩
      rw [hap] at hS
      refine d_e rfl rfl ?_
      refine ef_qt ((pev_ok rfl).2 _) ⟨rc_0, ?_⟩
      refine d_fin ?_
      exact g_jx v2 ⟨rfl, rfl, rfl, rfl, rfl, trivial⟩ (hS.sel [0, 1] rfl rfl)
     ·refine d_e rfl rfl ?_
      refine ef_bl (rs := ic X) hS (evcs_1 rfl (ic_len _)) fun g w2 hS => ⟨rc_0, ?_⟩
      refine d_e rfl rfl ?_
      refine ef_ap (bytes := 32) (n := 0) (m := j) (ys := fl ic (o.take j)) hS 1 rfl rfl rfl (.inl ⟨_, hrd hS⟩) (fl_one ic_one _) (by omega) (by omega) fun v1 w2 hS => ⟨rc_0, ?_⟩
      rw [Nat.zero_add, List.nil_append] at hS
      refine d_e rfl rfl ?_
      refine ef_ap (bytes := 32) (n := j) (m := 1) (ys := ic X) hS 1 rfl rfl rfl (.inl ⟨38, .inr ⟨g, 0, 1, _, rfl, Nat.le_refl _, Nat.le_of_eq (by rw [ic_len]), by rw [List.drop_zero, List.take_of_length_le (Nat.le_of_eq (ic_len _))], (hS.b 2 rfl).r⟩⟩) hone (by omega) (by omega) fun v2 w2 hS => ⟨rc_0, ?_⟩
      rw [hap] at hS
      refine d_e rfl rfl ?_
      refine ef_qt ((pev_ok rfl).2 _) ⟨rc_0, ?_⟩
      refine d_fin ?_
      exact g_jx v2 ⟨rfl, rfl, rfl, rfl, rfl, trivial⟩ (hS.sel [0, 1] rfl rfl)
    ·clear hS
     rintro v T w1 hT hS
     refine g_wkc hT ?_
     have hle := (hS.ok 0 _ rfl : Ow _ _ _ _ _ _).le
     obtain ⟨a', hrd, hq⟩ := sl_drop (Ow.rd (hS.ok 0 _ rfl)) hle.1 hj
     rw [fl_drop ic_len] at hrd
     refine gW ?_
     refine g_qt rfl (hq _ rfl rfl) ?_
     refine g_ef rfl (ef_ap (bytes := 32) (n := j + 1) (m := o.length - j) (ys := fl ic (o.drop j)) hS 1 rfl rfl rfl (.inl ⟨_, hrd⟩) (fl_one ic_one _) (by omega) (by omega) fun v2 w2 hS => ?_)
     have e3 : fl ic (o.take j ++ [X]) ++ fl ic (o.drop j) = fl ic (insAt o j X) := by
      rw [← fl_app]
      congr 1
      unfold insAt
      simp
     rw [e3, show j + 1 + (o.length - j) = (insAt o j X).length by rw [hOl]; omega] at hS
     refine gW ?_
     refine g_rq rfl rfl (in64 (by simp only [arv]; omega)) ?_
     refine gW ?_
     refine g_l (k + 1, v2, insAt o j X) ⟨rfl, rfl, rfl, trivial⟩ ⟨by simp only; omega, by simp only; rw [hOl]; omega, hO, fun y => ?_, hS.sel [1] rfl rfl⟩ (by simp only; omega)
     dsimp only
     rw [hmt, ← hm, hOm]
 ·have ek : k = n := by omega
  subst ek
  have e : iset d = o := iset_of ho fun y => by rw [hm, List.take_of_length_le (by omega)]
  rw [e] at h
  refine gW ?_
  exact g_ret (q_1 rfl (h _ _ hS))
end
theorem rdk {v : Value} {E : TypeId} {d : List Rec} {w : World} {k : Nat} (h : Rd v E 52 d.length (fl rc d) w) (hk : k < d.length) : ∃ b off c l, v = .slice (some ⟨b, off, none⟩) d.length c ∧ d.length ≤ c ∧ off + k * 52 + 52 ≤ l.length ∧ Blr w b l E ∧ (l.drop (off + k * 52)).take 52 = rc d[k] ∧ ∀ j, j < 52 → l[off + k * 52 + j]? = (rc d[k])[j]? := by
 obtain ⟨a, c, rfl⟩ := h.form
 obtain ⟨b, off, cap, l, e, hcap, hl, hx, hb⟩ := Rd.block h (by omega)
 cases e
 exact ⟨b, off, c, l, rfl, hcap, by have : (k + 1) * 52 ≤ c * 52 := Nat.mul_le_mul_right 52 (by omega); omega, hb, rd_at rc_len hx rfl hk, fun j hj => rd_cel rc_len hx rfl hk hj⟩
theorem take20 {l : List Value} {o : Nat} {r : Rec} (h : (l.drop o).take 52 = rc r) : (l.drop (o + 20)).take 32 = bys r.tip := by
 have h1 := congrArg (fun x => (x.drop 20).take 32) h
 simp only [List.drop_take, List.drop_drop] at h1
 rw [rc_20, List.take_take] at h1
 exact h1
section
variable {w w0 : World} {S0 : Nat → Prop} {L B : List Res} {K : Value → World → Prop} {s : Bs} {E0 E1 : Nat}
theorem b_noneSb {z : Sb} (hv : SbV z w) (hne : z.s ≠ []) (h : K (.bool false) w) : CK Tryz.prog 74 [dp z.b] w K := by
 obtain ⟨⟨E, hb⟩, _⟩ := hv
 refine call_k Tryz.func74 k74 Tryz.ntmps74 (Nat.le_of_ble_eq_true rfl) ?_
 refine gW ?_
 refine g_l1r rfl rfl hb (v := sv z.s) rfl ?_
 refine gW ?_
 rw [show decide ((⟨z.s.toArray⟩ : ByteArray).data.toList = (⟨#[]⟩ : ByteArray).data.toList) = false from decide_eq_false hne]
 refine gW ?_
 exact g_ret (q_1 rfl h)
theorem b_noneN1 (h : K (.bool true) w) : CK Tryz.prog 74 [.pointer none] w K := by
 refine call_k Tryz.func74 k74 Tryz.ntmps74 (Nat.le_of_ble_eq_true rfl) ?_
 refine gW ?_
 exact g_ret (q_1 rfl h)
theorem b_AllSb {z : Sb} (hv : SbV z w) (hne : z.s ≠ []) (hn : z.l.length < 2000000) (h : ∀ v' w', St w (fun _ => False) w' [rowR v' z.l] → K v' w') : CK Tryz.prog 44 [dp z.b] w K := by
 have hS := St.nil w (fun _ => False)
 refine call_k Tryz.func44 k44 Tryz.ntmps44 (Nat.le_of_ble_eq_true rfl) ?_
 refine gW ?_
 refine g_cl rfl rfl (b_noneSb hv hne ?_)
 refine gW ?_
 obtain ⟨⟨E, hb⟩, E', hr⟩ := hv
 refine g_l1r rfl rfl hb (v := z.v) rfl ?_
 refine g_cl rfl rfl (b_CloneR rfl hn hr fun v1 w1 h' => ?_)
 refine gW ?_
 exact g_ret (q_1 rfl (h _ _ h'))
theorem b_AllN1 (h : ∀ w', St w (fun _ => False) w' [rowR (.slice none 0 0) []] → K (.slice none 0 0) w') : CK Tryz.prog 44 [.pointer none] w K := by
 have hS := St.nil w (fun _ => False)
 refine call_k Tryz.func44 k44 Tryz.ntmps44 (Nat.le_of_ble_eq_true rfl) ?_
 refine gW ?_
 refine g_cl rfl rfl (b_noneN1 ?_)
 refine gW ?_
 exact g_ret (q_1 rfl (h _ (hS.nilrow 40 52)))
theorem b_hasnt (r : Rec) (h : ∀ w', St w (fun _ => False) w' [] → K (.bool (!r.has)) w') : CK Tryz.prog 114 [.agg ⟨rc r⟩] w K := by
 have hS := St.nil w (fun _ => False)
 refine call_k Tryz.func114 k114 Tryz.ntmps114 (Nat.le_of_ble_eq_true rfl) ?_
 refine gW ?_
 refine g_ef rfl (ef_bx hS rfl fun b2 w1 hS => ?_)
 replace hS : St w (fun _ => False) w1 [cel b2 (rc r) 40] := hS
 refine gW ?_
 refine g_l1 rfl rfl (hS.b 0 rfl) (v := .bool r.has) (rc_19 r) ?_
 refine gW ?_
 exact g_ret (q_1 rfl (h _ (hS.sel [] rfl rfl)))
theorem p_hasnt (M : List Res) : PrdR 114 [] [] M (fun r => !r.has) := fun y {w w0 S0 K} hS h => b_hasnt y fun w' h' => h w' (by have := hS.call0.2 _ _ h'; rwa [List.append_nil] at this)
abbrev AllC (w : World) (p : Value) (l : List Rec) : Prop := ∀ {K : Value → World → Prop}, (∀ v' w', St w (fun _ => False) w' [rowR v' l] → K v' w') → CK Tryz.prog 44 [p] w K
theorem b_AliveG {p : Value} {l : List Rec} (hn : l.length < 2000000) (hA : AllC w p l) (h : ∀ v' w', St w (fun _ => False) w' [rowR v' (l.filter (·.has))] → K v' w') : CK Tryz.prog 81 [p] w K := by
 refine call_k Tryz.func81 k81 Tryz.ntmps81 (Nat.le_of_ble_eq_true rfl) ?_
 refine gW ?_
 refine g_cl rfl rfl (hA fun v1 w1 hS => ?_)
 refine gW ?_
 refine g_cl rfl rfl (b_DelR (M := []) (callFunc_of Tryz.func114 rfl rfl) hn (p_hasnt []) hS fun v2 w2 hS => ?_)
 have e : (l.filter fun x => !!x.has) = l.filter (·.has) := by simp only [Bool.not_not]
 rw [e] at hS
 refine gW ?_
 exact g_ret (q_1 rfl (h _ _ hS))
set_option maxHeartbeats 1000000 in
theorem b_TipsG {p : Value} {l : List Rec} (hn : l.length < 2000000) (hA : AllC w p l) (h : ∀ v' w', St w (fun _ => False) w' [rowI v' (tipR l)] → K v' w') : CK Tryz.prog 45 [p] w K := by
 refine call_k Tryz.func45 k45 Tryz.ntmps45 (Nat.le_of_ble_eq_true rfl) ?_
 refine gW ?_
 refine g_cl rfl rfl (b_AliveG hn hA fun v1 w1 hS => ?_)
 unfold tipR at h
 have hfl := List.length_filter_le (·.has) l
 generalize l.filter (·.has) = A at *
 have hA' := hS.rlen 0 rfl
 obtain ⟨a, c, rfl⟩ := hA'
 replace hS := hS.nilrow 38 32
 have lz : (zx zRc).length = 52 := by decide
 refine gW ?_
 refine g_lp (ι := Nat × Option Addr × Nat) (fun x => [(3, .slice x.2.1 x.1 x.2.2), (7, .slice a A.length c), (8, .int .i64 A.length), (9, .int .i64 x.1)]) (fun x w' => x.1 ≤ A.length ∧ St w (fun _ => False) w' [rowR (.slice a A.length c) A, row (.slice x.2.1 x.1 x.2.2) 38 32 x.1 (fl ic ((A.take x.1).map idR))]) (fun x => A.length - x.1) (0, none, 0)
  ⟨rfl, rfl, rfl, rfl, trivial⟩ ⟨Nat.zero_le _, hS⟩ ?_
 clear hS
 rintro ⟨k, a1, c1⟩ w1 ⟨hk, hS⟩
 dsimp only at hk hS ⊢
 refine gW ?_
 (generalize hlt : cmv _ _ _ = q; cases q <;> simp only [cmv, arv, Bool.not_eq_true', Bool.not_eq_false', decide_eq_true_eq, decide_eq_false_iff_not] at hlt <;> first | (exfalso; omega) | skip)
 ·have ek : k = A.length := by omega
  subst ek
  rw [List.take_length] at hS
  refine gW ?_
  refine g_cl rfl rfl (b_Set (d := A.map idR) (by rw [List.length_map]) (by omega) (Ow.rd (hS.ok 1 _ rfl)) fun v2 w2 h' => ?_)
  replace hS := hS.call0.2 _ _ h'
  refine gW ?_
  exact g_ret (q_1 rfl (h _ _ (hS.sel [2] rfl rfl)))
 have hlt : k < A.length := by omega
 obtain ⟨b, off, c2, l2, e, hcap, hbd, hb, hx, _⟩ := rdk (Ow.rd (hS.ok 0 _ rfl)) hlt
 cases e
 refine gW ?_
 refine g_rq rfl rfl ⟨by omega, by omega⟩ ?_
 refine g_lmr rfl rfl hb (by rw [Int.toNat_natCast]; exact hbd) ?_
 rw [Int.toNat_natCast, hx]
 refine g_ef rfl (ef_al hS fun b6 w1 hS => ?_)
 refine gW ?_
 refine g_ef0 rfl (ef_st hS 2 rfl rfl rfl (rc_len _) (by rw [lz]; decide) (List.all_eq_true.2 (rc_one _)) fun w1 hS => ?_)
 replace hS := hS.ceq (l' := rc A[k]) 2 rfl (spl_full' _ _ (by show (rc A[k]).length = _; rw [rc_len, lz]))
 refine gW ?_
 refine g_lm rfl rfl (hS.b 2 rfl) (by rw [rc_len]; decide) ?_
 rw [show ((rc A[k]).drop (0 + 20)).take 32 = ic (idR A[k]) from rc_20 _]
 refine gW ?_
 refine g_ef rfl (ef_bl (rs := ic (idR A[k])) hS (evcs_1 rfl (ic_len _)) fun g w1 hS => ?_)
 refine gW ?_
 refine g_ef rfl (ef_ap (n := k) (m := 1) (ys := ic (idR A[k])) hS 1 rfl rfl rfl (.inl ⟨38, .inr ⟨g, 0, 1, _, rfl, Nat.le_refl _, Nat.le_of_eq (by rw [ic_len]), by rw [List.drop_zero, List.take_of_length_le (Nat.le_of_eq (by rw [ic_len]))], (hS.b 3 rfl).r⟩⟩) (List.all_eq_true.2 (ic_one _)) (by omega) (by omega) fun v1 w1 hS => ?_)
 obtain ⟨a2, c2, rfl⟩ := hS.rlen 1 rfl
 have ets : fl ic ((A.take k).map idR) ++ ic (idR A[k]) = fl ic ((A.take (k + 1)).map idR) := by
  rw [List.take_succ_eq_append_getElem hlt, List.map_append, fl_app]
  simp [fl]
 rw [ets] at hS
 refine gW ?_
 refine g_rq rfl rfl (in64 (by simp only [arv]; omega)) ?_
 refine gW ?_
 exact g_l (k + 1, a2, c2) ⟨rfl, rfl, rfl, rfl, trivial⟩ ⟨hlt, hS.sel [0, 1] rfl rfl⟩ (by simp only; omega)
theorem r_AliveSb {z : Sb} (hv : SbV z w) (hn : z.l.length < 2000000) (h : ∀ v' w', St w (fun _ => False) w' [rowR v' (z.l.filter (·.has))] → K v' w') : CK Tryz.prog 103 [dp z.b] w K := by
 have hS := St.nil w (fun _ => False)
 have lz : (zx zRc).length = 52 := by decide
 obtain ⟨zb, zv, zs, d⟩ := z
 dsimp only at *
 obtain ⟨a, c, rfl⟩ : ∃ a c, zv = .slice a d.length c := hv.2.choose_spec.form
 replace hS := hS.nilrow 40 52
 refine call_k Tryz.func103 k103 Tryz.ntmps103 (Nat.le_of_ble_eq_true rfl) ?_
 refine gW ?_
 refine g_lp (ι := Nat × Option Addr × Nat) (fun x => [(0, dp zb), (3, .slice x.2.1 ((d.take x.1).filter (·.has)).length x.2.2), (4, .int .i64 x.1)]) (fun x w' => x.1 ≤ d.length ∧ St w (fun _ => False) w' [rowR (.slice x.2.1 ((d.take x.1).filter (·.has)).length x.2.2) ((d.take x.1).filter (·.has))]) (fun x => d.length - x.1) (0, none, 0)
  ⟨rfl, rfl, rfl, trivial⟩ ⟨Nat.zero_le _, hS⟩ ?_
 clear hS
 rintro ⟨k, a1, c1⟩ w1 ⟨hk, hS⟩
 dsimp only at hk hS ⊢
 obtain ⟨⟨E, hb⟩, _⟩ := hv.in hS
 refine gW ?_
 refine g_l1r rfl rfl hb (v := .slice a d.length c) rfl ?_
 refine gW ?_
 (generalize hlt : cmv _ _ _ = q; cases q <;> simp only [cmv, arv, Bool.not_eq_true', Bool.not_eq_false', decide_eq_true_eq, decide_eq_false_iff_not] at hlt <;> first | (exfalso; omega) | skip)
 ·have ek : k = d.length := by omega
  subst ek
  rw [List.take_length] at hS ⊢
  refine gW ?_
  exact g_ret (q_1 rfl (h _ _ hS))
 have hlt : k < d.length := by omega
 obtain ⟨_, E', hr⟩ := hv.in hS
 dsimp only at hr
 obtain ⟨b2, off, c2, l2, e, hcap, hbd, hb2, hx, hxj⟩ := rdk hr hlt
 cases e
 refine gW ?_
 refine g_l1r rfl rfl hb (v := .slice (some ⟨b2, off, none⟩) d.length c) rfl ?_
 refine gW ?_
 refine g_rq rfl rfl ⟨by omega, by omega⟩ ?_
 refine gW ?_
 refine g_l1r rfl rfl hb2 (v := .bool d[k].has) (by rw [Int.toNat_natCast, hxj 19 (by decide)]; exact rc_19 _) ?_
 refine gW ?_
 cases hh : d[k].has
 ·have e1 : (d.take (k + 1)).filter (·.has) = (d.take k).filter (·.has) := by
   rw [List.take_succ_eq_append_getElem hlt, List.filter_append]
   simp [hh]
  refine gW ?_
  refine g_rq rfl rfl (in64 (by simp only [arv]; omega)) ?_
  refine gW ?_
  exact g_l (k + 1, a1, c1) ⟨rfl, by rw [e1]; rfl, rfl, trivial⟩ ⟨hlt, by simp only [e1]; exact hS⟩ (by simp only; omega)
 ·have e1 : (d.take (k + 1)).filter (·.has) = (d.take k).filter (·.has) ++ [d[k]] := by
   rw [List.take_succ_eq_append_getElem hlt, List.filter_append]
   simp [hh]
  have hfl : ((d.take k).filter (·.has)).length ≤ k := Nat.le_trans (List.length_filter_le _ _) (by rw [List.length_take]; omega)
  refine gW ?_
  refine g_l1r rfl rfl hb (v := .slice (some ⟨b2, off, none⟩) d.length c) rfl ?_
  refine gW ?_
  refine g_rq rfl rfl ⟨by omega, by omega⟩ ?_
  refine g_lmr rfl rfl hb2 (by rw [Int.toNat_natCast]; exact hbd) ?_
  rw [Int.toNat_natCast, hx]
  refine gW ?_
  refine g_ef rfl (ef_bl (rs := rc d[k]) hS (evcs_1 rfl (rc_len _)) fun g w1 hS => ?_)
  refine gW ?_
  refine g_ef rfl (ef_ap (n := ((d.take k).filter (·.has)).length) (m := 1) (ys := rc d[k]) hS 0 rfl rfl rfl (.inl ⟨40, .inr ⟨g, 0, 1, _, rfl, Nat.le_refl _, Nat.le_of_eq (by rw [rc_len]), by rw [List.drop_zero, List.take_of_length_le (Nat.le_of_eq (by rw [rc_len]))], (hS.b 1 rfl).r⟩⟩) (List.all_eq_true.2 (rc_one _)) (by omega) (by omega) fun v1 w1 hS => ?_)
  obtain ⟨a2, c2, rfl⟩ := hS.rlen 0 rfl
  have ets : fl rc ((d.take k).filter (·.has)) ++ rc d[k] = fl rc ((d.take (k + 1)).filter (·.has)) := by
   rw [e1, fl_app]
   simp [fl]
  have etl : ((d.take k).filter (·.has)).length + 1 = ((d.take (k + 1)).filter (·.has)).length := by rw [e1]; simp
  rw [ets, etl] at hS
  refine gW ?_
  refine g_rq rfl rfl (in64 (by simp only [arv]; omega)) ?_
  refine gW ?_
  rw [etl]
  exact g_l (k + 1, a2, c2) ⟨rfl, rfl, rfl, trivial⟩ ⟨hlt, hS.sel [0] rfl rfl⟩ (by simp only; omega)
theorem r_TipsSb {z : Sb} (hv : SbV z w) (hn : z.l.length < 2000000) (h : ∀ v' w', St w (fun _ => False) w' [rowI v' (tipR z.l)] → K v' w') : CK Tryz.prog 67 [dp z.b] w K := by
 refine call_k Tryz.func67 k67 Tryz.ntmps67 (Nat.le_of_ble_eq_true rfl) ?_
 refine gW ?_
 refine g_cl rfl rfl (r_AliveSb hv hn fun v1 w1 hS => ?_)
 unfold tipR at h
 have hfl := List.length_filter_le (·.has) z.l
 generalize z.l.filter (·.has) = A at *
 obtain ⟨a, c, rfl⟩ := hS.rlen 0 rfl
 replace hS := hS.nilrow 38 32
 refine gW ?_
 refine g_lp (ι := Nat × Option Addr × Nat) (fun x => [(3, .slice a A.length c), (4, .slice x.2.1 x.1 x.2.2), (5, .int .i64 x.1)]) (fun x w' => x.1 ≤ A.length ∧ St w (fun _ => False) w' [rowR (.slice a A.length c) A, row (.slice x.2.1 x.1 x.2.2) 38 32 x.1 (fl ic ((A.take x.1).map idR))]) (fun x => A.length - x.1) (0, none, 0)
  ⟨rfl, rfl, rfl, trivial⟩ ⟨Nat.zero_le _, hS⟩ ?_
 clear hS
 rintro ⟨k, a1, c1⟩ w1 ⟨hk, hS⟩
 dsimp only at hk hS ⊢
 refine gW ?_
 (generalize hlt : cmv _ _ _ = q; cases q <;> simp only [cmv, arv, Bool.not_eq_true', Bool.not_eq_false', decide_eq_true_eq, decide_eq_false_iff_not] at hlt <;> first | (exfalso; omega) | skip)
 ·have ek : k = A.length := by omega
  subst ek
  rw [List.take_length] at hS
  refine gW ?_
  refine g_cl rfl rfl (r_Set (d := A.map idR) (by rw [List.length_map]) (by omega) (Ow.rd (hS.ok 1 _ rfl)) fun v2 w2 h' => ?_)
  replace hS := hS.call0.2 _ _ h'
  refine gW ?_
  exact g_ret (q_1 rfl (h _ _ (hS.sel [2] rfl rfl)))
 have hlt : k < A.length := by omega
 obtain ⟨b, off, c2, l2, e, hcap, hbd, hb, hx, _⟩ := rdk (Ow.rd (hS.ok 0 _ rfl)) hlt
 cases e
 refine gW ?_
 refine g_rq rfl rfl ⟨by omega, by omega⟩ ?_
 refine gW ?_
 refine g_lmr rfl rfl hb (by rw [Int.toNat_natCast]; omega) ?_
 rw [Int.toNat_natCast, show (l2.drop (off + k * 52 + 20)).take 32 = ic (idR A[k]) from take20 hx]
 refine gW ?_
 refine g_ef rfl (ef_bl (rs := ic (idR A[k])) hS (evcs_1 rfl (ic_len _)) fun g w1 hS => ?_)
 refine gW ?_
 refine g_ef rfl (ef_ap (n := k) (m := 1) (ys := ic (idR A[k])) hS 1 rfl rfl rfl (.inl ⟨38, .inr ⟨g, 0, 1, _, rfl, Nat.le_refl _, Nat.le_of_eq (by rw [ic_len]), by rw [List.drop_zero, List.take_of_length_le (Nat.le_of_eq (by rw [ic_len]))], (hS.b 2 rfl).r⟩⟩) (List.all_eq_true.2 (ic_one _)) (by omega) (by omega) fun v1 w1 hS => ?_)
 obtain ⟨a2, c2, rfl⟩ := hS.rlen 1 rfl
 have ets : fl ic ((A.take k).map idR) ++ ic (idR A[k]) = fl ic ((A.take (k + 1)).map idR) := by
  rw [List.take_succ_eq_append_getElem hlt, List.map_append, fl_app]
  simp [fl]
 rw [ets] at hS
 refine gW ?_
 refine g_rq rfl rfl (in64 (by simp only [arv]; omega)) ?_
 refine gW ?_
 exact g_l (k + 1, a2, c2) ⟨rfl, rfl, rfl, trivial⟩ ⟨hlt, hS.sel [0, 1] rfl rfl⟩ (by simp only; omega)
end
theorem grd {v : Value} {E : TypeId} {d : List Rec} {w : World} {b off c k m : Nat} (h : Rd (.slice (some ⟨b, off, none⟩) d.length c) E 52 d.length (fl rc d) w) (hp : 0 < d.length) (hk : k + m ≤ d.length) : Rd (.slice (some ⟨b, off + k * 52, none⟩) m (c - k)) E 52 m (fl rc ((d.drop k).take m)) w := by
 ·obtain ⟨b', off', cap', l, e, hn, hl, hx, hb⟩ := Rd.block h hp
  cases e
  have h1 : c * 52 = k * 52 + (c - k) * 52 := by rw [← Nat.add_mul]; congr 1; omega
  have h2 : d.length * 52 = k * 52 + (d.length - k) * 52 := by rw [← Nat.add_mul]; congr 1; omega
  have h3 : m * 52 ≤ (d.length - k) * 52 := Nat.mul_le_mul_right 52 (by omega)
  refine .inr ⟨b, off + k * 52, c - k, l, rfl, by omega, by omega, ?_, hb⟩
  rw [← fl_take rc_len, ← fl_drop rc_len, ← hx, ← List.drop_drop, List.drop_take, List.take_take]
  congr 1
  omega
theorem qt_tl {P : Program} {T : TT} {w : World} {x y : Operand} {b o n c lo sz : Nat} {k : IntKind} (hx : ev T x = some (.slice (some ⟨b, o, none⟩) n c)) (hy : ev T y = some (.int k (lo : Int))) (hlo : lo ≤ n) (hc : n ≤ c) : Qt P (.sl x (some y) none none sz) T w (.slice (some (if c = lo then ⟨b, o, none⟩ else ⟨b, o + lo * sz, none⟩)) (n - lo) (c - lo)) := by
 have q := qt_sl (P := P) (w := w) (sz := sz) (lo := some y) (hi := none) (mx := none) (l := (lo : Int)) (h := (n : Int)) (m := (c : Int)) (a' := some (if c = lo then ⟨b, o, none⟩ else ⟨b, o + lo * sz, none⟩)) hx (by simp [bnd, hy]) rfl rfl ⟨by omega, by omega, by omega, by omega⟩ (by
  simp only [Int.toNat_natCast]
  split
  ·rfl
  ·rw [add_plain])
 simpa only [Int.toNat_natCast] using q
section
variable {w w0 : World} {S0 : Nat → Prop} {L B : List Res} {K : Value → World → Prop} {s : Bs} {E0 E1 : Nat}
theorem b_groups {a : Option Addr} {n c : Nat} (h : ∀ b w', St w (fun _ => False) w' [cel b [.slice a n c] 25] → K (.func (.func 53) ⟨[]⟩ ⟨[dp b]⟩) w') : CK Tryz.prog 23 [.slice a n c] w K := by
 have hS := St.nil w (fun _ => False)
 refine call_k Tryz.func23 k23 Tryz.ntmps23 (Nat.le_of_ble_eq_true rfl) ?_
 refine gW ?_
 refine g_ef rfl (ef_bx hS rfl fun b1 w1 hS => ?_)
 replace hS : St w (fun _ => False) w1 [cel b1 [.slice a n c] 25] := hS
 refine gW ?_
 exact g_ret (q_1 rfl (h _ _ hS))
theorem b_other {M : List Res} {b b2 off n c i : Nat} {s : Bs} (x : Rec) (hi : M[i]? = some (cel b [.slice (some ⟨b2, off, none⟩) n c] 25)) (hp : 0 < n) (hl : ∀ {L : List Res} {w : World}, St w0 S0 w L → ∃ l2, Blr w b2 l2 E0 ∧ l2[off + 18]? = some (sv s))
  (hS : St w0 S0 w M) (h : ∀ w', St w0 S0 w' M → K (.bool (decide (x.ref ≠ s))) w') : CK Tryz.prog 55 [.agg ⟨rc x⟩, dp b] w K := by
 refine call_k Tryz.func55 k55 Tryz.ntmps55 (Nat.le_of_ble_eq_true rfl) ?_
 refine gW ?_
 refine g_ef rfl (ef_bx hS rfl fun b3 w1 hS => ?_)
 replace hS : St w0 S0 w1 (M ++ [cel b3 (rc x) 40]) := hS
 have hi' : (M ++ [cel b3 (rc x) 40])[i]? = some (cel b [.slice (some ⟨b2, off, none⟩) n c] 25) := by rw [List.getElem?_append_left (List.getElem?_eq_some_iff.1 hi).1]; exact hi
 refine gW ?_
 refine g_dr mixed ?_
 replace hS := hS.drew
 refine gD ?_
 refine d_l1 rfl rfl rfl (hS.b M.length getL) (v := sv x.ref) (rc_18 x) ?_
 refine d_l1 rfl rfl rfl (hS.b i hi') rfl ?_
 refine gD ?_
 obtain ⟨l2, hb, hl⟩ := hl hS
 refine d_rq rfl rfl rfl ⟨by omega, by omega⟩ ?_
 refine gD ?_
 refine d_l1r rfl rfl rfl hb (v := sv s) (by rw [show off + Int.toNat 0 * 52 + 18 = off + 18 from rfl]; exact hl) ?_
 refine gD ?_
 refine d_fin ?_
 refine gW ?_
 have e : (!decide ((⟨x.ref.toArray⟩ : ByteArray).data.toList = (⟨s.toArray⟩ : ByteArray).data.toList)) = decide (x.ref ≠ s) := by rw [dec_svr, decide_not]
 rw [← e] at h
 exact g_ret (q_1 rfl (h _ hS.init))
set_option maxHeartbeats 4000000 in
theorem d_groups {ι : Type} {Ls : ι → List Res} {Inv : Nat → ι → Prop} {d : List Rec} {v : Value} {b l : Nat} (hn : d.length < 2000000)
  (hr : ∀ {L : List Res} {w : World}, St w0 S0 w L → Rd v E0 52 d.length (fl rc d) w) {σ0 : ι} (h0 : Inv 0 σ0) (hS : St w0 S0 w (Ls σ0 ++ [cel b [v] 25]))
  (hy : ∀ (k m : Nat) (s : Bs) (vg : Value) (X : Res) (σ : ι) (w : World), k < d.length → 0 < m → k + m ≤ d.length → grp (d.drop k) = (s, (d.drop k).take m) :: grp (d.drop (k + m)) → (∀ x ∈ (d.drop k).take m, x.ref = s) →
   (∀ {L : List Res} {w : World}, St w0 S0 w L → Rd vg E0 52 m (fl rc ((d.drop k).take m)) w) → Inv k σ → St w0 S0 w (Ls σ ++ [X]) →
   Yd Tryz.prog l [vg] w fun v w' => (v = .bool true ∧ ∃ σ', Inv (k + m) σ' ∧ St w0 S0 w' (Ls σ' ++ [X])) ∨ (v = .bool false ∧ K (.tuple ⟨[]⟩) w'))
  (he : ∀ σ w, Inv d.length σ → St w0 S0 w (Ls σ) → K (.tuple ⟨[]⟩) w) : CK Tryz.prog 53 [.func (.yield l) ⟨[]⟩ ⟨[]⟩, dp b] w K := by
 obtain ⟨a, c, rfl⟩ := (hr hS).form
 refine call_k Tryz.func53 k53 Tryz.ntmps53 (Nat.le_of_ble_eq_true rfl) ?_
 refine gW ?_
 refine g_lp (ι := ι × Nat × Option Addr) (fun _ => [(0, .func (.yield l) ⟨[]⟩ ⟨[]⟩), (1, dp b)])
  (fun x w => x.2.1 ≤ d.length ∧ (∀ b2 off, a = some ⟨b2, off, none⟩ → x.2.1 < d.length → x.2.2 = some ⟨b2, off + x.2.1 * 52, none⟩) ∧ Inv x.2.1 x.1 ∧ St w0 S0 w (Ls x.1 ++ [cel b [.slice x.2.2 (d.length - x.2.1) (c - x.2.1)] 25])) (fun x => d.length - x.2.1) (σ0, 0, a)
  ⟨rfl, rfl, trivial⟩ ⟨Nat.zero_le _, fun b2 off e _ => by rw [e]; simp, h0, hS⟩ ?_
 clear hS h0
 rintro ⟨σ, k, ak⟩ w ⟨hk, hak, hI, hS⟩
 dsimp only at hk hak hI hS ⊢
 refine gW ?_
 refine g_l1 rfl rfl (hS.b (Ls σ).length getL) rfl ?_
 refine gW ?_
 (generalize hlt : cmv _ _ _ = q; cases q <;> simp only [cmv, arv, Bool.not_eq_true', Bool.not_eq_false', decide_eq_true_eq, decide_eq_false_iff_not] at hlt <;> first | (exfalso; omega) | skip)
 ·have ek : k = d.length := by omega
  subst ek
  refine gW ?_
  exact q_n (he _ _ hI hS.init)
 have hlt : k < d.length := by omega
 have hp0 : 0 < d.length := by omega
 obtain ⟨b2, off, c2, l2, e, hcap, hbd, hb0, hx, hxj⟩ := rdk (hr hS) hlt
 cases e
 obtain rfl := hak b2 off rfl hlt
 clear hak
 have hlen : (d.drop k).length = d.length - k := List.length_drop
 have hd0 : (d.drop k)[0]'(by omega) = d[k] := by rw [List.getElem_drop]; rfl
 have hrk : ∀ {L : List Res} {w : World}, St w0 S0 w L → Rd (.slice (some ⟨b2, off + k * 52, none⟩) (d.length - k) (c - k)) E0 52 (d.drop k).length (fl rc (d.drop k)) w := fun hS => by
  have := grd (v := undef) (k := k) (m := d.length - k) (hr hS) hp0 (by omega)
  rw [List.take_of_length_le (by omega)] at this
  rw [hlen]
  exact this
 have hl18 : ∀ {L : List Res} {w : World}, St w0 S0 w L → ∃ l2, Blr w b2 l2 E0 ∧ l2[off + k * 52 + 18]? = some (sv d[k].ref) := fun hS => by
  obtain ⟨b3, off3, c3, l3, e3, _, _, hb3, _, hj⟩ := rdk (hr hS) hlt
  cases e3
  exact ⟨l3, hb3, by rw [hj 18 (by decide)]; exact rc_18 _⟩
 refine g_cT rfl ?_
 refine g_sk ?_
 refine g_bk ?_
 refine g_sq ?_
 refine g_sq2 ?_
 refine g_atx (ι := Nat) 2 (fun m => [(0, .func (.yield l) ⟨[]⟩ ⟨[]⟩), (1, dp b), (3, .int .i64 m)]) (fun m w => 0 < m ∧ k + m ≤ d.length ∧ grp (d.drop k) = (d[k].ref, (d.drop k).take m) :: grp (d.drop (k + m)) ∧ (∀ x ∈ (d.drop k).take m, x.ref = d[k].ref) ∧ St w0 S0 w (Ls σ ++ [cel b [.slice (some ⟨b2, off + k * 52, none⟩) (d.length - k) (c - k)] 25])) rfl ?_ ?_
 ·refine gW ?_
  refine g_l1 rfl rfl (hS.b (Ls σ).length getL) rfl ?_
  refine gW ?_
  refine g_cl rfl rfl (b_IdxG (d := d.drop k) (p := fun x => decide (x.ref ≠ d[k].ref)) (callFunc_of Tryz.func55 rfl rfl) (by omega) (fun x {_ _} hS h => b_other (M := Ls σ ++ [cel b [.slice (some ⟨b2, off + k * 52, none⟩) (d.length - k) (c - k)] 25]) x getL (by omega) hl18 hS h) hrk hS (fun hno w1 hS => ?_) (fun m hm hno hyes w1 hS => ?_))
  ·have hall : ∀ x ∈ d.drop k, x.ref = d[k].ref := fun x hx => by have := hno x hx; simpa using this
   refine gW ?_
   refine g_l1 rfl rfl (hS.b (Ls σ).length getL) rfl ?_
   refine gW ?_
   refine g_jx (d.length - k) ⟨rfl, rfl, rfl, trivial⟩ ⟨by omega, by omega, ?_, fun x hx => hall x (List.mem_of_mem_take hx), hS⟩
   have := grp_pre (l := d.drop k) (m := d.length - k) (s := d[k].ref) (by omega) (by omega) (fun x hx => hall x (List.mem_of_mem_take hx)) (fun h => by omega)
   rw [List.drop_drop] at this
   exact this
  ·have hm0 : 0 < m := Nat.pos_of_ne_zero fun e => by
    subst e
    rw [hd0] at hyes
    simp at hyes
   have hall : ∀ x ∈ (d.drop k).take m, x.ref = d[k].ref := fun x hx => by have := hno x hx; simpa using this
   refine gW ?_
   refine g_jx m ⟨rfl, rfl, rfl, trivial⟩ ⟨hm0, by omega, ?_, hall, hS⟩
   have := grp_pre (l := d.drop k) (m := m) (s := d[k].ref) hm0 (by omega) hall (fun h => by simpa using hyes)
   rw [List.drop_drop] at this
   exact this
 clear hS
 rintro m T w1 hT ⟨hm0, hkm, hgr, hall, hS⟩
 refine g_wkc hT ?_
 clear hT
 refine gW ?_
 refine g_l1 rfl rfl (hS.b (Ls σ).length getL) rfl ?_
 refine gW ?_
 refine g_qt rfl (qt_slh (h := m) rfl (fun h => by cases h) rfl (by omega) (by omega)) ?_
 refine g_ef rfl (ef_yd (vs := [.slice (some ⟨b2, off + k * 52, none⟩) m (c - k)]) rfl rfl ((hy k m d[k].ref _ _ σ _ hlt hm0 hkm hgr hall (fun hS => grd (v := undef) (hr hS) hp0 hkm) hI hS).mono ?_))
 rintro v w (⟨rfl, σ', hI', hS⟩ | ⟨rfl, hK⟩)
 ·refine gW ?_
  refine g_l1 rfl rfl (hS.b (Ls σ').length getL) rfl ?_
  refine gW ?_
  refine g_qt rfl (qt_tl (lo := m) rfl rfl (by omega) (by omega)) ?_
  refine g_ef0 rfl (ef_st hS (Ls σ').length getL rfl rfl rfl (Nat.le_of_ble_eq_true rfl) rfl fun w1 hS => ?_)
  rw [setL] at hS
  refine gW ?_
  refine g_l (σ', k + m, some (if c - k = m then ⟨b2, off + k * 52, none⟩ else ⟨b2, off + k * 52 + m * 52, none⟩)) ⟨rfl, rfl, trivial⟩ ⟨hkm, fun b3 off3 e h => ?_, hI', ?_⟩ (by simp only; omega)
  ·cases e
   dsimp only at h ⊢
   rw [if_neg (by omega), Nat.add_mul, Nat.add_assoc]
  ·dsimp only
   rw [← Nat.sub_sub, ← Nat.sub_sub]
   exact hS
 ·refine gW ?_
  exact g_ret (q_0 hK)
end
theorem blt_ble {a b : Bs} (h : blt a b = true) : ble a b = true := by
 unfold blt at h
 rw [Bool.not_eq_true'] at h
 have := ble_total a b
 rw [h, Bool.or_false] at this
 exact this
def lkT (Y : List Sb) (s : Bs) : Option Sb := Y.find? fun z => decide (z.s = s)
def ptS (o : Option Sb) : Value := .pointer (o.map fun z => ⟨z.b, 0, none⟩)
theorem sibT_lk (Y : List Sb) (s : Bs) : sibT (gps Y) s = ((lkT Y s).map (·.l)).getD [] := by
 unfold sibT gps lkT
 rw [List.find?_map]
 have e : ((fun g : Gp => decide (g.1 = s)) ∘ Sb.g) = fun z : Sb => decide (z.s = s) := rfl
 rw [e, Option.map_map]
 rfl
theorem gps_len (Y : List Sb) : (gps Y).length = Y.length := List.length_map _
theorem gps_pw {Y : List Sb} (h : okP (gps Y)) : Y.Pairwise fun x y => blt x.s y.s = true := by
 have := h.2
 unfold gps at this
 rw [List.pairwise_map] at this
 exact this
theorem gps_sib {Y : List Sb} (h : okP (gps Y)) {z : Sb} (hz : z ∈ Y) : sibB z.s z.l := h.1 z.g (List.mem_map.2 ⟨z, hz, rfl⟩)
theorem lk_in : ∀ {Y : List Sb} (_ : Y.Pairwise fun x y => blt x.s y.s = true) {j : Nat} (hj : j < Y.length), lkT Y Y[j].s = some Y[j]
 | z :: Y, h, 0, _ => by simp [lkT]
 | z :: Y, h, j + 1, hj => by
  have hj' : j < Y.length := by rw [List.length_cons] at hj; omega
  have h2 := List.pairwise_cons.1 h
  unfold lkT
  rw [List.getElem_cons_succ, List.find?_cons_of_neg (by rw [decide_eq_true_eq]; exact blt_ne (h2.1 _ (List.getElem_mem hj')))]
  exact lk_in h2.2 hj'
theorem lk_no {Y : List Sb} {s : Bs} (h : ∀ z ∈ Y, z.s ≠ s) : lkT Y s = none := List.find?_eq_none.2 fun z hz => by rw [decide_eq_true_eq]; exact h z hz
theorem lk_mem {Y : List Sb} {s : Bs} {z : Sb} (h : lkT Y s = some z) : z ∈ Y ∧ z.s = s := ⟨List.mem_of_find?_eq_some h, by have := List.find?_some h; rwa [decide_eq_true_eq] at this⟩
theorem at_find {Y : List Sb} {s : Bs} {i : Nat} (h : Y.Pairwise fun x y => blt x.s y.s = true) (h1 : ∀ j (hj : j < Y.length), j < i → Y[j].s ≠ s) (h2 : ∀ hi : i < Y.length, ¬ blt Y[i].s s = true) :
  (∀ hi : i < Y.length, Y[i].s = s → lkT Y s = some Y[i]) ∧ ((∀ hi : i < Y.length, Y[i].s ≠ s) → lkT Y s = none) := by
 refine ⟨fun hi e => ?_, fun hn => lk_no fun z hz e => ?_⟩
 ·rw [← e]; exact lk_in h hi
 ·obtain ⟨j, hj, rfl⟩ := List.mem_iff_getElem.1 hz
  rcases Nat.lt_trichotomy j i with hji | rfl | hji
  ·exact h1 j hj hji e
  ·exact hn hj e
  ·have := List.pairwise_iff_getElem.1 h i j (by omega) hj hji
   rw [e] at this
   exact h2 (by omega) this
theorem srt_gps {Y o : List Sb} (h : okP (gps Y)) (hp : o.Perm Y) : srt (fun s : Bs => s) (o.map (·.s)) = Y.map (·.s) :=
 (srt_unique (fun s : Bs => s) (fun _ _ h => h) (hp.symm.map _) (by
  rw [List.pairwise_map]
  exact (gps_pw h).imp blt_ble)).symm
def flt (Y : List Sb) : List Rec := (Y.map (·.l)).flatten
theorem flt_app (Y : List Sb) (z : Sb) : flt (Y ++ [z]) = flt Y ++ z.l := by simp [flt]
theorem flt_grp {Y : List Sb} {d : List Rec} (h : gps Y = grp d) : flt Y = d := by
 have e : flt Y = ((gps Y).map (·.2)).flatten := by unfold flt gps; rw [List.map_map]; rfl
 rw [e, h, grp_flat]
def tps (Y : List Sb) : List Id := (Y.map fun z => tipR z.l).flatten
theorem tps_app (Y : List Sb) (z : Sb) : tps (Y ++ [z]) = tps Y ++ tipR z.l := by simp [tps]
theorem flt_take (Y : List Sb) (k : Nat) : (flt (Y.take k)).length ≤ (flt Y).length := by
 conv => rhs; rw [← List.take_append_drop k Y]
 unfold flt
 rw [List.map_append, List.flatten_append, List.length_append]
 omega
theorem tps_len : ∀ Y : List Sb, (tps Y).length ≤ (flt Y).length
 | [] => Nat.le_refl _
 | z :: Y => by
  have h1 := tps_len Y
  have h2 := tipR_len z.l
  show (tipR z.l ++ tps Y).length ≤ (z.l ++ flt Y).length
  rw [List.length_append, List.length_append]
  omega
theorem flt_mem {Y : List Sb} {z : Sb} (h : z ∈ Y) : z.l.length ≤ (flt Y).length := by
 obtain ⟨a, b, rfl⟩ := List.append_of_mem h
 have : flt (a ++ z :: b) = flt a ++ (z.l ++ flt b) := by simp [flt]
 rw [this, List.length_append, List.length_append]
 omega
def lsY (Y : List Sb) : List (List Li) := Y.map fun z => nmL z.s (tipR z.l)
theorem lsY_lst (Y : List Sb) : jnL (lsY Y) = lstT (gps Y) := by unfold lstT lsY gps; rw [List.map_map]; rfl
theorem nmL_len' (s : Bs) (ids : List Id) : (nmL s ids).length ≤ ids.length := by
 unfold nmL
 rw [List.length_map]
 exact kset_len (fun x : Id => x.1) ids
theorem nmL_name {s : Bs} {ids : List Id} {x : Li} (h : x ∈ nmL s ids) : x.1.length ≤ s.length + 65 := by
 unfold nmL at h
 obtain ⟨y, _, rfl⟩ := List.mem_map.1 h
 unfold nm1
 dsimp only
 split
 ·unfold cfl
  rw [List.length_append, List.length_cons, hex_len, y.2]
  omega
 ·omega
theorem rd_at0 {l : List Value} {off n c : Nat} {d : List Li} (h : (l.drop off).take (n * 33) = fl lc d) (hn : d.length = n) {i : Nat} (hi : i < d.length) : l[off + i * 33]? = some (sv d[i].1) := by
 have h1 := rd_at lc_len h hn hi
 have h2 := congrArg (fun l : List Value => l[0]?) h1
 simp only [List.getElem?_take, List.getElem?_drop] at h2
 rw [if_pos (by decide)] at h2
 exact h2
theorem leq_ble (a b : Bs) : scv .leq (⟨a.toArray⟩ : ByteArray).data.toList (⟨b.toArray⟩ : ByteArray).data.toList = ble a b := by
 show (Op.bytesLess a b || decide (a = b)) = _
 rw [bless_eq]
 unfold ble
 rw [Bool.eq_iff_iff, Bool.or_eq_true, decide_eq_true_eq, decide_eq_true_eq, decide_eq_true_eq]
 constructor
 ·rintro (h | rfl)
  ·omega
  ·rw [cb_self]
   omega
 ·intro h
  by_cases e : Lib.compareBytes a b = 0
  ·exact .inr (cb_zero e)
  ·left
   omega
section
variable {w w0 : World} {S0 : Nat → Prop} {L B : List Res} {K : Value → World → Prop} {s : Bs} {E0 E1 : Nat}
set_option maxHeartbeats 4000000 in
theorem r_in {o : List Li} {x : Li} {v : Value} {n : Nat} (hd : o.length = n) (hn : n < 2000000) (hr : Ow v 59 33 n (fl lc o) w)
  (h : ∀ j v' w', (∀ i (hi : i < o.length), i < j → ble o[i].1 x.1 = true) → (∀ hj : j < o.length, ¬ ble o[j].1 x.1 = true) → St w (fun _ => False) w' [row v' 59 33 (insAt o j x).length (fl lc (insAt o j x))] → K v' w') : CK Tryz.prog 106 [v, .agg ⟨lc x⟩] w K := by
 have hS := St.nil w (fun _ => False)
 have hrr : ∀ {L : List Res} (w' : World), St w (fun _ => False) w' L → Rd v 59 33 n (fl lc o) w' := fun w' hS => hr.rd.same fun b hb => hS.fr.kept b (hr.rd.lt b hb) (fun h => h)
 obtain ⟨a, c, rfl⟩ := hr.rd.form
 have hle := hr.le
 have lx := lc_len x
 refine call_k Tryz.func106 k106 Tryz.ntmps106 (Nat.le_of_ble_eq_true rfl) ?_
 refine gW ?_
 refine g_ef rfl (ef_bx hS rfl fun b1 w1 hS => ?_)
 replace hS : St w (fun _ => False) w1 [cel b1 (lc x) 59] := hS
 refine gW ?_
 refine g_atx (ι := Nat) 2 (fun j => [(0, .slice a n c), (3, dp b1), (5, .int .i64 j)]) (fun j w' => j ≤ o.length ∧ (∀ i (hi : i < o.length), i < j → ble o[i].1 x.1 = true) ∧ (∀ hj : j < o.length, ¬ ble o[j].1 x.1 = true) ∧ St w (fun _ => False) w' [cel b1 (lc x) 59]) rfl ?_ ?_
 ·refine g_lp (ι := Nat) (fun j => [(0, .slice a n c), (3, dp b1), (5, .int .i64 j)]) (fun j w' => j ≤ o.length ∧ (∀ i (hi : i < o.length), i < j → ble o[i].1 x.1 = true) ∧ St w (fun _ => False) w' [cel b1 (lc x) 59]) (fun j => o.length - j) 0 ⟨rfl, rfl, rfl, trivial⟩ ⟨Nat.zero_le _, fun i _ h => absurd h (Nat.not_lt_zero i), hS⟩ ?_
  clear hS
  rintro j w1 ⟨hj, h1, hS⟩
  refine gW ?_
  refine g_dr mixed ?_
  replace hS := hS.drew
  refine gD ?_
  (generalize q1 : cmv _ _ _ = q; cases q <;> simp only [cmv, arv, Bool.not_eq_true', Bool.not_eq_false', decide_eq_true_eq, decide_eq_false_iff_not] at q1 <;> first | (exfalso; omega) | skip)
  ·refine gD ?_
   refine d_fin ?_
   refine gW ?_
   exact g_jx j ⟨rfl, rfl, rfl, trivial⟩ ⟨by omega, h1, fun hjo => absurd hjo (by omega), hS⟩
  ·have hjo : j < o.length := by omega
   obtain ⟨b2, off2, cap2, l2, e2, hcap2, hl2, hx2, hb2⟩ := Rd.block (hrr _ hS) (by omega)
   cases e2
   refine gD ?_
   refine d_rq rfl rfl rfl ⟨by omega, by omega⟩ ?_
   refine gD ?_
   refine d_l1r rfl rfl rfl hb2 (by rw [Int.toNat_natCast]; exact rd_at0 (c := c) hx2 hd hjo) ?_
   refine gD ?_
   refine d_l1 rfl rfl rfl (hS.b 0 rfl) (v := sv x.1) rfl ?_
   refine gD ?_
   refine d_fin ?_
   rw [leq_ble]
   cases hlc : ble o[j].1 x.1
   ·refine gW ?_
    exact g_jx j ⟨rfl, rfl, rfl, trivial⟩ ⟨by omega, h1, fun _ => by rw [hlc]; decide, hS⟩
   ·refine gW ?_
    refine g_rq rfl rfl (in64 (by simp only [arv]; omega)) ?_
    refine gW ?_
    refine g_l (j + 1) ⟨rfl, rfl, rfl, trivial⟩ ⟨by omega, fun i hi hij => ?_, hS⟩ (by omega)
    by_cases e : i = j
    ·subst e; exact hlc
    ·exact h1 i hi (by omega)
 ·clear hS
  rintro j T w1 hT ⟨hj, h1, h2, hS⟩
  refine g_wkc hT ?_
  have hOl := insAt_len o (j := j) x
  have hjn : j ≤ n := by omega
  refine gW ?_
  refine g_atx (ι := Value) 1 (fun v => [(0, .slice a n c), (5, .int .i64 j), (6, v)]) (fun v w' => St w (fun _ => False) w' [row v 59 33 (j + 1) (fl lc (o.take j ++ [x]))]) rfl ?_ ?_
  ·refine g_dr mixed ?_
   replace hS := hS.drew
   have htk : (fl lc o).take (j * 33) = fl lc (o.take j) := fl_take lc_len j o
   have hrd : ∀ {L : List Res} {w' : World}, St w (fun _ => False) w' L → Rd (.slice a j c) 59 33 j (fl lc (o.take j)) w' := fun hS => by
    have := Rd.hd (hrr _ hS) hjn
    rw [htk] at this
    exact this
   have hXR : ∀ {L : List Res} {w' : World}, St w (fun _ => False) w' (cel b1 (lc x) 59 :: L) → ∀ {P : Program} {T : TT} {y : Operand}, ev T y = some (dp b1) → Qt P (.ld y (some 33)) T w' (.agg ⟨lc x⟩) := fun {L} {w'} hS {P} {T} {y} hev => by
    have := qt_ldm (P := P) (n := 33) hev (hS.b 0 rfl) (Nat.le_of_eq lx.symm)
    rw [List.drop_zero, List.take_of_length_le (Nat.le_of_eq lx)] at this
    exact this
   replace hS := hS.nilrow 59 33
   have hone : (lc x).all (·.oneCell') = true := List.all_eq_true.2 (lc_one x)
   have hap : fl lc (o.take j) ++ lc x = fl lc (o.take j ++ [x]) := by rw [fl_app]; simp [fl]
   refine gD ?_
   refine d_qp rfl rfl rfl (fun w => qt_slh rfl hle.2 rfl hjn hle.1) ?_
   refine gD ?_
   refine d_qt rfl rfl rfl (hXR hS rfl) ?_
   refine d_a2 ?_ (d_a1 ?_)
   ·refine d_e rfl rfl ?_
    refine ef_ap (bytes := 48) (n := 0) (m := j) (ys := fl lc (o.take j)) hS 1 rfl rfl rfl (.inl ⟨_, hrd hS⟩) (fl_one lc_one _) (by omega) (by omega) fun v1 w2 hS => ?_
    rw [Nat.zero_add, List.nil_append] at hS
    refine ⟨rc_qt rfl rfl rfl rfl (hXR hS rfl) rc_0, ?_⟩
    refine d_e rfl rfl ?_
    refine ef_bl (rs := lc x) hS (evcs_1 rfl (lc_len _)) fun g w2 hS => ⟨rc_0, ?_⟩
    refine d_e rfl rfl ?_
    refine ef_ap (bytes := 48) (n := j) (m := 1) (ys := lc x) hS 1 rfl rfl rfl (.inl ⟨59, .inr ⟨g, 0, 1, _, rfl, Nat.le_refl _, Nat.le_of_eq (by rw [lc_len]), by rw [List.drop_zero, List.take_of_length_le (Nat.le_of_eq (lc_len _))], (hS.b 2 rfl).r⟩⟩) hone (by omega) (by omega) fun v2 w2 hS => ⟨rc_0, ?_⟩
    rw [hap] at hS
    refine d_e rfl rfl ?_
    refine ef_qt ((pev_ok rfl).2 _) ⟨rc_0, ?_⟩
    refine d_fin ?_
    exact g_jx v2 ⟨rfl, rfl, rfl, trivial⟩ (hS.sel [1] rfl rfl)
   ·refine d_e rfl rfl ?_
    refine ef_bl (rs := lc x) hS (evcs_1 rfl (lc_len _)) fun g w2 hS => ⟨rc_0, ?_⟩
    refine d_e rfl rfl ?_
    refine ef_ap (bytes := 48) (n := 0) (m := j) (ys := fl lc (o.take j)) hS 1 rfl rfl rfl (.inl ⟨_, hrd hS⟩) (fl_one lc_one _) (by omega) (by omega) fun v1 w2 hS => ⟨rc_0, ?_⟩
    rw [Nat.zero_add, List.nil_append] at hS
    refine d_e rfl rfl ?_
    refine ef_ap (bytes := 48) (n := j) (m := 1) (ys := lc x) hS 1 rfl rfl rfl (.inl ⟨59, .inr ⟨g, 0, 1, _, rfl, Nat.le_refl _, Nat.le_of_eq (by rw [lc_len]), by rw [List.drop_zero, List.take_of_length_le (Nat.le_of_eq (lc_len _))], (hS.b 2 rfl).r⟩⟩) hone (by omega) (by omega) fun v2 w2 hS => ⟨rc_0, ?_⟩
    rw [hap] at hS
    refine d_e rfl rfl ?_
    refine ef_qt ((pev_ok rfl).2 _) ⟨rc_0, ?_⟩
    refine d_fin ?_
    exact g_jx v2 ⟨rfl, rfl, rfl, trivial⟩ (hS.sel [1] rfl rfl)
  ·clear hS
   rintro v T w1 hT hS
   refine g_wkc hT ?_
   obtain ⟨a', hrd, hq⟩ := sl_drop (hrr _ hS) hle.1 hjn
   rw [fl_drop lc_len] at hrd
   refine gW ?_
   refine g_qt rfl (hq _ rfl rfl) ?_
   refine g_ef rfl (ef_ap (bytes := 48) (n := j + 1) (m := n - j) (ys := fl lc (o.drop j)) hS 0 rfl rfl rfl (.inl ⟨_, hrd⟩) (fl_one lc_one _) (by omega) (by omega) fun v2 w2 hS => ?_)
   have e3 : fl lc (o.take j ++ [x]) ++ fl lc (o.drop j) = fl lc (insAt o j x) := by
    rw [← fl_app]
    congr 1
    unfold insAt
    simp
   rw [e3, show j + 1 + (n - j) = (insAt o j x).length by rw [hOl]; omega] at hS
   refine gW ?_
   exact g_ret (q_1 rfl (h j _ _ h1 h2 hS))
end
end Go.Proofs.YtfffdhafbbbpcaaGreatDoor
