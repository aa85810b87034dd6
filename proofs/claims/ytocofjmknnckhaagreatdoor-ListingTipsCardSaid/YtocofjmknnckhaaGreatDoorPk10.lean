/- Qe0 Qg1 Qf1 Qf2 Qe1 Qe2 Qe3 Qe4 -/
import Derived.Test.YtocofjmknnckhaaGreatDoorPk9
import Derived.Test.YtocofjmknnckhaaGreatDoorChecked
import Derived.KernelRfl
set_option linter.unusedSimpArgs false
set_option linter.unusedVariables false
namespace Go.Proofs.YtocofjmknnckhaaGreatDoor
open Go.En
def m12 : MC := .sq (.rg [.c 2 (.pointer none), .c 3 (.int .i64 0)]) (.sq (.sq (.rg [.t 4 0, .o 5 (.cm .lss (.tmp 4) (.const (.int .i64 0))), .t 6 5, .q 7 6 false (.mv (.tmp 0)), .q 8 6 false (.cm .gtr (.tmp 7) (.const (.int .i64 1073741824))), .o 9 (.pk (.tmp 6) (.const (.bool true)) (.tmp 8))]) (.cd (.tmp 9) (.sq (.rg [.c 2 (.pointer none), .c 3 (.int .i64 2)]) (.rt)) (.sk))) (.sq (.rg [.t 10 0, .o 11 (.mkm), .o 12 (.bd [(2, .int .i64 0), (1, .map none)] [(0, 1, .tmp 10), (2, 1, .tmp 11)]), .o 13 (.bx 65 (.tmp 12)), .t 2 13, .c 3 (.int .i64 0)]) (.rt)))
theorem k12 : Tryz.f12.body.any (fun c => chkC Tryz.prog c m12 && allD (dlt 14) m12) = true := by kernel_rfl
def m14 : MC := .sq (.rg [.o 4 (.al [(32, .int .u8 0)] 46), .c 5 (.int .i64 0)]) (.sq (.sq (.rg [.t 10 0, .o 11 (.cl 27 [.tmp 10])]) (.cd (.tmp 11) (.sq (.rg [.o 12 (.bd [(32, .int .u8 0)] []), .e (.st (.tmp 4) (.tmp 12) 32), .c 5 (.int .i64 1)]) (.rt)) (.sk))) (.sq (.dr [.t 13 1, .o 14 (.bs (.tmp 13)), .t 15 1, .o 16 (.cl 28 [.tmp 15]), .o 17 (.bd [(1, .string ⟨#[]⟩), (1, .int .i64 0)] [(0, 1, .tmp 14), (1, 1, .tmp 16)]), .o 6 (.al [(1, .string ⟨#[]⟩), (1, .int .i64 0)] 72), .e (.st (.tmp 6) (.tmp 17) 2)] [0, 1, 0, 4, 15, 0, 63] (.q 0 (.q 1 (.q 2 (.alt [.e 3 [1] (.q 4 (.e 5 [1] (.e 6 [] (.fin)))), .e 5 [1] (.e 3 [1] (.q 4 (.e 6 [] (.fin))))]))))) (.sq (.sq (.rg [.o 18 (.fa (.tmp 6) 1), .o 19 (.ld (.tmp 18) none), .o 20 (.cm .eql (.tmp 19) (.const (.int .i64 0)))]) (.cd (.tmp 20) (.sq (.rg [.o 21 (.bd [(32, .int .u8 0)] []), .e (.st (.tmp 4) (.tmp 21) 32), .c 5 (.int .i64 70)]) (.rt)) (.sk))) (.sq (.rg [.t 22 1, .o 23 (.bl 40 1 [.tmp 22]), .o 24 (.cl 29 [.tmp 23]), .o 7 (.al [(32, .int .u8 0)] 46), .e (.st (.tmp 7) (.tmp 24) 32)]) (.sq (.dr [.t 26 0, .o 27 (.nc (.tmp 26)), .o 28 (.fa (.tmp 27) 2), .o 29 (.ld (.tmp 28) none), .o 30 (.ld (.tmp 7) (some 32)), .o 31 (.mlk 46 true [(1, .string ⟨#[]⟩), (1, .int .i64 0)] true (.tmp 29) (.tmp 30)), .t 25 31, .o 32 (.ex (.tmp 25) 0), .o 33 (.ex (.tmp 25) 1), .o 8 (.al [(1, .string ⟨#[]⟩), (1, .int .i64 0)] 72), .e (.st (.tmp 8) (.tmp 32) 2), .t 9 33] [0, 1, 3, 7, 0, 31, 63, 127, 127, 0, 767, 2047] (.q 0 (.q 1 (.q 2 (.q 3 (.q 4 (.alt [.e 5 [] (.q 6 (.q 7 (.q 8 (.e 9 [] (.e 10 [] (.q 11 (.fin))))))), .e 9 [3, 4] (.e 5 [] (.q 6 (.q 7 (.q 8 (.e 10 [] (.q 11 (.fin)))))))]))))))) (.sq (.bk 0 (.sq (.rg [.t 35 9, .t 36 35, .q 37 36 true (.ld (.tmp 8) (some 2)), .q 38 36 true (.ld (.tmp 6) (some 2)), .q 39 36 true (.eqd .neq ([.s] ++ [.i .i64]) (.tmp 37) (.tmp 38)), .o 40 (.pk (.tmp 36) (.tmp 39) (.const (.bool false))), .t 34 40]) (.cd (.tmp 34) (.sq (.rg [.o 41 (.bd [(32, .int .u8 0)] []), .e (.st (.tmp 4) (.tmp 41) 32), .c 5 (.int .i64 80)]) (.rt)) (.sq (.rg [.t 43 9, .t 42 43]) (.cd (.tmp 42) (.sq (.rg [.o 44 (.ld (.tmp 7) (some 32)), .e (.st (.tmp 4) (.tmp 44) 32), .c 5 (.int .i64 0)]) (.rt)) (.sq (.dr [.t 46 1, .o 47 (.ln false (.tmp 46)), .t 48 0, .o 49 (.nc (.tmp 48)), .o 50 (.fa (.tmp 49) 0), .o 51 (.ld (.tmp 50) none), .t 52 0, .o 53 (.nc (.tmp 52)), .o 54 (.fa (.tmp 53) 1), .o 55 (.ld (.tmp 54) none), .o 56 (.ar .sub .i64 (.tmp 51) (.tmp 55) true), .o 57 (.cm .gtr (.tmp 47) (.tmp 56)), .t 45 57] [0, 1, 0, 4, 12, 28, 0, 64, 192, 448, 1020, 2047, 4095] (.q 0 (.q 1 (.q 2 (.q 3 (.q 4 (.q 5 (.q 6 (.q 7 (.q 8 (.q 9 (.q 10 (.q 11 (.q 12 (.fin))))))))))))))) (.cd (.tmp 45) (.sq (.rg [.o 58 (.bd [(32, .int .u8 0)] []), .e (.st (.tmp 4) (.tmp 58) 32), .c 5 (.int .i64 81)]) (.rt)) (.sk)))))))) (.sq (.dr [.t 59 0, .o 60 (.nc (.tmp 59)), .o 61 (.fa (.tmp 60) 2), .o 62 (.ld (.tmp 61) none), .o 63 (.ld (.tmp 7) (some 32)), .o 64 (.ld (.tmp 6) (some 2)), .e (.mup 46 (.tmp 62) (.tmp 63) (.tmp 64))] [0, 1, 3, 7, 0, 0, 63] (.q 0 (.q 1 (.q 2 (.q 3 (.q 4 (.q 5 (.e 6 [] (.fin))))))))) (.sq (.rg [.t 65 0, .o 66 (.nc (.tmp 65)), .o 67 (.fa (.tmp 66) 1), .o 68 (.ld (.tmp 67) none), .t 69 1, .o 70 (.ln false (.tmp 69)), .o 71 (.ar .add .i64 (.tmp 68) (.tmp 70) true), .o 72 (.nc (.tmp 65)), .o 73 (.fa (.tmp 72) 1), .e (.st (.tmp 73) (.tmp 71) 1)]) (.sq (.rg [.o 74 (.ld (.tmp 7) (some 32)), .e (.st (.tmp 4) (.tmp 74) 32), .c 5 (.int .i64 0)]) (.rt))))))))))
theorem k14 : Tryz.f14.body.any (fun c => chkC Tryz.prog c m14 && allD (dlt 75) m14) = true := by kernel_rfl
def m27 : MC := .sq (.rg [.c 2 (.bool false)]) (.sq (.rg [.t 3 0, .o 4 (.pn .eql (.tmp 3)), .t 5 4, .q 6 5 false (.mv (.tmp 0)), .q 7 5 false (.nc (.tmp 6)), .q 8 5 false (.fa (.tmp 7) 2), .q 9 5 false (.ld (.tmp 8) none), .q 10 5 false (.mpn .eql (.tmp 9)), .o 11 (.pk (.tmp 5) (.const (.bool true)) (.tmp 10)), .t 2 11]) (.rt))
theorem k27 : Tryz.f27.body.any (fun c => chkC Tryz.prog c m27 && allD (dlt 12) m27) = true := by kernel_rfl
def m138 : MC := .sq (.rg [.o 3 (.bx 46 (.tmp 1)), .c 4 (.slice none 0 0), .c 5 (.bool false)]) (.sq (.sq (.rg [.t 8 0, .o 9 (.cl 27 [.tmp 8])]) (.cd (.tmp 9) (.sq (.rg [.c 4 (.slice none 0 0), .c 5 (.bool false)]) (.rt)) (.sk))) (.sq (.dr [.t 11 0, .o 12 (.nc (.tmp 11)), .o 13 (.fa (.tmp 12) 2), .o 14 (.ld (.tmp 13) none), .o 15 (.ld (.tmp 3) (some 32)), .o 16 (.mlk 46 true [(1, .string ⟨#[]⟩), (1, .int .i64 0)] true (.tmp 14) (.tmp 15)), .t 10 16, .o 17 (.ex (.tmp 10) 0), .o 18 (.ex (.tmp 10) 1), .o 6 (.al [(1, .string ⟨#[]⟩), (1, .int .i64 0)] 72), .e (.st (.tmp 6) (.tmp 17) 2), .t 7 18] [0, 1, 3, 7, 0, 31, 63, 127, 127, 0, 767, 2047] (.q 0 (.q 1 (.q 2 (.q 3 (.q 4 (.alt [.e 5 [] (.q 6 (.q 7 (.q 8 (.e 9 [] (.e 10 [] (.q 11 (.fin))))))), .e 9 [3, 4] (.e 5 [] (.q 6 (.q 7 (.q 8 (.e 10 [] (.q 11 (.fin)))))))]))))))) (.sq (.rg [.o 19 (.fa (.tmp 6) 0), .o 20 (.ld (.tmp 19) none), .o 21 (.sb 5 (.tmp 20)), .o 22 (.cl 170 [.tmp 21]), .t 23 7, .t 4 22, .t 5 23]) (.rt))))
theorem k138 : Tryz.f138.body.any (fun c => chkC Tryz.prog c m138 && allD (dlt 24) m138) = true := by kernel_rfl
def m140 : MC := .sq (.rg [.o 3 (.bx 46 (.tmp 1)), .c 4 (.int .i64 0)]) (.sq (.sq (.rg [.t 5 0, .o 6 (.cl 27 [.tmp 5])]) (.cd (.tmp 6) (.sq (.rg [.c 4 (.int .i64 0)]) (.rt)) (.sk))) (.sq (.dr [.t 7 0, .o 8 (.nc (.tmp 7)), .o 9 (.fa (.tmp 8) 2), .o 10 (.ld (.tmp 9) none), .o 11 (.ld (.tmp 3) (some 32)), .o 12 (.mlk 46 true [(1, .string ⟨#[]⟩), (1, .int .i64 0)] false (.tmp 10) (.tmp 11)), .o 13 (.fl (.tmp 12) 1 none), .t 4 13] [0, 1, 3, 7, 0, 31, 63, 127] (.q 0 (.q 1 (.q 2 (.q 3 (.q 4 (.e 5 [] (.q 6 (.q 7 (.fin)))))))))) (.rt)))
theorem k140 : Tryz.f140.body.any (fun c => chkC Tryz.prog c m140 && allD (dlt 14) m140) = true := by kernel_rfl
def m77 : MC := .sq (.rg [.o 3 (.bx 46 (.tmp 1)), .o 4 (.al [(1, .int .i64 0), (2, .slice none 0 0), (32, .int .u8 0), (1, .slice none 0 0), (1, .int .i64 0), (32, .int .u8 0), (1, .string ⟨#[]⟩)] 79), .c 5 (.bool false)]) (.sq (.rg [.t 11 0, .o 12 (.ld (.tmp 3) (some 32)), .o 13 (.cl 138 [.tmp 11, .tmp 12]), .t 10 13, .o 14 (.ex (.tmp 10) 0), .o 15 (.ex (.tmp 10) 1), .t 6 14, .t 7 15]) (.sq (.sq (.rg [.t 16 7, .o 17 (.nt (.tmp 16))]) (.cd (.tmp 17) (.sq (.rg [.o 18 (.bd [(1, .int .i64 0), (2, .slice none 0 0), (32, .int .u8 0), (1, .slice none 0 0), (1, .int .i64 0), (32, .int .u8 0), (1, .string ⟨#[]⟩)] []), .e (.st (.tmp 4) (.tmp 18) 70), .c 5 (.bool false)]) (.rt)) (.sk))) (.sq (.rg [.t 20 6, .o 21 (.cl 53 [.tmp 20]), .t 19 21, .o 22 (.ex (.tmp 19) 0), .o 23 (.ex (.tmp 19) 1), .o 8 (.al [(1, .int .i64 0), (2, .slice none 0 0), (32, .int .u8 0), (1, .slice none 0 0), (1, .int .i64 0), (32, .int .u8 0), (1, .string ⟨#[]⟩)] 79), .e (.st (.tmp 8) (.tmp 22) 70), .t 9 23]) (.sq (.rg [.o 24 (.ld (.tmp 8) (some 70)), .t 25 9, .o 26 (.cm .eql (.tmp 25) (.const (.int .i64 0))), .e (.st (.tmp 4) (.tmp 24) 70), .t 5 26]) (.rt)))))
theorem k77 : Tryz.f77.body.any (fun c => chkC Tryz.prog c m77 && allD (dlt 27) m77) = true := by kernel_rfl
def m170 : MC := .sq (.rg [.c 2 (.slice none 0 0)]) (.sq (.sq (.rg [.t 3 0, .o 4 (.sn .eql (.tmp 3))]) (.cd (.tmp 4) (.sq (.rg [.c 2 (.slice none 0 0)]) (.rt)) (.sk))) (.sq (.rg [.o 5 (.bl 5 1 []), .t 6 0, .o 7 (.ap 5 1 1 [(1, .int .u8 0)] (.tmp 5) (.tmp 6)), .t 2 7]) (.rt)))
theorem k170 : Tryz.f170.body.any (fun c => chkC Tryz.prog c m170 && allD (dlt 8) m170) = true := by kernel_rfl
def m13 : MC := .sq (.rg [.c 2 (.pointer none), .c 3 (.int .i64 0)]) (.sq (.sq (.rg [.t 4 0, .o 5 (.cm .lss (.tmp 4) (.const (.int .i64 0))), .t 6 5, .q 7 6 false (.mv (.tmp 0)), .q 8 6 false (.cm .gtr (.tmp 7) (.const (.int .i64 1073741824))), .o 9 (.pk (.tmp 6) (.const (.bool true)) (.tmp 8))]) (.cd (.tmp 9) (.sq (.rg [.c 2 (.pointer none), .c 3 (.int .i64 2)]) (.rt)) (.sk))) (.sq (.rg [.t 10 0, .o 11 (.bd [(1, .int .i64 0), (1, .slice none 0 0)] [(0, 1, .tmp 10)]), .o 12 (.bx 68 (.tmp 11)), .t 2 12, .c 3 (.int .i64 0)]) (.rt)))
theorem k13 : Tryz.f13.body.any (fun c => chkC Tryz.prog c m13 && allD (dlt 13) m13) = true := by kernel_rfl
def m15 : MC := .sq (.rg [.o 4 (.al [(32, .int .u8 0)] 46), .c 5 (.int .i64 0)]) (.sq (.rg [.t 12 1, .o 13 (.cl 30 [.tmp 12]), .t 11 13, .o 14 (.ex (.tmp 11) 0), .o 15 (.ex (.tmp 11) 1), .o 6 (.al [(1, .int .i64 0), (2, .slice none 0 0), (32, .int .u8 0), (1, .slice none 0 0), (1, .int .i64 0), (32, .int .u8 0), (1, .string ⟨#[]⟩)] 79), .e (.st (.tmp 6) (.tmp 14) 70), .t 7 15]) (.sq (.sq (.rg [.t 16 7, .o 17 (.cm .neq (.tmp 16) (.const (.int .i64 0)))]) (.cd (.tmp 17) (.sq (.rg [.o 18 (.bd [(32, .int .u8 0)] []), .e (.st (.tmp 4) (.tmp 18) 32), .c 5 (.int .i64 70)]) (.rt)) (.sk))) (.sq (.rg [.t 19 1, .o 20 (.cl 31 [.tmp 19]), .o 8 (.al [(32, .int .u8 0)] 46), .e (.st (.tmp 8) (.tmp 20) 32)]) (.sq (.rg [.t 22 0, .o 23 (.ld (.tmp 8) (some 32)), .o 24 (.cl 32 [.tmp 22, .tmp 23]), .t 21 24, .o 25 (.ex (.tmp 21) 0), .o 26 (.ex (.tmp 21) 1), .t 9 25, .t 10 26]) (.sq (.sq (.rg [.t 27 10, .t 28 27, .q 29 28 true (.mv (.tmp 9)), .q 30 28 true (.bs (.tmp 29)), .q 31 28 true (.mv (.tmp 1)), .q 32 28 true (.bs (.tmp 31)), .q 33 28 true (.se .neq (.tmp 30) (.tmp 32)), .o 34 (.pk (.tmp 28) (.tmp 33) (.const (.bool false)))]) (.cd (.tmp 34) (.sq (.rg [.o 35 (.bd [(32, .int .u8 0)] []), .e (.st (.tmp 4) (.tmp 35) 32), .c 5 (.int .i64 80)]) (.rt)) (.sk))) (.sq (.sq (.rg [.t 36 10]) (.cd (.tmp 36) (.sq (.rg [.o 37 (.ld (.tmp 8) (some 32)), .e (.st (.tmp 4) (.tmp 37) 32), .c 5 (.int .i64 0)]) (.rt)) (.sk))) (.sq (.sq (.dr [.t 38 0, .o 39 (.cl 33 [.tmp 38]), .t 40 1, .o 41 (.ln false (.tmp 40)), .o 42 (.ar .add .i64 (.tmp 39) (.tmp 41) true), .t 43 0, .o 44 (.nc (.tmp 43)), .o 45 (.fa (.tmp 44) 0), .o 46 (.ld (.tmp 45) none), .o 47 (.cm .gtr (.tmp 42) (.tmp 46))] [0, 1, 0, 4, 15, 0, 32, 96, 224, 511] (.q 0 (.q 2 (.q 3 (.q 5 (.q 6 (.q 7 (.q 8 (.e 1 [8] (.q 4 (.q 9 (.fin)))))))))))) (.cd (.tmp 47) (.sq (.rg [.o 48 (.bd [(32, .int .u8 0)] []), .e (.st (.tmp 4) (.tmp 48) 32), .c 5 (.int .i64 81)]) (.rt)) (.sk))) (.sq (.dr [.t 49 0, .t 50 0, .o 51 (.nc (.tmp 50)), .o 52 (.fa (.tmp 51) 1), .o 53 (.ld (.tmp 52) none), .o 54 (.ld (.tmp 8) (some 32)), .t 55 1, .o 56 (.cl 34 [.tmp 55]), .o 57 (.bd [(32, .int .u8 0), (1, .slice none 0 0)] [(0, 32, .tmp 54), (32, 1, .tmp 56)]), .o 58 (.bl 88 33 [.tmp 57]), .o 59 (.ap 88 33 56 [(32, .int .u8 0), (1, .slice none 0 0)] (.tmp 53) (.tmp 58)), .o 60 (.nc (.tmp 49)), .o 61 (.fa (.tmp 60) 1), .e (.st (.tmp 61) (.tmp 59) 1)] [0, 0, 2, 6, 14, 0, 0, 64, 224, 480, 1022, 2047, 4095, 8191] (.q 0 (.q 1 (.q 2 (.q 3 (.q 4 (.q 5 (.q 6 (.e 7 [4, 5] (.q 8 (.e 9 [4] (.e 10 [] (.q 11 (.q 12 (.e 13 [] (.fin)))))))))))))))) (.sq (.rg [.o 62 (.ld (.tmp 8) (some 32)), .e (.st (.tmp 4) (.tmp 62) 32), .c 5 (.int .i64 0)]) (.rt))))))))))
theorem k15 : Tryz.f15.body.any (fun c => chkC Tryz.prog c m15 && allD (dlt 63) m15) = true := by kernel_rfl
def m32 : MC := .sq (.rg [.o 3 (.bx 46 (.tmp 1)), .c 4 (.slice none 0 0), .c 5 (.bool false)]) (.sq (.sq (.rg [.c 6 (.int .i64 0)]) (.bk 0 (.lp (.sq (.sq (.rg [.t 7 6, .t 8 0, .o 9 (.nc (.tmp 8)), .o 10 (.fa (.tmp 9) 1), .o 11 (.ld (.tmp 10) none), .o 12 (.ln false (.tmp 11)), .o 13 (.cm .lss (.tmp 7) (.tmp 12))]) (.cd (.tmp 13) (.sk) (.xt 0))) (.sq (.bk 1 (.sq (.dr [.t 16 0, .o 17 (.nc (.tmp 16)), .o 18 (.fa (.tmp 17) 1), .o 19 (.ld (.tmp 18) none), .t 20 6, .o 21 (.ias (.tmp 19) (.tmp 20) 33), .o 22 (.fa (.tmp 21) 0), .o 23 (.ld (.tmp 22) (some 32)), .o 24 (.ld (.tmp 3) (some 32)), .o 25 (.aq .eql 32 (.tmp 23) (.tmp 24))] [0, 1, 3, 7, 0, 31, 63, 127, 0, 511] (.q 0 (.q 1 (.q 2 (.q 3 (.q 4 (.q 5 (.q 6 (.q 7 (.q 8 (.q 9 (.fin)))))))))))) (.cd (.tmp 25) (.sq (.rg [.t 26 0, .o 27 (.nc (.tmp 26)), .o 28 (.fa (.tmp 27) 1), .o 29 (.ld (.tmp 28) none), .t 30 6, .o 31 (.ias (.tmp 29) (.tmp 30) 33), .o 32 (.fa (.tmp 31) 32), .o 33 (.ld (.tmp 32) none), .t 4 33, .c 5 (.bool true)]) (.rt)) (.sk)))) (.rg [.t 14 6, .o 15 (.ar .add .i64 (.tmp 14) (.const (.int .i64 1)) true), .t 6 15])))))) (.sq (.rg [.c 4 (.slice none 0 0), .c 5 (.bool false)]) (.rt)))
theorem k32 : Tryz.f32.body.any (fun c => chkC Tryz.prog c m32 && allD (dlt 34) m32) = true := by kernel_rfl
def m33 : MC := .sq (.rg [.c 2 (.int .i64 0)]) (.sq (.rg [.c 3 (.int .i64 0)]) (.sq (.sq (.rg [.c 4 (.int .i64 0)]) (.bk 0 (.lp (.sq (.sq (.rg [.t 5 4, .t 6 0, .o 7 (.nc (.tmp 6)), .o 8 (.fa (.tmp 7) 1), .o 9 (.ld (.tmp 8) none), .o 10 (.ln false (.tmp 9)), .o 11 (.cm .lss (.tmp 5) (.tmp 10))]) (.cd (.tmp 11) (.sk) (.xt 0))) (.sq (.bk 1 (.rg [.t 14 3, .t 15 0, .o 16 (.nc (.tmp 15)), .o 17 (.fa (.tmp 16) 1), .o 18 (.ld (.tmp 17) none), .t 19 4, .o 20 (.ias (.tmp 18) (.tmp 19) 33), .o 21 (.fa (.tmp 20) 32), .o 22 (.ld (.tmp 21) none), .o 23 (.ln false (.tmp 22)), .o 24 (.ar .add .i64 (.tmp 14) (.tmp 23) true), .t 3 24])) (.rg [.t 12 4, .o 13 (.ar .add .i64 (.tmp 12) (.const (.int .i64 1)) true), .t 4 13])))))) (.sq (.rg [.t 25 3, .t 2 25]) (.rt))))
theorem k33 : Tryz.f33.body.any (fun c => chkC Tryz.prog c m33 && allD (dlt 26) m33) = true := by kernel_rfl
def m172 : MC := .sq (.rg [.o 3 (.bx 46 (.tmp 1)), .o 4 (.al [(1, .int .i64 0), (2, .slice none 0 0), (32, .int .u8 0), (1, .slice none 0 0), (1, .int .i64 0), (32, .int .u8 0), (1, .string ⟨#[]⟩)] 79), .c 5 (.bool false)]) (.sq (.rg [.t 11 0, .o 12 (.ld (.tmp 3) (some 32)), .o 13 (.cl 32 [.tmp 11, .tmp 12]), .t 10 13, .o 14 (.ex (.tmp 10) 0), .o 15 (.ex (.tmp 10) 1), .t 6 14, .t 7 15]) (.sq (.sq (.rg [.t 16 7, .o 17 (.nt (.tmp 16))]) (.cd (.tmp 17) (.sq (.rg [.o 18 (.bd [(1, .int .i64 0), (2, .slice none 0 0), (32, .int .u8 0), (1, .slice none 0 0), (1, .int .i64 0), (32, .int .u8 0), (1, .string ⟨#[]⟩)] []), .e (.st (.tmp 4) (.tmp 18) 70), .c 5 (.bool false)]) (.rt)) (.sk))) (.sq (.rg [.t 20 6, .o 21 (.cl 30 [.tmp 20]), .t 19 21, .o 22 (.ex (.tmp 19) 0), .o 23 (.ex (.tmp 19) 1), .o 8 (.al [(1, .int .i64 0), (2, .slice none 0 0), (32, .int .u8 0), (1, .slice none 0 0), (1, .int .i64 0), (32, .int .u8 0), (1, .string ⟨#[]⟩)] 79), .e (.st (.tmp 8) (.tmp 22) 70), .t 9 23]) (.sq (.rg [.o 24 (.ld (.tmp 8) (some 70)), .e (.st (.tmp 4) (.tmp 24) 70), .c 5 (.bool true)]) (.rt)))))
theorem k172 : Tryz.f172.body.any (fun c => chkC Tryz.prog c m172 && allD (dlt 25) m172) = true := by kernel_rfl
def m183 : MC := .sq (.rg [.o 3 (.bx 46 (.tmp 1)), .c 4 (.int .i64 0)]) (.sq (.rg [.t 8 0, .o 9 (.ld (.tmp 3) (some 32)), .o 10 (.cl 172 [.tmp 8, .tmp 9]), .t 7 10, .o 11 (.ex (.tmp 7) 0), .o 12 (.ex (.tmp 7) 1), .o 5 (.al [(1, .int .i64 0), (2, .slice none 0 0), (32, .int .u8 0), (1, .slice none 0 0), (1, .int .i64 0), (32, .int .u8 0), (1, .string ⟨#[]⟩)] 79), .e (.st (.tmp 5) (.tmp 11) 70), .t 6 12]) (.sq (.rg [.o 13 (.fa (.tmp 5) 0), .o 14 (.ld (.tmp 13) none), .t 4 14]) (.rt)))
theorem k183 : Tryz.f183.body.any (fun c => chkC Tryz.prog c m183 && allD (dlt 15) m183) = true := by kernel_rfl
abbrev Sto := List (Id × Bs)
def getS : Sto → Id → Option Bs
 | [], _ => none
 | (i, b) :: l, x => if i = x then some b else getS l x
def sizeS (l : Sto) : Nat := (l.map fun p => p.2.length).sum
noncomputable def kindS (l : Sto) (x : Id) : Nat := match getS l x with | some b => (obP b).kind | none => 0
noncomputable def parsS (l : Sto) (x : Id) : List Id := match getS l x with
 | some b => if (obP b).kind = 3 then (obP b).pars.filter fun p => decide (kindS l p = 3) else []
 | none => []
theorem getS_app (l : Sto) (i : Id) (b : Bs) (x : Id) : getS (l ++ [(i, b)]) x = match getS l x with | some y => some y | none => if i = x then some b else none := by
 induction l with
 | nil => simp [getS]
 | cons p l ih =>
  obtain ⟨j, c⟩ := p
  rw [List.cons_append, getS, getS]
  split
  ·rfl
  ·exact ih
theorem getS_none {l : Sto} {x : Id} : getS l x = none ↔ ∀ p ∈ l, p.1 ≠ x := by
 induction l with
 | nil => simp [getS]
 | cons p l ih =>
  obtain ⟨j, c⟩ := p
  rw [getS]
  split
  ·rename_i h
   simp [h]
  ·rename_i h
   rw [ih]
   simp [h]
theorem getS_mem {l : Sto} {x : Id} {b : Bs} (h : getS l x = some b) : (x, b) ∈ l := by
 induction l with
 | nil => cases h
 | cons p l ih =>
  obtain ⟨j, c⟩ := p
  rw [getS] at h
  split at h
  ·rename_i e; cases h; subst e; exact List.mem_cons_self
  ·exact List.mem_cons_of_mem _ (ih h)
theorem kindS_mem {l : Sto} {x : Id} (h : kindS l x ≠ 0) : x ∈ l.map (·.1) := by
 unfold kindS at h
 cases e : getS l x with
 | none => rw [e] at h; exact absurd rfl h
 | some b => exact List.mem_map.2 ⟨_, getS_mem e, rfl⟩
theorem parsS_mem {l : Sto} {x y : Id} (h : y ∈ parsS l x) : kindS l y = 3 := by
 unfold parsS at h
 split at h
 ·split at h
  ·exact of_decide_eq_true (List.mem_filter.1 h).2
  ·cases h
 ·cases h
theorem obP_pars (b : Bs) : (obP b).pars.length ≤ 4 ∧ (obP b).pars.Nodup := by
 unfold obP
 split
 ·rename_i h
  rcases h.2 with h | h | h | h
  ·rw [h.2.2.2.2.1]; exact ⟨by decide, List.Pairwise.nil⟩
  ·rw [h.2.2.2.2.1]; exact ⟨by decide, List.Pairwise.nil⟩
  ·exact ⟨h.2.1.1, h.2.1.2.1⟩
  ·rw [h.2.2.2.2.2]; exact ⟨by decide, List.Pairwise.nil⟩
 ·exact ⟨by decide, List.Pairwise.nil⟩
theorem parsS_len (l : Sto) (x : Id) : (parsS l x).length ≤ 4 ∧ (parsS l x).Nodup := by
 unfold parsS
 split
 ·split
  ·exact ⟨Nat.le_trans (List.length_filter_le _ _) (obP_pars _).1, (obP_pars _).2.sublist List.filter_sublist⟩
  ·exact ⟨by decide, List.Pairwise.nil⟩
 ·exact ⟨by decide, List.Pairwise.nil⟩
inductive Rch (P : Id → List Id) (A : List Id) : Id → Prop
 | base {x : Id} : x ∈ A → Rch P A x
 | step {x y : Id} : Rch P A y → x ∈ P y → Rch P A x
theorem Rch.mono {P : Id → List Id} {A B : List Id} (h : ∀ x ∈ A, x ∈ B) {x : Id} (hx : Rch P A x) : Rch P B x := by
 induction hx with
 | base hx => exact .base (h _ hx)
 | step _ hp ih => exact .step ih hp
theorem Rch.flat {P : Id → List Id} {A : List Id} {x : Id} : Rch P (A.map P).flatten x ↔ ∃ y ∈ A, Rch P (P y) x := by
 constructor
 ·intro h
  induction h with
  | base hx =>
   obtain ⟨q, hq, hx⟩ := List.mem_flatten.1 hx
   obtain ⟨y, hy, rfl⟩ := List.mem_map.1 hq
   exact ⟨y, hy, .base hx⟩
  | step _ hp ih =>
   obtain ⟨y, hy, h⟩ := ih
   exact ⟨y, hy, .step h hp⟩
 ·rintro ⟨y, hy, h⟩
  exact h.mono fun x hx => List.mem_flatten.2 ⟨_, List.mem_map.2 ⟨y, hy, rfl⟩, hx⟩
theorem Rch.in {P : Id → List Id} {A M : List Id} (hA : ∀ x ∈ A, x ∈ M) (hM : ∀ y ∈ M, ∀ x ∈ P y, x ∈ M) {x : Id} (h : Rch P A x) : x ∈ M := by
 induction h with
 | base hx => exact hA _ hx
 | step _ hp ih => exact hM _ ih _ hp
noncomputable def hdsS (l : Sto) (tips : List Id) : List Id := (iset tips).filter fun x => @decide (¬ ∃ y ∈ iset tips, Rch (parsS l) (parsS l y) x) (Classical.propDecidable _)
theorem cnt_le {α : Type} {p q : α → Bool} (h : ∀ x, p x = true → q x = true) (l : List α) : l.countP p ≤ l.countP q := List.countP_mono_left fun x _ => h x
theorem cnt_lt {α : Type} {p q : α → Bool} (h : ∀ x, p x = true → q x = true) {l : List α} {y : α} (hy : y ∈ l) (h1 : q y = true) (h2 : p y = false) : l.countP p < l.countP q := by
 induction l with
 | nil => cases hy
 | cons a l ih =>
  rw [List.countP_cons, List.countP_cons]
  rcases List.mem_cons.1 hy with rfl | hy
  ·rw [h1, h2]
   have := cnt_le h l
   simp; omega
  ·have := ih hy
   by_cases ha : p a = true
   ·rw [if_pos ha, if_pos (h a ha)]; omega
   ·rw [if_neg ha]; split <;> omega
theorem mapM_some {α β : Type} {f : α → Option β} {g : α → β} : ∀ l : List α, (∀ x ∈ l, f x = some (g x)) → l.mapM f = some (l.map g)
 | [], _ => rfl
 | a :: l, h => by
  rw [List.mapM_cons, h a (by simp), mapM_some l fun x hx => h x (by simp [hx])]
  rfl
theorem id_key (x : Id) : keyK Tryz.prog 46 (.agg ⟨ic x⟩) := by
 have lx := ic_len x
 have hcO : Tryz.prog.cellsOf 46 = 32 := by kernel_rfl
 have h1 : Tryz.prog.cellsOf 5 = 1 := by kernel_rfl
 unfold keyK keyOf
 rw [Tryz.underlying46]
 dsimp only
 have hf : (Tryz.prog.keyType 46 && (Value.agg ⟨ic x⟩).formed Tryz.prog 46) = true := by
  rw [Bool.and_eq_true]
  refine ⟨by kernel_rfl, ?_⟩
  unfold Value.formed
  rw [Tryz.underlying46]
  simp [hcO, lx]
 rw [if_pos hf]
 have hm : Tryz.prog.types.size = (Tryz.prog.types.size - 1) + 1 := by kernel_rfl
 rw [hm]
 unfold Program.keyLits
 rw [Tryz.underlying46]
 dsimp only
 rw [if_pos (by rw [hcO]; exact lx), h1]
 rw [mapM_some (g := fun i => [Lit.int .u8 ((x.1.getD i 0).toNat : Int)]) _ (fun i hi => by
  have hi : i < 32 := List.mem_range.1 hi
  have e : ((Value.agg ⟨ic x⟩).cells.toList.drop (i * 1)).take 1 = [.int .u8 ((x.1.getD i 0).toNat : Int)] := by
   show ((ic x).drop (i * 1)).take 1 = _
   rw [Nat.mul_one, List.drop_eq_getElem_cons (by rw [lx]; exact hi)]
   simp [ic, bys, List.getD_eq_getElem?_getD, List.getElem?_eq_getElem (show i < x.1.length by rw [x.2]; exact hi)]
  rw [e]
  unfold Program.keyLits
  rw [Tryz.underlying5]
  dsimp only
  have hw : (Lit.int .u8 ((x.1.getD i 0).toNat : Int)).wf = true := by
   generalize x.1.getD i 0 = c
   have := c.toNat_lt
   simp [Lit.wf, IntKind.min, IntKind.max, IntKind.bits, IntKind.signed]
   omega
  rw [if_pos ⟨rfl, hw⟩])]
 exact ⟨_, rfl⟩
theorem kl_id : KL Tryz.prog 46 (keyK Tryz.prog 46) := kl_deep (m := 3) (by decide) (by kernel_rfl) (by kernel_rfl) (by kernel_rfl)
theorem ic_inj {x y : Id} (h : ic x = ic y) : x = y := id_inj _ _ (bys_inj h)
theorem agg_inj {x y : Id} (h : Value.agg ⟨ic x⟩ = .agg ⟨ic y⟩) : x = y := by
 simp only [Value.agg.injEq, Array.mk.injEq] at h
 exact ic_inj h
noncomputable def stV (b : Bs) : List Value := [sv b, .int .i64 ((obP b).kind : Int)]
noncomputable def se1 (i : Nat) (p : Id × Bs) : MapEntry := ⟨.agg ⟨ic p.1⟩, .agg ⟨stV p.2⟩, i⟩
noncomputable def stE (l : Sto) : List MapEntry := l.mapIdx se1
theorem stE_app (l : Sto) (p : Id × Bs) : stE (l ++ [p]) = stE l ++ [se1 l.length p] := by
 unfold stE
 rw [List.mapIdx_append]
 simp
theorem stE_mem {l : Sto} {e : MapEntry} (h : e ∈ stE l) : ∃ p ∈ l, ∃ i, e = se1 i p := by
 unfold stE at h
 obtain ⟨i, hi, rfl⟩ := List.mem_mapIdx.1 h
 exact ⟨l[i], List.getElem_mem hi, i, rfl⟩
theorem stE_key {l : Sto} : ∀ e ∈ stE l, keyK Tryz.prog 46 e.key := fun e he => by
 obtain ⟨p, _, i, rfl⟩ := stE_mem he
 exact id_key p.1
structure SG (l : Sto) : Prop where
 nd : (l.map (·.1)).Nodup
 ok : ∀ p ∈ l, okP p.2
 bd : ∀ p ∈ l, p.2.length < 100000000
 sz : sizeS l < 100000000000
 n : l.length < 1000000
theorem getS_of {l : Sto} (h : (l.map (·.1)).Nodup) {p : Id × Bs} (hp : p ∈ l) : getS l p.1 = some p.2 := by
 induction l with
 | nil => cases hp
 | cons q l ih =>
  obtain ⟨j, c⟩ := q
  rw [List.map_cons, List.nodup_cons] at h
  rw [getS]
  rcases List.mem_cons.1 hp with rfl | hp
  ·rw [if_pos rfl]
  ·rw [if_neg (fun e => h.1 (List.mem_map.2 ⟨p, hp, e.symm⟩))]
   exact ih h.2 hp
noncomputable def lkS (l : Sto) (x : Id) : List Value := match getS l x with | some b => stV b | none => [sv [], .int .i64 0]
theorem ef_mlkS {T : TT} {w : World} {K : Value → World → Prop} {ok : Bool} {m k : Operand} {b : Nat} {l : Sto} {x : Id} (hG : SG l) (hb : w.heap[b]? = some (.map ⟨stE l⟩ l.length)) (hm : ev T m = some (.map (some b))) (hk : ev T k = some (.agg ⟨ic x⟩))
  (h : K (lkv ok (.agg ⟨lkS l x⟩) (getS l x).isSome) w) : Ef Tryz.prog none (.mlk 46 true [(1, .string ⟨#[]⟩), (1, .int .i64 0)] ok m k) T w K := by
 refine ef_mlk kl_id hb hm hk (id_key x) stE_key (fun hno => ?_) (fun j e hj he => ?_)
 ·have hn : getS l x = none := getS_none.2 fun p hp e => by
   obtain ⟨i, hi, rfl⟩ := List.mem_iff_getElem.1 hp
   refine hno (se1 i l[i]) ?_ ?_
   ·unfold stE; exact List.mem_mapIdx.2 ⟨i, hi, rfl⟩
   ·show Value.agg ⟨ic l[i].1⟩ = _; rw [e]
  unfold lkS at h
  rw [hn] at h
  exact h
 ·obtain ⟨p, hp, i, rfl⟩ := stE_mem (List.mem_of_getElem? hj)
  have hx : p.1 = x := agg_inj he
  have hs := getS_of hG.nd hp
  rw [hx] at hs
  unfold lkS at h
  rw [hs] at h
  exact h
noncomputable def SR (bS bm : Nat) (q : Int) (l : Sto) : List Res := [cel bS [.int .i64 q, .int .i64 (sizeS l : Int), .map (some bm)] 65, obj bm (.map ⟨stE l⟩ l.length)]
section
variable {w w0 : World} {S0 : Nat → Prop} {L B : List Res} {K : Value → World → Prop} {s : Bs} {E0 E1 : Nat} {bS bm : Nat} {q : Int} {l : Sto} {x : Id}
theorem b_noneS (hS : St w0 S0 w (SR bS bm q l)) (h : K (.bool false) w) : CK Tryz.prog 27 [dp bS] w K := by
 refine call_k Tryz.func27 k27 Tryz.ntmps27 (Nat.le_of_ble_eq_true rfl) ?_
 refine gW ?_
 refine g_l1 rfl rfl (hS.b 0 rfl) (v := .map (some bm)) rfl ?_
 refine g_qt rfl (qt_mpn rfl) ?_
 refine gW ?_
 exact g_ret (q_1 rfl h)
theorem b_KindS (hG : SG l) (hS : St w0 S0 w (SR bS bm q l)) (h : ∀ w', St w0 S0 w' (SR bS bm q l) → K (.int .i64 (kindS l x : Int)) w') : CK Tryz.prog 140 [dp bS, .agg ⟨ic x⟩] w K := by
 have lx := ic_len x
 have hk : lkS l x = [(lkS l x).headD undef, .int .i64 (kindS l x : Int)] := by
  unfold lkS kindS
  cases getS l x <;> rfl
 refine call_k Tryz.func140 k140 Tryz.ntmps140 (Nat.le_of_ble_eq_true rfl) ?_
 refine gW ?_
 refine g_ef rfl (ef_bx hS rfl fun b3 w1 hS => ?_)
 replace hS : St w0 S0 w1 (SR bS bm q l ++ [cel b3 (ic x) 46]) := hS
 refine gW ?_
 have hF := hS.frame
 refine g_cl rfl rfl (b_noneS hF.1 ?_)
 refine gW ?_
 refine g_dr mixed ?_
 replace hS := hS.drew
 refine gD ?_
 refine d_l1 rfl rfl rfl (hS.b 0 rfl) (v := .map (some bm)) rfl ?_
 refine gD ?_
 refine d_lm rfl rfl rfl (hS.b 2 rfl) (Nat.le_of_eq lx.symm) ?_
 rw [List.drop_zero, List.take_of_length_le (Nat.le_of_eq lx)]
 refine d_e rfl rfl ?_
 refine ef_mlkS hG (hS.ok 1 _ rfl) rfl rfl ⟨rc_0, ?_⟩
 show G _ _ ((_, .agg ⟨lkS l x⟩) :: _) _ _ _
 rw [hk]
 refine gD ?_
 refine d_fin ?_
 refine gW ?_
 exact g_ret (q_1 rfl (h _ (hS.sel [0, 1] rfl rfl)))
end
theorem okP_pos {b : Bs} (h : okP b) : 0 < b.length := by
 cases b with
 | nil =>
  have h1 := h.1
  have h2 : (prS []).2.2 = true := by
   show (prSk (oneS ([], false)).1 (oneS ([], false)).2).2.2 = true
   rfl
  rw [h1] at h2
  cases h2
 | cons c r => simp
def shaI (b : Bs) : Id := ⟨sha b, sha_len b⟩
noncomputable def putS (q : Nat) (l : Sto) (b : Bs) : Sto × Nat :=
 if okP b then match getS l (shaI b) with
  | some c => if c = b then (l, 0) else (l, 80)
  | none => if q - sizeS l < b.length then (l, 81) else (l ++ [(shaI b, b)], 0)
 else (l, 70)
theorem stV_fits (b : Bs) : Fits [.s, .i .i64] (stV b) := ⟨⟨_, rfl⟩, ⟨_, rfl⟩, trivial⟩
theorem stV_inj {a b : Bs} (h : stV a = stV b) : a = b := by
 unfold stV at h
 rw [List.cons.injEq] at h
 exact sv_inj h.1
theorem putS_ok {q : Nat} {l : Sto} {b : Bs} (hG : SG l) (hb : b.length < 100000000) (hq : q ≤ 1073741824) (hn : l.length < 999999) : SG (putS q l b).1 := by
 unfold putS
 split
 ·rename_i hok
  split
  ·split <;> exact hG
  ·rename_i hg
   split
   ·exact hG
   ·rename_i hlt
    have hpos := okP_pos hok
    refine ⟨?_, ?_, ?_, ?_, ?_⟩
    ·rw [List.map_append, List.nodup_append]
     exact ⟨hG.nd, List.pairwise_singleton _ _, fun x hx y hy => by
      rw [List.mem_singleton.1 hy]
      obtain ⟨p, hp, rfl⟩ := List.mem_map.1 hx
      exact getS_none.1 hg p hp⟩
    ·intro p hp
     rcases List.mem_append.1 hp with hp | hp
     ·exact hG.ok p hp
     ·rw [List.mem_singleton.1 hp]; exact hok
    ·intro p hp
     rcases List.mem_append.1 hp with hp | hp
     ·exact hG.bd p hp
     ·rw [List.mem_singleton.1 hp]; exact hb
    ·have := hG.sz
     unfold sizeS at *
     rw [List.map_append, List.sum_append]
     simp
     omega
    ·rw [List.length_append]; simp; omega
 ·exact hG
theorem putS_len (q : Nat) (l : Sto) (b : Bs) : (putS q l b).1.length ≤ l.length + 1 := by
 unfold putS
 split
 ·split
  ·split <;> exact Nat.le_succ _
  ·split
   ·exact Nat.le_succ _
   ·rw [List.length_append]; exact Nat.le_refl _
 ·exact Nat.le_succ _
section
variable {w w0 : World} {S0 : Nat → Prop} {L B : List Res} {K : Value → World → Prop} {s : Bs} {E0 E1 : Nat} {bS bm : Nat} {q : Int} {l : Sto} {x : Id}
theorem b_CloneBs {v : Value} {b : Bs} (hv : ∃ a n c, v = .slice (some a) n c) (hb : b.length < 1000000000) (hr : Rd v E0 1 b.length (bys b) w) (h : ∀ v' w', St w (fun _ => False) w' [row v' 5 1 b.length (bys b)] → K v' w') : CK Tryz.prog 170 [v] w K := by
 have hS := St.nil w (fun _ => False)
 obtain ⟨a, n, c, rfl⟩ := hv
 refine call_k Tryz.func170 k170 Tryz.ntmps170 (Nat.le_of_ble_eq_true rfl) ?_
 refine gW ?_
 refine g_ef rfl (ef_bl (rs := []) hS rfl fun g w1 hS => ?_)
 have hr1 : Rd (.slice (some a) n c) E0 1 b.length (bys b) w1 := hr.same fun b hb => hS.fr.kept b (hr.lt b hb) (fun h => h)
 replace hS := hS.close_row (n := 0) (cap := 0) (sz := 1) (xs := []) 0 rfl (Nat.le_refl _) rfl (List.prefix_refl _) rfl
 refine gW ?_
 refine g_ef rfl (ef_ap (bytes := 1) (n := 0) (m := b.length) (ys := bys b) hS 0 rfl rfl rfl (.inl ⟨_, hr1⟩) (bys_one _) (by omega) (by omega) fun v2 w1 hS => ?_)
 rw [Nat.zero_add, List.nil_append] at hS
 refine gW ?_
 exact g_ret (q_1 rfl (h _ _ hS))
theorem b_GetS (hG : SG l) (hS : St w0 S0 w (SR bS bm q l)) (h : ∀ v' w', St w0 S0 w' (SR bS bm q l ++ [row v' 5 1 ((getS l x).getD []).length (bys ((getS l x).getD []))]) → K (.tuple ⟨[v', .bool (getS l x).isSome]⟩) w') : CK Tryz.prog 138 [dp bS, .agg ⟨ic x⟩] w K := by
 have lx := ic_len x
 have hk : lkS l x = [sv ((getS l x).getD []), (lkS l x).getD 1 undef] := by
  unfold lkS
  cases getS l x <;> rfl
 have hl2 : (lkS l x).length = 2 := by rw [hk]; rfl
 have h1 : (lkS l x).all (·.oneCell') = true := by
  unfold lkS
  cases getS l x <;> rfl
 have hbd : ((getS l x).getD []).length < 1000000000 := by
  cases hg : getS l x with
  | none => simp
  | some b => have : b.length < 100000000 := hG.bd _ (getS_mem hg); simp; omega
 refine call_k Tryz.func138 k138 Tryz.ntmps138 (Nat.le_of_ble_eq_true rfl) ?_
 refine gW ?_
 refine g_ef rfl (ef_bx hS rfl fun b3 w1 hS => ?_)
 replace hS : St w0 S0 w1 (SR bS bm q l ++ [cel b3 (ic x) 46]) := hS
 refine gW ?_
 have hF := hS.frame
 refine g_cl rfl rfl (b_noneS hF.1 ?_)
 refine gW ?_
 refine g_atx (ι := Nat) 1 (fun b6 => [(6, dp b6), (7, .bool (getS l x).isSome)]) (fun b6 w' => St w0 S0 w' (SR bS bm q l ++ [cel b6 (lkS l x) 72])) rfl ?_ ?_
 ·refine g_dr mixed ?_
  replace hS := hS.drew
  refine gD ?_
  refine d_l1 rfl rfl rfl (hS.b 0 rfl) (v := .map (some bm)) rfl ?_
  refine gD ?_
  refine d_lm rfl rfl rfl (hS.b 2 rfl) (Nat.le_of_eq lx.symm) ?_
  rw [List.drop_zero, List.take_of_length_le (Nat.le_of_eq lx)]
  refine d_a2 ?_ (d_a1 ?_)
  ·refine d_e rfl rfl ?_
   refine ef_mlkS hG (hS.ok 1 _ rfl) rfl rfl ⟨rc_0, ?_⟩
   refine gD ?_
   refine d_e rfl rfl ?_
   refine ef_al hS fun b5 w2 hS => ⟨rc_0, ?_⟩
   refine d_e0 rfl rfl ?_
   refine ef_st hS 3 rfl rfl rfl hl2 (Nat.le_of_ble_eq_true rfl) h1 fun w2 hS => ⟨rc_0, ?_⟩
   replace hS := hS.ceq (l' := lkS l x) 3 rfl (spl_full _ _ hl2)
   refine gD ?_
   refine d_fin ?_
   exact g_jx b5 ⟨rfl, rfl, trivial⟩ (hS.sel [0, 1, 3] rfl rfl)
  ·refine d_e rfl rfl ?_
   refine ef_al hS fun b5 w2 hS => ⟨rc_1 rfl rfl rfl rfl (hS.b 0 rfl) rfl (rc_m rfl rfl rfl rfl (hS.b 2 rfl) (Nat.le_of_eq lx.symm) (by rw [List.drop_zero, List.take_of_length_le (Nat.le_of_eq lx)]) rc_0), ?_⟩
   refine d_e rfl rfl ?_
   refine ef_mlkS hG (hS.ok 1 _ rfl) rfl rfl ⟨rc_0, ?_⟩
   refine gD ?_
   refine d_e0 rfl rfl ?_
   refine ef_st hS 3 rfl rfl rfl hl2 (Nat.le_of_ble_eq_true rfl) h1 fun w2 hS => ⟨rc_0, ?_⟩
   replace hS := hS.ceq (l' := lkS l x) 3 rfl (spl_full _ _ hl2)
   refine gD ?_
   refine d_fin ?_
   exact g_jx b5 ⟨rfl, rfl, trivial⟩ (hS.sel [0, 1, 3] rfl rfl)
 ·clear hS
  rintro b6 T w1 hT hS
  refine g_wkc hT ?_
  refine gW ?_
  refine g_l1 rfl rfl (hS.b 2 rfl) (v := sv ((getS l x).getD [])) (by rw [hk]; rfl) ?_
  refine g_ef rfl (ef_sb hS rfl fun v6 w1 hS hv6 => ?_)
  have hR6 : Rd v6 5 1 ((getS l x).getD []).length (bys ((getS l x).getD [])) w1 := Ow.rd (hS.ok 3 _ rfl)
  refine g_cl rfl rfl (b_CloneBs hv6 hbd hR6 fun v7 w2 h' => ?_)
  replace hS := hS.call0.2 _ _ h'
  clear h'
  refine gW ?_
  exact g_ret (q_2 rfl rfl (h _ _ (hS.sel [0, 1, 4] rfl rfl)))
set_option maxRecDepth 100000 in
theorem b_ObjectS (hG : SG l) (hS : St w0 S0 w (SR bS bm q l)) (h1 : getS l x = none → ∀ w', St w0 S0 w' (SR bS bm q l) → K (.tuple ⟨[.agg ⟨oc obZ nl nl nl⟩, .bool false]⟩) w')
  (h2 : ∀ b, getS l x = some b → ∀ vd ve vp w', St w0 S0 w' (SR bS bm q l ++ rowO (obP b) vd ve vp) → K (.tuple ⟨[.agg ⟨oc (obP b) vd ve vp⟩, .bool true]⟩) w') : CK Tryz.prog 77 [dp bS, .agg ⟨ic x⟩] w K := by
 have lx := ic_len x
 refine call_k Tryz.func77 k77 Tryz.ntmps77 (Nat.le_of_ble_eq_true rfl) ?_
 refine gW ?_
 refine g_ef rfl (ef_bx hS rfl fun b3 w1 hS => ?_)
 refine gW ?_
 refine g_ef rfl (ef_al hS fun b4 w1 hS => ?_)
 replace hS : St w0 S0 w1 (SR bS bm q l ++ [cel b3 (ic x) 46, cel b4 (oc obZ nl nl nl) 79]) := hS
 refine gW ?_
 refine g_lm rfl rfl (hS.b 2 rfl) (Nat.le_of_eq lx.symm) ?_
 rw [List.drop_zero, List.take_of_length_le (Nat.le_of_eq lx)]
 have hF := hS.frame
 refine g_cl rfl rfl (b_GetS hG hF.1 fun v' w2 h' => ?_)
 replace hS := hF.2 _ _ h'
 clear h' hF
 rw [List.append_assoc] at hS
 cases hg : getS l x with
 | none =>
  refine gW ?_
  refine g_ef0 rfl (ef_st hS 4 rfl rfl rfl rfl (Nat.le_of_ble_eq_true rfl) rfl fun w1 hS => ?_)
  replace hS := hS.ceq (l' := oc obZ nl nl nl) 4 rfl (spl_full _ _ rfl)
  refine gW ?_
  refine g_ret (q_c2 (n := 70) rfl (by kernel_rfl) (hS.b 4 rfl) (Nat.le_of_ble_eq_true rfl) rfl ?_)
  exact h1 hg _ (hS.sel [0, 1] rfl rfl)
 | some b =>
  rw [hg] at hS
  have hbd := hG.bd _ (getS_mem hg)
  have hok := hG.ok _ (getS_mem hg)
  have hR : Rd v' 5 1 b.length (bys b) w2 := Ow.rd (hS.ok 2 _ rfl)
  refine gW ?_
  refine g_cl rfl rfl (b_ParseO rfl (by simp only at hbd; omega) hR fun vd ve vp w3 h' => ?_)
  replace hS := hS.call0.2 _ _ h'
  clear h'
  rw [if_pos hok]
  have lq := oc_len (obP b) vd ve vp
  have hone1 : (oc (obP b) vd ve vp).all (·.oneCell') = true := by
   obtain ⟨x1, y1, e1⟩ := hS.rlen 5 rfl; obtain ⟨x2, y2, e2⟩ := hS.rlen 6 rfl; obtain ⟨x3, y3, e3⟩ := hS.rlen 7 rfl; subst e1 e2 e3; exact oc_one rfl rfl rfl
  refine gW ?_
  refine g_ef rfl (ef_al hS fun b8 w1 hS => ?_)
  refine gW ?_
  refine g_ef0 rfl (ef_st hS 8 rfl rfl rfl lq (Nat.le_of_ble_eq_true rfl) hone1 fun w1 hS => ?_)
  replace hS := hS.ceq (l' := oc (obP b) vd ve vp) 8 rfl (spl_full _ _ lq)
  refine gW ?_
  refine g_lm rfl rfl (hS.b 8 rfl) (Nat.le_of_eq (by rw [lq])) ?_
  rw [List.drop_zero, List.take_of_length_le (Nat.le_of_eq lq)]
  refine gW ?_
  refine g_ef0 rfl (ef_st hS 4 rfl rfl rfl lq (Nat.le_of_ble_eq_true rfl) hone1 fun w1 hS => ?_)
  replace hS := hS.ceq (l' := oc (obP b) vd ve vp) 4 rfl (spl_full _ _ lq)
  refine gW ?_
  refine g_ret (q_c2 (n := 70) rfl (by kernel_rfl) (hS.b 4 rfl) (Nat.le_of_eq (by rw [lq])) rfl ?_)
  rw [List.drop_zero, List.take_of_length_le (Nat.le_of_eq lq)]
  exact h2 b hg vd ve vp _ (hS.sel [0, 1, 5, 6, 7] rfl rfl)
theorem b_NewS {q : Nat} (hq : q ≤ 1073741824) (h : ∀ bS bm w', St w (fun _ => False) w' (SR bS bm q []) → K (.tuple ⟨[dp bS, .int .i64 0]⟩) w') : CK Tryz.prog 12 [.int .i64 (q : Int)] w K := by
 have hS := St.nil w (fun _ => False)
 refine call_k Tryz.func12 k12 Tryz.ntmps12 (Nat.le_of_ble_eq_true rfl) ?_
 refine gW ?_
 rw [show cmv BinOp.gtr (q : Int) 1073741824 = false by simp only [cmv]; exact decide_eq_false (by omega)]
 refine gW ?_
 refine g_ef rfl (ef_mkm hS fun bm w1 hS => ?_)
 refine gW ?_
 refine g_ef rfl (ef_bx hS rfl fun bS w1 hS => ?_)
 refine gW ?_
 exact g_ret (q_2 rfl rfl (h _ _ _ (hS.sel [1, 0] rfl rfl)))
set_option maxRecDepth 100000 in
set_option maxHeartbeats 4000000 in
theorem b_PutS {q : Nat} {v : Value} {b : Bs} (htb : ∀ {L : List Res} {w' : World}, St w0 S0 w' L → Tb w') (hG : SG l) (hq : q ≤ 1073741824) (hb : b.length < 900000000) (hr : ∀ {L : List Res} {w' : World}, St w0 S0 w' L → Rd v E0 1 b.length (bys b) w') (hS : St w0 S0 w (SR bS bm (q : Int) l))
  (h : ∀ (y : Id) w', St w0 S0 w' (SR bS bm (q : Int) (putS q l b).1) → K (.tuple ⟨[.agg ⟨ic y⟩, .int .i64 ((putS q l b).2 : Int)]⟩) w') : CK Tryz.prog 14 [dp bS, v] w K := by
 obtain ⟨va, vc, rfl⟩ := (hr hS).form
 have lX := ic_len (shaI b)
 have hl2 : (lkS l (shaI b)).length = 2 := by unfold lkS; cases getS l (shaI b) <;> rfl
 have h1 : (lkS l (shaI b)).all (·.oneCell') = true := by unfold lkS; cases getS l (shaI b) <;> rfl
 have hsz := hG.sz
 refine call_k Tryz.func14 k14 Tryz.ntmps14 (Nat.le_of_ble_eq_true rfl) ?_
 refine gW ?_
 refine g_ef rfl (ef_al hS fun b4 w1 hS => ?_)
 replace hS : St w0 S0 w1 (SR bS bm (q : Int) l ++ [cel b4 (ic idZ) 46]) := hS
 refine gW ?_
 have hF := hS.frame
 refine g_cl rfl rfl (b_noneS hF.1 ?_)
 clear hF
 refine gW ?_
 refine g_atx (ι := Nat) 1 (fun b6 => [(0, dp bS), (1, .slice va b.length vc), (4, dp b4), (6, dp b6)]) (fun b6 w' => St w0 S0 w' (SR bS bm (q : Int) l ++ [cel b4 (ic idZ) 46, cel b6 (stV b) 72])) rfl ?_ ?_
 ·refine g_dr mixed ?_
  replace hS := hS.drew
  refine gD ?_
  refine d_qt rfl rfl rfl (qt_bsR rfl (hr hS)) ?_
  refine gD ?_
  refine d_a2 ?_ (d_a1 ?_)
  ·refine d_cl rfl rfl rfl (b_KindO rfl (by omega) (hr hS) fun w2 h' => ?_)
   replace hS := hS.call0.2 _ _ h'
   rw [List.append_nil] at hS
   clear h'
   refine ⟨rc_qt rfl rfl rfl rfl (qt_bsR rfl (hr hS)) rc_0, ?_⟩
   refine gD ?_
   refine d_e rfl rfl ?_
   refine ef_al hS fun b5 w2 hS => ⟨rc_qt rfl rfl rfl rfl (qt_bsR rfl (hr hS)) rc_0, ?_⟩
   refine d_e0 rfl rfl ?_
   refine ef_st hS 3 rfl rfl rfl rfl (Nat.le_of_ble_eq_true rfl) rfl fun w2 hS => ⟨rc_0, ?_⟩
   replace hS := hS.ceq (l' := stV b) 3 rfl rfl
   refine d_fin ?_
   exact g_jx b5 ⟨rfl, rfl, rfl, rfl, trivial⟩ hS
  ·refine d_e rfl rfl ?_
   refine ef_al hS fun b5 w2 hS => ⟨rc_qt rfl rfl rfl rfl (qt_bsR rfl (hr hS)) rc_0, ?_⟩
   refine d_cl rfl rfl rfl (b_KindO rfl (by omega) (hr hS) fun w2 h' => ?_)
   replace hS := hS.call0.2 _ _ h'
   rw [List.append_nil] at hS
   clear h'
   refine ⟨rc_qt rfl rfl rfl rfl (qt_bsR rfl (hr hS)) rc_0, ?_⟩
   refine gD ?_
   refine d_e0 rfl rfl ?_
   refine ef_st hS 3 rfl rfl rfl rfl (Nat.le_of_ble_eq_true rfl) rfl fun w2 hS => ⟨rc_0, ?_⟩
   replace hS := hS.ceq (l' := stV b) 3 rfl rfl
   refine d_fin ?_
   exact g_jx b5 ⟨rfl, rfl, rfl, rfl, trivial⟩ hS
 clear hS
 rintro b6 T w1 hT hS
 refine g_wkc hT ?_
 clear hT
 refine gW ?_
 refine g_l1 (off := 1) rfl rfl (hS.b 3 rfl) (v := .int .i64 ((obP b).kind : Int)) rfl ?_
 refine gW ?_
 by_cases hok : okP b
 rotate_left
 ·have hk0 := (obP_kind b).2 hok
  have eP : putS q l b = (l, 70) := by unfold putS; rw [if_neg hok]
  rw [eP] at h
  rw [show cmv BinOp.eql ((obP b).kind : Int) 0 = true by rw [hk0]; rfl]
  refine gW ?_
  refine g_ef0 rfl (ef_st hS 2 rfl rfl rfl rfl (Nat.le_of_ble_eq_true rfl) rfl fun w1 hS => ?_)
  replace hS := hS.ceq (l' := ic idZ) 2 rfl (spl_full _ _ rfl)
  refine gW ?_
  refine g_ret (q_c2 (n := 32) rfl (by kernel_rfl) (hS.b 2 rfl) (Nat.le_of_ble_eq_true rfl) rfl ?_)
  exact h idZ _ (hS.sel [0, 1] rfl rfl)
 have hk0 : (obP b).kind ≠ 0 := fun e => (obP_kind b).1 e hok
 rw [show cmv BinOp.eql ((obP b).kind : Int) 0 = false by simp only [cmv]; exact decide_eq_false (by omega)]
 refine gW ?_
 refine g_ef rfl (ef_bl (rs := [.slice va b.length vc]) hS rfl fun g w1 hS => ?_)
 refine g_cl rfl rfl (b_Of (htb hS) rfl (okP_pos hok) hb (hS.b 4 rfl).r (hr hS) fun w2 h' => ?_)
 replace hS := hS.call0.2 _ _ h'
 rw [List.append_nil] at hS
 clear h'
 refine g_ef rfl (ef_al hS fun b7 w1 hS => ?_)
 refine gW ?_
 refine g_ef0 rfl (ef_st hS 5 rfl rfl rfl lX (Nat.le_of_ble_eq_true rfl) (List.all_eq_true.2 (ic_one (shaI b))) fun w1 hS => ?_)
 replace hS : St w0 S0 w1 (SR bS bm (q : Int) l ++ [cel b4 (ic idZ) 46, cel b6 (stV b) 72, cel b7 (ic (shaI b)) 46]) := (hS.ceq (l' := ic (shaI b)) 5 rfl (spl_full _ _ (by show (ic (shaI b)).length = _; rw [lX]; rfl))).sel [0, 1, 2, 3, 5] rfl rfl
 have ldX : ((ic (shaI b)).drop 0).take 32 = ic (shaI b) := by rw [List.drop_zero, List.take_of_length_le (Nat.le_of_eq lX)]
 refine gW ?_
 refine g_atx (ι := Nat) 1 (fun b8 => [(0, dp bS), (1, .slice va b.length vc), (4, dp b4), (6, dp b6), (7, dp b7), (8, dp b8), (9, .bool (getS l (shaI b)).isSome)]) (fun b8 w' => St w0 S0 w' (SR bS bm (q : Int) l ++ [cel b4 (ic idZ) 46, cel b6 (stV b) 72, cel b7 (ic (shaI b)) 46, cel b8 (lkS l (shaI b)) 72])) rfl ?_ ?_
 ·refine g_dr mixed ?_
  replace hS := hS.drew
  refine gD ?_
  refine d_l1 rfl rfl rfl (hS.b 0 rfl) (v := .map (some bm)) rfl ?_
  refine gD ?_
  refine d_lm rfl rfl rfl (hS.b 4 rfl) (Nat.le_of_eq lX.symm) ?_
  rw [ldX]
  refine d_a2 ?_ (d_a1 ?_)
  ·refine d_e rfl rfl ?_
   refine ef_mlkS hG (hS.ok 1 _ rfl) rfl rfl ⟨rc_0, ?_⟩
   refine gD ?_
   refine d_e rfl rfl ?_
   refine ef_al hS fun b5 w2 hS => ⟨rc_0, ?_⟩
   refine d_e0 rfl rfl ?_
   refine ef_st hS 5 rfl rfl rfl hl2 (Nat.le_of_ble_eq_true rfl) h1 fun w2 hS => ⟨rc_0, ?_⟩
   replace hS := hS.ceq (l' := lkS l (shaI b)) 5 rfl (spl_full _ _ hl2)
   refine gD ?_
   refine d_fin ?_
   exact g_jx b5 ⟨rfl, rfl, rfl, rfl, rfl, rfl, rfl, trivial⟩ hS
  ·refine d_e rfl rfl ?_
   refine ef_al hS fun b5 w2 hS => ⟨rc_1 rfl rfl rfl rfl (hS.b 0 rfl) rfl (rc_m rfl rfl rfl rfl (hS.b 4 rfl) (Nat.le_of_eq lX.symm) ldX rc_0), ?_⟩
   refine d_e rfl rfl ?_
   refine ef_mlkS hG (hS.ok 1 _ rfl) rfl rfl ⟨rc_0, ?_⟩
   refine gD ?_
   refine d_e0 rfl rfl ?_
   refine ef_st hS 5 rfl rfl rfl hl2 (Nat.le_of_ble_eq_true rfl) h1 fun w2 hS => ⟨rc_0, ?_⟩
   replace hS := hS.ceq (l' := lkS l (shaI b)) 5 rfl (spl_full _ _ hl2)
   refine gD ?_
   refine d_fin ?_
   exact g_jx b5 ⟨rfl, rfl, rfl, rfl, rfl, rfl, rfl, trivial⟩ hS
 clear hS
 rintro b8 T w1 hT hS
 refine g_wkc hT ?_
 clear hT
 cases hg : getS l (shaI b) with
 | some c =>
  have hlk : lkS l (shaI b) = stV c := by unfold lkS; rw [hg]
  rw [hlk] at hS
  have eP : putS q l b = if c = b then (l, 0) else (l, 80) := by unfold putS; rw [if_pos hok, hg]
  refine gW ?_
  refine g_lm rfl rfl (hS.b 5 rfl) (Nat.le_of_ble_eq_true rfl) ?_
  refine g_lm rfl rfl (hS.b 3 rfl) (Nat.le_of_ble_eq_true rfl) ?_
  refine g_eqd (stV c) (stV b) rfl rfl rfl (stV_fits c) (stV_fits b) ?_
  have e : eqdv .neq (deqv (stV c) (stV b)) = !decide (c = b) := by
   show (!deqv _ _) = _
   rw [deqv_eq (q := decide (c = b)) (by rw [decide_eq_true_eq]; exact ⟨fun h => by rw [h], stV_inj⟩)]
  rw [e]
  by_cases hc : c = b
  ·rw [decide_eq_true hc]
   rw [if_pos hc] at eP
   rw [eP] at h
   refine gW ?_
   refine g_lm rfl rfl (hS.b 4 rfl) (Nat.le_of_eq lX.symm) ?_
   rw [ldX]
   refine g_ef0 rfl (ef_st hS 2 rfl rfl rfl lX (Nat.le_of_ble_eq_true rfl) (List.all_eq_true.2 (ic_one _)) fun w1 hS => ?_)
   replace hS := hS.ceq (l' := ic (shaI b)) 2 rfl (spl_full _ _ (by show (ic (shaI b)).length = _; rw [lX]; rfl))
   refine gW ?_
   refine g_ret (q_c2 (n := 32) rfl (by kernel_rfl) (hS.b 2 rfl) (Nat.le_of_eq lX.symm) rfl ?_)
   rw [ldX]
   exact h _ _ (hS.sel [0, 1] rfl rfl)
  ·rw [decide_eq_false hc]
   rw [if_neg hc] at eP
   rw [eP] at h
   refine gW ?_
   refine g_ef0 rfl (ef_st hS 2 rfl rfl rfl rfl (Nat.le_of_ble_eq_true rfl) rfl fun w1 hS => ?_)
   replace hS := hS.ceq (l' := ic idZ) 2 rfl (spl_full _ _ rfl)
   refine gW ?_
   refine g_ret (q_c2 (n := 32) rfl (by kernel_rfl) (hS.b 2 rfl) (Nat.le_of_ble_eq_true rfl) rfl ?_)
   exact h idZ _ (hS.sel [0, 1] rfl rfl)
 | none =>
  have eP : putS q l b = if q - sizeS l < b.length then (l, 81) else (l ++ [(shaI b, b)], 0) := by unfold putS; rw [if_pos hok, hg]
  have hpos := okP_pos hok
  have hno : ∀ (j : Nat) (e : MapEntry), (stE l)[j]? = some e → e.key = .agg ⟨ic (shaI b)⟩ → False := fun j e hj he => by
   obtain ⟨p, hp, i, rfl⟩ := stE_mem (List.mem_of_getElem? hj)
   exact getS_none.1 hg p hp (agg_inj he)
  refine gW ?_
  refine g_dr mixed ?_
  replace hS := hS.drew
  refine gD ?_
  refine d_l1 rfl rfl rfl (hS.b 0 rfl) (v := .int .i64 (q : Int)) rfl ?_
  refine gD ?_
  refine d_l1 (off := 1) rfl rfl rfl (hS.b 0 rfl) (v := .int .i64 (sizeS l : Int)) rfl ?_
  refine d_rq rfl rfl rfl (in64 (by simp only [arv]; omega)) ?_
  refine gD ?_
  refine d_fin ?_
  have ecmp : cmv .gtr (b.length : Int) (arv .sub (q : Int) (sizeS l : Int)) = decide (q - sizeS l < b.length) := by
   simp only [cmv, arv]
   exact decide_eq_decide.2 ⟨fun h => by omega, fun h => by omega⟩
  rw [ecmp]
  by_cases hlt : q - sizeS l < b.length
  ·rw [decide_eq_true hlt]
   rw [if_pos hlt] at eP
   rw [eP] at h
   refine gW ?_
   refine g_ef0 rfl (ef_st hS 2 rfl rfl rfl rfl (Nat.le_of_ble_eq_true rfl) rfl fun w1 hS => ?_)
   replace hS := hS.ceq (l' := ic idZ) 2 rfl (spl_full _ _ rfl)
   refine gW ?_
   refine g_ret (q_c2 (n := 32) rfl (by kernel_rfl) (hS.b 2 rfl) (Nat.le_of_ble_eq_true rfl) rfl ?_)
   exact h idZ _ (hS.sel [0, 1] rfl rfl)
  ·rw [decide_eq_false hlt]
   rw [if_neg hlt] at eP
   rw [eP] at h
   have hsq : sizeS l + b.length ≤ q := by omega
   refine gW ?_
   refine g_dr mixed ?_
   replace hS := hS.drew
   refine gD ?_
   refine d_l1 rfl rfl rfl (hS.b 0 rfl) (v := .map (some bm)) rfl ?_
   refine d_lm rfl rfl rfl (hS.b 4 rfl) (Nat.le_of_eq lX.symm) ?_
   rw [ldX]
   refine d_lm rfl rfl rfl (hS.b 3 rfl) (Nat.le_of_ble_eq_true rfl) ?_
   refine d_e0 rfl rfl ?_
   refine ef_mup kl_id hS 1 rfl rfl rfl rfl (id_key _) stE_key (fun _ w2 hS => ⟨rc_0, ?_⟩) (fun j e hj he => (hno j e hj he).elim)
   refine d_fin ?_
   have e1 : stE l ++ [⟨.agg ⟨ic (shaI b)⟩, .agg ⟨stV b⟩, l.length⟩] = stE (l ++ [(shaI b, b)]) := (stE_app l (shaI b, b)).symm
   replace hS : St w0 S0 w2 ([cel bS [.int .i64 (q : Int), .int .i64 (sizeS l : Int), .map (some bm)] 65, obj bm (.map ⟨stE l ++ [⟨.agg ⟨ic (shaI b)⟩, .agg ⟨stV b⟩, l.length⟩]⟩ (l.length + 1))] ++ [cel b4 (ic idZ) 46, cel b6 (stV b) 72, cel b7 (ic (shaI b)) 46, cel b8 (lkS l (shaI b)) 72]) := hS
   rw [e1] at hS
   refine gW ?_
   refine g_l1 (off := 1) rfl rfl (hS.b 0 rfl) (v := .int .i64 (sizeS l : Int)) rfl ?_
   refine gW ?_
   refine g_rq rfl rfl (in64 (by simp only [arv]; omega)) ?_
   rw [show arv .add (sizeS l : Int) (b.length : Int) = (sizeS (l ++ [(shaI b, b)]) : Int) by unfold sizeS; rw [List.map_append, List.sum_append]; simp [arv]]
   refine gW ?_
   refine g_ef0 rfl (ef_st hS 0 rfl rfl rfl rfl (Nat.le_of_ble_eq_true rfl) rfl fun w1 hS => ?_)
   refine gW ?_
   refine g_lm rfl rfl (hS.b 4 rfl) (Nat.le_of_eq lX.symm) ?_
   rw [ldX]
   refine g_ef0 rfl (ef_st hS 2 rfl rfl rfl lX (Nat.le_of_ble_eq_true rfl) (List.all_eq_true.2 (ic_one _)) fun w1 hS => ?_)
   replace hS := hS.ceq (l' := ic (shaI b)) 2 rfl (spl_full _ _ (by show (ic (shaI b)).length = _; rw [lX]; rfl))
   refine gW ?_
   refine g_ret (q_c2 (n := 32) rfl (by kernel_rfl) (hS.b 2 rfl) (Nat.le_of_eq lX.symm) rfl ?_)
   rw [ldX]
   refine h _ _ ?_
   show St w0 S0 w1 [cel bS [.int .i64 (q : Int), .int .i64 (sizeS (l ++ [(shaI b, b)]) : Int), .map (some bm)] 65, obj bm (.map ⟨stE (l ++ [(shaI b, b)])⟩ (l ++ [(shaI b, b)]).length)]
   rw [List.length_append]
   exact hS.sel [0, 1] rfl rfl
end
section
variable {w w0 : World} {S0 : Nat → Prop} {L B : List Res} {K : Value → World → Prop} {s : Bs} {E0 E1 : Nat}
theorem r_BytesF {v : Value} {n : Nat} {bs : Bs} (hl : bs.length = n) (hn : n < 1000000000) (hr : Rd v E0 1 n (bys bs) w) (h : ∀ v' w', St w (fun _ => False) w' [row v' 5 1 (encB bs).length (bys (encB bs))] → K v' w') : CK Tryz.prog 159 [v] w K := by
 have hS := St.nil w (fun _ => False)
 have hrr : ∀ {L : List Res} (w' : World), St w (fun _ => False) w' L → Rd v E0 1 n (bys bs) w' := fun w' hS => hr.same fun b hb => hS.fr.kept b (hr.lt b hb) (fun h => h)
 obtain ⟨a, c, rfl⟩ := hr.form
 have hen : (encN bs.length).length ≤ 11 := by
  have key : ∀ f n, (encF f n).length ≤ f + 1 := by
   intro f
   induction f with
   | zero => intro n; simp [encF]
   | succ f ih => intro n; rw [encF]; split <;> simp [ih]
  exact key 10 _
 refine call_k Tryz.func159 k159 Tryz.ntmps159 (Nat.le_of_ble_eq_true rfl) ?_
 refine gW ?_
 rw [u64n (by omega)]
 subst hl
 refine g_cl rfl rfl (r_enc (n := bs.length) (by omega) fun v1 w1 hS => ?_)
 refine gW ?_
 refine g_ef rfl (ef_ap (bytes := 1) (n := (encN bs.length).length) (m := bs.length) (ys := bys bs) hS 0 rfl rfl rfl (.inl ⟨_, hrr _ hS⟩) (bys_one _) (by omega) (by omega) fun v2 w2 hS => ?_)
 rw [← bys_append] at hS
 refine gW ?_
 refine g_ret (q_1 rfl (h _ _ ?_))
 show St w (fun _ => False) w2 [row v2 5 1 (encN bs.length ++ bs).length (bys (encN bs.length ++ bs))]
 rw [List.length_append]
 exact hS
theorem r_Zero {x : Id} (h : ∀ w', St w (fun _ => False) w' [] → K (.bool (decide (x = idZ))) w') : CK Tryz.prog 156 [.agg ⟨ic x⟩] w K := by
 have hS := St.nil w (fun _ => False)
 have lx := ic_len x
 refine call_k Tryz.func156 k156 Tryz.ntmps156 (Nat.le_of_ble_eq_true rfl) ?_
 refine gW ?_
 refine g_ef rfl (ef_bx hS rfl fun b1 w1 hS => ?_)
 refine gW ?_
 refine g_lm rfl rfl (hS.b 0 rfl) (Nat.le_of_eq lx.symm) ?_
 rw [show ((Value.agg ⟨ic x⟩).cells.toList.drop 0).take 32 = ic x by show ((ic x).drop 0).take 32 = _; rw [List.drop_zero, List.take_of_length_le (Nat.le_of_eq lx)]]
 refine gW ?_
 refine g_qt rfl (qt_aq (a := x.1) (b := zid) rfl rfl x.2 zid_len) ?_
 refine gW ?_
 have e : aqv .eql x.1 zid = decide (x = idZ) := decide_eq_decide.2 ⟨fun h => Subtype.ext h, fun h => by rw [h]; rfl⟩
 rw [e]
 exact g_ret (q_1 rfl (h _ (hS.sel [] rfl rfl)))
theorem r_name (hs : s.length < 1000000000) (h : K (.bool (nmB s)) w) : CK Tryz.prog 179 [sv s] w K := by
 have no : nmB s = false → K (.bool false) w := fun e => by rw [e] at h; exact h
 have hz : (⟨s.toArray⟩ : ByteArray).size = s.length := by show s.toArray.size = _; simp
 refine call_k Tryz.func179 k179 Tryz.ntmps179 (Nat.le_of_ble_eq_true rfl) ?_
 refine gW ?_
 rw [hz]
 (generalize h1 : cmv _ _ _ = q; cases q <;> simp only [cmv, arv, Bool.not_eq_true', Bool.not_eq_false', decide_eq_true_eq, decide_eq_false_iff_not] at h1 <;> first | (exfalso; omega) | skip)
 ·refine gW ?_
  rw [hz]
  (generalize h2 : cmv _ _ _ = q; cases q <;> simp only [cmv, arv, Bool.not_eq_true', Bool.not_eq_false', decide_eq_true_eq, decide_eq_false_iff_not] at h2 <;> first | (exfalso; omega) | skip)
  ·refine gW ?_
   refine g_lp (ι := Nat) (fun k => [(0, sv s), (3, .int .i64 k)]) (fun k w' => k ≤ s.length ∧ (s.take k).any bdc = false ∧ w' = w) (fun k => s.length - k) 0 ⟨rfl, rfl, trivial⟩ ⟨Nat.zero_le _, rfl, rfl⟩ ?_
   rintro k w1 ⟨hk, hI, rfl⟩
   refine gW ?_
   rw [hz]
   (refine g_cd rfl (fun hlt => ?_) (fun hlt => ?_) <;> simp only [cmv, arv, Bool.not_eq_true', Bool.not_eq_false', decide_eq_true_eq, decide_eq_false_iff_not] at hlt)
   ·have hlt : k < s.length := by omega
    have bad : bdc s[k] = true → nmB s = false := fun hb => by
     rw [sl_nm, show s.any bdc = true from List.any_eq_true.2 ⟨s[k], List.getElem_mem hlt, hb⟩]
     simp
    have ex : (⟨s.toArray⟩ : ByteArray).data.toList.getD ((k : Int)).toNat 0 = s[k] := by
     show s.getD k 0 = s[k]
     rw [List.getD_eq_getElem?_getD, List.getElem?_eq_getElem hlt]
     rfl
    have hbn := bdc_n s[k]
    refine gW ?_
    refine g_rq rfl rfl ⟨by omega, by omega⟩ ?_
    refine gW ?_
    rw [ex]
    (generalize h3 : cmv _ _ _ = q; cases q <;> simp only [cmv, arv, Bool.not_eq_true', Bool.not_eq_false', decide_eq_true_eq, decide_eq_false_iff_not] at h3 <;> first | (exfalso; omega) | skip)
    ·refine gW ?_
     refine g_rq rfl rfl ⟨by omega, by omega⟩ ?_
     refine gW ?_
     rw [ex]
     (generalize h4 : cmv _ _ _ = q; cases q <;> simp only [cmv, arv, Bool.not_eq_true', Bool.not_eq_false', decide_eq_true_eq, decide_eq_false_iff_not] at h4 <;> first | (exfalso; omega) | skip)
     ·have e0 : bdc s[k] = false := by rw [hbn]; exact decide_eq_false (by omega)
      refine gW ?_
      refine g_rq rfl rfl (in64 (by simp only [arv]; omega)) ?_
      refine gW ?_
      refine g_l (k + 1) ⟨rfl, rfl, trivial⟩ ⟨hlt, ?_, rfl⟩ (by omega)
      rw [List.take_succ_eq_append_getElem hlt, List.any_append, hI]
      simp [e0]
     ·refine gW ?_
      exact g_ret (q_1 rfl (no (bad (by rw [hbn]; exact decide_eq_true (by omega)))))
    ·refine gW ?_
     exact g_ret (q_1 rfl (no (bad (by rw [hbn]; exact decide_eq_true (by omega)))))
   ·have ek : k = s.length := by omega
    subst ek
    rw [List.take_length] at hI
    have e : nmB s = true := by
     rw [sl_nm, hI, decide_eq_true (by omega), decide_eq_true (by omega)]
     rfl
    rw [e] at h
    refine gW ?_
    exact g_ret (q_1 rfl h)
  ·refine gW ?_
   exact g_ret (q_1 rfl (no (by rw [sl_nm, decide_eq_false (show ¬ s.length ≤ 64 by omega)]; simp)))
 ·refine gW ?_
  exact g_ret (q_1 rfl (no (by rw [sl_nm, decide_eq_false (show ¬ 1 ≤ s.length by omega)]; rfl)))
theorem r_parents {v : Value} {d : List Id} (hn : d.length < 2000000) (hr : Rd v E0 32 d.length (fl ic d) w) (h : ∀ w', St w (fun _ => False) w' [] → K (.bool (decide (d.Nodup ∧ d.length ≤ 4))) w') : CK Tryz.prog 158 [v] w K := by
 have hS := St.nil w (fun _ => False)
 have hrr : ∀ {L : List Res} (w' : World), St w (fun _ => False) w' L → Rd v E0 32 d.length (fl ic d) w' := fun w' hS => hr.same fun b hb => hS.fr.kept b (hr.lt b hb) (fun h => h)
 obtain ⟨a, c, rfl⟩ := hr.form
 refine call_k Tryz.func158 k158 Tryz.ntmps158 (Nat.le_of_ble_eq_true rfl) ?_
 refine gW ?_
 refine g_lp (ι := Nat) (fun k => [(0, .slice a d.length c), (3, .int .i64 k)]) (fun k w' => k ≤ d.length ∧ (d.take k).Nodup ∧ St w (fun _ => False) w' []) (fun k => d.length - k) 0 ⟨rfl, rfl, trivial⟩ ⟨Nat.zero_le _, List.Pairwise.nil, hS⟩ ?_
 clear hS
 rintro k w1 ⟨hk, hI, hS⟩
 refine gW ?_
 (refine g_cd rfl (fun hlt => ?_) (fun hlt => ?_) <;> simp only [cmv, arv, Bool.not_eq_true', Bool.not_eq_false', decide_eq_true_eq, decide_eq_false_iff_not] at hlt)
 ·have hlt : k < d.length := by omega
  refine gW ?_
  refine g_atx (ι := Unit) 2 (fun _ => [(0, .slice a d.length c), (3, .int .i64 k)]) (fun _ w' => d[k] ∉ d.take k ∧ St w (fun _ => False) w' []) rfl ?_ ?_
  ·refine g_lp (ι := Nat) (fun j => [(0, .slice a d.length c), (3, .int .i64 k), (4, .int .i64 j)]) (fun j w' => j ≤ k ∧ d[k] ∉ d.take j ∧ St w (fun _ => False) w' []) (fun j => k - j) 0 ⟨rfl, rfl, rfl, trivial⟩ ⟨Nat.zero_le _, List.not_mem_nil, hS⟩ ?_
   clear hS
   rintro j w1 ⟨hj, hJ, hS⟩
   refine gW ?_
   (refine g_cd rfl (fun hlj => ?_) (fun hlj => ?_) <;> simp only [cmv, arv, Bool.not_eq_true', Bool.not_eq_false', decide_eq_true_eq, decide_eq_false_iff_not] at hlj)
   ·have hlj : j < k := by omega
    obtain ⟨b1, off, cap, l, e1, hcap, hl, hx, hb⟩ := Rd.block (hrr _ hS.drew) (by omega)
    cases e1
    have hbd : ∀ i, i < d.length → off + i * 32 + 32 ≤ l.length := fun i hi => by have : (i + 1) * 32 ≤ c * 32 := Nat.mul_le_mul_right 32 (by omega); omega
    refine gW ?_
    refine g_dr mixed ?_
    replace hS := hS.drew
    refine gD ?_
    refine d_rq rfl rfl rfl ⟨by omega, by omega⟩ ?_
    refine d_qt rfl rfl rfl (qt_ldmr rfl hb (hbd k hlt)) ?_
    rw [Int.toNat_natCast, rd_at ic_len hx rfl hlt]
    refine gD ?_
    refine d_rq rfl rfl rfl ⟨by omega, by omega⟩ ?_
    refine d_qt rfl rfl rfl (qt_ldmr rfl hb (hbd j (by omega))) ?_
    rw [Int.toNat_natCast, rd_at ic_len hx rfl (show j < d.length by omega)]
    refine d_qt rfl rfl rfl (qt_aq (a := d[k].1) (b := (d[j]'(by omega)).1) rfl rfl d[k].2 (d[j]'(by omega)).2) ?_
    refine d_fin ?_
    rw [show aqv .eql d[k].1 (d[j]'(by omega)).1 = decide (d[k] = d[j]'(by omega)) from decide_eq_decide.2 ⟨fun h => Subtype.ext h, fun h => by rw [h]⟩]
    by_cases he : d[k] = d[j]'(by omega)
    ·rw [decide_eq_true he]
     have := h _ hS
     rw [decide_eq_false (fun h1 => by
      have h2 := List.pairwise_iff_getElem.1 h1.1 j k (by omega) hlt hlj
      exact h2 he.symm)] at this
     refine gW ?_
     exact g_ret (q_1 rfl this)
    ·rw [decide_eq_false he]
     refine gW ?_
     refine g_rq rfl rfl (in64 (by simp only [arv]; omega)) ?_
     refine gW ?_
     refine g_l (j + 1) ⟨rfl, rfl, rfl, trivial⟩ ⟨by omega, ?_, hS⟩ (by omega)
     rw [List.take_succ_eq_append_getElem (by omega), List.mem_append]
     rintro (h1 | h1)
     ·exact hJ h1
     ·exact he (List.mem_singleton.1 h1)
   ·have ej : j = k := by omega
    subst ej
    refine gW ?_
    exact g_jx () ⟨rfl, rfl, trivial⟩ ⟨hJ, hS⟩
  ·clear hS
   rintro _ T w1 hT ⟨hN, hS⟩
   refine g_wkc hT ?_
   refine gW ?_
   refine g_rq rfl rfl (in64 (by simp only [arv]; omega)) ?_
   refine gW ?_
   refine g_l (k + 1) ⟨rfl, rfl, trivial⟩ ⟨hlt, ?_, hS⟩ (by omega)
   rw [List.take_succ_eq_append_getElem hlt, List.nodup_append]
   exact ⟨hI, List.pairwise_singleton _ _, fun x hx y hy => by rw [List.mem_singleton.1 hy]; rintro rfl; exact hN hx⟩
 ·have ek : k = d.length := by omega
  subst ek
  rw [List.take_length] at hI
  have e : cmv .leq (d.length : Int) 4 = decide (d.Nodup ∧ d.length ≤ 4) := by
   simp only [cmv]
   exact decide_eq_decide.2 ⟨fun h => ⟨hI, by omega⟩, fun h => by omega⟩
  refine gW ?_
  rw [e]
  exact g_ret (q_1 rfl (h _ hS))
theorem en_at {l : List Value} {off : Nat} {d : List En} (h : (l.drop off).take (d.length * 34) = fl enC d) {i : Nat} (hi : i < d.length) : l[off + i * 34 + 0]? = some (sv d[i].1) ∧ l[off + i * 34 + 1]? = some (.int .i64 (d[i].2.1 : Int)) := by
 have h1 := rd_at enC_len h rfl hi
 have h0 : ∀ j, j < 34 → l[off + i * 34 + j]? = (enC d[i])[j]? := fun j hj => by rw [← h1, List.getElem?_take_of_lt hj, List.getElem?_drop]
 exact ⟨h0 0 (by decide), h0 1 (by decide)⟩
set_option maxRecDepth 100000 in
set_option maxHeartbeats 2000000 in
theorem r_entries {v : Value} {d : List En} (hn : d.length < 2000000) (hN : ∀ e ∈ d, e.1.length < 1000000) (hr : Rd v E0 34 d.length (fl enC d) w) (h : ∀ (q : Bool) w', (q = true ↔ d.length ≤ 32 ∧ tokB d) → St w (fun _ => False) w' [] → K (.bool q) w') : CK Tryz.prog 157 [v] w K := by
 have hS := St.nil w (fun _ => False)
 have hrr : ∀ {L : List Res} (w' : World), St w (fun _ => False) w' L → Rd v E0 34 d.length (fl enC d) w' := fun w' hS => hr.same fun b hb => hS.fr.kept b (hr.lt b hb) (fun h => h)
 have no : ∀ w', ¬ (d.length ≤ 32 ∧ tokB d) → St w (fun _ => False) w' [] → K (.bool false) w' := fun w' hno hS => h false w' ⟨fun h => (by cases h), fun h => absurd h hno⟩ hS
 obtain ⟨a, c, rfl⟩ := hr.form
 refine call_k Tryz.func157 k157 Tryz.ntmps157 (Nat.le_of_ble_eq_true rfl) ?_
 refine gW ?_
 (generalize h32 : cmv _ _ _ = q; cases q <;> simp only [cmv, arv, Bool.not_eq_true', Bool.not_eq_false', decide_eq_true_eq, decide_eq_false_iff_not] at h32 <;> first | (exfalso; omega) | skip)
 rotate_left
 ·refine gW ?_
  exact g_ret (q_1 rfl (no _ (fun h => by have := h.1; omega) hS))
 refine gW ?_
 refine g_lp (ι := Nat) (fun k => [(0, .slice a d.length c), (3, .int .i64 k)]) (fun k w' => k ≤ d.length ∧ tokB (d.take k) ∧ St w (fun _ => False) w' []) (fun k => d.length - k) 0 ⟨rfl, rfl, trivial⟩ ⟨Nat.zero_le _, ⟨fun e he => absurd he List.not_mem_nil, List.Pairwise.nil⟩, hS⟩ ?_
 clear hS
 rintro k w1 ⟨hk, hI, hS⟩
 refine gW ?_
 (refine g_cd rfl (fun hlt => ?_) (fun hlt => ?_) <;> simp only [cmv, arv, Bool.not_eq_true', Bool.not_eq_false', decide_eq_true_eq, decide_eq_false_iff_not] at hlt)
 ·have hlt : k < d.length := by omega
  have hnx := tok_next hlt
  have bad : ∀ w', ¬ tokB (d.take (k + 1)) → St w (fun _ => False) w' [] → K (.bool false) w' := fun w' hb hS => no w' (fun h1 => hb (tok_take h1.2 _)) hS
  obtain ⟨b, off, cap, l, e1, hcap, hl, hx, hb⟩ := Rd.block (hrr _ hS) (by omega)
  cases e1
  obtain ⟨g1, g2⟩ := en_at hx hlt
  refine gW ?_
  refine g_rq rfl rfl ⟨by omega, by omega⟩ ?_
  refine gW ?_
  refine g_l1r rfl rfl hb (by rw [Int.toNat_natCast]; exact g1) ?_
  refine g_cl rfl rfl (r_name (by have := hN _ (List.getElem_mem hlt); omega) ?_)
  refine gW ?_
  refine g_dr mixed ?_
  replace hS := hS.drew
  replace hb : Blr w1.drew b l E0 := hb
  have henB : enB d[k] = (nmB d[k].1 && decide (d[k].2.1 = 1 ∨ d[k].2.1 = 2)) := rfl
  cases hnm : nmB d[k].1
  ·rw [hnm] at henB
   refine gD ?_
   refine d_fin ?_
   refine gW ?_
   exact g_ret (q_1 rfl (bad _ (fun h => by have := (hnx.1 h).2.1; rw [henB] at this; cases this) hS))
  rw [hnm] at henB
  refine gD ?_
  refine d_rq rfl rfl rfl ⟨by omega, by omega⟩ ?_
  refine gD ?_
  refine d_l1r rfl rfl rfl hb (by rw [Int.toNat_natCast]; exact g2) ?_
  refine gD ?_
  (generalize q1 : cmv _ _ _ = q; cases q <;> simp only [cmv, arv, Bool.not_eq_true', Bool.not_eq_false', decide_eq_true_eq, decide_eq_false_iff_not] at q1 <;> first | (exfalso; omega) | skip)
  rotate_left
  ·refine gD ?_
   refine d_fin ?_
   refine gW ?_
   exact g_ret (q_1 rfl (bad _ (fun h => by have := (hnx.1 h).2.1; rw [henB] at this; simp at this; omega) hS))
  refine gD ?_
  refine d_rq rfl rfl rfl ⟨by omega, by omega⟩ ?_
  refine gD ?_
  refine d_l1r rfl rfl rfl hb (by rw [Int.toNat_natCast]; exact g2) ?_
  refine gD ?_
  (generalize q2 : cmv _ _ _ = q; cases q <;> simp only [cmv, arv, Bool.not_eq_true', Bool.not_eq_false', decide_eq_true_eq, decide_eq_false_iff_not] at q2 <;> first | (exfalso; omega) | skip)
  rotate_left
  ·refine gD ?_
   refine d_fin ?_
   refine gW ?_
   exact g_ret (q_1 rfl (bad _ (fun h => by have := (hnx.1 h).2.1; rw [henB] at this; simp at this; omega) hS))
  have hen : enB d[k] = true := by rw [henB, decide_eq_true (by omega)]; rfl
  refine gD ?_
  by_cases k0 : k = 0
  ·rw [show cmv BinOp.gtr (k : Int) 0 = false by simp only [cmv]; exact decide_eq_false (by omega)]
   refine gD ?_
   refine d_fin ?_
   refine gW ?_
   refine g_rq rfl rfl (in64 (by simp only [arv]; omega)) ?_
   refine gW ?_
   exact g_l (k + 1) ⟨rfl, rfl, trivial⟩ ⟨hlt, hnx.2 ⟨hI, hen, fun h => by omega⟩, hS⟩ (by omega)
  ·rw [show cmv BinOp.gtr (k : Int) 0 = true by simp only [cmv]; exact decide_eq_true (by omega)]
   obtain ⟨g3, g4⟩ := en_at hx (show k - 1 < d.length by omega)
   refine gD ?_
   refine d_rq rfl rfl rfl (in64 (by simp only [arv]; omega)) ?_
   rw [show arv .sub (k : Int) 1 = ((k - 1 : Nat) : Int) by simp only [arv]; omega]
   refine d_rq rfl rfl rfl ⟨by omega, by omega⟩ ?_
   refine gD ?_
   refine d_l1r rfl rfl rfl hb (by rw [Int.toNat_natCast]; exact g3) ?_
   refine gD ?_
   refine d_rq rfl rfl rfl ⟨by omega, by omega⟩ ?_
   refine gD ?_
   refine d_l1r rfl rfl rfl hb (by rw [Int.toNat_natCast]; exact g1) ?_
   refine gD ?_
   refine d_fin ?_
   have hsc : scv .geq (⟨(d[k - 1]'(by omega)).1.toArray⟩ : ByteArray).data.toList (⟨d[k].1.toArray⟩ : ByteArray).data.toList = !decide (Lib.compareBytes (d[k - 1]'(by omega)).1 d[k].1 < 0) := by
    show (!Op.bytesLess _ _) = _
    rw [bless_eq]
   rw [hsc]
   by_cases hlc : Lib.compareBytes (d[k - 1]'(by omega)).1 d[k].1 < 0
   ·rw [decide_eq_true hlc]
    refine gW ?_
    refine g_rq rfl rfl (in64 (by simp only [arv]; omega)) ?_
    refine gW ?_
    exact g_l (k + 1) ⟨rfl, rfl, trivial⟩ ⟨hlt, hnx.2 ⟨hI, hen, fun _ => hlc⟩, hS⟩ (by omega)
   ·rw [decide_eq_false hlc]
    refine gW ?_
    exact g_ret (q_1 rfl (bad _ (fun h => hlc ((hnx.1 h).2.2 (by omega))) hS))
 ·have ek : k = d.length := by omega
  subst ek
  rw [List.take_length] at hI
  refine gW ?_
  exact g_ret (q_1 rfl (h true _ ⟨fun _ => ⟨by omega, hI⟩, fun _ => rfl⟩ hS))
end
theorem ok1 {o : Obj} (hk : o.kind = 1) : okO o ↔ o.data.length ≤ 1024 ∧ o.ents = [] ∧ (o.pars = [] ∧ o.tree = idZ) ∧ o.msg = [] ∧ (o.tk = 0 ∧ o.tid = idZ) := by
 constructor
 ·rintro (h | h | h | h)
  ·exact ⟨h.2.1, h.2.2.1, ⟨h.2.2.2.2.1, h.2.2.2.1⟩, h.2.2.2.2.2.2.2, h.2.2.2.2.2.1, h.2.2.2.2.2.2.1⟩
  all_goals have := h.1; omega
 ·rintro ⟨a, b, ⟨c, d⟩, e, f, g⟩
  exact .inl ⟨hk, a, b, d, c, f, g, e⟩
theorem ok2 {o : Obj} (hk : o.kind = 2) : okO o ↔ (o.ents.length ≤ 32 ∧ tokB o.ents) ∧ o.data = [] ∧ (o.pars = [] ∧ o.tree = idZ) ∧ o.msg = [] ∧ (o.tk = 0 ∧ o.tid = idZ) := by
 constructor
 ·rintro (h | h | h | h)
  ·have := h.1; omega
  ·exact ⟨h.2.1, h.2.2.1, ⟨h.2.2.2.2.1, h.2.2.2.1⟩, h.2.2.2.2.2.2.2, h.2.2.2.2.2.1, h.2.2.2.2.2.2.1⟩
  all_goals have := h.1; omega
 ·rintro ⟨a, b, ⟨c, d⟩, e, f, g⟩
  exact .inr (.inl ⟨hk, a, b, d, c, f, g, e⟩)
theorem ok3 {o : Obj} (hk : o.kind = 3) : okO o ↔ (o.pars.Nodup ∧ o.pars.length ≤ 4) ∧ o.msg.length ≤ 200 ∧ o.data = [] ∧ o.ents = [] ∧ (o.tk = 0 ∧ o.tid = idZ) := by
 constructor
 ·rintro (h | h | h | h)
  ·have := h.1; omega
  ·have := h.1; omega
  ·exact ⟨⟨h.2.1.2.1, h.2.1.1⟩, h.2.1.2.2, h.2.2.1, h.2.2.2.1, h.2.2.2.2⟩
  ·have := h.1; omega
 ·rintro ⟨⟨a, b⟩, c, d, e, f⟩
  exact .inr (.inr (.inl ⟨hk, ⟨b, a, c⟩, d, e, f⟩))
theorem ok4 {o : Obj} (hk : o.kind = 4) : okO o ↔ 1 ≤ o.tk ∧ o.tk ≤ 4 ∧ o.msg.length ≤ 200 ∧ o.data = [] ∧ o.ents = [] ∧ (o.pars = [] ∧ o.tree = idZ) := by
 constructor
 ·rintro (h | h | h | h)
  ·have := h.1; omega
  ·have := h.1; omega
  ·have := h.1; omega
  ·exact ⟨h.2.1.1, h.2.1.2.1, h.2.1.2.2, h.2.2.1, h.2.2.2.1, h.2.2.2.2.2, h.2.2.2.2.1⟩
 ·rintro ⟨a, b, c, d, e, f, g⟩
  exact .inr (.inr (.inr ⟨hk, ⟨a, b, c⟩, d, e, g, f⟩))
section
variable {w w0 : World} {S0 : Nat → Prop} {L B : List Res} {K : Value → World → Prop} {s : Bs} {E0 E1 : Nat}
theorem gtr0 {α : Type} (l : List α) : cmv .gtr (l.length : Int) 0 = true ↔ l ≠ [] := by
 simp only [cmv, decide_eq_true_eq]
 cases l with
 | nil => simp
 | cons a l => simp
set_option maxRecDepth 100000 in
set_option maxHeartbeats 8000000 in
theorem r_CheckO {o : Obj} {vd ve vp : Value} (hR : OR o vd ve vp w) (hB : OB o) (h : ∀ w', St w (fun _ => False) w' [] → K (.int .i64 (if okO o then 0 else 70)) w') : CK Tryz.prog 110 [.agg ⟨oc o vd ve vp⟩] w K := by
 have hS := St.nil w (fun _ => False)
 have lo := oc_len o vd ve vp
 have no : ¬ okO o → ∀ w' {L}, St w (fun _ => False) w' L → K (.int .i64 70) w' := fun hn w' L hS => by have := h w' (hS.sub (A := []) (List.nil_sublist _)); rwa [if_neg hn] at this
 have yes : okO o → ∀ w' {L}, St w (fun _ => False) w' L → K (.int .i64 0) w' := fun hn w' L hS => by have := h w' (hS.sub (A := []) (List.nil_sublist _)); rwa [if_pos hn] at this
 obtain ⟨p1, p2, p3, p4, p5⟩ := oc_part o vd ve vp
 obtain ⟨q1, q2, q3⟩ := oc_at o vd ve vp
 have p6 : ((oc o vd ve vp).drop 37).take 32 = ic o.tid := by
  have e1 : ((oc o vd ve vp).drop 37).take 32 = (((oc o vd ve vp).drop 36).take 33).drop 1 := by rw [List.drop_take, List.drop_drop]
  rw [e1, p4]
  rfl
 have hz : (⟨o.msg.toArray⟩ : ByteArray).size = o.msg.length := by show o.msg.toArray.size = _; simp
 obtain ⟨⟨F1, r1⟩, ⟨F2, r2⟩, ⟨F3, r3⟩⟩ := hR
 obtain ⟨ad, cd, rfl⟩ := r1.form
 obtain ⟨ae, ce, rfl⟩ := r2.form
 obtain ⟨ap, cp, rfl⟩ := r3.form
 have hR' : ∀ {w' : World} {L : List Res}, St w (fun _ => False) w' L → OR o (.slice ad o.data.length cd) (.slice ae o.ents.length ce) (.slice ap o.pars.length cp) w' := fun hS => OR.to (⟨⟨F1, r1⟩, ⟨F2, r2⟩, ⟨F3, r3⟩⟩ : OR o (.slice ad o.data.length cd) (.slice ae o.ents.length ce) (.slice ap o.pars.length cp) w) hS
 refine call_k Tryz.func110 k110 Tryz.ntmps110 (Nat.le_of_ble_eq_true rfl) ?_
 refine gW ?_
 refine g_ef rfl (ef_bx hS rfl fun b1 w1 hS => ?_)
 replace hS : St w (fun _ => False) w1 [cel b1 (oc o (.slice ad o.data.length cd) (.slice ae o.ents.length ce) (.slice ap o.pars.length cp)) 79] := hS
 refine gW ?_
 refine g_lm rfl rfl (hS.b 0 rfl) (by rw [lo]; decide) ?_
 rw [p2]
 refine g_cl rfl rfl (r_Zero fun w2 h' => ?_)
 replace hS := hS.call0.2 _ _ h'
 rw [List.append_nil] at hS
 clear h'
 refine gW ?_
 refine g_l1 rfl rfl (hS.b 0 rfl) (v := .int .i64 (o.tk : Int)) q2 ?_
 refine gW ?_
 refine g_atx (ι := Bool) 1 (fun z => [(1, dp b1), (2, .int .i64 0), (3, .bool (decide (o.tree = idZ))), (4, .bool z)]) (fun z w' => (z = true ↔ o.tk = 0 ∧ o.tid = idZ) ∧ St w (fun _ => False) w' [cel b1 (oc o (.slice ad o.data.length cd) (.slice ae o.ents.length ce) (.slice ap o.pars.length cp)) 79]) rfl ?_ ?_
 ·(generalize h0 : cmv _ _ _ = q; cases q <;> simp only [cmv, arv, Bool.not_eq_true', Bool.not_eq_false', decide_eq_true_eq, decide_eq_false_iff_not] at h0 <;> first | (exfalso; omega) | skip)
  ·refine gW ?_
   exact g_jx false ⟨rfl, rfl, rfl, rfl, trivial⟩ ⟨⟨fun h => (by cases h), fun h => absurd h.1 (by omega)⟩, hS⟩
  ·refine gW ?_
   refine g_lm rfl rfl (hS.b 0 rfl) (by rw [lo]; decide) ?_
   rw [p6]
   refine g_cl rfl rfl (r_Zero fun w2 h' => ?_)
   replace hS := hS.call0.2 _ _ h'
   rw [List.append_nil] at hS
   clear h'
   refine gW ?_
   exact g_jx (decide (o.tid = idZ)) ⟨rfl, rfl, rfl, rfl, trivial⟩ ⟨by rw [decide_eq_true_eq]; exact ⟨fun h => ⟨by omega, h⟩, fun h => h.2⟩, hS⟩
 clear hS
 rintro z T w1 hT ⟨hzz, hS⟩
 refine g_wkc hT ?_
 clear hT
 refine gW ?_
 refine g_l1 (off := 1) rfl rfl (hS.b 0 rfl) (v := .slice ad o.data.length cd) rfl ?_
 refine gW ?_
 refine g_l1 (off := 2) rfl rfl (hS.b 0 rfl) (v := .slice ae o.ents.length ce) rfl ?_
 refine gW ?_
 refine g_l1 rfl rfl (hS.b 0 rfl) (v := sv o.msg) q3 ?_
 refine gW ?_
 rw [hz]
 refine g_l1 rfl rfl (hS.b 0 rfl) (v := .slice ap o.pars.length cp) q1 ?_
 refine gW ?_
 refine g_atx (ι := Bool) 1 (fun u => [(1, dp b1), (2, .int .i64 0), (4, .bool z), (5, .bool (cmv .gtr (o.data.length : Int) 0)), (6, .bool (cmv .gtr (o.ents.length : Int) 0)), (7, .bool (cmv .gtr (o.msg.length : Int) 0)), (8, .bool u)]) (fun u w' => (u = true ↔ ¬ (o.pars = [] ∧ o.tree = idZ)) ∧ St w (fun _ => False) w' [cel b1 (oc o (.slice ad o.data.length cd) (.slice ae o.ents.length ce) (.slice ap o.pars.length cp)) 79]) rfl ?_ ?_
 ·have hg := gtr0 o.pars
  generalize cmv BinOp.gtr (o.pars.length : Int) 0 = q at hg ⊢
  cases q
  ·refine gW ?_
   refine g_jx (!decide (o.tree = idZ)) ⟨rfl, rfl, rfl, rfl, rfl, rfl, rfl, trivial⟩ ⟨?_, hS⟩
   have hp : o.pars = [] := Decidable.of_not_not fun h => by have := hg.2 h; cases this
   simp [hp]
  ·refine gW ?_
   refine g_jx true ⟨rfl, rfl, rfl, rfl, rfl, rfl, rfl, trivial⟩ ⟨?_, hS⟩
   exact ⟨fun _ h => hg.1 rfl h.1, fun _ => rfl⟩
 clear hS
 rintro u T w1 hT ⟨hu, hS⟩
 refine g_wkc hT ?_
 clear hT
 have hD := gtr0 o.data
 have hE := gtr0 o.ents
 have hM := gtr0 o.msg
 generalize cmv BinOp.gtr (o.data.length : Int) 0 = D at hD ⊢
 generalize cmv BinOp.gtr (o.ents.length : Int) 0 = E at hE ⊢
 generalize cmv BinOp.gtr (o.msg.length : Int) 0 = M at hM ⊢
 have nn : ∀ {α : Type} {l : List α} {q : Bool}, (q = true ↔ l ≠ []) → q = false → l = [] := fun {α} {l} {q} h e => by
  cases l with
  | nil => rfl
  | cons a l => rw [h.2 (by simp)] at e; cases e
 have nu : u = false → o.pars = [] ∧ o.tree = idZ := fun e => Classical.byContradiction fun h => by rw [hu.2 h] at e; cases e
 refine gW ?_
 refine g_l1 rfl rfl (hS.b 0 rfl) (v := .int .i64 (o.kind : Int)) rfl ?_
 refine gW ?_
 (generalize k1 : cmv _ _ _ = q; cases q <;> simp only [cmv, arv, Bool.not_eq_true', Bool.not_eq_false', decide_eq_true_eq, decide_eq_false_iff_not] at k1 <;> first | (exfalso; omega) | skip)
 ·refine gW ?_
  (generalize k2 : cmv _ _ _ = q; cases q <;> simp only [cmv, arv, Bool.not_eq_true', Bool.not_eq_false', decide_eq_true_eq, decide_eq_false_iff_not] at k2 <;> first | (exfalso; omega) | skip)
  ·refine gW ?_
   (generalize k3 : cmv _ _ _ = q; cases q <;> simp only [cmv, arv, Bool.not_eq_true', Bool.not_eq_false', decide_eq_true_eq, decide_eq_false_iff_not] at k3 <;> first | (exfalso; omega) | skip)
   ·refine gW ?_
    (generalize k4 : cmv _ _ _ = q; cases q <;> simp only [cmv, arv, Bool.not_eq_true', Bool.not_eq_false', decide_eq_true_eq, decide_eq_false_iff_not] at k4 <;> first | (exfalso; omega) | skip)
    ·have hn : ¬ okO o := fun h => by rcases h with h | h | h | h <;> have := h.1 <;> omega
     refine gW ?_
     exact g_ret (q_1 rfl (no hn _ hS))
    ·have k4 : o.kind = 4 := by omega
     have hk := ok4 k4
     refine gW ?_
     refine g_l1 rfl rfl (hS.b 0 rfl) (v := .int .i64 (o.tk : Int)) q2 ?_
     refine gW ?_
     (generalize c1 : cmv _ _ _ = q; cases q <;> simp only [cmv, arv, Bool.not_eq_true', Bool.not_eq_false', decide_eq_true_eq, decide_eq_false_iff_not] at c1 <;> first | (exfalso; omega) | skip)
     ·refine gW ?_
      exact g_ret (q_1 rfl (no (fun h => by have := (hk.1 h).1; omega) _ hS))
     refine gW ?_
     refine g_l1 rfl rfl (hS.b 0 rfl) (v := .int .i64 (o.tk : Int)) q2 ?_
     refine gW ?_
     (generalize c2 : cmv _ _ _ = q; cases q <;> simp only [cmv, arv, Bool.not_eq_true', Bool.not_eq_false', decide_eq_true_eq, decide_eq_false_iff_not] at c2 <;> first | (exfalso; omega) | skip)
     ·refine gW ?_
      exact g_ret (q_1 rfl (no (fun h => by have := (hk.1 h).2.1; omega) _ hS))
     refine gW ?_
     refine g_l1 rfl rfl (hS.b 0 rfl) (v := sv o.msg) q3 ?_
     refine gW ?_
     rw [hz]
     (generalize c3 : cmv _ _ _ = q; cases q <;> simp only [cmv, arv, Bool.not_eq_true', Bool.not_eq_false', decide_eq_true_eq, decide_eq_false_iff_not] at c3 <;> first | (exfalso; omega) | skip)
     ·refine gW ?_
      exact g_ret (q_1 rfl (no (fun h => by have := (hk.1 h).2.2.1; omega) _ hS))
     refine gW ?_
     cases D
     rotate_left
     ·refine gW ?_
      exact g_ret (q_1 rfl (no (fun h => hD.1 rfl (hk.1 h).2.2.2.1) _ hS))
     refine gW ?_
     cases E
     rotate_left
     ·refine gW ?_
      exact g_ret (q_1 rfl (no (fun h => hE.1 rfl (hk.1 h).2.2.2.2.1) _ hS))
     refine gW ?_
     cases u
     rotate_left
     ·refine gW ?_
      exact g_ret (q_1 rfl (no (fun h => hu.1 rfl (hk.1 h).2.2.2.2.2) _ hS))
     refine gW ?_
     exact g_ret (q_1 rfl (yes (hk.2 ⟨by omega, by omega, by omega, nn hD rfl, nn hE rfl, nu rfl⟩) _ hS))
   ·have k3 : o.kind = 3 := by omega
    have hk := ok3 k3
    obtain ⟨_, _, ⟨F3, r3⟩⟩ := hR' hS
    refine gW ?_
    refine g_l1 rfl rfl (hS.b 0 rfl) (v := .slice ap o.pars.length cp) q1 ?_
    refine g_cl rfl rfl (r_parents hB.2.2.1 r3 fun w2 h' => ?_)
    replace hS := hS.call0.2 _ _ h'
    rw [List.append_nil] at hS
    clear h'
    by_cases c1 : o.pars.Nodup ∧ o.pars.length ≤ 4
    rotate_left
    ·rw [decide_eq_false c1]
     refine gW ?_
     exact g_ret (q_1 rfl (no (fun h => c1 (hk.1 h).1) _ hS))
    rw [decide_eq_true c1]
    refine gW ?_
    refine g_l1 rfl rfl (hS.b 0 rfl) (v := sv o.msg) q3 ?_
    refine gW ?_
    rw [hz]
    (generalize c3 : cmv _ _ _ = q; cases q <;> simp only [cmv, arv, Bool.not_eq_true', Bool.not_eq_false', decide_eq_true_eq, decide_eq_false_iff_not] at c3 <;> first | (exfalso; omega) | skip)
    ·refine gW ?_
     exact g_ret (q_1 rfl (no (fun h => by have := (hk.1 h).2.1; omega) _ hS))
    refine gW ?_
    cases D
    rotate_left
    ·refine gW ?_
     exact g_ret (q_1 rfl (no (fun h => hD.1 rfl (hk.1 h).2.2.1) _ hS))
    refine gW ?_
    cases E
    rotate_left
    ·refine gW ?_
     exact g_ret (q_1 rfl (no (fun h => hE.1 rfl (hk.1 h).2.2.2.1) _ hS))
    refine gW ?_
    cases z
    ·refine gW ?_
     exact g_ret (q_1 rfl (no (fun h => by have := hzz.2 (hk.1 h).2.2.2.2; cases this) _ hS))
    refine gW ?_
    exact g_ret (q_1 rfl (yes (hk.2 ⟨c1, by omega, nn hD rfl, nn hE rfl, hzz.1 rfl⟩) _ hS))
  ·have k2 : o.kind = 2 := by omega
   have hk := ok2 k2
   obtain ⟨_, ⟨F2, r2⟩, _⟩ := hR' hS
   refine gW ?_
   refine g_l1 (off := 2) rfl rfl (hS.b 0 rfl) (v := .slice ae o.ents.length ce) rfl ?_
   refine g_cl rfl rfl (r_entries hB.2.1 hB.2.2.2.2 r2 fun q w2 hq h' => ?_)
   replace hS := hS.call0.2 _ _ h'
   rw [List.append_nil] at hS
   clear h'
   cases q
   ·refine gW ?_
    exact g_ret (q_1 rfl (no (fun h => by have := hq.2 (hk.1 h).1; cases this) _ hS))
   refine gW ?_
   cases D
   rotate_left
   ·refine gW ?_
    exact g_ret (q_1 rfl (no (fun h => hD.1 rfl (hk.1 h).2.1) _ hS))
   refine gW ?_
   cases u
   rotate_left
   ·refine gW ?_
    exact g_ret (q_1 rfl (no (fun h => hu.1 rfl (hk.1 h).2.2.1) _ hS))
   refine gW ?_
   cases M
   rotate_left
   ·refine gW ?_
    exact g_ret (q_1 rfl (no (fun h => hM.1 rfl (hk.1 h).2.2.2.1) _ hS))
   refine gW ?_
   cases z
   ·refine gW ?_
    exact g_ret (q_1 rfl (no (fun h => by have := hzz.2 (hk.1 h).2.2.2.2; cases this) _ hS))
   refine gW ?_
   exact g_ret (q_1 rfl (yes (hk.2 ⟨hq.1 rfl, nn hD rfl, nu rfl, nn hM rfl, hzz.1 rfl⟩) _ hS))
 ·have k1 : o.kind = 1 := by omega
  have hk := ok1 k1
  refine gW ?_
  refine g_l1 (off := 1) rfl rfl (hS.b 0 rfl) (v := .slice ad o.data.length cd) rfl ?_
  refine gW ?_
  (generalize c1 : cmv _ _ _ = q; cases q <;> simp only [cmv, arv, Bool.not_eq_true', Bool.not_eq_false', decide_eq_true_eq, decide_eq_false_iff_not] at c1 <;> first | (exfalso; omega) | skip)
  ·refine gW ?_
   exact g_ret (q_1 rfl (no (fun h => by have := (hk.1 h).1; omega) _ hS))
  refine gW ?_
  cases E
  rotate_left
  ·refine gW ?_
   exact g_ret (q_1 rfl (no (fun h => hE.1 rfl (hk.1 h).2.1) _ hS))
  refine gW ?_
  cases u
  rotate_left
  ·refine gW ?_
   exact g_ret (q_1 rfl (no (fun h => hu.1 rfl (hk.1 h).2.2.1) _ hS))
  refine gW ?_
  cases M
  rotate_left
  ·refine gW ?_
   exact g_ret (q_1 rfl (no (fun h => hM.1 rfl (hk.1 h).2.2.2.1) _ hS))
  refine gW ?_
  cases z
  ·refine gW ?_
   exact g_ret (q_1 rfl (no (fun h => by have := hzz.2 (hk.1 h).2.2.2.2; cases this) _ hS))
  refine gW ?_
  exact g_ret (q_1 rfl (yes (hk.2 ⟨by omega, nn hE rfl, nu rfl, nn hM rfl, hzz.1 rfl⟩) _ hS))
end
theorem encN_len (n : Nat) : (encN n).length ≤ 11 := by
 have key : ∀ f n, (encF f n).length ≤ f + 1 := by
  intro f
  induction f with
  | zero => intro n; simp [encF]
  | succ f ih => intro n; rw [encF]; split <;> simp [ih]
 exact key 10 _
theorem encB_len (b : Bs) : (encB b).length ≤ 11 + b.length := by
 have := encN_len b.length
 unfold encB
 rw [List.length_append]
 omega
theorem encE_len {e : En} (h : enB e = true) : (encE e).length ≤ 108 := by
 have h1 := encB_len e.1
 have h2 : e.1.length ≤ 64 := by
  unfold enB nmB at h
  simp only [Bool.and_eq_true, decide_eq_true_eq] at h
  exact h.1.1.2
 unfold encE
 rw [List.length_append, List.length_cons, e.2.2.2]
 omega
theorem flat_le {α : Type} {f : α → Bs} {m : Nat} : ∀ {l : List α}, (∀ x ∈ l, (f x).length ≤ m) → (l.map f).flatten.length ≤ l.length * m
 | [], _ => by simp
 | a :: l, h => by
  have h1 := h a (by simp)
  have h2 := flat_le (l := l) fun x hx => h x (by simp [hx])
  rw [List.map_cons, List.flatten_cons, List.length_append, List.length_cons, Nat.succ_mul]
  omega
theorem u8w (n : Nat) : IntKind.u8.wrap (n : Int) = ((UInt8.ofNat n).toNat : Int) := by
 rw [IntKind.wrap_u8, UInt8.toNat_ofNat']
 omega
section
variable {w w0 : World} {S0 : Nat → Prop} {L B : List Res} {K : Value → World → Prop} {s : Bs} {E0 E1 : Nat}
theorem ef_apB {T : TT} {a b : Operand} {acc x : Bs} {v u : Value} (hS : St w0 S0 w L) (i : Nat) (hi : L[i]? = some (row v 5 1 acc.length (bys acc))) (hx : ev T a = some v) (hy : ev T b = some u) (hr : Rd u E0 1 x.length (bys x) w) (hb : acc.length + x.length < 1000000000)
  (h : ∀ v' w', St w0 S0 w' (L.set i (row v' 5 1 (acc ++ x).length (bys (acc ++ x)))) → K v' w') : Ef Tryz.prog none (.ap 5 1 1 [(1, .int .u8 0)] a b) T w K := by
 refine ef_ap (bytes := 1) (n := acc.length) (m := x.length) (ys := bys x) hS i hi hx hy (.inl ⟨_, hr⟩) (bys_one _) (by omega) (by omega) fun v' w' hS => h v' w' ?_
 rw [← bys_append, ← List.length_append] at hS
 exact hS
theorem rd_part {b off : Nat} {l : List Value} {x : Bs} (hb : Blk w b l E0) (hl : off + x.length ≤ l.length) (hx : (l.drop off).take x.length = bys x) : Rd (.slice (some ⟨b, off, none⟩) x.length x.length) E0 1 x.length (bys x) w :=
 .inr ⟨b, off, x.length, l, rfl, Nat.le_refl _, by omega, by rw [Nat.mul_one]; exact hx, hb.r⟩
set_option maxRecDepth 100000 in
set_option maxHeartbeats 8000000 in
theorem r_BytesO {o : Obj} {vd ve vp : Value} (hR : OR o vd ve vp w) (hok : okO o) (h : ∀ v' w', St w (fun _ => False) w' [row v' 5 1 (encO o).length (bys (encO o))] → K v' w') : CK Tryz.prog 111 [.agg ⟨oc o vd ve vp⟩] w K := by
 have hS := St.nil w (fun _ => False)
 have lo := oc_len o vd ve vp
 obtain ⟨p1, p2, p3, p4, p5⟩ := oc_part o vd ve vp
 obtain ⟨q1, q2, q3⟩ := oc_at o vd ve vp
 have p6 : ((oc o vd ve vp).drop 37).take 32 = ic o.tid := by
  have e1 : ((oc o vd ve vp).drop 37).take 32 = (((oc o vd ve vp).drop 36).take 33).drop 1 := by rw [List.drop_take, List.drop_drop]
  rw [e1, p4]
  rfl
 obtain ⟨⟨F1, r1⟩, ⟨F2, r2⟩, ⟨F3, r3⟩⟩ := hR
 obtain ⟨ad, cd, rfl⟩ := r1.form
 obtain ⟨ae, ce, rfl⟩ := r2.form
 obtain ⟨ap, cp, rfl⟩ := r3.form
 have hR' : ∀ {w' : World} {L : List Res}, St w (fun _ => False) w' L → OR o (.slice ad o.data.length cd) (.slice ae o.ents.length ce) (.slice ap o.pars.length cp) w' := fun hS => OR.to (⟨⟨F1, r1⟩, ⟨F2, r2⟩, ⟨F3, r3⟩⟩ : OR o (.slice ad o.data.length cd) (.slice ae o.ents.length ce) (.slice ap o.pars.length cp) w) hS
 refine call_k Tryz.func111 k111 Tryz.ntmps111 (Nat.le_of_ble_eq_true rfl) ?_
 refine gW ?_
 refine g_ef rfl (ef_bx hS rfl fun b1 w1 hS => ?_)
 replace hS : St w (fun _ => False) w1 [cel b1 (oc o (.slice ad o.data.length cd) (.slice ae o.ents.length ce) (.slice ap o.pars.length cp)) 79] := hS
 refine gW ?_
 refine g_l1 rfl rfl (hS.b 0 rfl) (v := .int .i64 (o.kind : Int)) rfl ?_
 refine gW ?_
 rw [u8w]
 refine g_ef rfl (ef_bl (rs := bys [UInt8.ofNat o.kind]) hS rfl fun g w1 hS => ?_)
 replace hS := hS.close_row (n := 1) (cap := 1) (sz := 1) (xs := bys [UInt8.ofNat o.kind]) 1 rfl (Nat.le_refl _) rfl (List.prefix_refl _) rfl
 replace hS : St w (fun _ => False) w1 [cel b1 (oc o (.slice ad o.data.length cd) (.slice ae o.ents.length ce) (.slice ap o.pars.length cp)) 79, row (.slice (some ⟨g, 0, none⟩) 1 1) 5 1 [UInt8.ofNat o.kind].length (bys [UInt8.ofNat o.kind])] := hS
 have hmsg : (o.kind = 3 ∨ o.kind = 4) → o.msg.length ≤ 200 := fun hk => by
  rcases hok with h | h | h | h
  ·have := h.1; omega
  ·have := h.1; omega
  ·exact h.2.1.2.2
  ·exact h.2.1.2.2
 have hk1234 : o.kind = 1 ∨ o.kind = 2 ∨ o.kind = 3 ∨ o.kind = 4 := by
  rcases hok with h | h | h | h <;> have := h.1 <;> omega
 refine g_ok rfl rfl ?_
 refine g_r0 ?_
 refine g_sq ?_
 refine g_atx (ι := Bs × Value) 1 (fun x => [(1, dp b1), (3, x.2)]) (fun x w' => x.1 ++ encB o.msg = encO o ∧ x.1.length ≤ 1000 ∧ o.msg.length ≤ 200 ∧ St w (fun _ => False) w' [cel b1 (oc o (.slice ad o.data.length cd) (.slice ae o.ents.length ce) (.slice ap o.pars.length cp)) 79, row x.2 5 1 x.1.length (bys x.1)]) rfl ?_ ?_
 ·refine gW ?_
  refine g_l1 rfl rfl (hS.b 0 rfl) (v := .int .i64 (o.kind : Int)) rfl ?_
  refine gW ?_
  (generalize k1 : cmv _ _ _ = q; cases q <;> simp only [cmv, arv, Bool.not_eq_true', Bool.not_eq_false', decide_eq_true_eq, decide_eq_false_iff_not] at k1 <;> first | (exfalso; omega) | skip)
  ·refine gW ?_
   (generalize k2 : cmv _ _ _ = q; cases q <;> simp only [cmv, arv, Bool.not_eq_true', Bool.not_eq_false', decide_eq_true_eq, decide_eq_false_iff_not] at k2 <;> first | (exfalso; omega) | skip)
   ·refine gW ?_
    (generalize k3 : cmv _ _ _ = q; cases q <;> simp only [cmv, arv, Bool.not_eq_true', Bool.not_eq_false', decide_eq_true_eq, decide_eq_false_iff_not] at k3 <;> first | (exfalso; omega) | skip)
    ·refine gW ?_
     (generalize k4 : cmv _ _ _ = q; cases q <;> simp only [cmv, arv, Bool.not_eq_true', Bool.not_eq_false', decide_eq_true_eq, decide_eq_false_iff_not] at k4 <;> first | (exfalso; omega) | skip)
     have k4 : o.kind = 4 := by omega
     have hE : encO o = UInt8.ofNat o.kind :: UInt8.ofNat o.tk :: (o.tid.1 ++ encB o.msg) := by unfold encO; rw [if_neg (by omega), if_neg (by omega), if_neg (by omega), if_pos k4]
     refine gW ?_
     refine g_l1 rfl rfl (hS.b 0 rfl) (v := .int .i64 (o.tk : Int)) q2 ?_
     refine gW ?_
     rw [u8w]
     refine g_ef rfl (ef_bl (rs := bys [UInt8.ofNat o.tk]) hS rfl fun g2 w1 hS => ?_)
     refine g_ef rfl (ef_apB (acc := [UInt8.ofNat o.kind]) (x := [UInt8.ofNat o.tk]) hS 1 rfl rfl rfl (rd_part (x := [UInt8.ofNat o.tk]) (hS.b 2 rfl) (Nat.le_refl _) rfl) (by simp) fun v2 w1 hS => ?_)
     refine gW ?_
     refine g_rq rfl rfl ⟨by decide, by decide, by decide⟩ ?_
     refine g_ef rfl (ef_apB (acc := [UInt8.ofNat o.kind] ++ [UInt8.ofNat o.tk]) (x := o.tid.1) hS 1 rfl rfl rfl (by
      have := rd_part (x := o.tid.1) (off := 37) (hS.b 0 rfl) (by rw [o.tid.2, lo]; decide) (by rw [o.tid.2]; exact p6)
      rw [o.tid.2] at this ⊢
      exact this) (by rw [o.tid.2]; simp) fun v3 w1 hS => ?_)
     refine gW ?_
     refine g_jx ([UInt8.ofNat o.kind] ++ [UInt8.ofNat o.tk] ++ o.tid.1, v3) ⟨rfl, rfl, trivial⟩ ⟨?_, ?_, hmsg (.inr k4), hS.sel [0, 1] rfl rfl⟩
     ·rw [hE]; simp
     ·simp [o.tid.2]
    ·have k3 : o.kind = 3 := by omega
     have hE : encO o = UInt8.ofNat o.kind :: (o.tree.1 ++ (encN o.pars.length ++ ((o.pars.map (·.1)).flatten ++ encB o.msg))) := by unfold encO; rw [if_neg (by omega), if_neg (by omega), if_pos k3]
     have hp4 : o.pars.length ≤ 4 := ((ok3 k3).1 hok).1.2
     have hnl := encN_len o.pars.length
     refine gW ?_
     refine g_rq rfl rfl ⟨by decide, by decide, by decide⟩ ?_
     refine g_ef rfl (ef_apB (acc := [UInt8.ofNat o.kind]) (x := o.tree.1) hS 1 rfl rfl rfl (by
      have := rd_part (x := o.tree.1) (off := 3) (hS.b 0 rfl) (by rw [o.tree.2, lo]; decide) (by rw [o.tree.2]; exact p2)
      rw [o.tree.2] at this ⊢
      exact this) (by rw [o.tree.2]; simp) fun v2 w1 hS => ?_)
     refine gW ?_
     refine g_l1 rfl rfl (hS.b 0 rfl) (v := .slice ap o.pars.length cp) q1 ?_
     refine gW ?_
     rw [u64n (by omega)]
     refine g_cl rfl rfl (r_enc (n := o.pars.length) (by omega) fun v3 w2 h' => ?_)
     replace hS := hS.call0.2 _ _ h'
     clear h'
     refine g_ef rfl (ef_apB (acc := [UInt8.ofNat o.kind] ++ o.tree.1) (x := encN o.pars.length) hS 1 rfl rfl rfl (Ow.rd (hS.ok 2 _ rfl)) (by simp [o.tree.2]; omega) fun v4 w1 hS => ?_)
     refine gW ?_
     refine g_lp (ι := Nat × Value) (fun x => [(1, dp b1), (3, x.2), (6, .int .i64 x.1)]) (fun x w' => x.1 ≤ o.pars.length ∧ St w (fun _ => False) w' [cel b1 (oc o (.slice ad o.data.length cd) (.slice ae o.ents.length ce) (.slice ap o.pars.length cp)) 79, row x.2 5 1 ([UInt8.ofNat o.kind] ++ o.tree.1 ++ encN o.pars.length ++ ((o.pars.take x.1).map (·.1)).flatten).length (bys ([UInt8.ofNat o.kind] ++ o.tree.1 ++ encN o.pars.length ++ ((o.pars.take x.1).map (·.1)).flatten))]) (fun x => o.pars.length - x.1) (0, v4)
      ⟨rfl, rfl, rfl, trivial⟩ ⟨Nat.zero_le _, by rw [List.take_zero, List.map_nil, List.flatten_nil, List.append_nil]; exact hS.sel [0, 1] rfl rfl⟩ ?_
     clear hS
     rintro ⟨k, v5⟩ w1 ⟨hk, hS⟩
     dsimp only at hk hS ⊢
     have hal : ([UInt8.ofNat o.kind] ++ o.tree.1 ++ encN o.pars.length ++ ((o.pars.take k).map (·.1)).flatten).length ≤ 44 + k * 32 := by
      have := flat_le (l := o.pars.take k) (f := fun x : Id => x.1) (m := 32) fun x _ => Nat.le_of_eq x.2
      rw [List.length_take, Nat.min_eq_left hk] at this
      simp only [List.length_append, List.length_singleton, o.tree.2]
      omega
     refine gW ?_
     refine g_l1 rfl rfl (hS.b 0 rfl) (v := .slice ap o.pars.length cp) q1 ?_
     refine gW ?_
     (generalize hlt : cmv _ _ _ = q; cases q <;> simp only [cmv, arv, Bool.not_eq_true', Bool.not_eq_false', decide_eq_true_eq, decide_eq_false_iff_not] at hlt <;> first | (exfalso; omega) | skip)
     ·have ek : k = o.pars.length := by omega
      subst ek
      rw [List.take_length] at hS hal
      refine gW ?_
      refine g_jx (_, v5) ⟨rfl, rfl, trivial⟩ ⟨?_, Nat.le_trans hal (by omega), hmsg (.inl k3), hS⟩
      rw [hE]; simp
     ·have hlt : k < o.pars.length := by omega
      obtain ⟨_, _, ⟨F4, r4⟩⟩ := hR' hS
      obtain ⟨b, off, cap, l, e1, hcap, hl, hx, hb⟩ := Rd.block r4 (by omega)
      cases e1
      have hbd : off + k * 32 + 32 ≤ l.length := by have : (k + 1) * 32 ≤ cp * 32 := Nat.mul_le_mul_right 32 (by omega); omega
      refine gW ?_
      refine g_l1 rfl rfl (hS.b 0 rfl) (v := .slice (some ⟨b, off, none⟩) o.pars.length cp) q1 ?_
      refine gW ?_
      refine g_rq rfl rfl ⟨by omega, by omega⟩ ?_
      refine g_lmr rfl rfl hb hbd ?_
      rw [Int.toNat_natCast, rd_at ic_len hx rfl hlt]
      refine g_ef rfl (ef_al hS fun b7 w1 hS => ?_)
      have lz : (zx [(32, Value.int .u8 0)]).length = 32 := by decide
      refine gW ?_
      refine g_ef0 rfl (ef_st hS 2 rfl rfl rfl (ic_len _) (by rw [lz]; decide) (List.all_eq_true.2 (ic_one _)) fun w1 hS => ?_)
      replace hS := hS.ceq (l' := ic o.pars[k]) 2 rfl (spl_full _ _ (by show (ic o.pars[k]).length = _; rw [ic_len, lz]))
      refine gW ?_
      refine g_rq rfl rfl ⟨by decide, by decide, by decide⟩ ?_
      refine g_ef rfl (ef_apB (acc := [UInt8.ofNat o.kind] ++ o.tree.1 ++ encN o.pars.length ++ ((o.pars.take k).map (·.1)).flatten) (x := o.pars[k].1) hS 1 rfl rfl rfl (by
       have := rd_part (x := o.pars[k].1) (off := 0) (hS.b 2 rfl) (by rw [o.pars[k].2, ic_len]; decide) (by rw [o.pars[k].2, List.drop_zero, List.take_of_length_le (Nat.le_of_eq (ic_len _))]; rfl)
       rw [o.pars[k].2] at this ⊢
       exact this) (by rw [o.pars[k].2]; omega) fun v6 w1 hS => ?_)
      refine gW ?_
      refine g_rq rfl rfl (in64 (by simp only [arv]; omega)) ?_
      refine gW ?_
      refine g_l (k + 1, v6) ⟨rfl, rfl, rfl, trivial⟩ ⟨hlt, ?_⟩ (by simp only; omega)
      have ea : [UInt8.ofNat o.kind] ++ o.tree.1 ++ encN o.pars.length ++ ((o.pars.take (k + 1)).map (·.1)).flatten = [UInt8.ofNat o.kind] ++ o.tree.1 ++ encN o.pars.length ++ ((o.pars.take k).map (·.1)).flatten ++ o.pars[k].1 := by
       rw [List.take_succ_eq_append_getElem hlt]
       simp only [List.map_append, List.map_cons, List.map_nil, List.flatten_append, List.flatten_cons, List.flatten_nil, List.append_nil, List.append_assoc]
      dsimp only
      rw [ea]
      exact hS.sel [0, 1] rfl rfl
   ·have k2 : o.kind = 2 := by omega
    have hE : encO o = UInt8.ofNat o.kind :: (encN o.ents.length ++ (o.ents.map encE).flatten) := by unfold encO; rw [if_neg (by omega), if_pos k2]
    have hp4 : o.ents.length ≤ 32 := ((ok2 k2).1 hok).1.1
    have hen : ∀ e ∈ o.ents, enB e = true := ((ok2 k2).1 hok).1.2.1
    have hnl := encN_len o.ents.length
    refine gW ?_
    refine g_l1 (off := 2) rfl rfl (hS.b 0 rfl) (v := .slice ae o.ents.length ce) rfl ?_
    refine gW ?_
    rw [u64n (by omega)]
    refine g_cl rfl rfl (r_enc (n := o.ents.length) (by omega) fun v3 w2 h' => ?_)
    replace hS := hS.call0.2 _ _ h'
    clear h'
    refine g_ef rfl (ef_apB (acc := [UInt8.ofNat o.kind]) (x := encN o.ents.length) hS 1 rfl rfl rfl (Ow.rd (hS.ok 2 _ rfl)) (by simp; omega) fun v4 w1 hS => ?_)
    refine gW ?_
    refine g_lp (ι := Nat × Value) (fun x => [(1, dp b1), (3, x.2), (4, .int .i64 x.1)]) (fun x w' => x.1 ≤ o.ents.length ∧ St w (fun _ => False) w' [cel b1 (oc o (.slice ad o.data.length cd) (.slice ae o.ents.length ce) (.slice ap o.pars.length cp)) 79, row x.2 5 1 ([UInt8.ofNat o.kind] ++ encN o.ents.length ++ ((o.ents.take x.1).map encE).flatten).length (bys ([UInt8.ofNat o.kind] ++ encN o.ents.length ++ ((o.ents.take x.1).map encE).flatten))]) (fun x => o.ents.length - x.1) (0, v4)
     ⟨rfl, rfl, rfl, trivial⟩ ⟨Nat.zero_le _, by rw [List.take_zero, List.map_nil, List.flatten_nil, List.append_nil]; exact hS.sel [0, 1] rfl rfl⟩ ?_
    clear hS
    rintro ⟨k, v5⟩ w1 ⟨hk, hS⟩
    dsimp only at hk hS ⊢
    have hal : ([UInt8.ofNat o.kind] ++ encN o.ents.length ++ ((o.ents.take k).map encE).flatten).length ≤ 12 + k * 108 := by
     have := flat_le (l := o.ents.take k) (f := encE) (m := 108) fun x hx => encE_len (hen x (List.mem_of_mem_take hx))
     rw [List.length_take, Nat.min_eq_left hk] at this
     simp only [List.length_append, List.length_singleton]
     omega
    refine gW ?_
    refine g_l1 (off := 2) rfl rfl (hS.b 0 rfl) (v := .slice ae o.ents.length ce) rfl ?_
    refine gW ?_
    (generalize hlt : cmv _ _ _ = q; cases q <;> simp only [cmv, arv, Bool.not_eq_true', Bool.not_eq_false', decide_eq_true_eq, decide_eq_false_iff_not] at hlt <;> first | (exfalso; omega) | skip)
    ·have ek : k = o.ents.length := by omega
     subst ek
     rw [List.take_length] at hS
     refine gW ?_
     refine g_ret (q_1 rfl (h _ _ ?_))
     rw [hE]
     exact hS.sel [1] rfl rfl
    ·have hlt : k < o.ents.length := by omega
     have henk := hen _ (List.getElem_mem hlt)
     have hel := encE_len henk
     obtain ⟨_, ⟨F4, r4⟩, _⟩ := hR' hS
     obtain ⟨b, off, cap, l, e1, hcap, hl, hx, hb⟩ := Rd.block r4 (by omega)
     cases e1
     have hbd : off + k * 34 + 34 ≤ l.length := by have : (k + 1) * 34 ≤ ce * 34 := Nat.mul_le_mul_right 34 (by omega); omega
     have hX : (l.drop (off + k * 34)).take 34 = enC o.ents[k] := fl_at0 hx rfl hlt
     have hea : ((o.ents.take (k + 1)).map encE).flatten = ((o.ents.take k).map encE).flatten ++ encE o.ents[k] := by
      rw [List.take_succ_eq_append_getElem hlt]
      simp only [List.map_append, List.map_cons, List.map_nil, List.flatten_append, List.flatten_cons, List.flatten_nil, List.append_nil, List.append_assoc]
     have hXn : o.ents[k].1.length ≤ 64 := by
      unfold enB nmB at henk
      simp only [Bool.and_eq_true, decide_eq_true_eq] at henk
      exact henk.1.1.2
     generalize o.ents[k] = X at *
     generalize hA : [UInt8.ofNat o.kind] ++ encN o.ents.length ++ ((o.ents.take k).map encE).flatten = A at *
     have hXl := encB_len X.1
     have hXe : encE X = encB X.1 ++ [UInt8.ofNat X.2.1] ++ X.2.2.1 := by unfold encE; simp
     rw [hXe, List.length_append, List.length_append, X.2.2.2, List.length_singleton] at hel
     refine gW ?_
     refine g_l1 (off := 2) rfl rfl (hS.b 0 rfl) (v := .slice (some ⟨b, off, none⟩) o.ents.length ce) rfl ?_
     refine gW ?_
     refine g_rq rfl rfl ⟨by omega, by omega⟩ ?_
     refine g_lmr rfl rfl hb hbd ?_
     rw [Int.toNat_natCast, hX]
     refine g_ef rfl (ef_al hS fun b5 w1 hS => ?_)
     have lz : (zx [(1, .string ⟨#[]⟩), (1, .int .i64 0), (32, .int .u8 0)]).length = 34 := by decide
     refine gW ?_
     refine g_ef0 rfl (ef_st hS 2 rfl rfl rfl (enC_len _) (by rw [lz]; decide) (List.all_eq_true.2 (enC_one _)) fun w1 hS => ?_)
     replace hS := hS.ceq (l' := enC X) 2 rfl (spl_full _ _ (by show (enC X).length = _; rw [enC_len, lz]))
     refine gW ?_
     refine g_l1 rfl rfl (hS.b 2 rfl) (v := sv X.1) rfl ?_
     refine g_ef rfl (ef_sb hS rfl fun v6 w1 hS _ => ?_)
     have hR6 : Rd v6 5 1 X.1.length (bys X.1) w1 := Ow.rd (hS.ok 3 _ rfl)
     refine g_cl rfl rfl (r_BytesF rfl (by omega) hR6 fun v7 w2 h' => ?_)
     replace hS := hS.call0.2 _ _ h'
     clear h'
     refine g_ef rfl (ef_apB (acc := A) (x := encB X.1) hS 1 rfl rfl rfl (Ow.rd (hS.ok 4 _ rfl)) (by omega) fun v8 w1 hS => ?_)
     refine gW ?_
     refine g_l1 (off := 1) rfl rfl (hS.b 2 rfl) (v := .int .i64 (X.2.1 : Int)) rfl ?_
     refine gW ?_
     rw [u8w]
     refine g_ef rfl (ef_bl (rs := bys [UInt8.ofNat X.2.1]) hS rfl fun g2 w1 hS => ?_)
     refine g_ef rfl (ef_apB (acc := A ++ encB X.1) (x := [UInt8.ofNat X.2.1]) hS 1 rfl rfl rfl (rd_part (x := [UInt8.ofNat X.2.1]) (hS.b 5 rfl) (Nat.le_refl _) rfl) (by rw [List.length_append]; simp; omega) fun v9 w1 hS => ?_)
     refine gW ?_
     refine g_rq rfl rfl ⟨by decide, by decide, by decide⟩ ?_
     refine g_ef rfl (ef_apB (acc := A ++ encB X.1 ++ [UInt8.ofNat X.2.1]) (x := X.2.2.1) hS 1 rfl rfl rfl (by
      have := rd_part (x := X.2.2.1) (off := 2) (hS.b 2 rfl) (by rw [X.2.2.2, enC_len]; decide) (by rw [X.2.2.2]; show (bys X.2.2.1).take 32 = _; rw [List.take_of_length_le (by rw [bys_length, X.2.2.2]; decide)])
      rw [X.2.2.2] at this ⊢
      exact this) (by rw [X.2.2.2]; simp only [List.length_append, List.length_singleton]; omega) fun v10 w1 hS => ?_)
     refine gW ?_
     refine g_rq rfl rfl (in64 (by simp only [arv]; omega)) ?_
     refine gW ?_
     refine g_l (k + 1, v10) ⟨rfl, rfl, rfl, trivial⟩ ⟨hlt, ?_⟩ (by simp only; omega)
     dsimp only
     rw [hea, ← List.append_assoc, hA, hXe, ← List.append_assoc, ← List.append_assoc]
     exact hS.sel [0, 1] rfl rfl
  ·have k1 : o.kind = 1 := by omega
   have hE : encO o = UInt8.ofNat o.kind :: encB o.data := by unfold encO; rw [if_pos k1]
   have hd : o.data.length ≤ 1024 := ((ok1 k1).1 hok).1
   have hdl := encB_len o.data
   obtain ⟨⟨F4, r4⟩, _, _⟩ := hR' hS
   refine gW ?_
   refine g_l1 (off := 1) rfl rfl (hS.b 0 rfl) (v := .slice ad o.data.length cd) rfl ?_
   refine g_cl rfl rfl (r_BytesF rfl (by omega) r4 fun v3 w2 h' => ?_)
   replace hS := hS.call0.2 _ _ h'
   clear h'
   refine g_ef rfl (ef_apB (acc := [UInt8.ofNat o.kind]) (x := encB o.data) hS 1 rfl rfl rfl (Ow.rd (hS.ok 2 _ rfl)) (by simp; omega) fun v4 w1 hS => ?_)
   refine gW ?_
   refine g_ret (q_1 rfl (h _ _ ?_))
   rw [hE]
   exact hS.sel [1] rfl rfl
 ·clear hS
  rintro ⟨acc, v2⟩ T w1 hT ⟨he, hal, hml, hS⟩
  dsimp only at he hal hml hS
  refine g_wkc hT ?_
  have hdl := encB_len o.msg
  refine gW ?_
  refine g_l1 rfl rfl (hS.b 0 rfl) (v := sv o.msg) q3 ?_
  refine g_ef rfl (ef_sb hS rfl fun v6 w1 hS _ => ?_)
  have hR6 : Rd v6 5 1 o.msg.length (bys o.msg) w1 := Ow.rd (hS.ok 2 _ rfl)
  refine g_cl rfl rfl (r_BytesF rfl (by omega) hR6 fun v7 w2 h' => ?_)
  replace hS := hS.call0.2 _ _ h'
  clear h'
  refine g_ef rfl (ef_apB (acc := acc) (x := encB o.msg) hS 1 rfl rfl rfl (Ow.rd (hS.ok 3 _ rfl)) (by omega) fun v8 w1 hS => ?_)
  rw [he] at hS
  refine gW ?_
  exact g_ret (q_1 rfl (h _ _ (hS.sel [1] rfl rfl)))
end
theorem numE_rng (b : Bs) : 0 ≤ numE b ∧ numE b ≤ 11 := by
 unfold numE
 cases fin b with
 | none => dsimp only; split <;> omega
 | some k => dsimp only; split <;> omega
theorem numEM_rng (b : Bs) (m : Nat) : 0 ≤ numEM b m ∧ numEM b m ≤ 12 := by
 have := numE_rng b
 unfold numEM
 split
 ·omega
 ·split <;> omega
theorem bytE_rng (b : Bs) (m : Nat) : 0 ≤ bytE b m ∧ bytE b m ≤ 12 := by
 have := numEM_rng b m
 unfold bytE
 split
 ·omega
 ·split <;> omega
section
variable {w w0 : World} {S0 : Nat → Prop} {L B : List Res} {K : Value → World → Prop} {s : Bs} {E0 E1 : Nat}
set_option maxRecDepth 100000 in
theorem r_EncodeO {o : Obj} {vd ve vp : Value} (hR : OR o vd ve vp w) (hB : OB o) (h1 : ¬ okO o → ∀ w', St w (fun _ => False) w' [] → K (.tuple ⟨[nl, .int .i64 70]⟩) w') (h2 : okO o → ∀ v' w', St w (fun _ => False) w' [row v' 5 1 (encO o).length (bys (encO o))] → K (.tuple ⟨[v', .int .i64 0]⟩) w') : CK Tryz.prog 57 [.agg ⟨oc o vd ve vp⟩] w K := by
 have hS := St.nil w (fun _ => False)
 have lo := oc_len o vd ve vp
 have hld : ((Value.agg ⟨oc o vd ve vp⟩).cells.toList.drop 0).take 70 = oc o vd ve vp := by
  show ((oc o vd ve vp).drop 0).take 70 = _
  rw [List.drop_zero, List.take_of_length_le (Nat.le_of_eq lo)]
 have hll : 0 + 70 ≤ (Value.agg ⟨oc o vd ve vp⟩).cells.toList.length := by show _ ≤ (oc o vd ve vp).length; rw [lo]; decide
 refine call_k Tryz.func57 k57 Tryz.ntmps57 (Nat.le_of_ble_eq_true rfl) ?_
 refine gW ?_
 refine g_ef rfl (ef_bx hS rfl fun b1 w1 hS => ?_)
 refine gW ?_
 refine g_lm rfl rfl (hS.b 0 rfl) hll ?_
 rw [hld]
 refine g_cl rfl rfl (r_CheckO (hR.to hS) hB fun w2 h' => ?_)
 replace hS := hS.call0.2 _ _ h'
 clear h'
 by_cases hok : okO o
 ·rw [if_pos hok]
  refine gW ?_
  refine g_lm rfl rfl (hS.b 0 rfl) hll ?_
  rw [hld]
  refine g_cl rfl rfl (r_BytesO (hR.to hS) hok fun v' w3 h' => ?_)
  replace hS := hS.call0.2 _ _ h'
  refine gW ?_
  exact g_ret (q_2 rfl rfl (h2 hok _ _ (hS.sel [1] rfl rfl)))
 ·rw [if_neg hok]
  refine gW ?_
  exact g_ret (q_2 rfl rfl (h1 hok _ (hS.sel [] rfl rfl)))
theorem r_id {s0 : Nat} {v0 v : Value} {all bs : Bs} (hv : SubV v0 all v bs) (hb : bs.length < 1000000000) (hS : St w0 S0 w (SrcX s0 v0 all v))
  (h1 : rawS 32 bs = none → ∀ w', St w0 S0 w' (SrcX s0 v0 all v) → K (.tuple ⟨[.agg ⟨ic idZ⟩, .int .i64 10]⟩) w')
  (h2 : ∀ (x : Id) r, rawS 32 bs = some (x.1, r) → ∀ v' w', SubV v0 all v' r → St w0 S0 w' (SrcX s0 v0 all v') → K (.tuple ⟨[.agg ⟨ic x⟩, .int .i64 0]⟩) w') : CK Tryz.prog 108 [dp s0] w K := by
 refine call_k Tryz.func108 k108 Tryz.ntmps108 (Nat.le_of_ble_eq_true rfl) ?_
 refine gW ?_
 refine g_ef rfl (ef_al hS fun b2 w1 hS => ?_)
 refine gW ?_
 refine g_ef rfl (ef_al hS fun b4 w1 hS => ?_)
 refine gW ?_
 refine g_ef0 rfl (ef_st hS 3 rfl rfl rfl rfl (Nat.le_of_ble_eq_true rfl) rfl fun w1 hS => ?_)
 replace hS : St w0 S0 w1 (SrcX s0 v0 all v ++ [cel b2 (ic idZ) 46, cel b4 (ic idZ) 46]) := hS
 have hF := hS.frame
 refine gW ?_
 have tail : ∀ (x : Id) (e : Int) (v' : Value) (w1 : World), St w0 S0 w1 (SrcX s0 v0 all v' ++ [cel b2 (ic idZ) 46, cel b4 (ic x) 46]) → True := fun _ _ _ _ _ => trivial
 refine g_cl rfl rfl (r_Raw (n := 32) hv hb (by decide) hF.1 (fun hlt w2 h' => ?_) (fun hge v' u w2 hv' h' => ?_))
 ·replace hS := hF.2 _ _ h'
  clear h' hF
  refine gW ?_
  refine g_lp (ι := Unit) (fun _ => [(2, dp b2), (4, dp b4), (5, nl), (6, .int .i64 10), (7, .int .i64 0)]) (fun _ w' => St w0 S0 w' (SrcX s0 v0 all v ++ [cel b2 (ic idZ) 46, cel b4 (ic idZ) 46])) (fun _ => 0) () ⟨rfl, rfl, rfl, rfl, rfl, trivial⟩ hS ?_
  clear hS
  rintro _ w1 hS
  refine gW ?_
  refine g_lm rfl rfl (hS.b 3 rfl) (Nat.le_of_ble_eq_true rfl) ?_
  refine gW ?_
  refine g_ef0 rfl (ef_st hS 2 rfl rfl rfl rfl (Nat.le_of_ble_eq_true rfl) rfl fun w1 hS => ?_)
  replace hS := hS.ceq (l' := ic idZ) 2 rfl (spl_full _ _ rfl)
  refine gW ?_
  refine g_ret (q_c2 (n := 32) rfl (by kernel_rfl) (hS.b 2 rfl) (Nat.le_of_ble_eq_true rfl) rfl ?_)
  exact h1 (if_pos hlt) _ (hS.sel [0, 1] rfl rfl)
 ·replace hS := hF.2 _ _ h'
  clear h' hF
  have hxl : (bs.take 32).length = 32 := by rw [List.length_take]; omega
  generalize hX : (⟨bs.take 32, hxl⟩ : Id) = X
  have hXv : bs.take 32 = X.1 := by rw [← hX]
  rw [hXv] at hS
  obtain ⟨a, c, rfl⟩ := hS.rlen 2 rfl
  obtain ⟨b, cap, rest, e, hcap, hB, hl2⟩ := row_blk hS 2 rfl (by decide)
  cases e
  refine gW ?_
  refine g_lp (ι := Nat) (fun k => [(2, dp b2), (4, dp b4), (5, .slice (some ⟨b, 0, none⟩) 32 c), (6, .int .i64 0), (7, .int .i64 k)]) (fun k w' => k ≤ 32 ∧ St w0 S0 w' (SrcX s0 v0 all v' ++ [row (.slice (some ⟨b, 0, none⟩) 32 c) 5 1 32 (bys X.1)] ++ [cel b2 (ic idZ) 46, cel b4 (bys (X.1.take k ++ List.replicate (32 - k) 0)) 46])) (fun k => 32 - k) 0 ⟨rfl, rfl, rfl, rfl, rfl, trivial⟩ ⟨Nat.zero_le _, hS.ceq 4 rfl (by rw [List.take_zero]; rfl)⟩ ?_
  clear hS hB
  rintro k w1 ⟨hk, hS⟩
  refine gW ?_
  (refine g_cd rfl (fun hlt => ?_) (fun hlt => ?_) <;> simp only [cmv, arv, Bool.not_eq_true', Bool.not_eq_false', decide_eq_true_eq, decide_eq_false_iff_not] at hlt)
  ·have hlt : k < 32 := by omega
   obtain ⟨b', cap, rest, e, hcap, hB, hl2⟩ := row_blk hS 2 rfl (by decide)
   cases e
   have hkx : k < X.1.length := by rw [X.2]; exact hlt
   refine gW ?_
   refine g_rq rfl rfl ⟨by omega, by omega⟩ ?_
   refine g_l1 rfl rfl hB (v := .int .u8 ((X.1[k]).toNat : Int)) (by
    rw [Int.toNat_natCast, Nat.zero_add, Nat.mul_one, List.getElem?_append_left (by rw [bys_length]; exact hkx)]
    simp [bys, hkx]) ?_
   refine g_rq rfl rfl ⟨by omega, by omega⟩ ?_
   refine gW ?_
   have hcl : (bys (X.1.take k ++ List.replicate (32 - k) 0)).length = 32 := by rw [bys_length, List.length_append, List.length_take, List.length_replicate, X.2]; omega
   refine g_ef0 rfl (ef_st hS 4 rfl rfl rfl rfl (by rw [hcl, Int.toNat_natCast]; omega) rfl fun w1 hS => ?_)
   replace hS := hS.ceq (l' := bys (X.1.take (k + 1) ++ List.replicate (32 - (k + 1)) 0)) 4 rfl (by
    have e1 : X.1.take (k + 1) = X.1.take k ++ [X.1[k]] := List.take_succ_eq_append_getElem hkx
    have e2 : List.replicate (32 - k) (0 : UInt8) = 0 :: List.replicate (32 - (k + 1)) 0 := by rw [show 32 - k = (32 - (k + 1)) + 1 by omega]; rfl
    rw [e1, e2]
    show spl (bys (X.1.take k ++ 0 :: List.replicate (32 - (k + 1)) 0)) (0 + ((k : Int)).toNat * 1) [.int .u8 ((X.1[k]).toNat : Int)] = _
    rw [Int.toNat_natCast, Nat.zero_add, Nat.mul_one]
    refine (spl_at (l := bys (X.1.take k ++ 0 :: List.replicate (32 - (k + 1)) 0)) (n := k) (u := [.int .u8 ((X.1[k]).toNat : Int)]) (A := bys (X.1.take k)) (D := [.int .u8 0]) (C := bys (List.replicate (32 - (k + 1)) 0)) ?_ ?_ rfl).trans ?_
    ·rw [bys_append]; rfl
    ·rw [bys_length, List.length_take]; omega
    ·rw [bys_append, bys_append, List.append_assoc]; rfl)
   refine gW ?_
   refine g_rq rfl rfl (in64 (by simp only [arv]; omega)) ?_
   refine gW ?_
   exact g_l (k + 1) ⟨rfl, rfl, rfl, rfl, rfl, trivial⟩ ⟨by omega, hS⟩ (by omega)
  ·have ek : k = 32 := by omega
   subst ek
   have eX : bys (X.1.take 32 ++ List.replicate (32 - 32) 0) = ic X := by
    rw [List.take_of_length_le (Nat.le_of_eq X.2)]
    show bys (X.1 ++ []) = _
    rw [List.append_nil]; rfl
   rw [eX] at hS
   refine gW ?_
   refine g_lm rfl rfl (hS.b 4 rfl) (Nat.le_of_eq (by rw [ic_len])) ?_
   rw [List.drop_zero, List.take_of_length_le (Nat.le_of_eq (ic_len _))]
   refine gW ?_
   refine g_ef0 rfl (ef_st hS 3 rfl rfl rfl (ic_len _) (Nat.le_of_ble_eq_true rfl) (List.all_eq_true.2 (ic_one _)) fun w1 hS => ?_)
   replace hS := hS.ceq (l' := ic X) 3 rfl (spl_full _ _ (by show (ic X).length = (ic idZ).length; rw [ic_len, ic_len]))
   refine gW ?_
   refine g_ret (q_c2 (n := 32) rfl (by kernel_rfl) (hS.b 3 rfl) (Nat.le_of_eq (by rw [ic_len])) rfl ?_)
   rw [List.drop_zero, List.take_of_length_le (Nat.le_of_eq (ic_len _))]
   exact h2 X (bs.drop 32) (by rw [← hXv]; exact if_neg (by omega)) v' _ hv' (hS.sel [0, 1] rfl rfl)
theorem r_msg {s0 : Nat} {v0 v : Value} {all bs : Bs} (hv : SubV v0 all v bs) (hb : bs.length < 1000000000) (hS : St w0 S0 w (SrcX s0 v0 all v))
  (h1 : bytS 4000 bs = none → ∀ (e : Int) w', 0 < e ∧ e ≤ 12 → St w0 S0 w' (SrcX s0 v0 all v) → K (.tuple ⟨[sv [], .int .i64 e]⟩) w')
  (h2 : ∀ x r, bytS 4000 bs = some (x, r) → ∀ v' w', SubV v0 all v' r → St w0 S0 w' (SrcX s0 v0 all v') → K (.tuple ⟨[sv x, .int .i64 0]⟩) w') : CK Tryz.prog 109 [dp s0] w K := by
 have hrg := bytE_rng bs 4000
 refine call_k Tryz.func109 k109 Tryz.ntmps109 (Nat.le_of_ble_eq_true rfl) ?_
 refine gW ?_
 refine g_cl rfl rfl (r_Bytes (most := 4000) hv hb (by decide) hS (fun he w2 hS => ?_) (fun he v' u w2 hv' hS => ?_))
 ·refine gW ?_
  refine g_qt rfl (qt_bsR (bs := []) rfl (rd_nl 5 1 _)) ?_
  refine gW ?_
  exact g_ret (q_2 rfl rfl (h1 (if_neg he) _ _ (by omega) hS))
 ·refine gW ?_
  refine g_qt rfl (qt_bsR rfl (Ow.rd (hS.ok 2 _ rfl))) ?_
  refine gW ?_
  exact g_ret (q_2 rfl rfl (h2 _ _ (if_pos he) v' _ hv' (hS.sel [0, 1] rfl rfl)))
end
end Go.Proofs.YtocofjmknnckhaaGreatDoor
