/- Oa1 EnS EnT Oa2 EnX EnR Oh4 Oh5 -/
import Derived.Test.YtfffdhafbbbpcaaGreatDoorPt3
import Derived.Test.YtfffdhafbbbpcaaGreatDoorChecked
import Derived.KernelRfl
import Derived.Shelf.SlSortCmp.WholeK
import Derived.Deep.Slices
import Derived.ChangeSlices
import Derived.ChangeArms
import Derived.OpenShut
import Derived.Below
import Derived.Carry
import Derived.ChangeMaps5
import Derived.Lib.IndexLaws
set_option linter.unusedSimpArgs false
set_option linter.unusedVariables false
namespace Go.Proofs.YtfffdhafbbbpcaaGreatDoor
open Go.En
def m8 : MC := .sq (.rg [.c 4 (.bool false)]) (.sq (.sq (.rg [.t 6 0, .o 7 (.ln false (.tmp 6)), .t 8 1, .o 9 (.ln false (.tmp 8)), .o 10 (.cm .neq (.tmp 7) (.tmp 9))]) (.cd (.tmp 10) (.sq (.rg [.c 4 (.bool false)]) (.rt)) (.sk))) (.sq (.sq (.rg [.c 5 (.int .i64 0)]) (.bk 0 (.lp (.sq (.sq (.rg [.t 11 5, .t 12 0, .o 13 (.ln false (.tmp 12)), .o 14 (.cm .lss (.tmp 11) (.tmp 13))]) (.cd (.tmp 14) (.sk) (.xt 0))) (.sq (.bk 1 (.sq (.dr [.t 17 0, .t 18 5, .o 19 (.ias (.tmp 17) (.tmp 18) 52), .o 20 (.ld (.tmp 19) (some 52)), .t 21 1, .t 22 5, .o 23 (.ias (.tmp 21) (.tmp 22) 52), .o 24 (.ld (.tmp 23) (some 52)), .o 25 (.eqd .neq (List.replicate 2 (.i .i64) ++ List.replicate 16 (.i .u32) ++ [.s] ++ [.b] ++ List.replicate 32 (.i .u8)) (.tmp 20) (.tmp 24))] [0, 0, 3, 7, 0, 0, 48, 112, 255] (.q 0 (.q 1 (.q 2 (.q 3 (.q 4 (.q 5 (.q 6 (.q 7 (.q 8 (.fin))))))))))) (.cd (.tmp 25) (.sq (.rg [.c 4 (.bool false)]) (.rt)) (.sk)))) (.rg [.t 15 5, .o 16 (.ar .add .i64 (.tmp 15) (.const (.int .i64 1)) true), .t 5 16])))))) (.sq (.rg [.c 4 (.bool true)]) (.rt))))
theorem k8 : Tryz.f8.body.any (fun c => chkC Tryz.prog c m8 && allD (dlt 26) m8) = true := by kernel_rfl
def m62 : MC := .sq (.rg [.o 1 (.bx 40 (.tmp 0)), .c 2 (.int .i64 0)]) (.sq (.sq (.dr [.o 4 (.fa (.tmp 1) 0), .o 5 (.ld (.tmp 4) (some 2)), .o 6 (.cl 61 [.tmp 5]), .o 7 (.cm .neq (.tmp 6) (.const (.int .i64 0))), .t 8 7, .q 9 8 false (.fa (.tmp 1) 0), .q 10 8 false (.fa (.tmp 9) 0), .q 11 8 false (.ld (.tmp 10) none), .q 12 8 false (.fa (.tmp 1) 2), .q 13 8 false (.iaa (.tmp 12) (.tmp 11) 16 1), .q 14 8 false (.ld (.tmp 13) none), .q 15 8 false (.ci .i64 (.tmp 14)), .q 16 8 false (.ar .add .i64 (.tmp 15) (.const (.int .i64 1)) true), .q 17 8 false (.fa (.tmp 1) 0), .q 18 8 false (.fa (.tmp 17) 1), .q 19 8 false (.ld (.tmp 18) none), .q 20 8 false (.cm .neq (.tmp 16) (.tmp 19)), .o 21 (.pk (.tmp 8) (.const (.bool true)) (.tmp 20)), .t 22 21, .q 23 22 false (.fa (.tmp 1) 18), .q 24 22 false (.ld (.tmp 23) none), .q 25 22 false (.cl 99 [.tmp 24]), .q 26 22 false (.cm .neq (.tmp 25) (.const (.int .i64 0))), .o 27 (.pk (.tmp 22) (.const (.bool true)) (.tmp 26))] [0, 1, 3, 7, 15, 31, 63, 127, 31, 511, 1023, 2047, 4095, 31, 8223, 24607, 65535, 131071, 262143, 524287, 1048575, 2097151, 4194303, 8388607] (.q 0 (.q 1 (.e 2 [] (.q 3 (.q 4 (.q 5 (.q 6 (.q 7 (.q 8 (.q 9 (.q 10 (.q 11 (.q 12 (.q 13 (.q 14 (.q 15 (.q 16 (.q 17 (.q 18 (.q 19 (.q 20 (.e 21 [] (.q 22 (.q 23 (.fin)))))))))))))))))))))))))) (.cd (.tmp 27) (.sq (.rg [.c 2 (.int .i64 120)]) (.rt)) (.sk))) (.sq (.sq (.rg [.o 28 (.fa (.tmp 1) 19), .o 29 (.ld (.tmp 28) none), .o 30 (.nt (.tmp 29))]) (.cd (.tmp 30) (.sq (.rg [.c 3 (.int .i64 0)]) (.bk 0 (.lp (.sq (.sq (.rg [.t 31 3, .o 32 (.cm .lss (.tmp 31) (.const (.int .i64 32)))]) (.cd (.tmp 32) (.sk) (.xt 0))) (.sq (.bk 1 (.sq (.rg [.t 35 3, .o 36 (.fa (.tmp 1) 20), .o 37 (.iaa (.tmp 36) (.tmp 35) 32 1), .o 38 (.ld (.tmp 37) none), .o 39 (.cm .neq (.tmp 38) (.const (.int .u8 0)))]) (.cd (.tmp 39) (.sq (.rg [.c 2 (.int .i64 120)]) (.rt)) (.sk)))) (.rg [.t 33 3, .o 34 (.ar .add .i64 (.tmp 33) (.const (.int .i64 1)) true), .t 3 34])))))) (.sk))) (.sq (.rg [.c 2 (.int .i64 0)]) (.rt))))
theorem k62 : Tryz.f62.body.any (fun c => chkC Tryz.prog c m62 && allD (dlt 40) m62) = true := by kernel_rfl
def m64 : MC := .sq (.rg [.o 2 (.bx 40 (.tmp 0)), .o 3 (.bx 40 (.tmp 1)), .c 4 (.bool false)]) (.sq (.rg [.o 6 (.ld (.tmp 3) (some 52)), .o 7 (.ld (.tmp 2) (some 52)), .o 8 (.cl 100 [.tmp 6, .tmp 7]), .t 5 8]) (.sq (.rg [.t 9 5, .t 10 9, .q 11 10 true (.fa (.tmp 2) 18), .q 12 10 true (.ld (.tmp 11) none), .q 13 10 true (.fa (.tmp 3) 18), .q 14 10 true (.ld (.tmp 13) none), .q 15 10 true (.se .eql (.tmp 12) (.tmp 14)), .o 16 (.pk (.tmp 10) (.tmp 15) (.const (.bool false))), .t 4 16]) (.rt)))
theorem k64 : Tryz.f64.body.any (fun c => chkC Tryz.prog c m64 && allD (dlt 17) m64) = true := by kernel_rfl
def m100 : MC := .sq (.rg [.o 2 (.bx 40 (.tmp 0)), .o 3 (.bx 40 (.tmp 1)), .c 4 (.bool false)]) (.sq (.rg [.o 5 (.fa (.tmp 3) 2), .o 6 (.ld (.tmp 5) (some 16)), .o 7 (.fa (.tmp 2) 0), .o 8 (.ld (.tmp 7) (some 2)), .o 9 (.cl 29 [.tmp 6, .tmp 8]), .t 4 9]) (.rt))
theorem k100 : Tryz.f100.body.any (fun c => chkC Tryz.prog c m100 && allD (dlt 10) m100) = true := by kernel_rfl
def m63 : MC := .sq (.rg [.o 2 (.bx 36 (.tmp 0)), .o 3 (.bx 36 (.tmp 1)), .c 4 (.int .i64 0)]) (.sq (.sq (.rg [.o 5 (.fa (.tmp 2) 0), .o 6 (.ld (.tmp 5) none), .o 7 (.fa (.tmp 3) 0), .o 8 (.ld (.tmp 7) none), .o 9 (.cm .lss (.tmp 6) (.tmp 8)), .t 10 9, .q 11 10 false (.fa (.tmp 2) 0), .q 12 10 false (.ld (.tmp 11) none), .q 13 10 false (.fa (.tmp 3) 0), .q 14 10 false (.ld (.tmp 13) none), .q 15 10 false (.cm .eql (.tmp 12) (.tmp 14)), .q 16 10 false (.mv (.tmp 15)), .q 17 16 true (.fa (.tmp 2) 1), .q 18 16 true (.ld (.tmp 17) none), .q 19 16 true (.fa (.tmp 3) 1), .q 20 16 true (.ld (.tmp 19) none), .q 21 16 true (.cm .lss (.tmp 18) (.tmp 20)), .q 22 10 false (.pk (.tmp 16) (.tmp 21) (.const (.bool false))), .o 23 (.pk (.tmp 10) (.const (.bool true)) (.tmp 22))]) (.cd (.tmp 23) (.sq (.rg [.c 4 (.int .i64 (-1))]) (.rt)) (.sk))) (.sq (.sq (.rg [.o 24 (.ld (.tmp 2) (some 2)), .o 25 (.ld (.tmp 3) (some 2)), .o 26 (.eqd .eql (List.replicate 2 (.i .i64)) (.tmp 24) (.tmp 25))]) (.cd (.tmp 26) (.sq (.rg [.c 4 (.int .i64 0)]) (.rt)) (.sk))) (.sq (.rg [.c 4 (.int .i64 1)]) (.rt))))
theorem k63 : Tryz.f63.body.any (fun c => chkC Tryz.prog c m63 && allD (dlt 27) m63) = true := by kernel_rfl
def m61 : MC := .sq (.rg [.o 1 (.bx 36 (.tmp 0)), .c 2 (.int .i64 0)]) (.sq (.sq (.rg [.o 3 (.fa (.tmp 1) 0), .o 4 (.ld (.tmp 3) none), .o 5 (.cm .lss (.tmp 4) (.const (.int .i64 0))), .t 6 5, .q 7 6 false (.fa (.tmp 1) 0), .q 8 6 false (.ld (.tmp 7) none), .q 9 6 false (.cm .gtr (.tmp 8) (.const (.int .i64 15))), .o 10 (.pk (.tmp 6) (.const (.bool true)) (.tmp 9)), .t 11 10, .q 12 11 false (.fa (.tmp 1) 1), .q 13 11 false (.ld (.tmp 12) none), .q 14 11 false (.cm .lss (.tmp 13) (.const (.int .i64 1))), .o 15 (.pk (.tmp 11) (.const (.bool true)) (.tmp 14)), .t 16 15, .q 17 16 false (.fa (.tmp 1) 1), .q 18 16 false (.ld (.tmp 17) none), .q 19 16 false (.cm .gtr (.tmp 18) (.const (.int .i64 4294967295))), .o 20 (.pk (.tmp 16) (.const (.bool true)) (.tmp 19))]) (.cd (.tmp 20) (.sq (.rg [.c 2 (.int .i64 50)]) (.rt)) (.sk))) (.sq (.rg [.c 2 (.int .i64 0)]) (.rt)))
theorem k61 : Tryz.f61.body.any (fun c => chkC Tryz.prog c m61 && allD (dlt 21) m61) = true := by kernel_rfl
def m29 : MC := .sq (.rg [.o 2 (.bx 24 (.tmp 0)), .o 3 (.bx 36 (.tmp 1)), .c 4 (.bool false)]) (.sq (.dr [.o 5 (.ld (.tmp 3) (some 2)), .o 6 (.cl 61 [.tmp 5]), .o 7 (.cm .eql (.tmp 6) (.const (.int .i64 0))), .t 8 7, .q 9 8 true (.fa (.tmp 3) 1), .q 10 8 true (.ld (.tmp 9) none), .q 11 8 true (.fa (.tmp 3) 0), .q 12 8 true (.ld (.tmp 11) none), .q 13 8 true (.iaa (.tmp 2) (.tmp 12) 16 1), .q 14 8 true (.ld (.tmp 13) none), .q 15 8 true (.ci .i64 (.tmp 14)), .q 16 8 true (.cm .leq (.tmp 10) (.tmp 15)), .o 17 (.pk (.tmp 8) (.tmp 16) (.const (.bool false))), .t 4 17] [0, 1, 3, 7, 15, 31, 15, 79, 207, 463, 975, 2047, 4095, 8191] (.q 0 (.e 1 [] (.q 2 (.q 3 (.q 4 (.q 5 (.q 6 (.q 7 (.q 8 (.q 9 (.q 10 (.q 11 (.q 12 (.q 13 (.fin)))))))))))))))) (.rt))
theorem k29 : Tryz.f29.body.any (fun c => chkC Tryz.prog c m29 && allD (dlt 18) m29) = true := by kernel_rfl
def m30 : MC := .sq (.rg [.o 2 (.bx 24 (.tmp 0)), .o 3 (.bx 24 (.tmp 1)), .c 4 (.bool false)]) (.sq (.sq (.rg [.c 5 (.int .i64 0)]) (.bk 0 (.lp (.sq (.sq (.rg [.t 6 5, .o 7 (.cm .lss (.tmp 6) (.const (.int .i64 16)))]) (.cd (.tmp 7) (.sk) (.xt 0))) (.sq (.bk 1 (.sq (.dr [.t 10 5, .o 11 (.iaa (.tmp 2) (.tmp 10) 16 1), .o 12 (.ld (.tmp 11) none), .t 13 5, .o 14 (.iaa (.tmp 3) (.tmp 13) 16 1), .o 15 (.ld (.tmp 14) none), .o 16 (.cm .gtr (.tmp 12) (.tmp 15))] [0, 1, 3, 0, 8, 24, 63] (.q 0 (.q 1 (.q 2 (.q 3 (.q 4 (.q 5 (.q 6 (.fin))))))))) (.cd (.tmp 16) (.sq (.rg [.c 4 (.bool false)]) (.rt)) (.sk)))) (.rg [.t 8 5, .o 9 (.ar .add .i64 (.tmp 8) (.const (.int .i64 1)) true), .t 5 9])))))) (.sq (.rg [.c 4 (.bool true)]) (.rt)))
theorem k30 : Tryz.f30.body.any (fun c => chkC Tryz.prog c m30 && allD (dlt 17) m30) = true := by kernel_rfl
def m56 : MC := .sq (.rg [.o 2 (.bx 36 (.tmp 0)), .o 3 (.bx 36 (.tmp 1)), .c 4 (.int .i64 0)]) (.sq (.dr [.o 5 (.fa (.tmp 2) 0), .o 6 (.ld (.tmp 5) none), .o 7 (.fa (.tmp 3) 0), .o 8 (.ld (.tmp 7) none), .o 9 (.cl 95 [.tmp 6, .tmp 8]), .o 10 (.fa (.tmp 2) 1), .o 11 (.ld (.tmp 10) none), .o 12 (.fa (.tmp 3) 1), .o 13 (.ld (.tmp 12) none), .o 14 (.cl 95 [.tmp 11, .tmp 13]), .o 15 (.bl 3 1 [.tmp 9, .tmp 14]), .o 16 (.cl 94 [.tmp 15]), .t 4 16] [0, 1, 0, 4, 15, 0, 32, 0, 128, 511, 1023, 2047, 4095] (.q 0 (.q 1 (.q 2 (.q 3 (.q 5 (.q 6 (.q 7 (.q 8 (.e 4 [6, 8] (.e 9 [] (.e 10 [] (.e 11 [] (.q 12 (.fin))))))))))))))) (.rt))
theorem k56 : Tryz.f56.body.any (fun c => chkC Tryz.prog c m56 && allD (dlt 17) m56) = true := by kernel_rfl
def m59 : MC := .sq (.rg [.o 1 (.bx 36 (.tmp 0)), .c 2 (.int .i64 0)]) (.sq (.sq (.rg [.o 3 (.fa (.tmp 1) 0), .o 4 (.ld (.tmp 3) none), .o 5 (.cm .lss (.tmp 4) (.const (.int .i64 0))), .t 6 5, .q 7 6 false (.fa (.tmp 1) 0), .q 8 6 false (.ld (.tmp 7) none), .q 9 6 false (.cm .geq (.tmp 8) (.const (.int .i64 16))), .o 10 (.pk (.tmp 6) (.const (.bool true)) (.tmp 9)), .t 11 10, .q 12 11 false (.fa (.tmp 1) 1), .q 13 11 false (.ld (.tmp 12) none), .q 14 11 false (.cm .lss (.tmp 13) (.const (.int .i64 1))), .o 15 (.pk (.tmp 11) (.const (.bool true)) (.tmp 14)), .t 16 15, .q 17 16 false (.fa (.tmp 1) 1), .q 18 16 false (.ld (.tmp 17) none), .q 19 16 false (.cm .gtr (.tmp 18) (.const (.int .i64 4294967295))), .o 20 (.pk (.tmp 16) (.const (.bool true)) (.tmp 19))]) (.cd (.tmp 20) (.sq (.rg [.c 2 (.int .i64 50)]) (.rt)) (.sk))) (.sq (.rg [.c 2 (.int .i64 0)]) (.rt)))
theorem k59 : Tryz.f59.body.any (fun c => chkC Tryz.prog c m59 && allD (dlt 21) m59) = true := by kernel_rfl
def m40 : MC := .sq (.rg [.o 1 (.bx 40 (.tmp 0)), .c 2 (.int .i64 0)]) (.sq (.sq (.dr [.o 3 (.fa (.tmp 1) 0), .o 4 (.ld (.tmp 3) (some 2)), .o 5 (.cl 59 [.tmp 4]), .o 6 (.cm .neq (.tmp 5) (.const (.int .i64 0))), .t 7 6, .q 8 7 false (.fa (.tmp 1) 0), .q 9 7 false (.fa (.tmp 8) 0), .q 10 7 false (.ld (.tmp 9) none), .q 11 7 false (.fa (.tmp 1) 2), .q 12 7 false (.iaa (.tmp 11) (.tmp 10) 16 1), .q 13 7 false (.ld (.tmp 12) none), .q 14 7 false (.ci .i64 (.tmp 13)), .q 15 7 false (.fa (.tmp 1) 0), .q 16 7 false (.fa (.tmp 15) 1), .q 17 7 false (.ld (.tmp 16) none), .q 18 7 false (.ar .sub .i64 (.tmp 17) (.const (.int .i64 1)) true), .q 19 7 false (.cm .neq (.tmp 14) (.tmp 18)), .o 20 (.pk (.tmp 7) (.const (.bool true)) (.tmp 19)), .t 21 20, .q 22 21 false (.fa (.tmp 1) 18), .q 23 21 false (.ld (.tmp 22) none), .q 24 21 false (.cl 72 [.tmp 23]), .q 25 21 false (.cm .neq (.tmp 24) (.const (.int .i64 0))), .o 26 (.pk (.tmp 21) (.const (.bool true)) (.tmp 25)), .t 27 26, .q 28 27 false (.fa (.tmp 1) 19), .q 29 27 false (.ld (.tmp 28) none), .q 30 27 false (.nt (.tmp 29)), .q 31 27 false (.mv (.tmp 30)), .q 32 31 true (.fa (.tmp 1) 20), .q 33 31 true (.ld (.tmp 32) (some 32)), .q 34 31 true (.bd [(32, .int .u8 0)] []), .q 35 31 true (.aq .neq 32 (.tmp 33) (.tmp 34)), .q 36 27 false (.pk (.tmp 31) (.tmp 35) (.const (.bool false))), .o 37 (.pk (.tmp 27) (.const (.bool true)) (.tmp 36))] [0, 1, 3, 7, 15, 31, 63, 127, 31, 511, 1023, 2047, 31, 4127, 12319, 28703, 65535, 131071, 262143, 524287, 1048575, 2097151, 4194303, 8388607, 16777215, 33554431, 67108863, 134217727, 268435455, 536870911, 1073741823, 536870911, 4294967295, 8589934591, 17179869183] (.q 0 (.q 1 (.e 2 [] (.q 3 (.q 4 (.q 5 (.q 6 (.q 7 (.q 8 (.q 9 (.q 10 (.q 11 (.q 12 (.q 13 (.q 14 (.q 15 (.q 16 (.q 17 (.q 18 (.q 19 (.q 20 (.e 21 [] (.q 22 (.q 23 (.q 24 (.q 25 (.q 26 (.q 27 (.q 28 (.q 29 (.q 30 (.q 31 (.q 32 (.q 33 (.q 34 (.fin))))))))))))))))))))))))))))))))))))) (.cd (.tmp 37) (.sq (.rg [.c 2 (.int .i64 120)]) (.rt)) (.sk))) (.sq (.rg [.c 2 (.int .i64 0)]) (.rt)))
theorem k40 : Tryz.f40.body.any (fun c => chkC Tryz.prog c m40 && allD (dlt 38) m40) = true := by kernel_rfl
def m96 : MC := .sq (.rg [.o 2 (.bx 40 (.tmp 0)), .o 3 (.bx 40 (.tmp 1)), .c 4 (.bool false)]) (.sq (.rg [.o 5 (.fa (.tmp 2) 18), .o 6 (.ld (.tmp 5) none), .o 7 (.fa (.tmp 3) 18), .o 8 (.ld (.tmp 7) none), .o 9 (.se .eql (.tmp 6) (.tmp 8)), .t 10 9, .q 11 10 true (.ld (.tmp 3) (some 52)), .q 12 10 true (.ld (.tmp 2) (some 52)), .q 13 10 true (.cl 140 [.tmp 11, .tmp 12]), .o 14 (.pk (.tmp 10) (.tmp 13) (.const (.bool false))), .t 4 14]) (.rt))
theorem k96 : Tryz.f96.body.any (fun c => chkC Tryz.prog c m96 && allD (dlt 15) m96) = true := by kernel_rfl
def m140 : MC := .sq (.rg [.o 2 (.bx 40 (.tmp 0)), .o 3 (.bx 40 (.tmp 1)), .c 4 (.bool false)]) (.sq (.rg [.o 5 (.fa (.tmp 3) 2), .o 6 (.ld (.tmp 5) (some 16)), .o 7 (.fa (.tmp 2) 0), .o 8 (.ld (.tmp 7) (some 2)), .o 9 (.cl 26 [.tmp 6, .tmp 8]), .t 4 9]) (.rt))
theorem k140 : Tryz.f140.body.any (fun c => chkC Tryz.prog c m140 && allD (dlt 10) m140) = true := by kernel_rfl
def m94 : MC := .sq (.rg [.c 2 (.int .i64 0)]) (.sq (.rg [.c 3 (.int .i64 0)]) (.sq (.sq (.rg [.t 6 0, .o 7 (.ln false (.tmp 6)), .c 8 (.int .i64 0)]) (.bk 0 (.lp (.sq (.rg [.o 9 (.cm .lss (.tmp 8) (.tmp 7))]) (.sq (.cd (.tmp 9) (.sk) (.xt 0)) (.sq (.bk 1 (.sq (.rg [.o 10 (.ias (.tmp 6) (.tmp 8) 1), .o 11 (.ld (.tmp 10) none), .t 5 11]) (.sq (.rg [.t 12 5, .t 13 3, .o 14 (.cm .neq (.tmp 12) (.tmp 13))]) (.cd (.tmp 14) (.sq (.rg [.t 15 5, .t 2 15]) (.rt)) (.sk))))) (.rg [.o 16 (.ar .add .i64 (.tmp 8) (.const (.int .i64 1)) true), .t 8 16]))))))) (.sq (.rg [.t 17 3, .t 2 17]) (.rt))))
theorem k94 : Tryz.f94.body.any (fun c => chkC Tryz.prog c m94 && allD (dlt 18) m94) = true := by kernel_rfl
def m95 : MC := .sq (.rg [.c 4 (.int .i64 0)]) (.sq (.rg [.t 7 0, .o 8 (.cl 139 [.tmp 7]), .t 5 8]) (.sq (.rg [.t 9 1, .o 10 (.cl 139 [.tmp 9]), .t 6 10]) (.sq (.sq (.rg [.t 11 5]) (.cd (.tmp 11) (.sq (.sq (.rg [.t 12 6]) (.cd (.tmp 12) (.sq (.rg [.c 4 (.int .i64 0)]) (.rt)) (.sk))) (.sq (.rg [.c 4 (.int .i64 (-1))]) (.rt))) (.sk))) (.sq (.sq (.rg [.t 13 6]) (.cd (.tmp 13) (.sq (.rg [.c 4 (.int .i64 1)]) (.rt)) (.sk))) (.sq (.sq (.rg [.t 14 0, .t 15 1, .o 16 (.cm .lss (.tmp 14) (.tmp 15))]) (.cd (.tmp 16) (.sq (.rg [.c 4 (.int .i64 (-1))]) (.rt)) (.sk))) (.sq (.sq (.rg [.t 17 0, .t 18 1, .o 19 (.cm .gtr (.tmp 17) (.tmp 18))]) (.cd (.tmp 19) (.sq (.rg [.c 4 (.int .i64 1)]) (.rt)) (.sk))) (.sq (.rg [.c 4 (.int .i64 0)]) (.rt))))))))
theorem k95 : Tryz.f95.body.any (fun c => chkC Tryz.prog c m95 && allD (dlt 20) m95) = true := by kernel_rfl
def m139 : MC := .sq (.rg [.c 2 (.bool false)]) (.sq (.rg [.t 3 0, .t 4 0, .o 5 (.cm .neq (.tmp 3) (.tmp 4)), .t 2 5]) (.rt))
theorem k139 : Tryz.f139.body.any (fun c => chkC Tryz.prog c m139 && allD (dlt 6) m139) = true := by kernel_rfl
def m99 : MC := .sq (.rg [.c 2 (.int .i64 0)]) (.sq (.sq (.rg [.t 3 0, .o 4 (.cl 141 [.tmp 3]), .o 5 (.cm .gtr (.tmp 4) (.const (.int .i64 0)))]) (.cd (.tmp 5) (.sq (.rg [.c 2 (.int .i64 40)]) (.rt)) (.sk))) (.sq (.rg [.c 2 (.int .i64 0)]) (.rt)))
theorem k99 : Tryz.f99.body.any (fun c => chkC Tryz.prog c m99 && allD (dlt 6) m99) = true := by kernel_rfl
def m141 : MC := .sq (.rg [.c 2 (.int .i64 0)]) (.sq (.sq (.rg [.t 12 0, .o 13 (.ln true (.tmp 12)), .o 14 (.cm .lss (.tmp 13) (.const (.int .i64 1))), .t 15 14, .q 16 15 false (.mv (.tmp 0)), .q 17 15 false (.ln true (.tmp 16)), .q 18 15 false (.cm .gtr (.tmp 17) (.const (.int .i64 100))), .o 19 (.pk (.tmp 15) (.const (.bool true)) (.tmp 18))]) (.cd (.tmp 19) (.sq (.rg [.c 2 (.int .i64 1)]) (.rt)) (.sk))) (.sq (.sq (.rg [.c 3 (.int .i64 0)]) (.bk 0 (.lp (.sq (.sq (.rg [.t 20 3, .t 21 0, .o 22 (.ln true (.tmp 21)), .o 23 (.cm .lss (.tmp 20) (.tmp 22))]) (.cd (.tmp 23) (.sk) (.xt 0))) (.sq (.bk 1 (.sq (.rg [.t 26 0, .t 27 3, .o 28 (.ixs (.tmp 26) (.tmp 27)), .o 29 (.cl 189 [.tmp 28]), .t 4 29]) (.sq (.rg [.t 30 4, .o 31 (.nt (.tmp 30))]) (.cd (.tmp 31) (.sq (.rg [.c 2 (.int .i64 2)]) (.rt)) (.sk))))) (.rg [.t 24 3, .o 25 (.ar .add .i64 (.tmp 24) (.const (.int .i64 1)) true), .t 3 25])))))) (.sq (.rg [.t 32 0, .o 33 (.cl 190 [.tmp 32]), .t 5 33]) (.sq (.sq (.rg [.c 6 (.int .i64 0)]) (.bk 2 (.lp (.sq (.sq (.rg [.t 34 6, .t 35 5, .o 36 (.ln false (.tmp 35)), .o 37 (.cm .lss (.tmp 34) (.tmp 36))]) (.cd (.tmp 37) (.sk) (.xt 2))) (.sq (.bk 3 (.sq (.rg [.t 40 5, .t 41 6, .o 42 (.ias (.tmp 40) (.tmp 41) 1), .o 43 (.ld (.tmp 42) none), .o 44 (.se .eql (.tmp 43) (.const (.string ⟨#[]⟩)))]) (.cd (.tmp 44) (.sq (.rg [.c 2 (.int .i64 3)]) (.rt)) (.sk)))) (.rg [.t 38 6, .o 39 (.ar .add .i64 (.tmp 38) (.const (.int .i64 1)) true), .t 6 39])))))) (.sq (.sq (.rg [.c 7 (.int .i64 0)]) (.bk 4 (.lp (.sq (.sq (.rg [.t 45 7, .t 46 5, .o 47 (.ln false (.tmp 46)), .o 48 (.cm .lss (.tmp 45) (.tmp 47))]) (.cd (.tmp 48) (.sk) (.xt 4))) (.sq (.bk 5 (.sq (.rg [.t 51 5, .t 52 7, .o 53 (.ias (.tmp 51) (.tmp 52) 1), .o 54 (.ld (.tmp 53) none), .o 55 (.ixs (.tmp 54) (.const (.int .i64 0))), .o 56 (.cm .eql (.tmp 55) (.const (.int .u8 46)))]) (.cd (.tmp 56) (.sq (.rg [.c 2 (.int .i64 4)]) (.rt)) (.sk)))) (.rg [.t 49 7, .o 50 (.ar .add .i64 (.tmp 49) (.const (.int .i64 1)) true), .t 7 50])))))) (.sq (.sq (.rg [.c 8 (.int .i64 1)]) (.bk 6 (.lp (.sq (.sq (.rg [.t 57 8, .t 58 0, .o 59 (.ln true (.tmp 58)), .o 60 (.cm .lss (.tmp 57) (.tmp 59))]) (.cd (.tmp 60) (.sk) (.xt 6))) (.sq (.bk 7 (.sq (.rg [.t 63 0, .t 64 8, .o 65 (.ixs (.tmp 63) (.tmp 64)), .o 66 (.cm .eql (.tmp 65) (.const (.int .u8 46))), .t 67 66, .q 68 67 true (.mv (.tmp 0)), .q 69 67 true (.mv (.tmp 8)), .q 70 67 true (.ar .sub .i64 (.tmp 69) (.const (.int .i64 1)) true), .q 71 67 true (.ixs (.tmp 68) (.tmp 70)), .q 72 67 true (.cm .eql (.tmp 71) (.const (.int .u8 46))), .o 73 (.pk (.tmp 67) (.tmp 72) (.const (.bool false)))]) (.cd (.tmp 73) (.sq (.rg [.c 2 (.int .i64 5)]) (.rt)) (.sk)))) (.rg [.t 61 8, .o 62 (.ar .add .i64 (.tmp 61) (.const (.int .i64 1)) true), .t 8 62])))))) (.sq (.sq (.rg [.c 9 (.int .i64 0)]) (.bk 8 (.lp (.sq (.sq (.rg [.t 74 9, .t 75 5, .o 76 (.ln false (.tmp 75)), .o 77 (.cm .lss (.tmp 74) (.tmp 76))]) (.cd (.tmp 77) (.sk) (.xt 8))) (.sq (.bk 9 (.sq (.rg [.t 80 5, .t 81 9, .o 82 (.ias (.tmp 80) (.tmp 81) 1), .o 83 (.ld (.tmp 82) none), .o 84 (.ln true (.tmp 83)), .t 10 84]) (.sq (.rg [.t 85 10, .o 86 (.cm .geq (.tmp 85) (.const (.int .i64 5))), .t 87 86, .q 88 87 true (.mv (.tmp 5)), .q 89 87 true (.mv (.tmp 9)), .q 90 87 true (.ias (.tmp 88) (.tmp 89) 1), .q 91 87 true (.ld (.tmp 90) none), .q 92 87 true (.mv (.tmp 10)), .q 93 87 true (.ar .sub .i64 (.tmp 92) (.const (.int .i64 5)) true), .q 94 87 true (.ss (.tmp 91) (some (.tmp 93)) none), .q 95 87 true (.se .eql (.tmp 94) (.const (.string ⟨#[46, 108, 111, 99, 107]⟩))), .o 96 (.pk (.tmp 87) (.tmp 95) (.const (.bool false)))]) (.cd (.tmp 96) (.sq (.rg [.c 2 (.int .i64 6)]) (.rt)) (.sk))))) (.rg [.t 78 9, .o 79 (.ar .add .i64 (.tmp 78) (.const (.int .i64 1)) true), .t 9 79])))))) (.sq (.sq (.rg [.t 97 0, .t 98 0, .o 99 (.ln true (.tmp 98)), .o 100 (.ar .sub .i64 (.tmp 99) (.const (.int .i64 1)) true), .o 101 (.ixs (.tmp 97) (.tmp 100)), .o 102 (.cm .eql (.tmp 101) (.const (.int .u8 46)))]) (.cd (.tmp 102) (.sq (.rg [.c 2 (.int .i64 7)]) (.rt)) (.sk))) (.sq (.sq (.rg [.c 11 (.int .i64 1)]) (.bk 10 (.lp (.sq (.sq (.rg [.t 103 11, .t 104 0, .o 105 (.ln true (.tmp 104)), .o 106 (.cm .lss (.tmp 103) (.tmp 105))]) (.cd (.tmp 106) (.sk) (.xt 10))) (.sq (.bk 11 (.sq (.rg [.t 109 0, .t 110 11, .o 111 (.ixs (.tmp 109) (.tmp 110)), .o 112 (.cm .eql (.tmp 111) (.const (.int .u8 123))), .t 113 112, .q 114 113 true (.mv (.tmp 0)), .q 115 113 true (.mv (.tmp 11)), .q 116 113 true (.ar .sub .i64 (.tmp 115) (.const (.int .i64 1)) true), .q 117 113 true (.ixs (.tmp 114) (.tmp 116)), .q 118 113 true (.cm .eql (.tmp 117) (.const (.int .u8 64))), .o 119 (.pk (.tmp 113) (.tmp 118) (.const (.bool false)))]) (.cd (.tmp 119) (.sq (.rg [.c 2 (.int .i64 8)]) (.rt)) (.sk)))) (.rg [.t 107 11, .o 108 (.ar .add .i64 (.tmp 107) (.const (.int .i64 1)) true), .t 11 108])))))) (.sq (.rg [.c 2 (.int .i64 0)]) (.rt)))))))))))
theorem k141 : Tryz.f141.body.any (fun c => chkC Tryz.prog c m141 && allD (dlt 120) m141) = true := by kernel_rfl
def m189 : MC := .sq (.rg [.c 2 (.bool false)]) (.sq (.sq (.rg [.t 3 0, .o 4 (.cm .lss (.tmp 3) (.const (.int .u8 33))), .t 5 4, .q 6 5 false (.mv (.tmp 0)), .q 7 5 false (.cm .gtr (.tmp 6) (.const (.int .u8 126))), .o 8 (.pk (.tmp 5) (.const (.bool true)) (.tmp 7))]) (.cd (.tmp 8) (.sq (.rg [.c 2 (.bool false)]) (.rt)) (.sk))) (.sq (.rg [.t 9 0, .o 10 (.cm .neq (.tmp 9) (.const (.int .u8 126))), .t 11 10, .q 12 11 true (.mv (.tmp 0)), .q 13 11 true (.cm .neq (.tmp 12) (.const (.int .u8 94))), .o 14 (.pk (.tmp 11) (.tmp 13) (.const (.bool false))), .t 15 14, .q 16 15 true (.mv (.tmp 0)), .q 17 15 true (.cm .neq (.tmp 16) (.const (.int .u8 58))), .o 18 (.pk (.tmp 15) (.tmp 17) (.const (.bool false))), .t 19 18, .q 20 19 true (.mv (.tmp 0)), .q 21 19 true (.cm .neq (.tmp 20) (.const (.int .u8 63))), .o 22 (.pk (.tmp 19) (.tmp 21) (.const (.bool false))), .t 23 22, .q 24 23 true (.mv (.tmp 0)), .q 25 23 true (.cm .neq (.tmp 24) (.const (.int .u8 42))), .o 26 (.pk (.tmp 23) (.tmp 25) (.const (.bool false))), .t 27 26, .q 28 27 true (.mv (.tmp 0)), .q 29 27 true (.cm .neq (.tmp 28) (.const (.int .u8 91))), .o 30 (.pk (.tmp 27) (.tmp 29) (.const (.bool false))), .t 31 30, .q 32 31 true (.mv (.tmp 0)), .q 33 31 true (.cm .neq (.tmp 32) (.const (.int .u8 92))), .o 34 (.pk (.tmp 31) (.tmp 33) (.const (.bool false))), .t 2 34]) (.rt)))
theorem k189 : Tryz.f189.body.any (fun c => chkC Tryz.prog c m189 && allD (dlt 35) m189) = true := by kernel_rfl
def m190 : MC := .sq (.rg [.c 2 (.slice none 0 0)]) (.sq (.rg [.c 3 (.slice none 0 0)]) (.sq (.rg [.c 4 (.int .i64 0)]) (.sq (.sq (.rg [.c 5 (.int .i64 0)]) (.bk 0 (.lp (.sq (.sq (.rg [.t 6 5, .t 7 0, .o 8 (.ln true (.tmp 7)), .o 9 (.cm .leq (.tmp 6) (.tmp 8))]) (.cd (.tmp 9) (.sk) (.xt 0))) (.sq (.bk 1 (.sq (.rg [.t 12 5, .t 13 0, .o 14 (.ln true (.tmp 13)), .o 15 (.cm .eql (.tmp 12) (.tmp 14)), .t 16 15, .q 17 16 false (.mv (.tmp 0)), .q 18 16 false (.mv (.tmp 5)), .q 19 16 false (.ixs (.tmp 17) (.tmp 18)), .q 20 16 false (.cm .eql (.tmp 19) (.const (.int .u8 47))), .o 21 (.pk (.tmp 16) (.const (.bool true)) (.tmp 20))]) (.cd (.tmp 21) (.sq (.rg [.t 22 3, .t 23 0, .t 24 4, .t 25 5, .o 26 (.ss (.tmp 23) (some (.tmp 24)) (some (.tmp 25))), .o 27 (.bl 9 1 [.tmp 26]), .o 28 (.ap 9 1 16 [(1, .string ⟨#[]⟩)] (.tmp 22) (.tmp 27)), .t 3 28]) (.rg [.t 29 5, .o 30 (.ar .add .i64 (.tmp 29) (.const (.int .i64 1)) true), .t 4 30])) (.sk)))) (.rg [.t 10 5, .o 11 (.ar .add .i64 (.tmp 10) (.const (.int .i64 1)) true), .t 5 11])))))) (.sq (.rg [.t 31 3, .t 2 31]) (.rt)))))
theorem k190 : Tryz.f190.body.any (fun c => chkC Tryz.prog c m190 && allD (dlt 32) m190) = true := by kernel_rfl
end Go.Proofs.YtfffdhafbbbpcaaGreatDoor
namespace Go.En
open Go.Proofs Go.Shelf Go.Lib Go.Sort
def fl {α : Type} (enc : α → List Value) (d : List α) : List Value := (d.map enc).flatten
section
variable {α : Type} {enc : α → List Value} {k : Nat}
theorem fl_cons (x : α) (d : List α) : fl enc (x :: d) = enc x ++ fl enc d := by simp [fl]
theorem fl_app (d e : List α) : fl enc (d ++ e) = fl enc d ++ fl enc e := by simp [fl]
theorem fl_len (hk : ∀ x, (enc x).length = k) : ∀ d : List α, (fl enc d).length = d.length * k
 | [] => by simp [fl]
 | x :: d => by rw [fl_cons, List.length_append, hk, fl_len hk d, List.length_cons, Nat.add_mul, Nat.one_mul, Nat.add_comm]
theorem fl_drop (hk : ∀ x, (enc x).length = k) : ∀ (i : Nat) (d : List α), (fl enc d).drop (i * k) = fl enc (d.drop i)
 | 0, d => by simp
 | i + 1, [] => by simp [fl]
 | i + 1, x :: d => by
  rw [fl_cons, List.drop_succ_cons, ← fl_drop hk i d, Nat.add_mul, Nat.one_mul, Nat.add_comm, ← List.drop_drop]
  rw [show (enc x ++ fl enc d).drop k = fl enc d by rw [← hk x, List.drop_left]]
theorem fl_take (hk : ∀ x, (enc x).length = k) : ∀ (i : Nat) (d : List α), (fl enc d).take (i * k) = fl enc (d.take i)
 | 0, d => by simp [fl]
 | i + 1, [] => by simp [fl]
 | i + 1, x :: d => by
  rw [fl_cons, List.take_succ_cons, fl_cons, ← fl_take hk i d, Nat.add_mul, Nat.one_mul, Nat.add_comm]
  rw [← hk x, List.take_length_add_append]
theorem fl_at (hk : ∀ x, (enc x).length = k) (d : List α) (i : Nat) (x : α) (hx : d[i]? = some x) : ((fl enc d).drop (i * k)).take k = enc x := by
 have hl : i < d.length := by
  by_cases h : i < d.length
  ·exact h
  ·rw [List.getElem?_eq_none (by omega)] at hx; cases hx
 rw [fl_drop hk, List.drop_eq_getElem_cons hl, fl_cons, ← hk x]
 rw [List.getElem?_eq_getElem hl] at hx
 cases hx
 rw [List.take_left]
theorem fl_one (h1 : ∀ x, ∀ v ∈ enc x, v.oneCell' = true) (d : List α) : (fl enc d).all (·.oneCell') = true := by
 rw [List.all_eq_true]
 intro v hv
 unfold fl at hv
 obtain ⟨l, hl, hv⟩ := List.mem_flatten.1 hv
 obtain ⟨x, _, rfl⟩ := List.mem_map.1 hl
 exact h1 x v hv
theorem fl_get (hk : ∀ x, (enc x).length = k) : ∀ (d : List α) (t : Nat), t < d.length * k → ∀ x, d[t / k]? = some x → (fl enc d)[t]? = (enc x)[t % k]?
 | [], t, h, x, hx => by simp at h
 | y :: d, t, h, x, hx => by
  have hk0 : 0 < k := by rcases Nat.eq_zero_or_pos k with rfl | h0 <;> simp_all
  rw [fl_cons]
  by_cases ht : t < k
  ·rw [Nat.div_eq_of_lt ht] at hx
   rw [Nat.mod_eq_of_lt ht, List.getElem?_append_left (by rw [hk]; exact ht)]
   simp at hx
   rw [hx]
  ·obtain ⟨s, rfl⟩ : ∃ s, t = s + k := ⟨t - k, by omega⟩
   rw [Nat.add_div_right _ hk0] at hx
   rw [List.getElem?_append_right (by rw [hk]; omega), hk, Nat.add_sub_cancel, Nat.add_mod_right]
   refine fl_get hk d s ?_ x ?_
   ·rw [List.length_cons, Nat.add_mul, Nat.one_mul] at h; omega
   ·simpa using hx
variable [Inhabited α]
theorem flatK_fl (hk : ∀ x, (enc x).length = k) (d : Array α) : Go.Sort.flatK enc k d = (fl enc d.toList).toArray := by
 refine ext_get! ?_ fun t ht => ?_
 ·rw [size_flatK]
  show d.size * k = (fl enc d.toList).length
  rw [fl_len hk]
  rfl
 ·rw [size_flatK] at ht
  rw [get_flatK enc k d t ht]
  have hk0 : 0 < k := by rcases Nat.eq_zero_or_pos k with rfl | h0 <;> simp_all
  have hd : t / k < d.size := by rwa [Nat.div_lt_iff_lt_mul hk0]
  have hm : t % k < (enc d[t / k]!).length := by rw [hk]; exact Nat.mod_lt _ hk0
  have := fl_get hk d.toList t (by simpa using ht) d[t / k]! (by simp [hd])
  have e : (fl enc d.toList).toArray[t]! = (fl enc d.toList)[t]?.getD default := by rw [List.getElem!_toArray, List.getElem!_eq_getElem?_getD]
  rw [e, this, List.getElem?_eq_getElem hm, Option.getD_some]
  exact getElem!_pos (enc d[t / k]!) (t % k) hm
end
theorem fr_grow {W W' : World} (h : Fr W (fun _ => False) W') : ∃ q os, W' = grow (W.drewN q) os := by
 refine ⟨W'.drawn - W.drawn, W'.heap.extract W.heap.size, ?_⟩
 have hd := h.dr
 have e1 : W'.heap = W.heap ++ W'.heap.extract W.heap.size := by
  refine Array.ext_getElem? fun i => ?_
  by_cases hi : i < W.heap.size
  ·rw [Array.getElem?_append_left hi]
   exact h.kept i hi (fun h => h)
  ·rw [Array.getElem?_append_right (by omega)]
   have := h.size
   simp only [Array.getElem?_extract]
   split
   ·congr 1; omega
   ·rw [Array.getElem?_eq_none (by omega)]
 obtain ⟨hp, tp, dn, os, out⟩ := W'
 simp only at e1 hd
 have e2 := h.os; have e3 := h.out; have e4 := h.tape
 simp only at e2 e3 e4
 subst e2 e3 e4
 unfold grow
 have e5 : W.drawn + (dn - W.drawn) = dn := by omega
 rw [World.mk.injEq]
 exact ⟨e1, rfl, e5.symm, rfl, rfl⟩
section
variable {α : Type} [Inhabited α] {enc : α → List Value} {k : Nat} {w w0 : World} {S0 : Nat → Prop} {L : List Res} {K : Value → World → Prop} {P : Program} {ρ : Ren}
theorem holds_blk {b E : Nat} {rest : List Value} (hk : ∀ x, (enc x).length = k) (d : List α) (hb : Blk w b (fl enc d ++ rest) E) : HoldsK enc k w b 0 d.toArray := by
 unfold HoldsK
 rw [flatK_fl hk]
 intro j hj
 simp only [List.size_toArray] at hj
 have hc : (fl enc d ++ rest)[j]? = some (fl enc d).toArray[j]! := by
  rw [List.getElem?_append_left hj, List.getElem?_eq_getElem hj]
  simp [hj]
 rw [Nat.zero_add]
 exact ⟨(hb.r.cell j).trans hc, hb.free (by rw [List.length_append]; omega)⟩
theorem sortW_St {i b cap E n m : Nat} {rest : List Value} {d d' : List α} {os : Array Obj} (hk : ∀ x, (enc x).length = k) (hS : St w0 S0 w L) (hi : L[i]? = some (row (.slice (some ⟨b, 0, none⟩) n cap) E k n (fl enc d)))
  (hn : n ≤ cap) (hd : d.length = n) (hl : (fl enc d ++ rest).length = cap * k) (hb : Blk w b (fl enc d ++ rest) E) (hd' : d'.length = n) :
  St w0 S0 (sortWorldK enc k w b 0 m d'.toArray os) (L.set i (row (.slice (some ⟨b, 0, none⟩) n cap) E k n (fl enc d'))) := by
 have e1 : ∀ c : List Value, c = fl enc d ++ rest → putCells id 0 (Go.Sort.flatK enc k d'.toArray) ⟨c⟩ = ⟨fl enc d' ++ rest⟩ := by
  rintro _ rfl
  rw [flatK_fl hk]
  have l1 := fl_len hk d
  have l2 := fl_len hk d'
  rw [hd] at l1; rw [hd'] at l2
  refine Array.ext_getElem? fun j => ?_
  unfold putCells
  rw [Array.getElem?_mapIdx]
  simp only [List.getElem?_toArray, List.size_toArray, Nat.zero_add, Nat.sub_zero, Nat.zero_le, true_and, id]
  by_cases hj : j < (fl enc d').length
  ·rw [List.getElem?_append_left hj, List.getElem?_append_left (by omega), List.getElem?_eq_getElem (by omega), List.getElem?_eq_getElem hj, Option.map_some, if_pos hj]
   congr 1
   simp [hj]
  ·rw [List.getElem?_append_right (by omega), List.getElem?_append_right (by omega), l1, l2]
   cases rest[j - n * k]? with
   | none => rfl
   | some x => rw [Option.map_some, if_neg (by omega)]
 obtain ⟨fr, hh, hf⟩ := hb
 have hlt : b < w.heap.size := (Array.getElem?_eq_some_iff.1 hh).1
 have ehb : (sortWorldK enc k w b 0 m d'.toArray os).heap[b]? = some (.cells ⟨fl enc d' ++ rest⟩ E fr) := by
  show (w.heap.modify b _ ++ os)[b]? = _
  rw [Array.getElem?_append_left (by rw [Array.size_modify]; exact hlt), Array.getElem?_modify, if_pos rfl, hh]
  show some (Obj.cells (putCells id 0 _ ⟨fl enc d ++ rest⟩) E fr) = _
  rw [e1 _ rfl]
 have hlen : (fl enc d' ++ rest).length = (fl enc d ++ rest).length := by
  rw [List.length_append, List.length_append, fl_len hk, fl_len hk, hd, hd']
 refine hS.turn hi ⟨?_, ?_, rfl, rfl, rfl, ?_⟩ (fun b' h => .inl h) ?_ ?_
 ·show w.heap.size ≤ (w.heap.modify b _ ++ os).size
  rw [Array.size_append, Array.size_modify]; omega
 ·intro b' hb' hn'
  show (w.heap.modify b _ ++ os)[b']? = _
  rw [Array.getElem?_append_left (by rw [Array.size_modify]; exact hb'), Array.getElem?_modify, if_neg]
  rintro rfl
  exact hn' rfl
 ·show w.drawn ≤ w.drawn + m
  omega
 ·rintro b' h
  have h : b' = b := h
  subst h
  exact (Array.getElem?_eq_some_iff.1 ehb).1
 ·refine .inr ⟨b, cap, rest, rfl, hn, ?_, by rw [hlen, hl], fr, ehb, ?_⟩
  ·rw [fl_len hk, hd']
  ·rw [hlen]; exact hf
theorem ck_sortF (M : SlLaysF0.n6 P ρ) (aE : ∀ w, (isAgg (ρ.t 24)).run P w = .ok true w) (zE : ∀ w, (Go.sizeOf (ρ.t 24)).run P w = .ok k w) (hk : ∀ x, (enc x).length = k) (h1 : ∀ x, ∀ v ∈ enc x, v.oneCell' = true) (cf : α → α → Int) (hO : SWO (ltOf cf)) {g : Nat}
  (eg : ∀ args w, (callFunc g args).run P w = .ok (.enter g args) w) (hcmp : ∀ (W : World) (x y : α) (K : Value → World → Prop), (∀ w', St W (fun _ => False) w' [] → K (.int .i64 (cf x y)) w') → CK P g [.agg ⟨enc x⟩, .agg ⟨enc y⟩] W K)
  {i b cap E n : Nat} {d : List α} (hS : St w0 S0 w L) (hi : L[i]? = some (row (.slice (some ⟨b, 0, none⟩) n cap) E k n (fl enc d))) (hd : d.length = n) (hn : n < 4611686018427387904)
  (h : ∀ d' w', d'.Perm d → d'.Pairwise (fun x y => ltOf cf y x = false) → St w0 S0 w' (L.set i (row (.slice (some ⟨b, 0, none⟩) n cap) E k n (fl enc d'))) → K (.tuple ⟨[]⟩) w') :
  CK P (ρ.f 6) [.slice (some ⟨b, 0, none⟩) n cap, .func (.func g) ⟨[]⟩ ⟨[]⟩] w K := by
 rcases hS.ok i _ hi with ⟨h0, _⟩ | ⟨b0, cap0, rest, e0, hnc, hx, hl, hb⟩
 ·cases h0
 ·cases e0
  have hlay : CmpLays P g #[] enc k cf b 0 d.toArray.size w := fun m os dk hdk x y => by
   have hc := hcmp (sortWorldK enc k w b 0 m dk os) x y (fun v w' => v = .int .i64 (cf x y) ∧ ∃ q os', w' = grow ((sortWorldK enc k w b 0 m dk os).drewN q) os') fun w' hS => ⟨rfl, fr_grow hS.fr⟩
   refine Calls.mono hc ?_
   rintro e w' ⟨v, rfl, rfl, hw⟩
   exact ⟨rfl, hw⟩
  subst hd
  have := AnyQ.slices_SortFunc M k aE zE enc hk h1 cf hO g #[] b 0 cap d.toArray w eg hlay (holds_blk hk d hb) hb.lt (by simpa using hn)
  refine this.mono ?_
  rintro e w' ⟨rfl, d', m, os, hp, hs, rfl⟩
  refine ⟨_, rfl, ?_⟩
  have hd' : d'.toList.length = d.length := by have := hp.1; simpa using this
  refine h d'.toList _ ?_ ?_ (sortW_St hk hS hi hnc rfl hl hb hd')
  ·have := hp.2.2
   rw [List.size_toArray, Array.extract_eq_self_of_le (by simp [hp.1]), Array.extract_eq_self_of_le (by simp)] at this
   exact this
  ·rw [List.pairwise_iff_getElem]
   intro p q hp1 hq1 hpq
   have := hs p q (Nat.zero_le _) hpq (by rw [List.size_toArray, ← hd']; exact hq1)
   rw [Array.length_toList] at hp1 hq1
   rwa [getElem!_pos d' p hp1, getElem!_pos d' q hq1] at this
end
open Go.Sort Go.Proofs
theorem cb_neg : ∀ a b : List UInt8, Lib.compareBytes b a = - Lib.compareBytes a b
 | [], [] => rfl
 | [], _ :: _ => rfl
 | _ :: _, [] => rfl
 | x :: a, y :: b => by
  have := cb_neg a b
  unfold Lib.compareBytes
  by_cases h1 : x < y
  ·have h2 : ¬ y < x := by rw [UInt8.lt_iff_toNat_lt] at h1 ⊢; omega
   rw [if_pos h1, if_neg h2, if_pos h1]; rfl
  ·by_cases h2 : y < x
   ·rw [if_neg h1, if_pos h2, if_pos h2, if_neg h1]
   ·rw [if_neg h1, if_neg h2, if_neg h2, if_neg h1, this]
theorem cb_self (a : List UInt8) : Lib.compareBytes a a = 0 := by have := cb_neg a a; omega
theorem cb_zero : ∀ {a b : List UInt8}, Lib.compareBytes a b = 0 → a = b
 | [], [], _ => rfl
 | [], _ :: _, h => by simp [Lib.compareBytes] at h
 | _ :: _, [], h => by simp [Lib.compareBytes] at h
 | x :: a, y :: b, h => by
  unfold Lib.compareBytes at h
  by_cases h1 : x < y
  ·rw [if_pos h1] at h; omega
  ·by_cases h2 : y < x
   ·rw [if_neg h1, if_pos h2] at h; omega
   ·rw [if_neg h1, if_neg h2] at h
    rw [cb_zero h]
    have : x = y := by
     rw [UInt8.lt_iff_toNat_lt] at h1 h2
     exact UInt8.toNat_inj.1 (by omega)
    rw [this]
theorem cb_trans : ∀ {a b c : List UInt8}, Lib.compareBytes a b ≤ 0 → Lib.compareBytes b c ≤ 0 → Lib.compareBytes a c ≤ 0
 | [], _, [], _, _ => by simp [Lib.compareBytes]
 | [], _, _ :: _, _, _ => by simp [Lib.compareBytes]
 | _ :: _, [], _, h, _ => by simp [Lib.compareBytes] at h
 | _ :: _, _ :: _, [], _, h => by simp [Lib.compareBytes] at h
 | x :: a, y :: b, z :: c, h, k => by
  have ih := @cb_trans a b c
  unfold Lib.compareBytes at h k ⊢
  simp only [UInt8.lt_iff_toNat_lt] at h k ⊢
  repeat' split at h
  all_goals repeat' split at k
  all_goals repeat' split
  all_goals first | omega | skip
theorem cb_three (a b : List UInt8) : Lib.compareBytes a b = -1 ∨ Lib.compareBytes a b = 0 ∨ Lib.compareBytes a b = 1 := by
 induction a generalizing b with
 | nil => cases b <;> simp [Lib.compareBytes]
 | cons x a ih =>
  cases b with
  | nil => simp [Lib.compareBytes]
  | cons y b =>
   unfold Lib.compareBytes
   split
   ·exact .inl rfl
   ·split
    ·exact .inr (.inr rfl)
    ·exact ih b
theorem bless_eq : ∀ a b : List UInt8, Op.bytesLess a b = decide (Lib.compareBytes a b < 0)
 | [], [] => by simp [Op.bytesLess, Lib.compareBytes]
 | [], _ :: _ => by simp [Op.bytesLess, Lib.compareBytes]
 | _ :: _, [] => by simp [Op.bytesLess, Lib.compareBytes]
 | x :: a, y :: b => by
  have := bless_eq a b
  unfold Op.bytesLess Lib.compareBytes
  by_cases h1 : x < y
  ·simp [h1]
  ·by_cases h2 : y < x
   ·have : ¬ x = y := by rintro rfl; exact h1 h2
    simp [h1, h2, this]
   ·have e : x = y := by
     rw [UInt8.lt_iff_toNat_lt] at h1 h2
     exact UInt8.toNat_inj.1 (by omega)
    subst e
    simp [this]
def ble (a b : List UInt8) : Bool := decide (Lib.compareBytes a b ≤ 0)
theorem ble_trans {a b c : List UInt8} (h : ble a b = true) (k : ble b c = true) : ble a c = true := by
 unfold ble at *
 rw [decide_eq_true_eq] at *
 exact cb_trans h k
theorem ble_total (a b : List UInt8) : (ble a b || ble b a) = true := by
 unfold ble
 have := cb_neg a b
 simp only [Bool.or_eq_true, decide_eq_true_eq]
 omega
theorem ble_anti {a b : List UInt8} (h : ble a b = true) (k : ble b a = true) : a = b := by
 unfold ble at *
 rw [decide_eq_true_eq] at *
 have := cb_neg a b
 exact cb_zero (by omega)
section
variable {α : Type} (key : α → List UInt8)
theorem swo_key : SWO (ltOf fun x y : α => Lib.compareBytes (key x) (key y)) := by
 have hn := fun x y : α => cb_neg (key x) (key y)
 have ht := fun x y z : α => @cb_trans (key x) (key y) (key z)
 unfold ltOf
 refine ⟨fun x => ?_, fun x y z h k => ?_, fun x y z h k => ?_⟩
 ·simp [cb_self]
 ·simp only [decide_eq_true_eq] at *
  have h1 := ht x y z (by omega) (by omega)
  have h2 := hn x y; have h3 := hn y z; have h4 := hn x z
  have h5 := ht y z x (by omega)
  omega
 ·simp only [decide_eq_false_iff_not] at *
  have h2 := hn x y; have h3 := hn y z; have h4 := hn x z
  have h5 := ht z y x (by omega) (by omega)
  omega
theorem lt_ble (x y : α) : ltOf (fun x y : α => Lib.compareBytes (key x) (key y)) y x = false ↔ ble (key x) (key y) = true := by
 unfold ltOf ble
 have := cb_neg (key x) (key y)
 simp only [decide_eq_false_iff_not, decide_eq_true_eq]
 omega
def srt (l : List α) : List α := l.mergeSort fun x y => ble (key x) (key y)
theorem srt_perm (l : List α) : (srt key l).Perm l := List.mergeSort_perm _ _
theorem srt_sorted (l : List α) : (srt key l).Pairwise fun x y => ble (key x) (key y) = true := by
 refine List.pairwise_mergeSort ?_ ?_ l
 ·exact fun a b c => ble_trans
 ·exact fun a b => ble_total _ _
theorem srt_len (l : List α) : (srt key l).length = l.length := (srt_perm key l).length_eq
theorem srt_unique (hi : ∀ x y, key x = key y → x = y) {l d : List α} (hp : d.Perm l) (hs : d.Pairwise fun x y => ble (key x) (key y) = true) : d = srt key l :=
 List.Perm.eq_of_pairwise (fun a b _ _ h k => hi _ _ (ble_anti h k)) hs (srt_sorted key l) (hp.trans (srt_perm key l).symm)
def lts (x y : α) : Prop := ble (key x) (key y) = true ∧ x ≠ y
theorem lts_unique (hi : ∀ x y, key x = key y → x = y) {l m : List α} (hl : l.Pairwise (lts key)) (hm : m.Pairwise (lts key)) (h : ∀ x, x ∈ l ↔ x ∈ m) : l = m := by
 have nd : ∀ {l : List α}, l.Pairwise (lts key) → l.Nodup := fun h => h.imp fun h => h.2
 have hp : l.Perm m := (List.perm_ext_iff_of_nodup (nd hl) (nd hm)).2 h
 exact List.Perm.eq_of_pairwise (le := fun x y => ble (key x) (key y) = true) (fun a b _ _ h k => hi _ _ (ble_anti h k)) (hl.imp fun h => h.1) (hm.imp fun h => h.1) hp
variable [DecidableEq α]
def ddn (s : List α) : Nat → List α
 | 0 => []
 | p + 1 => if p = 0 ∨ s[p]? ≠ s[p - 1]? then ddn s p ++ (s[p]?).toList else ddn s p
theorem mem_ddn (s : List α) (x : α) : ∀ p, x ∈ ddn s p ↔ x ∈ s.take p
 | 0 => by simp [ddn]
 | p + 1 => by
  have ih := mem_ddn s x p
  have e : s.take (p + 1) = s.take p ++ (s[p]?).toList := by
   by_cases h : p < s.length
   ·rw [List.take_succ_eq_append_getElem h, List.getElem?_eq_getElem h]; rfl
   ·rw [List.getElem?_eq_none (by omega), List.take_of_length_le (by omega), List.take_of_length_le (by omega)]; simp
  have ed : ddn s (p + 1) = if p = 0 ∨ s[p]? ≠ s[p - 1]? then ddn s p ++ (s[p]?).toList else ddn s p := rfl
  rw [e, List.mem_append, ← ih, ed]
  split
  ·rw [List.mem_append]
  ·rename_i h
   constructor
   ·exact .inl
   ·rintro (h1 | h1)
    ·exact h1
    ·refine ih.2 ?_
     have h0 : p ≠ 0 := fun h0 => h (.inl h0)
     have h2 : s[p]? = s[p - 1]? := by
      by_cases h2 : s[p]? = s[p - 1]?
      ·exact h2
      ·exact absurd (.inr h2) h
     rw [h2] at h1
     have h3 : s[p - 1]? = some x := by simpa using h1
     have : (s.take p)[p - 1]? = some x := by rw [List.getElem?_take, if_pos (by omega), h3]
     exact List.mem_of_getElem? this
theorem ddn_sorted (hi : ∀ x y, key x = key y → x = y) {s : List α} (hs : s.Pairwise fun x y => ble (key x) (key y) = true) : ∀ p, (ddn s p).Pairwise (lts key)
 | 0 => by simp [ddn]
 | p + 1 => by
  have ih := ddn_sorted hi hs p
  unfold ddn
  split
  ·rename_i h
   rw [List.pairwise_append]
   refine ⟨ih, ?_, ?_⟩
   ·cases s[p]? <;> simp
   ·intro x hx y hy
    have hy : s[p]? = some y := by simpa using hy
    have hp : p < s.length := by
     by_cases hp : p < s.length
     ·exact hp
     ·rw [List.getElem?_eq_none (by omega)] at hy; cases hy
    rw [List.getElem?_eq_getElem hp] at hy
    cases hy
    have hx := (mem_ddn s x p).1 hx
    obtain ⟨i, hi1, rfl⟩ := List.getElem_of_mem hx
    rw [List.length_take] at hi1
    rw [List.getElem_take]
    have hpw := List.pairwise_iff_getElem.1 hs
    refine ⟨hpw i p (by omega) hp (by omega), fun e => ?_⟩
    rcases h with h | h
    ·omega
    ·refine h ?_
     rw [List.getElem?_eq_getElem hp, List.getElem?_eq_getElem (by omega)]
     by_cases hip : i = p - 1
     ·subst hip; rw [e]
     ·have h1 := hpw i (p - 1) (by omega) (by omega) (by omega)
      have h2 := hpw (p - 1) p (by omega) (by omega) (by omega)
      rw [e] at h1
      rw [hi _ _ (ble_anti h2 h1)]
  ·exact ih
theorem ddn_le (s : List α) : ∀ p, (ddn s p).length ≤ p
 | 0 => Nat.le_refl _
 | p + 1 => by
  have := ddn_le s p
  unfold ddn
  split
  ·rw [List.length_append]
   cases s[p]? <;> simp <;> omega
  ·omega
def kset (l : List α) : List α := ddn (srt key l) l.length
theorem mem_kset (l : List α) (x : α) : x ∈ kset key l ↔ x ∈ l := by
 unfold kset
 rw [mem_ddn, ← srt_len key l, List.take_length]
 exact (srt_perm key l).mem_iff
theorem kset_sorted (hi : ∀ x y, key x = key y → x = y) (l : List α) : (kset key l).Pairwise (lts key) := ddn_sorted key hi (srt_sorted key l) _
theorem kset_len (l : List α) : (kset key l).length ≤ l.length := ddn_le _ _
theorem kset_self (hi : ∀ x y, key x = key y → x = y) {l : List α} (h : l.Pairwise (lts key)) : kset key l = l :=
 lts_unique key hi (kset_sorted key hi l) h fun x => mem_kset key l x
end
section
variable {α : Type} {enc : α → List Value} {k : Nat}
theorem rd_at (hk : ∀ x, (enc x).length = k) {l : List Value} {off n : Nat} {d : List α} (h : (l.drop off).take (n * k) = fl enc d) (hn : d.length = n) {i : Nat} (hi : i < d.length) : (l.drop (off + i * k)).take k = enc d[i] := by
 have h1 := fl_at hk d i _ (List.getElem?_eq_getElem hi)
 rw [← h, List.drop_take, List.take_take, List.drop_drop] at h1
 rw [← h1]
 congr 1
 have : (i + 1) * k ≤ n * k := Nat.mul_le_mul_right k (by omega)
 rw [Nat.add_mul, Nat.one_mul] at this
 omega
theorem sorted_unique {key : α → List UInt8} {l d : List α} (hi : ∀ x y, x ∈ l → y ∈ l → key x = key y → x = y) (hp : d.Perm l) (hd : d.Pairwise fun x y => ble (key x) (key y) = true) (hl : l.Pairwise fun x y => ble (key x) (key y) = true) : d = l :=
 List.Perm.eq_of_pairwise (fun a b ha hb h k => hi _ _ (hp.mem_iff.1 ha) hb (ble_anti h k)) hd hl hp
end
theorem cb_app (s : List UInt8) (a b : List UInt8) : Lib.compareBytes (s ++ a) (s ++ b) = Lib.compareBytes a b := by
 induction s with
 | nil => rfl
 | cons x s ih =>
  rw [List.cons_append, List.cons_append]
  show (if x < x then (-1 : Int) else if x < x then 1 else Lib.compareBytes (s ++ a) (s ++ b)) = _
  rw [if_neg (by rw [UInt8.lt_iff_toNat_lt]; omega), if_neg (by rw [UInt8.lt_iff_toNat_lt]; omega), ih]
end Go.En
namespace Go.Proofs.YtfffdhafbbbpcaaGreatDoor
open Go.En
structure Rec where
 site : Int
 cnt : Int
 ctx : List Nat
 ref : Bs
 has : Bool
 tip : Bs
 l16 : ctx.length = 16
 l32 : tip.length = 32
 b32 : ∀ x ∈ ctx, x < 4294967296
 bs : -9223372036854775808 ≤ site ∧ site ≤ 9223372036854775807
 bc : -9223372036854775808 ≤ cnt ∧ cnt ≤ 9223372036854775807
def u4 (l : List Nat) : List Value := l.map fun n : Nat => Value.int .u32 (n : Int)
theorem u4_len (l : List Nat) : (u4 l).length = l.length := by simp [u4]
def dc (a b : Int) : List Value := [.int .i64 a, .int .i64 b]
def rc (r : Rec) : List Value := .int .i64 r.site :: .int .i64 r.cnt :: (u4 r.ctx ++ (sv r.ref :: .bool r.has :: bys r.tip))
theorem rc_len (r : Rec) : (rc r).length = 52 := by
 unfold rc
 rw [List.length_cons, List.length_cons, List.length_append, u4_len, r.l16, List.length_cons, List.length_cons, bys_length, r.l32]
theorem rc_one (r : Rec) : ∀ v ∈ rc r, v.oneCell' = true := fun v hv => by
 unfold rc at hv
 simp only [List.mem_cons, List.mem_append] at hv
 rcases hv with rfl | rfl | hv | rfl | rfl | hv
 ·rfl
 ·rfl
 ·unfold u4 at hv
  obtain ⟨n, _, rfl⟩ := List.mem_map.1 hv
  rfl
 ·rfl
 ·rfl
 ·have := bys_one r.tip
  rw [List.all_eq_true] at this
  exact this v hv
theorem rc_dot (r : Rec) : ((rc r).drop 0).take 2 = dc r.site r.cnt := rfl
theorem rc_ctx (r : Rec) {k : Nat} (h : k < r.ctx.length) : (rc r)[2 + k * 1]? = some (.int .u32 (r.ctx[k] : Int)) := by
 unfold rc
 rw [Nat.mul_one, Nat.add_comm, List.getElem?_cons_succ, List.getElem?_cons_succ, List.getElem?_append_left (by rw [u4_len]; exact h)]
 simp [u4, h]
theorem rc_18 (r : Rec) : (rc r)[18]? = some (sv r.ref) := by
 show (u4 r.ctx ++ (sv r.ref :: .bool r.has :: bys r.tip))[16]? = _
 rw [List.getElem?_append_right (by rw [u4_len, r.l16]; exact Nat.le_refl _), u4_len, r.l16]
 rfl
theorem rc_19 (r : Rec) : (rc r)[19]? = some (.bool r.has) := by
 show (u4 r.ctx ++ (sv r.ref :: .bool r.has :: bys r.tip))[17]? = _
 rw [List.getElem?_append_right (by rw [u4_len, r.l16]; decide), u4_len, r.l16]
 rfl
theorem rc_20 (r : Rec) : ((rc r).drop 20).take 32 = bys r.tip := by
 show ((u4 r.ctx ++ (sv r.ref :: .bool r.has :: bys r.tip)).drop 18).take 32 = _
 rw [List.drop_append, List.drop_eq_nil_of_le (by rw [u4_len, r.l16]; decide), u4_len, r.l16]
 show (bys r.tip).take 32 = _
 exact List.take_of_length_le (by rw [bys_length, r.l32]; exact Nat.le_refl _)
theorem u4_inj : ∀ {a b : List Nat}, u4 a = u4 b → a = b
 | [], [], _ => rfl
 | [], _ :: _, h => by simp [u4] at h
 | _ :: _, [], h => by simp [u4] at h
 | x :: a, y :: b, h => by
  have h1 : u4 a = u4 b := by simpa [u4] using (List.cons.inj h).2
  have h2 := (List.cons.inj h).1
  simp only [Value.int.injEq, true_and] at h2
  rw [u4_inj h1, Int.ofNat.inj h2]
theorem bys_inj' : ∀ {a b : Bs}, bys a = bys b → a = b
 | [], [], _ => rfl
 | [], _ :: _, h => by simp [bys] at h
 | _ :: _, [], h => by simp [bys] at h
 | x :: a, y :: b, h => by
  have h1 : bys a = bys b := by simpa [bys] using (List.cons.inj h).2
  have h2 : (x.toNat : Int) = (y.toNat : Int) := by
   have := (List.cons.inj h).1
   simp only [Value.int.injEq, true_and] at this
   exact this
  rw [bys_inj' h1, UInt8.toNat_inj.1 (Int.ofNat.inj h2)]
theorem rc_inj {a b : Rec} (h : rc a = rc b) : a = b := by
 unfold rc at h
 obtain ⟨h1, h2⟩ := List.cons.inj h
 obtain ⟨h2, h3⟩ := List.cons.inj h2
 obtain ⟨h3, h4⟩ := List.append_inj h3 (by rw [u4_len, u4_len, a.l16, b.l16])
 obtain ⟨h4, h5⟩ := List.cons.inj h4
 obtain ⟨h5, h6⟩ := List.cons.inj h5
 have e1 : a.site = b.site := by simpa using h1
 have e2 : a.cnt = b.cnt := by simpa using h2
 have e3 := u4_inj h3
 have e4 : a.ref = b.ref := by
  have := congrArg (fun v : Value => match v with | .string s => s.data.toList | _ => []) h4
  exact this
 have e5 : a.has = b.has := by simpa using h5
 have e6 := bys_inj' h6
 cases a
 cases b
 simp only at e1 e2 e3 e4 e5 e6
 subst e1 e2 e3 e4 e5 e6
 rfl
def dotB (a b : Int) : Bool := decide (0 ≤ a ∧ a ≤ 15 ∧ 1 ≤ b ∧ b ≤ 4294967295)
def dotE (a b : Int) : Int := if dotB a b = true then 0 else 50
def cmpI (a b : Int) : Int := if a < b then -1 else if b < a then 1 else 0
def dotC (a b c d : Int) : Int := if cmpI a c ≠ 0 then cmpI a c else cmpI b d
section
variable {w w0 : World} {S0 : Nat → Prop} {L B : List Res} {K : Value → World → Prop} {s : Bs} {E0 E1 : Nat}
theorem b_isNaNI {a : Int} (h : K (.bool false) w) : CK Tryz.prog 139 [.int .i64 a] w K := by
 refine call_k Tryz.func139 k139 Tryz.ntmps139 (Nat.le_of_ble_eq_true rfl) ?_
 refine gW ?_
 rw [cmv_neq]
 refine gW ?_
 exact g_ret (q_1 rfl h)
theorem b_cmpI {a b : Int} (h : K (.int .i64 (cmpI a b)) w) : CK Tryz.prog 95 [.int .i64 a, .int .i64 b] w K := by
 refine call_k Tryz.func95 k95 Tryz.ntmps95 (Nat.le_of_ble_eq_true rfl) ?_
 refine gW ?_
 refine g_cl rfl rfl (b_isNaNI ?_)
 refine gW ?_
 refine g_cl rfl rfl (b_isNaNI ?_)
 unfold cmpI at h
 refine gW ?_
 (generalize q1 : cmv _ _ _ = q; cases q <;> simp only [cmv, arv, Bool.not_eq_true', Bool.not_eq_false', decide_eq_true_eq, decide_eq_false_iff_not] at q1 <;> first | (exfalso; omega) | skip)
 ·rw [if_neg (by omega)] at h
  refine gW ?_
  (generalize q2 : cmv _ _ _ = q; cases q <;> simp only [cmv, arv, Bool.not_eq_true', Bool.not_eq_false', decide_eq_true_eq, decide_eq_false_iff_not] at q2 <;> first | (exfalso; omega) | skip)
  ·rw [if_neg (by omega)] at h
   refine gW ?_
   exact g_ret (q_1 rfl h)
  ·rw [if_pos (by omega)] at h
   refine gW ?_
   exact g_ret (q_1 rfl h)
 ·rw [if_pos (by omega)] at h
  refine gW ?_
  exact g_ret (q_1 rfl h)
theorem b_dotCheck {a b : Int} (h : ∀ w', St w (fun _ => False) w' [] → K (.int .i64 (dotE a b)) w') : CK Tryz.prog 59 [.agg ⟨dc a b⟩] w K := by
 have hS := St.nil w (fun _ => False)
 refine call_k Tryz.func59 k59 Tryz.ntmps59 (Nat.le_of_ble_eq_true rfl) ?_
 refine gW ?_
 refine g_ef rfl (ef_bx hS rfl fun b1 w1 hS => ?_)
 replace hS : St w (fun _ => False) w1 [cel b1 (dc a b) 36] := hS
 unfold dotE dotB at h
 refine gW ?_
 refine g_l1 rfl rfl (hS.b  0 rfl) rfl ?_
 refine gW ?_
 (generalize q1 : cmv _ _ _ = q; cases q <;> simp only [cmv, arv, Bool.not_eq_true', Bool.not_eq_false', decide_eq_true_eq, decide_eq_false_iff_not] at q1 <;> first | (exfalso; omega) | skip)
 ·refine gW ?_
  refine g_l1 rfl rfl (hS.b  0 rfl) rfl ?_
  refine gW ?_
  (generalize q2 : cmv _ _ _ = q; cases q <;> simp only [cmv, arv, Bool.not_eq_true', Bool.not_eq_false', decide_eq_true_eq, decide_eq_false_iff_not] at q2 <;> first | (exfalso; omega) | skip)
  ·refine gW ?_
   refine g_l1 rfl rfl (hS.b  0 rfl) rfl ?_
   refine gW ?_
   (generalize q3 : cmv _ _ _ = q; cases q <;> simp only [cmv, arv, Bool.not_eq_true', Bool.not_eq_false', decide_eq_true_eq, decide_eq_false_iff_not] at q3 <;> first | (exfalso; omega) | skip)
   ·refine gW ?_
    refine g_l1 rfl rfl (hS.b  0 rfl) rfl ?_
    refine gW ?_
    (generalize q4 : cmv _ _ _ = q; cases q <;> simp only [cmv, arv, Bool.not_eq_true', Bool.not_eq_false', decide_eq_true_eq, decide_eq_false_iff_not] at q4 <;> first | (exfalso; omega) | skip)
    ·rw [if_pos (decide_eq_true (by omega))] at h
     refine gW ?_
     exact g_ret (q_1 rfl (h _ (hS.sel [] rfl rfl)))
    ·rw [if_neg (by rw [decide_eq_true_eq]; omega)] at h
     refine gW ?_
     exact g_ret (q_1 rfl (h _ (hS.sel [] rfl rfl)))
   ·rw [if_neg (by rw [decide_eq_true_eq]; omega)] at h
    refine gW ?_
    exact g_ret (q_1 rfl (h _ (hS.sel [] rfl rfl)))
  ·rw [if_neg (by rw [decide_eq_true_eq]; omega)] at h
   refine gW ?_
   exact g_ret (q_1 rfl (h _ (hS.sel [] rfl rfl)))
 ·rw [if_neg (by rw [decide_eq_true_eq]; omega)] at h
  refine gW ?_
  exact g_ret (q_1 rfl (h _ (hS.sel [] rfl rfl)))
theorem r_dotCheck {a b : Int} (h : ∀ w', St w (fun _ => False) w' [] → K (.int .i64 (dotE a b)) w') : CK Tryz.prog 61 [.agg ⟨dc a b⟩] w K := by
 have hS := St.nil w (fun _ => False)
 refine call_k Tryz.func61 k61 Tryz.ntmps61 (Nat.le_of_ble_eq_true rfl) ?_
 refine gW ?_
 refine g_ef rfl (ef_bx hS rfl fun b1 w1 hS => ?_)
 replace hS : St w (fun _ => False) w1 [cel b1 (dc a b) 36] := hS
 unfold dotE dotB at h
 refine gW ?_
 refine g_l1 rfl rfl (hS.b  0 rfl) rfl ?_
 refine gW ?_
 (generalize q1 : cmv _ _ _ = q; cases q <;> simp only [cmv, arv, Bool.not_eq_true', Bool.not_eq_false', decide_eq_true_eq, decide_eq_false_iff_not] at q1 <;> first | (exfalso; omega) | skip)
 ·refine gW ?_
  refine g_l1 rfl rfl (hS.b  0 rfl) rfl ?_
  refine gW ?_
  (generalize q2 : cmv _ _ _ = q; cases q <;> simp only [cmv, arv, Bool.not_eq_true', Bool.not_eq_false', decide_eq_true_eq, decide_eq_false_iff_not] at q2 <;> first | (exfalso; omega) | skip)
  ·refine gW ?_
   refine g_l1 rfl rfl (hS.b  0 rfl) rfl ?_
   refine gW ?_
   (generalize q3 : cmv _ _ _ = q; cases q <;> simp only [cmv, arv, Bool.not_eq_true', Bool.not_eq_false', decide_eq_true_eq, decide_eq_false_iff_not] at q3 <;> first | (exfalso; omega) | skip)
   ·refine gW ?_
    refine g_l1 rfl rfl (hS.b  0 rfl) rfl ?_
    refine gW ?_
    (generalize q4 : cmv _ _ _ = q; cases q <;> simp only [cmv, arv, Bool.not_eq_true', Bool.not_eq_false', decide_eq_true_eq, decide_eq_false_iff_not] at q4 <;> first | (exfalso; omega) | skip)
    ·rw [if_pos (decide_eq_true (by omega))] at h
     refine gW ?_
     exact g_ret (q_1 rfl (h _ (hS.sel [] rfl rfl)))
    ·rw [if_neg (by rw [decide_eq_true_eq]; omega)] at h
     refine gW ?_
     exact g_ret (q_1 rfl (h _ (hS.sel [] rfl rfl)))
   ·rw [if_neg (by rw [decide_eq_true_eq]; omega)] at h
    refine gW ?_
    exact g_ret (q_1 rfl (h _ (hS.sel [] rfl rfl)))
  ·rw [if_neg (by rw [decide_eq_true_eq]; omega)] at h
   refine gW ?_
   exact g_ret (q_1 rfl (h _ (hS.sel [] rfl rfl)))
 ·rw [if_neg (by rw [decide_eq_true_eq]; omega)] at h
  refine gW ?_
  exact g_ret (q_1 rfl (h _ (hS.sel [] rfl rfl)))
end
end Go.Proofs.YtfffdhafbbbpcaaGreatDoor
namespace Go.En
section
variable {w w0 : World} {S0 S : Nat → Prop} {K : Value → World → Prop} {B L : List Res} {E : Env} {ks : List KI} {T : TT} {D : List Deferred} {Q : QX} {P : Program}
theorem Rd.hd {a : Option Addr} {n c E sz m : Nat} {xs : List Value} (h : Rd (.slice a n c) E sz n xs w) (hm : m ≤ n) : Rd (.slice a m c) E sz m (xs.take (m * sz)) w := by
 rcases h with ⟨⟨a', h⟩, rfl, rfl⟩ | ⟨b', off', cap', l, h, hn, hl, hx, hb⟩
 ·cases h
  have : m = 0 := by omega
  subst this
  exact .inl ⟨⟨_, rfl⟩, rfl, by simp⟩
 ·cases h
  have := Nat.mul_le_mul_right sz hm
  refine .inr ⟨b', off', _, l, rfl, by omega, hl, ?_, hb⟩
  rw [← hx, List.take_take]
  congr 1
  omega
theorem sl_drop {a : Option Addr} {n c El sz lo : Nat} {xs : List Value} (hr : Rd (.slice a n c) El sz n xs w) (hc : n ≤ c) (hlo : lo ≤ n) :
  ∃ a', Rd (.slice a' (n - lo) (c - lo)) El sz (n - lo) (xs.drop (lo * sz)) w ∧ ∀ {P : Program} {T : TT} {x y : Operand} {k : IntKind} (w : World), ev T x = some (.slice a n c) → ev T y = some (.int k (lo : Int)) → Qt P (.sl x (some y) none none sz) T w (.slice a' (n - lo) (c - lo)) := by
 have key : ∀ a' : Option Addr, (∀ {z : Option Addr}, z = a → (match z with | none => none | some ⟨b, o, sp⟩ => some (if c = lo then ⟨b, o, sp⟩ else (⟨b, o, sp⟩ : Addr).add (lo * sz))) = a') → ∀ {P : Program} {T : TT} {x y : Operand} {k : IntKind} (w : World), ev T x = some (.slice a n c) → ev T y = some (.int k (lo : Int)) → Qt P (.sl x (some y) none none sz) T w (.slice a' (n - lo) (c - lo)) := fun a' h P T x y k w hx hy => by
  have q := qt_sl (P := P) (w := w) (sz := sz) (lo := some y) (hi := none) (mx := none) (l := (lo : Int)) (h := (n : Int)) (m := (c : Int)) (a' := a') hx (by simp [bnd, hy]) rfl rfl ⟨by omega, by omega, by omega, by omega⟩ (by
   rw [← h rfl]
   cases a <;> simp)
  simpa only [Int.toNat_natCast] using q
 rcases hr with ⟨⟨a', h⟩, rfl, rfl⟩ | ⟨b, off, cap, l, h, hn, hl, hxs, hb⟩
 ·cases h
  obtain rfl : lo = 0 := by omega
  exact ⟨_, .inl ⟨⟨_, rfl⟩, by omega, by simp⟩, key _ fun e => by subst e; rfl⟩
 ·cases h
  by_cases e : c = lo
  ·have hnl : n = lo := by omega
   subst hnl
   have hxl : xs.length ≤ n * sz := by rw [← hxs]; simp; omega
   refine ⟨some ⟨b, off, none⟩, .inr ⟨b, off, c - n, l, rfl, by omega, ?_, ?_, hb⟩, key _ fun h => by subst h; simp only [if_pos e]⟩
   ·have : (c - n) * sz ≤ c * sz := Nat.mul_le_mul_right sz (by omega)
    omega
   ·rw [List.drop_eq_nil_of_le hxl]
    simp
  ·have h1 : c * sz = lo * sz + (c - lo) * sz := by rw [← Nat.add_mul]; congr 1; omega
   refine ⟨some ⟨b, off + lo * sz, none⟩, .inr ⟨b, off + lo * sz, c - lo, l, rfl, by omega, by omega, ?_, hb⟩, key _ fun h => by subst h; simp only [if_neg e, add_plain]⟩
   rw [← hxs, ← List.drop_drop, List.drop_take, ← Nat.sub_mul]
end
section
variable {α : Type}
def insAt (o : List α) (j : Nat) (x : α) : List α := o.take j ++ x :: o.drop j
theorem insAt_pw {R : α → α → Prop} {o : List α} {j : Nat} {x : α} (ho : o.Pairwise R) (h1 : ∀ a ∈ o.take j, R a x) (h2 : ∀ b ∈ o.drop j, R x b) : (insAt o j x).Pairwise R := by
 unfold insAt
 rw [List.pairwise_append]
 refine ⟨ho.sublist (List.take_sublist _ _), List.pairwise_cons.2 ⟨h2, ho.sublist (List.drop_sublist _ _)⟩, fun a ha b hb => ?_⟩
 rcases List.mem_cons.1 hb with rfl | hb
 ·exact h1 a ha
 ·rw [← List.take_append_drop j o, List.pairwise_append] at ho
  exact ho.2.2 a ha b hb
theorem insAt_mem (o : List α) (j : Nat) (x y : α) : y ∈ insAt o j x ↔ y = x ∨ y ∈ o := by
 unfold insAt
 conv => rhs; rw [← List.take_append_drop j o]
 rw [List.mem_append, List.mem_cons, List.mem_append]
 constructor
 ·rintro (h | h | h)
  ·exact .inr (.inl h)
  ·exact .inl h
  ·exact .inr (.inr h)
 ·rintro (h | h | h)
  ·exact .inr (.inl h)
  ·exact .inl h
  ·exact .inr (.inr h)
theorem insAt_len (o : List α) {j : Nat} (x : α) : (insAt o j x).length = o.length + 1 := by
 unfold insAt
 rw [List.length_append, List.length_cons, List.length_take, List.length_drop]
 omega
theorem insAt_perm (o : List α) (j : Nat) (x : α) : (insAt o j x).Perm (x :: o) := by
 unfold insAt
 refine List.perm_middle.trans ?_
 rw [List.take_append_drop]
theorem drop_pw {R : α → α → Prop} {o : List α} {j : Nat} (ho : o.Pairwise R) {b : α} (hb : b ∈ o.drop j) : ∃ h : j < o.length, b = o[j] ∨ R o[j] b := by
 have hj : j < o.length := by
  rcases Nat.lt_or_ge j o.length with h | h
  ·exact h
  ·rw [List.drop_eq_nil_of_le h] at hb; cases hb
 refine ⟨hj, ?_⟩
 rw [List.drop_eq_getElem_cons hj] at hb
 rcases List.mem_cons.1 hb with rfl | hb
 ·exact .inl rfl
 ·right
  have h1 := ho.sublist (List.drop_sublist j o)
  rw [List.drop_eq_getElem_cons hj] at h1
  exact (List.pairwise_cons.1 h1).1 b hb
end
section
variable {w : World} {E : Env} {ks : List KI} {T : TT} {D : List Deferred} {Q : QX}
theorem d_qp {l : List MOp} {i s : Nat} {g : Option (Nat × Bool)} {k : MK} {v : Value} {t : DT} (hl : l[i]? = some ⟨some s, g, k⟩) (hg : gv T ⟨some s, g, k⟩ = some true) (hn : k.plain = true) (hp : ∀ w, Qt E.P k T w v) (h : G E (.d l t :: ks) ((s, v) :: T) D w Q) : G E (.d l (.q i t) :: ks) T D w Q :=
 ⟨_, v, hl, rfl, .inl ⟨hg, .inl ⟨hn, hp⟩⟩, h⟩
end
open Go.ChangeShapes Go.WideShapes Go.Deep
theorem rd_of {W : World} {a : Addr} {len cap sz : Nat} (hsz : 0 < sz) (hl : len ≤ cap) (cs : Nat → List Value) (h1 : ∀ i, i < cap → (cs i).length = sz) (h : ∀ i, i < cap → ∀ j, j < sz → W.cell? (a.add (i * sz + j)) = (cs i)[j]?) :
  ∃ E, Rd (.slice (some a) len cap) E sz len ((List.range len).map cs).flatten W := by
 by_cases h0 : cap = 0
 ·subst h0
  have : len = 0 := by omega
  subst this
  exact ⟨0, .inl ⟨⟨_, rfl⟩, rfl, rfl⟩⟩
 ·have hc := h 0 (by omega) 0 hsz
  have hp0 : 0 < (cs 0).length := by rw [h1 0 (by omega)]; exact hsz
  have hv : (cs 0)[0]? = some (cs 0)[0] := List.getElem?_eq_getElem hp0
  rw [hv] at hc
  have hsp : a.spot = none := by simpa [Addr.add] using World.cell?_spot hc
  obtain ⟨b, off, spot⟩ := a
  simp only at hsp
  subst hsp
  have hcell : ∀ i, i < cap → ∀ j, j < sz → W.cell? ⟨b, off + (i * sz + j), none⟩ = (cs i)[j]? := fun i hi j hj => by
   have := h i hi j hj
   rwa [En.add_plain] at this
  have hb : ∃ c E fr, W.heap[b]? = some (.cells c E fr) := by
   have h2 := hcell 0 (by omega) 0 hsz
   rw [hv] at h2
   unfold World.cell? at h2
   split at h2
   ·rename_i c E fr hh; exact ⟨c, E, fr, hh⟩
   ·cases h2
  obtain ⟨⟨l⟩, E, fr, hh⟩ := hb
  have hget : ∀ i, i < cap → ∀ j, j < sz → l[off + (i * sz + j)]? = (cs i)[j]? := fun i hi j hj => by
   have := hcell i hi j hj
   simpa [World.cell?, hh] using this
  have hlen : off + cap * sz ≤ l.length := by
   have h2 := hget (cap - 1) (by omega) (sz - 1) (by omega)
   have hv2 : (cs (cap - 1))[sz - 1]? = some ((cs (cap - 1))[sz - 1]'(by rw [h1 _ (by omega)]; omega)) := List.getElem?_eq_getElem _
   rw [hv2] at h2
   have h3 := (List.getElem?_eq_some_iff.1 h2).1
   have h4 : (cap - 1) * sz + sz = cap * sz := by rw [← Nat.succ_mul]; congr 1; omega
   omega
  refine ⟨E, .inr ⟨b, off, cap, l, rfl, hl, hlen, ?_, ⟨fr, hh⟩⟩⟩
  have hfl : ∀ x ∈ (List.range len).map cs, x.length = sz := fun x hx => by
   simp only [List.mem_map, List.mem_range] at hx
   obtain ⟨i, hi, rfl⟩ := hx
   exact h1 i (by omega)
  have hll : ((List.range len).map cs).flatten.length = len * sz := by rw [flat_len hfl]; simp
  apply List.ext_getElem?
  intro k
  by_cases hk : k < len * sz
  ·rw [List.getElem?_take_of_lt hk, List.getElem?_drop]
   have hi : k / sz < len := Nat.div_lt_of_lt_mul (by rwa [Nat.mul_comm] at hk)
   have hj : k % sz < sz := Nat.mod_lt _ hsz
   have hk' : k / sz * sz + k % sz = k := Nat.div_add_mod' k sz
   have hg := flat_get (ls := (List.range len).map cs) (k := sz) (i := k / sz) hfl (by simpa using hi) []
   rw [List.append_nil] at hg
   have h5 := hget (k / sz) (by omega) (k % sz) hj
   rw [hk'] at h5
   rw [h5]
   have h6 : (((List.range len).map cs).flatten)[k / sz * sz + k % sz]? = (List.take sz (List.drop (k / sz * sz) ((List.range len).map cs).flatten))[k % sz]? := by
    rw [List.getElem?_take_of_lt hj, List.getElem?_drop]
   rw [hk'] at h6
   rw [h6, hg]
   simp
  ·rw [List.getElem?_eq_none (by simp; omega), List.getElem?_eq_none (by omega)]
section
variable {H : Type} {enc : TypeId × Value → H} {W : World} {P : Program}
theorem cells_at {a : Addr} {sz k : Nat} {cs : List Value} (hg : ∀ j, j < sz → W.cell? ((a.add k).add j) = cs[j]?) : ∀ j, j < sz → W.cell? (a.add (k + j)) = cs[j]? := fun j hj => by
 rw [← Go.Deep.add_add]
 exact hg j hj
theorem slice_of {α : Type} {enc' : α → List Value} {R : α → Prop} {T e sz : Nat} {v : Value} {d : DataW H} {p : List MemPlace} (hT : P.underlying T = some (.slice e)) (hc : P.cellsOf e = sz) (h0 : 0 < sz) (o0 : α) (he : ∀ o, (enc' o).length = sz)
  (hel : ∀ {fuel : Nat} {cs : List Value} {x : DataW H × List MemPlace}, DataW.trod enc P W 0 (fun _ => true) true fuel e cs = some x → ∃ o, cs = enc' o ∧ R o)
  (hv : ∃ a n c, v = .slice a n c) (h : DataW.Trod enc P W 0 (fun _ => true) true T v d p) : ∃ E n os, os.length = n ∧ n ≤ 9223372036854775807 ∧ Rd v E sz n (fl enc' os) W ∧ ∀ o ∈ os, R o := by
 obtain ⟨fuel, h⟩ := h
 obtain ⟨a0, n0, c0, rfl⟩ := hv
 rcases open_slice hT h with ⟨hcs, _⟩ | ⟨a, len, cap, m, n, D, Pl, hcs, _, hl, hmx, hm, _, hi⟩
 ·cases hcs
  exact ⟨0, 0, [], rfl, by decide, .inl ⟨⟨none, rfl⟩, rfl, rfl⟩, fun o ho => nomatch ho⟩
 ·cases hcs
  have hm : m = c0 := by simpa using hm
  rw [hm] at hi
  rw [hc] at hi
  have hex : ∀ i : Nat, ∃ o : α, i < c0 → (∀ j, j < sz → W.cell? (a.add (i * sz + j)) = (enc' o)[j]?) ∧ R o := by
   intro i
   by_cases hlt : i < c0
   ·obtain ⟨cs', hc, ht⟩ := hi i hlt
    obtain ⟨o, rfl, hr⟩ := hel ht
    obtain ⟨_, _, hg⟩ := World.cells?_some hc
    exact ⟨o, fun _ => ⟨cells_at hg, hr⟩⟩
   ·exact ⟨o0, fun h => absurd h hlt⟩
  obtain ⟨os, hos⟩ := Classical.axiomOfChoice hex
  obtain ⟨E, hr⟩ := rd_of (W := W) (a := a) (sz := sz) h0 hl (fun i => enc' (os i)) (fun i _ => he _) (fun i hi j hj => (hos i hi).1 j hj)
  refine ⟨E, n0, (List.range n0).map os, by rw [List.length_map, List.length_range], ?_, ?_, fun o ho => ?_⟩
  ·unfold maxLen at hmx
   omega
  ·have e : fl enc' ((List.range n0).map os) = ((List.range n0).map fun i => enc' (os i)).flatten := by
    rw [fl, List.map_map]
    rfl
   rw [e]
   exact hr
  ·simp only [List.mem_map, List.mem_range] at ho
   obtain ⟨i, hi, rfl⟩ := ho
   exact (hos i (by omega)).2
theorem u8_rng {n : Int} (h : (Lit.int .u8 n).wf = true) : 0 ≤ n ∧ n ≤ 255 := by
 simp only [Lit.wf, Bool.and_eq_true, decide_eq_true_eq] at h
 have h1 : IntKind.u8.min = 0 := by decide
 have h2 : IntKind.u8.max = 255 := by decide
 rw [h1, h2] at h
 exact h
theorem bytes_of {fuel t e n : Nat} {cs : List Value} {x : DataW H × List MemPlace} (ht : P.underlying t = some (.array n e)) (he : P.underlying e = some (.int .u8)) (hc : P.cellsOf e = 1) (hct : P.cellsOf t = n) (h : DataW.trod enc P W 0 (fun _ => true) true fuel t cs = some x) :
  ∃ bs : List UInt8, bs.length = n ∧ cs = bys bs := by
 obtain ⟨xs, m, _, _, hcl, hxl, hi⟩ := DataW.trod_array ht h
 rw [hct] at hcl
 have hget : ∀ i (hi : i < cs.length), ∃ k : Int, cs[i] = .int .u8 k ∧ 0 ≤ k ∧ k ≤ 255 := by
  intro i hl
  have h1 := hi i (by omega)
  have h2 : i < xs.length := by omega
  rw [List.getElem?_eq_getElem h2] at h1
  obtain ⟨k, hk, _, hw⟩ := DataW.trod_int he h1
  rw [hc, Nat.mul_one] at hk
  refine ⟨k, ?_, u8_rng hw⟩
  have h3 := congrArg (fun l : List Value => l[0]?) hk
  simp only [List.getElem?_take, List.getElem?_drop, Nat.add_zero] at h3
  rw [if_pos (by omega), List.getElem?_eq_getElem hl] at h3
  simpa using h3
 refine ⟨cs.map fun v => match v with | .int _ k => UInt8.ofNat k.toNat | _ => 0, by rw [List.length_map, hcl], ?_⟩
 refine List.ext_getElem (by simp [bys]) fun i h1 h2 => ?_
 obtain ⟨k, hk, k0, k1⟩ := hget i h1
 simp only [bys, List.getElem_map, hk]
 congr 1
 simp
 omega
theorem below_of {w w' : World} (h : Fr w (fun _ => False) w') : Go.RowKit.Below w.heap.size w w' := ⟨h.os, h.tape, h.out, h.size, fun k hk => h.kept k hk fun h => h⟩
end
end Go.En
namespace Go.Proofs.YtfffdhafbbbpcaaGreatDoor
open Go.En
theorem sv_ext (s : Bs) (a b : Nat) : (.string ((⟨s.toArray⟩ : ByteArray).extract a b) : Value) = sv ((s.drop a).take (b - a)) := by
 rw [← sv_of]
 congr 1
 have := Lib.extract_toList (⟨s.toArray⟩ : ByteArray) a b
 simp only [ByteArray.data_extract] at this ⊢
 simp
theorem ib_app : ∀ (s t : Bs) (c : UInt8), c ∉ s → Lib.indexByte (s ++ c :: t) c = s.length
 | [], t, c, _ => by simp [Lib.indexByte]
 | x :: s, t, c, h => by
  have h1 : ¬ c = x := fun e => h (by rw [e]; exact List.mem_cons_self)
  have ih := ib_app s t c (fun hm => h (List.mem_cons_of_mem _ hm))
  rw [List.cons_append]
  unfold Lib.indexByte
  rw [if_neg (by simpa using fun e => h1 e.symm), ih, if_neg (by simp)]
  simp
theorem may_n : ∀ n : Fin 256, may (UInt8.ofNat n.val) = (decide (33 ≤ n.val) && (decide (n.val ≤ 126) && (decide (n.val ≠ 126) && (decide (n.val ≠ 94) && (decide (n.val ≠ 58) && (decide (n.val ≠ 63) && (decide (n.val ≠ 42) && (decide (n.val ≠ 91) && decide (n.val ≠ 92))))))))) := by decide +kernel
theorem may_c (c : UInt8) : may c = (decide (33 ≤ c.toNat) && (decide (c.toNat ≤ 126) && (decide (c.toNat ≠ 126) && (decide (c.toNat ≠ 94) && (decide (c.toNat ≠ 58) && (decide (c.toNat ≠ 63) && (decide (c.toNat ≠ 42) && (decide (c.toNat ≠ 91) && decide (c.toNat ≠ 92))))))))) := by
 have := may_n ⟨c.toNat, c.toNat_lt⟩
 have e0 : UInt8.ofNat c.toNat = c := by simp
 dsimp only at this
 rw [e0] at this
 exact this
theorem prt_eq (s : Bs) : prt s = Lib.splitK [47] 0 (s.count 47) s := by
 unfold prt
 rw [Lib.splitB_data]
 congr 1
 have h1 : Lib.countB (⟨s.toArray⟩ : ByteArray) ⟨#[47]⟩ = Lib.count s [47] := rfl
 rw [h1, Lib.count_one]
theorem prt_one {s : Bs} (h : (47 : UInt8) ∉ s) : prt s = [s] := by
 rw [prt_eq, List.count_eq_zero.2 h]
 rfl
theorem prt_cons {a : Bs} (b : Bs) (h : (47 : UInt8) ∉ a) : prt (a ++ 47 :: b) = a :: prt b := by
 rw [prt_eq, prt_eq, List.count_append, List.count_eq_zero.2 h, List.count_cons_self, Nat.zero_add]
 have hi : Lib.index (a ++ 47 :: b) [47] = (a.length : Int) := by rw [Lib.index_one, ib_app a b 47 h]
 rw [Lib.splitK, hi, if_neg (by simp)]
 simp
theorem cont2 (a b : UInt8) : ∀ s : Bs, 0 ≤ Lib.index s [a, b] ↔ ∃ i, s[i]? = some a ∧ s[i + 1]? = some b
 | [] => by
  constructor
  ·intro h
   have e : Lib.index [] [a, b] = -1 := rfl
   rw [e] at h
   exact absurd h (by decide)
  ·rintro ⟨i, h, _⟩
   simp at h
 | x :: l => by
  have ih := cont2 a b l
  have hge := Lib.index_ge l [a, b]
  have e : ([a, b] : Bs).isPrefixOf (x :: l) = (a == x && ([b] : Bs).isPrefixOf l) := rfl
  unfold Lib.index
  rw [e]
  by_cases hp : (a == x && ([b] : Bs).isPrefixOf l) = true
  ·rw [if_pos hp]
   refine ⟨fun _ => ⟨0, ?_⟩, fun _ => Int.le_refl _⟩
   simp only [Bool.and_eq_true, beq_iff_eq] at hp
   obtain ⟨rfl, hp⟩ := hp
   refine ⟨rfl, ?_⟩
   match l, hp with
   | y :: l, hp =>
    have : (b == y) = true := by simpa [List.isPrefixOf] using hp
    rw [beq_iff_eq] at this
    rw [this]
    rfl
  ·rw [if_neg hp]
   have key : (∃ i, (x :: l)[i]? = some a ∧ (x :: l)[i + 1]? = some b) ↔ ∃ i, l[i]? = some a ∧ l[i + 1]? = some b := by
    constructor
    ·rintro ⟨i, h1, h2⟩
     cases i with
     | zero =>
      exfalso
      apply hp
      simp only [List.getElem?_cons_zero, Option.some.injEq] at h1
      simp only [List.getElem?_cons_succ] at h2
      subst h1
      match l, h2 with
      | y :: l, h2 =>
       simp only [Nat.zero_add, List.getElem?_cons_zero, Option.some.injEq] at h2
       subst h2
       simp [List.isPrefixOf]
     | succ i => exact ⟨i, by simpa using h1, by simpa using h2⟩
    ·rintro ⟨i, h1, h2⟩
     exact ⟨i + 1, by simpa using h1, by simpa using h2⟩
   rw [key, ← ih]
   by_cases h1 : (Lib.index l [a, b] == -1) = true
   ·rw [if_pos h1]
    rw [beq_iff_eq] at h1
    rw [h1]
   ·rw [if_neg h1]
    have h1 : Lib.index l [a, b] ≠ -1 := fun e => h1 (by rw [e]; rfl)
    constructor <;> intro h <;> omega
theorem brkF_none {s : Bs} : ∀ (n k : Nat), (∀ i, k ≤ i → i < k + n → rul i s = false) → brkF s n k = 0
 | 0, _, _ => rfl
 | n + 1, k, h => by
  unfold brkF
  rw [if_neg (by rw [h k (Nat.le_refl _) (by omega)]; decide)]
  exact brkF_none n (k + 1) fun i hi hij => h i (by omega) (by omega)
theorem brk_at {s : Bs} (j : Nat) (hj : j < 8) (h : ∀ i, i < j → rul i s = false) (h1 : rul j s = true) : brk s = j + 1 := by
 have := brkF_at s 8 0 j hj (fun i _ hi => h i (by omega)) (by rw [Nat.zero_add]; exact h1)
 rw [Nat.zero_add] at this
 exact this
theorem brk_no8 {s : Bs} (h : ∀ i, i < 8 → rul i s = false) : brk s = 0 := brkF_none 8 0 fun i _ hi => h i (by omega)
section
variable {w w0 : World} {S0 : Nat → Prop} {L B : List Res} {K : Value → World → Prop} {s : Bs} {E0 E1 : Nat}
theorem r_may {c : UInt8} (h : K (.bool (may c)) w) : CK Tryz.prog 189 [.int .u8 (c.toNat : Int)] w K := by
 have hc := c.toNat_lt
 rw [may_c] at h
 refine call_k Tryz.func189 k189 Tryz.ntmps189 (Nat.le_of_ble_eq_true rfl) ?_
 refine gW ?_
 (generalize q1 : cmv _ _ _ = q; cases q <;> simp only [cmv, arv, Bool.not_eq_true', Bool.not_eq_false', decide_eq_true_eq, decide_eq_false_iff_not] at q1 <;> first | (exfalso; omega) | skip)
 rotate_left
 ·rw [decide_eq_false (by omega)] at h
  refine gW ?_
  exact g_ret (q_1 rfl h)
 refine gW ?_
 (generalize q2 : cmv _ _ _ = q; cases q <;> simp only [cmv, arv, Bool.not_eq_true', Bool.not_eq_false', decide_eq_true_eq, decide_eq_false_iff_not] at q2 <;> first | (exfalso; omega) | skip)
 rotate_left
 ·rw [decide_eq_false (show ¬ c.toNat ≤ 126 by omega), Bool.false_and, Bool.and_false] at h
  refine gW ?_
  exact g_ret (q_1 rfl h)
 rw [decide_eq_true (show 33 ≤ c.toNat by omega), decide_eq_true (show c.toNat ≤ 126 by omega), Bool.true_and, Bool.true_and] at h
 refine gW ?_
 (generalize q3 : cmv _ _ _ = q; cases q <;> simp only [cmv, arv, Bool.not_eq_true', Bool.not_eq_false', decide_eq_true_eq, decide_eq_false_iff_not] at q3 <;> first | (exfalso; omega) | skip)
 ·rw [decide_eq_false (show ¬ c.toNat ≠ 126 by omega)] at h
  refine gW ?_
  exact g_ret (q_1 rfl h)
 rw [decide_eq_true (show c.toNat ≠ 126 by omega), Bool.true_and] at h
 refine gW ?_
 (generalize q4 : cmv _ _ _ = q; cases q <;> simp only [cmv, arv, Bool.not_eq_true', Bool.not_eq_false', decide_eq_true_eq, decide_eq_false_iff_not] at q4 <;> first | (exfalso; omega) | skip)
 ·rw [decide_eq_false (show ¬ c.toNat ≠ 94 by omega)] at h
  refine gW ?_
  exact g_ret (q_1 rfl h)
 rw [decide_eq_true (show c.toNat ≠ 94 by omega), Bool.true_and] at h
 refine gW ?_
 (generalize q5 : cmv _ _ _ = q; cases q <;> simp only [cmv, arv, Bool.not_eq_true', Bool.not_eq_false', decide_eq_true_eq, decide_eq_false_iff_not] at q5 <;> first | (exfalso; omega) | skip)
 ·rw [decide_eq_false (show ¬ c.toNat ≠ 58 by omega)] at h
  refine gW ?_
  exact g_ret (q_1 rfl h)
 rw [decide_eq_true (show c.toNat ≠ 58 by omega), Bool.true_and] at h
 refine gW ?_
 (generalize q6 : cmv _ _ _ = q; cases q <;> simp only [cmv, arv, Bool.not_eq_true', Bool.not_eq_false', decide_eq_true_eq, decide_eq_false_iff_not] at q6 <;> first | (exfalso; omega) | skip)
 ·rw [decide_eq_false (show ¬ c.toNat ≠ 63 by omega)] at h
  refine gW ?_
  exact g_ret (q_1 rfl h)
 rw [decide_eq_true (show c.toNat ≠ 63 by omega), Bool.true_and] at h
 refine gW ?_
 (generalize q7 : cmv _ _ _ = q; cases q <;> simp only [cmv, arv, Bool.not_eq_true', Bool.not_eq_false', decide_eq_true_eq, decide_eq_false_iff_not] at q7 <;> first | (exfalso; omega) | skip)
 ·rw [decide_eq_false (show ¬ c.toNat ≠ 42 by omega)] at h
  refine gW ?_
  exact g_ret (q_1 rfl h)
 rw [decide_eq_true (show c.toNat ≠ 42 by omega), Bool.true_and] at h
 refine gW ?_
 (generalize q8 : cmv _ _ _ = q; cases q <;> simp only [cmv, arv, Bool.not_eq_true', Bool.not_eq_false', decide_eq_true_eq, decide_eq_false_iff_not] at q8 <;> first | (exfalso; omega) | skip)
 ·rw [decide_eq_false (show ¬ c.toNat ≠ 91 by omega)] at h
  refine gW ?_
  exact g_ret (q_1 rfl h)
 rw [decide_eq_true (show c.toNat ≠ 91 by omega), Bool.true_and] at h
 refine gW ?_
 (generalize q9 : cmv _ _ _ = q; cases q <;> simp only [cmv, arv, Bool.not_eq_true', Bool.not_eq_false', decide_eq_true_eq, decide_eq_false_iff_not] at q9 <;> first | (exfalso; omega) | skip)
 ·rw [decide_eq_false (show ¬ c.toNat ≠ 92 by omega)] at h
  refine gW ?_
  exact g_ret (q_1 rfl h)
 rw [decide_eq_true (show c.toNat ≠ 92 by omega)] at h
 refine gW ?_
 exact g_ret (q_1 rfl h)
def ptI (s : Bs) (k f : Nat) (out : List Bs) : Prop := (k ≤ s.length → prt s = out ++ prt (s.drop f) ∧ f ≤ k ∧ (47 : UInt8) ∉ (s.drop f).take (k - f)) ∧ (s.length < k → out = prt s) ∧ out.length ≤ k
theorem ptI_0 (s : Bs) : ptI s 0 0 [] := ⟨fun _ => ⟨by simp, Nat.le_refl _, by simp⟩, fun h => by omega, Nat.le_refl _⟩
theorem ptI_go {s : Bs} {k f : Nat} {out : List Bs} (h : ptI s k f out) (hk : k < s.length) (hc : s[k] ≠ 47) : ptI s (k + 1) f out := by
 obtain ⟨h1, h2, h3⟩ := h.1 (by omega)
 refine ⟨fun _ => ⟨h1, by omega, ?_⟩, fun h => by omega, by have := h.2.2; omega⟩
 have hk2 : k - f < (s.drop f).length := by rw [List.length_drop]; omega
 rw [show k + 1 - f = (k - f) + 1 by omega, List.take_succ_eq_append_getElem hk2, List.mem_append, List.mem_singleton]
 rintro (h | h)
 ·exact h3 h
 ·rw [List.getElem_drop] at h
  have : s[f + (k - f)]'(by omega) = s[k] := by congr 1; omega
  rw [this] at h
  exact hc h.symm
theorem ptI_cut {s : Bs} {k f : Nat} {out : List Bs} (h : ptI s k f out) (hk : k < s.length) (hc : s[k] = 47) : ptI s (k + 1) (k + 1) (out ++ [(s.drop f).take (k - f)]) := by
 obtain ⟨h1, h2, h3⟩ := h.1 (by omega)
 refine ⟨fun _ => ⟨?_, Nat.le_refl _, by simp⟩, fun h => by omega, by rw [List.length_append, List.length_singleton]; have := h.2.2; omega⟩
 have hk2 : k - f < (s.drop f).length := by rw [List.length_drop]; omega
 have e : s.drop f = (s.drop f).take (k - f) ++ 47 :: s.drop (k + 1) := by
  conv => lhs; rw [← List.take_append_drop (k - f) (s.drop f), List.drop_eq_getElem_cons hk2, List.getElem_drop, List.drop_drop]
  have e1 : s[f + (k - f)]'(by omega) = 47 := by rw [← hc]; congr 1; omega
  rw [e1, show f + (k - f + 1) = k + 1 by omega]
 rw [h1, List.append_assoc]
 congr 1
 conv => lhs; rw [e]
 rw [prt_cons _ h3]
 rfl
theorem ptI_end {s : Bs} {f : Nat} {out : List Bs} (h : ptI s s.length f out) : ptI s (s.length + 1) (s.length + 1) (out ++ [(s.drop f).take (s.length - f)]) := by
 obtain ⟨h1, h2, h3⟩ := h.1 (Nat.le_refl _)
 have e : (s.drop f).take (s.length - f) = s.drop f := List.take_of_length_le (by rw [List.length_drop]; exact Nat.le_refl _)
 rw [e] at h3 ⊢
 refine ⟨fun h => by omega, fun _ => ?_, by rw [List.length_append, List.length_singleton]; have := h.2.2; omega⟩
 rw [h1, prt_one h3]
set_option maxHeartbeats 1000000 in
theorem r_parts (hs : s.length ≤ 4294967280) (h : ∀ v' w', St w (fun _ => False) w' [row v' 9 1 (prt s).length ((prt s).map sv)] → K v' w') : CK Tryz.prog 190 [sv s] w K := by
 have hS := St.nil w (fun _ => False)
 have esz : (⟨s.toArray⟩ : ByteArray).size = s.length := by rw [Lib.size_eq]
 refine call_k Tryz.func190 k190 Tryz.ntmps190 (Nat.le_of_ble_eq_true rfl) ?_
 refine gW ?_
 refine g_lp (ι := Nat × Nat × Value × List Bs) (fun x => [(0, sv s), (3, x.2.2.1), (4, .int .i64 x.2.1), (5, .int .i64 x.1)]) (fun x w' => x.1 ≤ s.length + 1 ∧ ptI s x.1 x.2.1 x.2.2.2 ∧ St w (fun _ => False) w' [row x.2.2.1 9 1 x.2.2.2.length (x.2.2.2.map sv)]) (fun x => s.length + 1 - x.1) (0, 0, .slice none 0 0, [])
  ⟨rfl, rfl, rfl, rfl, trivial⟩ ⟨Nat.zero_le _, ptI_0 s, hS.nilrow 9 1⟩ ?_
 clear hS
 rintro ⟨k, f, vo, out⟩ w1 ⟨hk, hI, hS⟩
 dsimp only at hk hI hS ⊢
 refine gW ?_
 rw [esz]
 (refine g_cd rfl (fun hc => ?_) (fun hc => ?_) <;> simp only [cmv, arv, Bool.not_eq_true', Bool.not_eq_false', decide_eq_true_eq, decide_eq_false_iff_not] at hc)
 ·have hks : k ≤ s.length := by omega
  obtain ⟨_, hfk, _⟩ := hI.1 hks
  have hol := hI.2.2
  refine gW ?_
  rw [esz]
  by_cases hend : k = s.length
  ·subst hend
   rw [show cmv BinOp.eql (s.length : Int) (s.length : Int) = true from cmv_self _]
   refine gW ?_
   have hnx := ptI_end hI
   refine g_rq rfl rfl ⟨by omega, by omega, by rw [esz]; omega⟩ ?_
   rw [Int.toNat_natCast, Int.toNat_natCast, sv_ext]
   generalize (s.drop f).take (s.length - f) = p at hnx
   refine g_ef rfl (ef_bl (rs := [sv p]) hS rfl fun g w1 hS => ?_)
   refine g_ef rfl (ef_ap (bytes := 16) (n := out.length) (m := 1) (ys := [sv p]) hS 0 rfl rfl rfl (.inl ⟨9, .inr ⟨g, 0, 1, _, rfl, Nat.le_refl _, Nat.le_refl _, rfl, (hS.b 1 rfl).r⟩⟩) rfl (by omega) (by omega) fun v1 w1 hS => ?_)
   have e1 : out.map sv ++ [sv p] = (out ++ [p]).map sv := by simp
   have e2 : out.length + 1 = (out ++ [p]).length := by simp
   rw [e1, e2] at hS
   refine gW ?_
   refine g_rq rfl rfl (in64 (by simp only [arv]; omega)) ?_
   refine gW ?_
   refine g_rq rfl rfl (in64 (by simp only [arv]; omega)) ?_
   refine gW ?_
   exact g_l (s.length + 1, s.length + 1, v1, out ++ [p]) ⟨rfl, rfl, rfl, rfl, trivial⟩ ⟨Nat.le_refl _, hnx, hS.sel [0] rfl rfl⟩ (by simp only; omega)
  ·have hlt : k < s.length := by omega
   rw [show cmv BinOp.eql (k : Int) (s.length : Int) = false by simp only [cmv, decide_eq_false_iff_not]; omega]
   refine gW ?_
   refine g_rq rfl rfl ⟨by omega, by show (k : Int) < (s.length : Int); omega⟩ ?_
   have hgd : (⟨s.toArray⟩ : ByteArray).data.toList.getD (k : Int).toNat 0 = s[k] := by
    rw [Int.toNat_natCast]
    show s.getD k 0 = s[k]
    rw [List.getD_eq_getElem?_getD, List.getElem?_eq_getElem hlt]
    rfl
   rw [hgd]
   refine gW ?_
   by_cases hc47 : s[k] = 47
   ·rw [hc47, show cmv BinOp.eql (((47 : UInt8).toNat : Nat) : Int) 47 = true from rfl]
    refine gW ?_
    have hnx := ptI_cut hI hlt hc47
    refine g_rq rfl rfl ⟨by omega, by omega, by rw [esz]; omega⟩ ?_
    rw [Int.toNat_natCast, Int.toNat_natCast, sv_ext]
    generalize (s.drop f).take (k - f) = p at hnx
    refine g_ef rfl (ef_bl (rs := [sv p]) hS rfl fun g w1 hS => ?_)
    refine g_ef rfl (ef_ap (bytes := 16) (n := out.length) (m := 1) (ys := [sv p]) hS 0 rfl rfl rfl (.inl ⟨9, .inr ⟨g, 0, 1, _, rfl, Nat.le_refl _, Nat.le_refl _, rfl, (hS.b 1 rfl).r⟩⟩) rfl (by omega) (by omega) fun v1 w1 hS => ?_)
    have e1 : out.map sv ++ [sv p] = (out ++ [p]).map sv := by simp
    have e2 : out.length + 1 = (out ++ [p]).length := by simp
    rw [e1, e2] at hS
    refine gW ?_
    refine g_rq rfl rfl (in64 (by simp only [arv]; omega)) ?_
    refine gW ?_
    refine g_rq rfl rfl (in64 (by simp only [arv]; omega)) ?_
    refine gW ?_
    exact g_l (k + 1, k + 1, v1, out ++ [p]) ⟨rfl, rfl, rfl, rfl, trivial⟩ ⟨by simp only; omega, hnx, hS.sel [0] rfl rfl⟩ (by simp only; omega)
   ·have hcf : cmv BinOp.eql ((s[k].toNat : Nat) : Int) 47 = false := by
     simp only [cmv, decide_eq_false_iff_not]
     intro e
     apply hc47
     have : s[k].toNat = 47 := by omega
     exact UInt8.toNat_inj.1 this
    rw [hcf]
    refine gW ?_
    refine g_rq rfl rfl (in64 (by simp only [arv]; omega)) ?_
    refine gW ?_
    exact g_l (k + 1, f, vo, out) ⟨rfl, rfl, rfl, rfl, trivial⟩ ⟨by simp only; omega, ptI_go hI hlt hc47, hS⟩ (by simp only; omega)
 ·have ek : k = s.length + 1 := by omega
  subst ek
  have e := hI.2.1 (by omega)
  subst e
  refine gW ?_
  exact g_ret (q_1 rfl (h _ _ hS))
end
theorem gd_at {s : Bs} {k : Nat} (h : k < s.length) : (⟨s.toArray⟩ : ByteArray).data.toList.getD (k : Int).toNat 0 = s[k] := by
 rw [Int.toNat_natCast]
 show s.getD k 0 = s[k]
 rw [List.getD_eq_getElem?_getD, List.getElem?_eq_getElem h]
 rfl
theorem rd_x' {l xs : List Value} {off n k : Nat} (hx : (l.drop off).take (n * 1) = xs) (hn : xs.length = n) (hk : k < xs.length) : l[off + k * 1]? = some xs[k] := by
 have h1 := congrArg (fun l : List Value => l[k]?) hx
 simp only [List.getElem?_take, List.getElem?_drop] at h1
 rw [if_pos (by omega), List.getElem?_eq_getElem hk] at h1
 rw [Nat.mul_one]
 exact h1
theorem ceq_c {c : UInt8} {n : Nat} (hn : n < 256) : cmv BinOp.eql ((c.toNat : Nat) : Int) (n : Int) = decide (c = UInt8.ofNat n) := by
 simp only [cmv]
 rw [decide_eq_decide]
 constructor
 ·intro h
  refine UInt8.toNat_inj.1 ?_
  rw [UInt8.toNat_ofNat']
  omega
 ·intro h
  rw [h, UInt8.toNat_ofNat']
  omega
theorem lock_suf (p : Bs) : ([46, 108, 111, 99, 107] : Bs).isSuffixOf p = true ↔ 5 ≤ p.length ∧ p.drop (p.length - 5) = [46, 108, 111, 99, 107] := by
 rw [List.isSuffixOf_iff_suffix, List.suffix_iff_eq_drop]
 constructor
 ·intro h
  refine ⟨?_, h.symm⟩
  have := congrArg List.length h
  simp at this
  omega
 ·rintro ⟨_, h⟩
  exact h.symm
theorem dot_suf {s : Bs} (h : 0 < s.length) : ([46] : Bs).isSuffixOf s = true ↔ s[s.length - 1] = 46 := by
 rw [List.isSuffixOf_iff_suffix, List.suffix_iff_eq_drop]
 have e : s.drop (s.length - 1) = [s[s.length - 1]] := by
  rw [List.drop_eq_getElem_cons (by omega), List.drop_eq_nil_of_le (by omega)]
 show [46] = s.drop (s.length - 1) ↔ _
 rw [e]
 constructor
 ·intro h
  exact (List.cons.inj h).1.symm
 ·intro h
  rw [h]
theorem dot_pre {p : Bs} (h : 0 < p.length) : ([46] : Bs).isPrefixOf p = true ↔ p[0] = 46 := by
 match p, h with
 | x :: p, _ =>
  simp [List.isPrefixOf]
  exact eq_comm
section
variable {w w0 : World} {S0 : Nat → Prop} {L B : List Res} {K : Value → World → Prop} {s : Bs} {E0 E1 : Nat}
set_option maxHeartbeats 8000000 in
theorem r_Breaks (h : ∀ w', St w (fun _ => False) w' [] → K (.int .i64 (brk s)) w') : CK Tryz.prog 141 [sv s] w K := by
 have hS := St.nil w (fun _ => False)
 have esz : (⟨s.toArray⟩ : ByteArray).size = s.length := by rw [Lib.size_eq]
 have hsl : ((⟨s.toArray⟩ : ByteArray).data.toList.length : Int) = s.length := rfl
 have stop : ∀ j, j < 8 → (∀ i, i < j → rul i s = false) → rul j s = true → ∀ w', St w (fun _ => False) w' [] → K (.int .i64 ((j : Int) + 1)) w' := fun j hj h0 h1 w' hS => by
  have hb := brk_at j hj h0 h1
  rw [hb] at h
  exact h w' hS
 refine call_k Tryz.func141 k141 Tryz.ntmps141 (Nat.le_of_ble_eq_true rfl) ?_
 refine gW ?_
 rw [esz]
 (generalize q1 : cmv _ _ _ = q; cases q <;> simp only [cmv, arv, Bool.not_eq_true', Bool.not_eq_false', decide_eq_true_eq, decide_eq_false_iff_not] at q1 <;> first | (exfalso; omega) | skip)
 rotate_left
 ·have e0 : s = [] := List.eq_nil_of_length_eq_zero (by omega)
  refine gW ?_
  exact g_ret (q_1 rfl (stop 0 (by decide) (fun i hi => absurd hi (Nat.not_lt_zero i)) (by simp [rul, e0]) _ hS))
 refine gW ?_
 rw [esz]
 (generalize q2 : cmv _ _ _ = q; cases q <;> simp only [cmv, arv, Bool.not_eq_true', Bool.not_eq_false', decide_eq_true_eq, decide_eq_false_iff_not] at q2 <;> first | (exfalso; omega) | skip)
 rotate_left
 ·refine gW ?_
  exact g_ret (q_1 rfl (stop 0 (by decide) (fun i hi => absurd hi (Nat.not_lt_zero i)) (by simp [rul]; right; omega) _ hS))
 have r0 : rul 0 s = false := by
  simp only [rul, Bool.or_eq_false_iff, decide_eq_false_iff_not]
  exact ⟨fun e => by rw [e] at q1; simp at q1, by omega⟩
 refine gW ?_
 refine g_lp (ι := Nat) (fun k => [(0, sv s), (3, .int .i64 k)]) (fun k w' => k ≤ s.length ∧ (∀ j (hj : j < s.length), j < k → may s[j] = true) ∧ St w (fun _ => False) w' []) (fun k => s.length - k) 0 ⟨rfl, rfl, trivial⟩ ⟨Nat.zero_le _, fun j _ h => absurd h (Nat.not_lt_zero j), hS⟩ ?_
 clear hS
 rintro k w1 ⟨hk, hP, hS⟩
 refine gW ?_
 rw [esz]
 (refine g_cd rfl (fun hlt => ?_) (fun hlt => ?_) <;> simp only [cmv, arv, Bool.not_eq_true', Bool.not_eq_false', decide_eq_true_eq, decide_eq_false_iff_not] at hlt)
 ·have hlt : k < s.length := by omega
  refine gW ?_
  refine g_rq rfl rfl ⟨by omega, by omega⟩ ?_
  rw [gd_at hlt]
  refine g_cl rfl rfl (r_may ?_)
  refine gW ?_
  cases hm : may s[k]
  ·refine gW ?_
   refine g_ret (q_1 rfl (stop 1 (by decide) (fun i hi => ?_) ?_ _ hS))
   ·have : i = 0 := by omega
    subst this; exact r0
   ·simp only [rul, List.any_eq_true]
    exact ⟨s[k], List.getElem_mem _, by rw [hm]; rfl⟩
  ·refine gW ?_
   refine g_rq rfl rfl (in64 (by simp only [arv]; omega)) ?_
   refine gW ?_
   refine g_l (k + 1) ⟨rfl, rfl, trivial⟩ ⟨by omega, fun j hj hjk => ?_, hS⟩ (by omega)
   by_cases e : j = k
   ·subst e; exact hm
   ·exact hP j hj (by omega)
 have r1 : rul 1 s = false := by
  simp only [rul]
  rw [List.any_eq_false]
  intro x hx
  obtain ⟨j, hj, rfl⟩ := List.getElem_of_mem hx
  rw [hP j hj (by omega)]
  decide
 have R1 : ∀ i, i < 2 → rul i s = false := fun i hi => by
  rcases i with _ | _ | i
  ·exact r0
  ·exact r1
  ·omega
 refine gW ?_
 refine g_cl rfl rfl (r_parts (by omega) fun vp w1 h' => ?_)
 replace hS := hS.call0.2 _ _ h'
 replace hS : St w (fun _ => False) w1 [row vp 9 1 (prt s).length ((prt s).map sv)] := hS
 clear h' hP hk hlt
 have hpm : ((prt s).map sv).length = (prt s).length := List.length_map ..
 have hpl : (prt s).length ≤ 4294967280 := by
  have := Lib.countB_le ⟨#[47]⟩ (by decide) _ (⟨s.toArray⟩ : ByteArray) (Nat.le_refl _)
  have h2 : (prt s).length = Lib.countB ⟨s.toArray⟩ ⟨#[47]⟩ + 1 := by
   rw [prt, List.length_map]
   exact Lib.splitB_all _ (by decide) _ _ _ rfl
  omega
 obtain ⟨a, c, rfl⟩ := hS.rlen 0 rfl
 refine gW ?_
 refine g_lp (ι := Nat) (fun k => [(0, sv s), (5, .slice a (prt s).length c), (6, .int .i64 k)]) (fun k w' => k ≤ (prt s).length ∧ (∀ j (hj : j < (prt s).length), j < k → (prt s)[j] ≠ []) ∧ St w (fun _ => False) w' [row (.slice a (prt s).length c) 9 1 (prt s).length ((prt s).map sv)]) (fun k => (prt s).length - k) 0 ⟨rfl, rfl, rfl, trivial⟩ ⟨Nat.zero_le _, fun j _ h => absurd h (Nat.not_lt_zero j), hS⟩ ?_
 clear hS
 rintro k w1 ⟨hk, hP, hS⟩
 refine gW ?_
 (refine g_cd rfl (fun hlt => ?_) (fun hlt => ?_) <;> simp only [cmv, arv, Bool.not_eq_true', Bool.not_eq_false', decide_eq_true_eq, decide_eq_false_iff_not] at hlt)
 ·have hlt : k < (prt s).length := by omega
  obtain ⟨b, off, cap, l, e1, hcap, hl, hx, hb⟩ := Rd.block (Ow.rd (hS.ok 0 _ rfl)) (by omega)
  cases e1
  refine gW ?_
  refine g_rq rfl rfl ⟨by omega, by omega⟩ ?_
  refine g_l1r rfl rfl hb (by rw [Int.toNat_natCast]; exact rd_x' hx hpm (by rw [hpm]; exact hlt)) ?_
  rw [List.getElem_map]
  refine gW ?_
  generalize hq : decide ((⟨(prt s)[k].toArray⟩ : ByteArray).data.toList = (⟨#[]⟩ : ByteArray).data.toList) = q
  have hq2 : decide ((prt s)[k] = []) = q := hq
  cases q
  ·refine gW ?_
   refine g_rq rfl rfl (in64 (by simp only [arv]; omega)) ?_
   refine gW ?_
   refine g_l (k + 1) ⟨rfl, rfl, rfl, trivial⟩ ⟨by omega, fun j hj hjk => ?_, hS⟩ (by omega)
   by_cases e : j = k
   ·subst e; exact of_decide_eq_false hq2
   ·exact hP j hj (by omega)
  ·refine gW ?_
   refine g_ret (q_1 rfl (stop 2 (by decide) R1 ?_ _ (hS.sel [] rfl rfl)))
   simp only [rul, List.any_eq_true]
   exact ⟨(prt s)[k], List.getElem_mem _, hq2⟩
 have hne : ∀ p ∈ prt s, p ≠ [] := fun p hp => by
  obtain ⟨j, hj, rfl⟩ := List.getElem_of_mem hp
  exact hP j hj (by omega)
 have r2 : rul 2 s = false := by
  simp only [rul]
  rw [List.any_eq_false]
  intro p hp
  rw [decide_eq_false (hne p hp)]
  decide
 have R2 : ∀ i, i < 3 → rul i s = false := fun i hi => by
  by_cases e : i = 2
  ·subst e; exact r2
  ·exact R1 i (by omega)
 clear hP hk hlt
 refine gW ?_
 refine g_lp (ι := Nat) (fun k => [(0, sv s), (5, .slice a (prt s).length c), (7, .int .i64 k)]) (fun k w' => k ≤ (prt s).length ∧ (∀ j (hj : j < (prt s).length), j < k → ([46] : Bs).isPrefixOf (prt s)[j] = false) ∧ St w (fun _ => False) w' [row (.slice a (prt s).length c) 9 1 (prt s).length ((prt s).map sv)]) (fun k => (prt s).length - k) 0 ⟨rfl, rfl, rfl, trivial⟩ ⟨Nat.zero_le _, fun j _ h => absurd h (Nat.not_lt_zero j), hS⟩ ?_
 clear hS
 rintro k w1 ⟨hk, hP, hS⟩
 refine gW ?_
 (refine g_cd rfl (fun hlt => ?_) (fun hlt => ?_) <;> simp only [cmv, arv, Bool.not_eq_true', Bool.not_eq_false', decide_eq_true_eq, decide_eq_false_iff_not] at hlt)
 ·have hlt : k < (prt s).length := by omega
  have hpk : 0 < (prt s)[k].length := List.length_pos_iff.2 (hne _ (List.getElem_mem hlt))
  obtain ⟨b, off, cap, l, e1, hcap, hl, hx, hb⟩ := Rd.block (Ow.rd (hS.ok 0 _ rfl)) (by omega)
  cases e1
  refine gW ?_
  refine g_rq rfl rfl ⟨by omega, by omega⟩ ?_
  refine g_l1r rfl rfl hb (by rw [Int.toNat_natCast]; exact rd_x' hx hpm (by rw [hpm]; exact hlt)) ?_
  rw [List.getElem_map]
  refine gW ?_
  refine g_rq rfl rfl ⟨by omega, by show ((0 : Nat) : Int) < ((prt s)[k].length : Int); omega⟩ ?_
  rw [show (0 : Int) = ((0 : Nat) : Int) from rfl, gd_at hpk]
  refine gW ?_
  rw [show (46 : Int) = ((46 : Nat) : Int) from rfl, ceq_c (by decide)]
  cases hq : decide ((prt s)[k][0] = UInt8.ofNat 46)
  ·have hq2 := of_decide_eq_false hq
   refine gW ?_
   refine g_rq rfl rfl (in64 (by simp only [arv]; omega)) ?_
   refine gW ?_
   refine g_l (k + 1) ⟨rfl, rfl, rfl, trivial⟩ ⟨by omega, fun j hj hjk => ?_, hS⟩ (by omega)
   by_cases e : j = k
   ·subst e
    cases hp : ([46] : Bs).isPrefixOf (prt s)[j]
    ·rfl
    ·exact absurd ((dot_pre hpk).1 hp) hq2
   ·exact hP j hj (by omega)
  ·refine gW ?_
   refine g_ret (q_1 rfl (stop 3 (by decide) R2 ?_ _ (hS.sel [] rfl rfl)))
   simp only [rul, List.any_eq_true]
   exact ⟨(prt s)[k], List.getElem_mem _, (dot_pre hpk).2 (of_decide_eq_true hq)⟩
 have r3 : rul 3 s = false := by
  simp only [rul]
  rw [List.any_eq_false]
  intro p hp
  obtain ⟨j, hj, rfl⟩ := List.getElem_of_mem hp
  rw [hP j hj (by omega)]
  decide
 have R3 : ∀ i, i < 4 → rul i s = false := fun i hi => by
  by_cases e : i = 3
  ·subst e; exact r3
  ·exact R2 i (by omega)
 clear hP hk hlt
 refine gW ?_
 refine g_lp (ι := Nat) (fun k => [(0, sv s), (5, .slice a (prt s).length c), (8, .int .i64 ((k : Nat) + 1 : Nat))]) (fun k w' => k + 1 ≤ s.length ∧ (∀ j (hj : j + 1 < s.length), j < k → ¬ (s[j] = 46 ∧ s[j + 1] = 46)) ∧ St w (fun _ => False) w' [row (.slice a (prt s).length c) 9 1 (prt s).length ((prt s).map sv)]) (fun k => s.length - k) 0 ⟨rfl, rfl, rfl, trivial⟩ ⟨by omega, fun j _ h => absurd h (Nat.not_lt_zero j), hS⟩ ?_
 clear hS
 rintro k w1 ⟨hk, hP, hS⟩
 refine gW ?_
 rw [esz]
 (refine g_cd rfl (fun hlt => ?_) (fun hlt => ?_) <;> simp only [cmv, arv, Bool.not_eq_true', Bool.not_eq_false', decide_eq_true_eq, decide_eq_false_iff_not] at hlt)
 ·have hlt : k + 1 < s.length := by omega
  have em : (arv BinOp.sub ((k + 1 : Nat) : Int) 1) = ((k : Nat) : Int) := by simp only [arv]; omega
  have next : ¬ (s[k] = 46 ∧ s[k + 1] = 46) → ∀ j (hj : j + 1 < s.length), j < k + 1 → ¬ (s[j] = 46 ∧ s[j + 1] = 46) := fun h0 j hj hjk => by
   by_cases e : j = k
   ·subst e; exact h0
   ·exact hP j hj (by omega)
  refine gW ?_
  refine g_rq rfl rfl ⟨by omega, by rw [hsl]; omega⟩ ?_
  rw [gd_at hlt]
  refine gW ?_
  rw [show (46 : Int) = ((46 : Nat) : Int) from rfl, ceq_c (by decide)]
  cases hq : decide (s[k + 1] = UInt8.ofNat 46)
  ·have hq2 := of_decide_eq_false hq
   refine gW ?_
   refine g_rq rfl rfl (in64 (by simp only [arv]; omega)) ?_
   refine gW ?_
   exact g_l (k + 1) ⟨rfl, rfl, by show some (Value.int .i64 _) = some (Value.int .i64 _); congr 2, trivial⟩ ⟨by omega, next (fun h => hq2 h.2), hS⟩ (by omega)
  ·have hq2 := of_decide_eq_true hq
   refine gW ?_
   refine g_rq rfl rfl (in64 (by rw [em]; omega)) ?_
   rw [em]
   refine g_rq rfl rfl ⟨by omega, by rw [hsl]; omega⟩ ?_
   rw [gd_at (show k < s.length by omega)]
   refine gW ?_
   rw [ceq_c (by decide)]
   cases hq3 : decide (s[k] = UInt8.ofNat 46)
   ·have hq4 := of_decide_eq_false hq3
    refine gW ?_
    refine g_rq rfl rfl (in64 (by simp only [arv]; omega)) ?_
    refine gW ?_
    exact g_l (k + 1) ⟨rfl, rfl, by show some (Value.int .i64 _) = some (Value.int .i64 _); congr 2, trivial⟩ ⟨by omega, next (fun h => hq4 h.1), hS⟩ (by omega)
   ·refine gW ?_
    refine g_ret (q_1 rfl (stop 4 (by decide) R3 ?_ _ (hS.sel [] rfl rfl)))
    simp only [rul]
    unfold Lib.contains
    rw [decide_eq_true_eq, cont2]
    refine ⟨k, ?_, ?_⟩
    ·rw [List.getElem?_eq_getElem (by omega)]
     exact congrArg some (of_decide_eq_true hq3)
    ·rw [List.getElem?_eq_getElem hlt]
     exact congrArg some hq2
 have r4 : rul 4 s = false := by
  simp only [rul]
  unfold Lib.contains
  rw [decide_eq_false_iff_not, cont2]
  rintro ⟨i, h1, h2⟩
  have hi := (List.getElem?_eq_some_iff.1 h2).1
  exact hP i hi (by omega) ⟨(List.getElem?_eq_some_iff.1 h1).2, (List.getElem?_eq_some_iff.1 h2).2⟩
 have R4 : ∀ i, i < 5 → rul i s = false := fun i hi => by
  by_cases e : i = 4
  ·subst e; exact r4
  ·exact R3 i (by omega)
 clear hP hk hlt
 refine gW ?_
 refine g_lp (ι := Nat) (fun k => [(0, sv s), (5, .slice a (prt s).length c), (9, .int .i64 k)]) (fun k w' => k ≤ (prt s).length ∧ (∀ j (hj : j < (prt s).length), j < k → ([46, 108, 111, 99, 107] : Bs).isSuffixOf (prt s)[j] = false) ∧ St w (fun _ => False) w' [row (.slice a (prt s).length c) 9 1 (prt s).length ((prt s).map sv)]) (fun k => (prt s).length - k) 0 ⟨rfl, rfl, rfl, trivial⟩ ⟨Nat.zero_le _, fun j _ h => absurd h (Nat.not_lt_zero j), hS⟩ ?_
 clear hS
 rintro k w1 ⟨hk, hP, hS⟩
 refine gW ?_
 (refine g_cd rfl (fun hlt => ?_) (fun hlt => ?_) <;> simp only [cmv, arv, Bool.not_eq_true', Bool.not_eq_false', decide_eq_true_eq, decide_eq_false_iff_not] at hlt)
 ·have hlt : k < (prt s).length := by omega
  obtain ⟨b, off, cap, l, e1, hcap, hl, hx, hb⟩ := Rd.block (Ow.rd (hS.ok 0 _ rfl)) (by omega)
  cases e1
  have eszp : (⟨(prt s)[k].toArray⟩ : ByteArray).size = (prt s)[k].length := by rw [Lib.size_eq]
  have hpl : (prt s)[k].length ≤ s.length := prt_le (List.getElem_mem hlt)
  have next : ([46, 108, 111, 99, 107] : Bs).isSuffixOf (prt s)[k] = false → ∀ j (hj : j < (prt s).length), j < k + 1 → ([46, 108, 111, 99, 107] : Bs).isSuffixOf (prt s)[j] = false := fun h0 j hj hjk => by
   by_cases e : j = k
   ·subst e; exact h0
   ·exact hP j hj (by omega)
  refine gW ?_
  refine g_rq rfl rfl ⟨by omega, by omega⟩ ?_
  refine g_l1r rfl rfl hb (by rw [Int.toNat_natCast]; exact rd_x' hx hpm (by rw [hpm]; exact hlt)) ?_
  rw [List.getElem_map]
  refine gW ?_
  rw [eszp]
  (generalize q3 : cmv _ _ _ = q; cases q <;> simp only [cmv, arv, Bool.not_eq_true', Bool.not_eq_false', decide_eq_true_eq, decide_eq_false_iff_not] at q3 <;> first | (exfalso; omega) | skip)
  ·refine gW ?_
   refine g_rq rfl rfl (in64 (by simp only [arv]; omega)) ?_
   refine gW ?_
   refine g_l (k + 1) ⟨rfl, rfl, rfl, trivial⟩ ⟨by omega, next ?_, hS⟩ (by omega)
   cases hp : ([46, 108, 111, 99, 107] : Bs).isSuffixOf (prt s)[k]
   ·rfl
   ·have := ((lock_suf _).1 hp).1
    omega
  ·refine gW ?_
   refine g_rq rfl rfl ⟨by omega, by omega⟩ ?_
   refine g_l1r rfl rfl hb (by rw [Int.toNat_natCast]; exact rd_x' hx hpm (by rw [hpm]; exact hlt)) ?_
   rw [List.getElem_map]
   refine gW ?_
   refine g_rq rfl rfl (in64 (by simp only [arv]; omega)) ?_
   have em : (arv BinOp.sub ((prt s)[k].length : Int) 5).toNat = (prt s)[k].length - 5 := by simp only [arv]; omega
   refine g_rq rfl rfl ⟨by simp only [arv]; omega, by rw [eszp]; simp only [arv]; omega, by rw [eszp]; omega⟩ ?_
   rw [em, eszp, Int.toNat_natCast]
   have ex : (⟨(prt s)[k].toArray⟩ : ByteArray).extract ((prt s)[k].length - 5) (prt s)[k].length = ⟨((prt s)[k].drop ((prt s)[k].length - 5)).toArray⟩ := by
    have := sv_ext (prt s)[k] ((prt s)[k].length - 5) (prt s)[k].length
    rw [List.take_of_length_le (by rw [List.length_drop]; omega)] at this
    exact Value.string.inj this
   rw [ex]
   refine gW ?_
   generalize hq : decide ((⟨((prt s)[k].drop ((prt s)[k].length - 5)).toArray⟩ : ByteArray).data.toList = (⟨#[46, 108, 111, 99, 107]⟩ : ByteArray).data.toList) = q
   have hq2 : decide ((prt s)[k].drop ((prt s)[k].length - 5) = [46, 108, 111, 99, 107]) = q := hq
   cases q
   ·refine gW ?_
    refine g_rq rfl rfl (in64 (by simp only [arv]; omega)) ?_
    refine gW ?_
    refine g_l (k + 1) ⟨rfl, rfl, rfl, trivial⟩ ⟨by omega, next ?_, hS⟩ (by omega)
    cases hp : ([46, 108, 111, 99, 107] : Bs).isSuffixOf (prt s)[k]
    ·rfl
    ·exact absurd ((lock_suf _).1 hp).2 (of_decide_eq_false hq2)
   ·refine gW ?_
    refine g_ret (q_1 rfl (stop 5 (by decide) R4 ?_ _ (hS.sel [] rfl rfl)))
    simp only [rul, List.any_eq_true]
    exact ⟨(prt s)[k], List.getElem_mem _, (lock_suf _).2 ⟨by omega, of_decide_eq_true hq2⟩⟩
 have r5 : rul 5 s = false := by
  simp only [rul]
  rw [List.any_eq_false]
  intro p hp
  obtain ⟨j, hj, rfl⟩ := List.getElem_of_mem hp
  rw [hP j hj (by omega)]
  decide
 have R5 : ∀ i, i < 6 → rul i s = false := fun i hi => by
  by_cases e : i = 5
  ·subst e; exact r5
  ·exact R4 i (by omega)
 clear hP hk hlt
 have hs0 : 0 < s.length := by omega
 refine gW ?_
 rw [esz]
 have em : (arv BinOp.sub (s.length : Int) 1) = ((s.length - 1 : Nat) : Int) := by simp only [arv]; omega
 refine g_rq rfl rfl (in64 (by rw [em]; omega)) ?_
 rw [em]
 refine g_rq rfl rfl ⟨by omega, by rw [hsl]; omega⟩ ?_
 rw [gd_at (show s.length - 1 < s.length by omega)]
 refine gW ?_
 rw [show (46 : Int) = ((46 : Nat) : Int) from rfl, ceq_c (by decide)]
 cases hq : decide (s[s.length - 1] = UInt8.ofNat 46)
 rotate_left
 ·refine gW ?_
  refine g_ret (q_1 rfl (stop 6 (by decide) R5 ?_ _ (hS.sel [] rfl rfl)))
  simp only [rul]
  exact (dot_suf hs0).2 (of_decide_eq_true hq)
 have r6 : rul 6 s = false := by
  simp only [rul]
  cases hp : ([46] : Bs).isSuffixOf s
  ·rfl
  ·exact absurd ((dot_suf hs0).1 hp) (of_decide_eq_false hq)
 have R6 : ∀ i, i < 7 → rul i s = false := fun i hi => by
  by_cases e : i = 6
  ·subst e; exact r6
  ·exact R5 i (by omega)
 refine gW ?_
 refine g_lp (ι := Nat) (fun k => [(0, sv s), (11, .int .i64 ((k : Nat) + 1 : Nat))]) (fun k w' => k + 1 ≤ s.length ∧ (∀ j (hj : j + 1 < s.length), j < k → ¬ (s[j] = 64 ∧ s[j + 1] = 123)) ∧ St w (fun _ => False) w' []) (fun k => s.length - k) 0 ⟨rfl, rfl, trivial⟩ ⟨by omega, fun j _ h => absurd h (Nat.not_lt_zero j), hS.sel [] rfl rfl⟩ ?_
 clear hS
 rintro k w1 ⟨hk, hP, hS⟩
 refine gW ?_
 rw [esz]
 (refine g_cd rfl (fun hlt => ?_) (fun hlt => ?_) <;> simp only [cmv, arv, Bool.not_eq_true', Bool.not_eq_false', decide_eq_true_eq, decide_eq_false_iff_not] at hlt)
 ·have hlt : k + 1 < s.length := by omega
  have em : (arv BinOp.sub ((k + 1 : Nat) : Int) 1) = ((k : Nat) : Int) := by simp only [arv]; omega
  have next : ¬ (s[k] = 64 ∧ s[k + 1] = 123) → ∀ j (hj : j + 1 < s.length), j < k + 1 → ¬ (s[j] = 64 ∧ s[j + 1] = 123) := fun h0 j hj hjk => by
   by_cases e : j = k
   ·subst e; exact h0
   ·exact hP j hj (by omega)
  refine gW ?_
  refine g_rq rfl rfl ⟨by omega, by rw [hsl]; omega⟩ ?_
  rw [gd_at hlt]
  refine gW ?_
  rw [show (123 : Int) = ((123 : Nat) : Int) from rfl, ceq_c (by decide)]
  cases hq : decide (s[k + 1] = UInt8.ofNat 123)
  ·have hq2 := of_decide_eq_false hq
   refine gW ?_
   refine g_rq rfl rfl (in64 (by simp only [arv]; omega)) ?_
   refine gW ?_
   exact g_l (k + 1) ⟨rfl, by show some (Value.int .i64 _) = some (Value.int .i64 _); congr 2, trivial⟩ ⟨by omega, next (fun h => hq2 h.2), hS⟩ (by omega)
  ·have hq2 := of_decide_eq_true hq
   refine gW ?_
   refine g_rq rfl rfl (in64 (by rw [em]; omega)) ?_
   rw [em]
   refine g_rq rfl rfl ⟨by omega, by rw [hsl]; omega⟩ ?_
   rw [gd_at (show k < s.length by omega)]
   refine gW ?_
   rw [show (64 : Int) = ((64 : Nat) : Int) from rfl, ceq_c (by decide)]
   cases hq3 : decide (s[k] = UInt8.ofNat 64)
   ·have hq4 := of_decide_eq_false hq3
    refine gW ?_
    refine g_rq rfl rfl (in64 (by simp only [arv]; omega)) ?_
    refine gW ?_
    exact g_l (k + 1) ⟨rfl, by show some (Value.int .i64 _) = some (Value.int .i64 _); congr 2, trivial⟩ ⟨by omega, next (fun h => hq4 h.1), hS⟩ (by omega)
   ·refine gW ?_
    refine g_ret (q_1 rfl (stop 7 (by decide) R6 ?_ _ hS))
    simp only [rul]
    unfold Lib.contains
    rw [decide_eq_true_eq, cont2]
    refine ⟨k, ?_, ?_⟩
    ·rw [List.getElem?_eq_getElem (by omega)]
     exact congrArg some (of_decide_eq_true hq3)
    ·rw [List.getElem?_eq_getElem hlt]
     exact congrArg some hq2
 have r7 : rul 7 s = false := by
  simp only [rul]
  unfold Lib.contains
  rw [decide_eq_false_iff_not, cont2]
  rintro ⟨i, h1, h2⟩
  have hi := (List.getElem?_eq_some_iff.1 h2).1
  exact hP i hi (by omega) ⟨(List.getElem?_eq_some_iff.1 h1).2, (List.getElem?_eq_some_iff.1 h2).2⟩
 have e0 : brk s = 0 := brk_no8 fun i hi => by
  by_cases e : i = 7
  ·subst e; exact r7
  ·exact R6 i (by omega)
 rw [e0] at h
 refine gW ?_
 exact g_ret (q_1 rfl (h _ hS))
theorem r_Check4 (h : ∀ w', St w (fun _ => False) w' [] → K (.int .i64 (nmE s)) w') : CK Tryz.prog 99 [sv s] w K := by
 refine call_k Tryz.func99 k99 Tryz.ntmps99 (Nat.le_of_ble_eq_true rfl) ?_
 refine gW ?_
 refine g_cl rfl rfl (r_Breaks fun w1 hS => ?_)
 refine gW ?_
 by_cases e : brk s = 0
 ·rw [show nmE s = 0 by unfold nmE; rw [if_pos e]] at h
  rw [e]
  refine gW ?_
  exact g_ret (q_1 rfl (h _ hS))
 ·have e1 : nmE s = 40 := by unfold nmE; rw [if_neg e]
  rw [e1] at h
  rw [show cmv BinOp.gtr (brk s : Int) 0 = true by simp only [cmv, decide_eq_true_eq]; omega]
  refine gW ?_
  exact g_ret (q_1 rfl (h _ hS))
end
end Go.Proofs.YtfffdhafbbbpcaaGreatDoor
