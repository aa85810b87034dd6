/- Na1 Sh Na2 Na3 Na4 Na5 Na6 Qa2 Qa3 Qa4 Qa5 Na7 -/
import Derived.Test.YtocofjmknnckhaaGreatDoorPk3
import Derived.Test.YtocofjmknnckhaaGreatDoorChecked
import Derived.KernelRfl
import Derived.Shelf.Small.Utf8
import Derived.Shelf.Small.Bits
import Derived.Shelf.Small.Strs
import Derived.Shelf.Strconv.Itoa0
import Derived.Shelf.Strings.Search1
import Derived.Shelf.Strings.Search2
import Derived.Shelf.Strings.Search3
import Derived.Shelf.Strings.Count
import Derived.Shelf.LaysM
import Derived.Shelf.Strings.Shaped
import Derived.Shelf.Strings.Prefix
import Derived.Shelf.Strings.Split
import Derived.Shelf.Strings.SplitShaped
import Derived.Shelf.Strings.Runes
import Derived.Shelf.Strings.IndexAny
import Derived.Shelf.Strings.AsciiSet
import Derived.Shelf.Strings.IndexAnyAll
import Derived.Shelf.Unicode.DecodeSlow
import Derived.Shelf.Bytes.Small
import Derived.Test.YtocofjmknnckhaaGreatDoorProg
import Derived.Lib.SplitLaws
set_option linter.unusedSimpArgs false
set_option linter.unusedVariables false
namespace Go.Proofs.YtocofjmknnckhaaGreatDoor
open Go.En
def m16 : MC := .sq (.rg [.c 2 (.int .i64 0)]) (.sq (.sq (.rg [.t 3 0, .o 4 (.cl 35 [.tmp 3]), .o 5 (.cm .neq (.tmp 4) (.const (.int .i64 0)))]) (.cd (.tmp 5) (.sq (.rg [.c 2 (.int .i64 40)]) (.rt)) (.sk))) (.sq (.rg [.c 2 (.int .i64 0)]) (.rt)))
theorem k16 : Tryz.f16.body.any (fun c => chkC Tryz.prog c m16 && allD (dlt 6) m16) = true := by kernel_rfl
def m35u0 : MC := .rg [.o 4 (.al [(1, .int .i64 0), (1, .nilFunc)] 124), .e (.st (.tmp 4) (.tmp 6) 2)]
def m35v0 : MC := .bk 1 (.sq (.rg [.o 7 (.fa (.tmp 4) 1), .o 8 (.ld (.tmp 7) none), .o 9 (.ld (.tmp 1) none), .o 10 (.cv (.tmp 8) [.tmp 9])]) (.cd (.tmp 10) (.sq (.rg [.o 11 (.fa (.tmp 4) 0), .o 12 (.ld (.tmp 11) none), .e (.st (.tmp 3) (.tmp 12) 1)]) (.xt 0)) (.sk)))
def m35 : MC := .sq (.rg [.o 1 (.bx 9 (.tmp 0)), .c 2 (.int .i64 0)]) (.sc (.sq (.rg [.o 3 (.al [(1, .int .i64 0)] 3), .e (.st (.tmp 3) (.const (.int .i64 0)) 1)]) (.sq (.lb 0) (.sq (.sq (.rg [.o 5 (.cl 61 [])]) (.bk 0 (.rf (.tmp 5) [6] m35u0 m35v0))) (.sq (.rg [.o 13 (.ld (.tmp 3) none), .t 2 13]) (.rt))))))
theorem k35 : Tryz.f35.body.any (fun c => chkC Tryz.prog c m35 && allD (dlt 14) m35) = true := by kernel_rfl
def m61 : MC := .sq (.rg [.c 0 (.nilFunc)]) (.sq (.rg [.o 2 (.bd [(1, .int .i64 0), (1, .nilFunc)] [(0, 1, .const (.int .i64 1)), (1, 1, .func 113)]), .o 3 (.bd [(1, .int .i64 0), (1, .nilFunc)] [(0, 1, .const (.int .i64 2)), (1, 1, .func 114)]), .o 4 (.cl 115 [.func 116]), .o 5 (.bd [(1, .int .i64 0), (1, .nilFunc)] [(0, 1, .const (.int .i64 3)), (1, 1, .tmp 4)]), .o 6 (.cl 115 [.func 117]), .o 7 (.bd [(1, .int .i64 0), (1, .nilFunc)] [(0, 1, .const (.int .i64 4)), (1, 1, .tmp 6)]), .o 8 (.cl 119 [.const (.string ⟨#[46, 46]⟩)]), .o 9 (.bd [(1, .int .i64 0), (1, .nilFunc)] [(0, 1, .const (.int .i64 5)), (1, 1, .tmp 8)]), .o 10 (.cl 115 [.func 120]), .o 11 (.bd [(1, .int .i64 0), (1, .nilFunc)] [(0, 1, .const (.int .i64 6)), (1, 1, .tmp 10)]), .o 12 (.bd [(1, .int .i64 0), (1, .nilFunc)] [(0, 1, .const (.int .i64 7)), (1, 1, .func 122)]), .o 13 (.cl 119 [.const (.string ⟨#[64, 123]⟩)]), .o 14 (.bd [(1, .int .i64 0), (1, .nilFunc)] [(0, 1, .const (.int .i64 8)), (1, 1, .tmp 13)]), .o 15 (.bl 124 2 [.tmp 2, .tmp 3, .tmp 5, .tmp 7, .tmp 9, .tmp 11, .tmp 12, .tmp 14]), .o 1 (.al [(1, .slice none 0 0)] 198), .e (.st (.tmp 1) (.tmp 15) 1)]) (.sq (.rg [.o 16 (.mf 123 [] [.tmp 1]), .t 0 16]) (.rt)))
theorem k61 : Tryz.f61.body.any (fun c => chkC Tryz.prog c m61 && allD (dlt 17) m61) = true := by kernel_rfl
def m113 : MC := .sq (.rg [.c 2 (.bool false)]) (.sq (.rg [.t 3 0, .o 4 (.se .eql (.tmp 3) (.const (.string ⟨#[]⟩))), .t 5 4, .q 6 5 false (.mv (.tmp 0)), .q 7 5 false (.ln true (.tmp 6)), .q 8 5 false (.cm .gtr (.tmp 7) (.const (.int .i64 100))), .o 9 (.pk (.tmp 5) (.const (.bool true)) (.tmp 8)), .t 2 9]) (.rt))
theorem k113 : Tryz.f113.body.any (fun c => chkC Tryz.prog c m113 && allD (dlt 10) m113) = true := by kernel_rfl
def m116 : MC := .sq (.rg [.c 2 (.bool false)]) (.sq (.rg [.t 3 0, .o 4 (.se .eql (.tmp 3) (.const (.string ⟨#[]⟩))), .t 2 4]) (.rt))
theorem k116 : Tryz.f116.body.any (fun c => chkC Tryz.prog c m116 && allD (dlt 5) m116) = true := by kernel_rfl
def m117 : MC := .sq (.rg [.c 2 (.bool false)]) (.sq (.rg [.t 3 0, .o 4 (.cl 118 [.tmp 3, .const (.string ⟨#[46]⟩)]), .t 2 4]) (.rt))
theorem k117 : Tryz.f117.body.any (fun c => chkC Tryz.prog c m117 && allD (dlt 5) m117) = true := by kernel_rfl
def m120 : MC := .sq (.rg [.c 2 (.bool false)]) (.sq (.rg [.t 3 0, .o 4 (.cl 121 [.tmp 3, .const (.string ⟨#[46, 108, 111, 99, 107]⟩)]), .t 2 4]) (.rt))
theorem k120 : Tryz.f120.body.any (fun c => chkC Tryz.prog c m120 && allD (dlt 5) m120) = true := by kernel_rfl
def m122 : MC := .sq (.rg [.c 2 (.bool false)]) (.sq (.rg [.t 3 0, .o 4 (.cl 121 [.tmp 3, .const (.string ⟨#[46]⟩)]), .t 2 4]) (.rt))
theorem k122 : Tryz.f122.body.any (fun c => chkC Tryz.prog c m122 && allD (dlt 5) m122) = true := by kernel_rfl
def m123 : MC := .sq (.rg [.o 5 (.ld (.tmp 1) none), .o 6 (.ln false (.tmp 5)), .c 7 (.int .i64 0)]) (.bk 0 (.lp (.sq (.rg [.o 8 (.cm .lss (.tmp 7) (.tmp 6))]) (.sq (.cd (.tmp 8) (.sk) (.xt 0)) (.sq (.bk 1 (.sq (.rg [.o 9 (.ias (.tmp 5) (.tmp 7) 2), .o 10 (.ld (.tmp 9) (some 2)), .o 4 (.al [(1, .int .i64 0), (1, .nilFunc)] 124), .e (.st (.tmp 4) (.tmp 10) 2)]) (.sq (.rg [.t 11 0, .o 12 (.ld (.tmp 4) (some 2)), .o 13 (.cv (.tmp 11) [.tmp 12]), .o 14 (.nt (.tmp 13))]) (.cd (.tmp 14) (.rt) (.sk))))) (.rg [.o 15 (.ar .add .i64 (.tmp 7) (.const (.int .i64 1)) true), .t 7 15]))))))
theorem k123 : Tryz.f123.body.any (fun c => chkC Tryz.prog c m123 && allD (dlt 16) m123) = true := by kernel_rfl
def m114 : MC := .sq (.rg [.c 2 (.bool false)]) (.sq (.sq (.rg [.t 5 0, .o 6 (.rg (.tmp 5))]) (.bk 0 (.lp (.sq (.rg [.o 7 (.nx (.tmp 6)), .o 8 (.ex (.tmp 7) 0)]) (.sq (.cd (.tmp 8) (.sk) (.xt 0)) (.bk 1 (.sq (.rg [.o 9 (.ex (.tmp 7) 2), .t 4 9]) (.sq (.rg [.t 10 4, .o 11 (.cm .lss (.tmp 10) (.const (.int .i32 33))), .t 12 11, .q 13 12 false (.mv (.tmp 4)), .q 14 12 false (.cm .gtr (.tmp 13) (.const (.int .i32 126))), .o 15 (.pk (.tmp 12) (.const (.bool true)) (.tmp 14)), .t 16 15, .q 17 16 false (.mv (.tmp 4)), .q 18 16 false (.rs (.tmp 17)), .q 19 16 false (.cl 160 [.const (.string ⟨#[126, 94, 58, 63, 42, 91, 92]⟩), .tmp 18]), .o 20 (.pk (.tmp 16) (.const (.bool true)) (.tmp 19))]) (.cd (.tmp 20) (.sq (.rg [.c 2 (.bool true)]) (.rt)) (.sk)))))))))) (.sq (.rg [.c 2 (.bool false)]) (.rt)))
theorem k114 : Tryz.f114.body.any (fun c => chkC Tryz.prog c m114 && allD (dlt 21) m114) = true := by kernel_rfl
def m115 : MC := .sq (.rg [.o 1 (.bx 122 (.tmp 0)), .c 2 (.nilFunc)]) (.sq (.rg [.o 3 (.mf 161 [] [.tmp 1]), .t 2 3]) (.rt))
theorem k115 : Tryz.f115.body.any (fun c => chkC Tryz.prog c m115 && allD (dlt 4) m115) = true := by kernel_rfl
def m161 : MC := .sq (.rg [.c 3 (.bool false)]) (.sq (.sq (.rg [.t 6 0, .o 7 (.cl 162 [.tmp 6, .const (.string ⟨#[47]⟩)]), .o 8 (.ln false (.tmp 7)), .c 9 (.int .i64 0)]) (.bk 0 (.lp (.sq (.rg [.o 10 (.cm .lss (.tmp 9) (.tmp 8))]) (.sq (.cd (.tmp 10) (.sk) (.xt 0)) (.sq (.bk 1 (.sq (.rg [.o 11 (.ias (.tmp 7) (.tmp 9) 1), .o 12 (.ld (.tmp 11) none), .t 5 12]) (.sq (.rg [.o 13 (.ld (.tmp 1) none), .t 14 5, .o 15 (.cv (.tmp 13) [.tmp 14])]) (.cd (.tmp 15) (.sq (.rg [.c 3 (.bool true)]) (.rt)) (.sk))))) (.rg [.o 16 (.ar .add .i64 (.tmp 9) (.const (.int .i64 1)) true), .t 9 16]))))))) (.sq (.rg [.c 3 (.bool false)]) (.rt)))
theorem k161 : Tryz.f161.body.any (fun c => chkC Tryz.prog c m161 && allD (dlt 17) m161) = true := by kernel_rfl
def m119 : MC := .sq (.rg [.o 1 (.bx 9 (.tmp 0)), .c 2 (.nilFunc)]) (.sq (.rg [.o 3 (.mf 164 [] [.tmp 1]), .t 2 3]) (.rt))
theorem k119 : Tryz.f119.body.any (fun c => chkC Tryz.prog c m119 && allD (dlt 4) m119) = true := by kernel_rfl
def m164 : MC := .sq (.rg [.c 3 (.bool false)]) (.sq (.rg [.t 4 0, .o 5 (.ld (.tmp 1) none), .o 6 (.cl 160 [.tmp 4, .tmp 5]), .t 3 6]) (.rt))
theorem k164 : Tryz.f164.body.any (fun c => chkC Tryz.prog c m164 && allD (dlt 7) m164) = true := by kernel_rfl
def m18 : MC := .sq (.rg [.o 3 (.bx 46 (.tmp 1)), .c 4 (.string ⟨#[]⟩), .c 5 (.int .i64 0)]) (.sq (.sq (.rg [.t 7 0, .o 8 (.cl 16 [.tmp 7]), .t 6 8]) (.sq (.rg [.t 9 6, .o 10 (.cm .neq (.tmp 9) (.const (.int .i64 0)))]) (.cd (.tmp 10) (.sq (.rg [.t 11 6, .c 4 (.string ⟨#[]⟩), .t 5 11]) (.rt)) (.sk)))) (.sq (.rg [.t 12 0, .o 13 (.sa (.tmp 12) (.const (.string ⟨#[126]⟩))), .o 14 (.ld (.tmp 3) (some 32)), .o 15 (.cl 40 [.tmp 14]), .o 16 (.sa (.tmp 13) (.tmp 15)), .t 4 16, .c 5 (.int .i64 0)]) (.rt)))
theorem k18 : Tryz.f18.body.any (fun c => chkC Tryz.prog c m18 && allD (dlt 17) m18) = true := by kernel_rfl
def m40 : MC := .sq (.rg [.o 1 (.bx 46 (.tmp 0)), .c 2 (.string ⟨#[]⟩)]) (.sq (.rg [.c 3 (.slice none 0 0)]) (.sq (.sq (.rg [.o 6 (.ld (.tmp 1) (some 32)), .c 7 (.int .i64 0)]) (.bk 0 (.lp (.sq (.rg [.o 8 (.cm .lss (.tmp 7) (.const (.int .i64 32)))]) (.sq (.cd (.tmp 8) (.sk) (.xt 0)) (.sq (.bk 1 (.sq (.rg [.o 9 (.ixa (.tmp 6) (.tmp 7) 32 1 none), .t 5 9]) (.dr [.t 10 3, .t 11 5, .o 12 (.sh .shr .u8 (.tmp 11) (.const (.int .u64 4))), .o 13 (.ixs (.const (.string ⟨#[48, 49, 50, 51, 52, 53, 54, 55, 56, 57, 97, 98, 99, 100, 101, 102]⟩)) (.tmp 12)), .t 14 5, .o 15 (.bt .and .u8 (.tmp 14) (.const (.int .u8 15))), .o 16 (.ixs (.const (.string ⟨#[48, 49, 50, 51, 52, 53, 54, 55, 56, 57, 97, 98, 99, 100, 101, 102]⟩)) (.tmp 15)), .o 17 (.bl 5 1 [.tmp 13, .tmp 16]), .o 18 (.ap 5 1 1 [(1, .int .u8 0)] (.tmp 10) (.tmp 17)), .t 3 18] [0, 0, 2, 6, 0, 16, 48, 126, 255, 511] (.q 0 (.q 1 (.q 2 (.q 3 (.q 4 (.q 5 (.q 6 (.e 7 [] (.e 8 [] (.e 9 [] (.fin)))))))))))))) (.rg [.o 19 (.ar .add .i64 (.tmp 7) (.const (.int .i64 1)) true), .t 7 19]))))))) (.sq (.rg [.t 20 3, .o 21 (.bs (.tmp 20)), .t 2 21]) (.rt))))
theorem k40 : Tryz.f40.body.any (fun c => chkC Tryz.prog c m40 && allD (dlt 22) m40) = true := by kernel_rfl
def m38 : MC := .sq (.rg [.o 2 (.bx 46 (.tmp 0)), .o 3 (.bx 46 (.tmp 1)), .c 4 (.int .i64 0)]) (.sq (.sq (.rg [.o 5 (.ld (.tmp 2) (some 32)), .o 6 (.ld (.tmp 3) (some 32)), .o 7 (.aq .eql 32 (.tmp 5) (.tmp 6))]) (.cd (.tmp 7) (.sq (.rg [.c 4 (.int .i64 0)]) (.rt)) (.sk))) (.sq (.dr [.o 8 (.sp (.tmp 2) none none 32 1), .o 9 (.sp (.tmp 3) none none 32 1), .o 10 (.cl 63 [.tmp 8, .tmp 9]), .t 4 10] [0, 0, 3, 7] (.q 0 (.q 1 (.e 2 [] (.q 3 (.fin)))))) (.rt)))
theorem k38 : Tryz.f38.body.any (fun c => chkC Tryz.prog c m38 && allD (dlt 11) m38) = true := by kernel_rfl
def m63 : MC := .sq (.rg [.c 4 (.int .i64 0)]) (.sq (.rg [.t 5 0, .t 6 1, .o 7 (.xl 132 [.tmp 5, .tmp 6]), .t 4 7]) (.rt))
theorem k63 : Tryz.f63.body.any (fun c => chkC Tryz.prog c m63 && allD (dlt 8) m63) = true := by kernel_rfl
def m17 : MC := .sq (.rg [.c 2 (.slice none 0 0)]) (.sq (.rg [.t 4 0, .o 5 (.cl 36 [.tmp 4]), .t 3 5]) (.sq (.rg [.t 6 3, .o 7 (.cl 37 [.tmp 6, .func 38])]) (.sq (.rg [.t 8 3, .o 9 (.cl 39 [.tmp 8]), .t 2 9]) (.rt))))
theorem k17 : Tryz.f17.body.any (fun c => chkC Tryz.prog c m17 && allD (dlt 10) m17) = true := by kernel_rfl
def m36 : MC := .sq (.rg [.c 2 (.slice none 0 0)]) (.sq (.sq (.rg [.t 3 0, .o 4 (.sn .eql (.tmp 3))]) (.cd (.tmp 4) (.sq (.rg [.c 2 (.slice none 0 0)]) (.rt)) (.sk))) (.sq (.rg [.o 5 (.bl 46 32 []), .t 6 0, .o 7 (.ap 46 32 32 [(32, .int .u8 0)] (.tmp 5) (.tmp 6)), .t 2 7]) (.rt)))
theorem k36 : Tryz.f36.body.any (fun c => chkC Tryz.prog c m36 && allD (dlt 8) m36) = true := by kernel_rfl
def m39 : MC := .sq (.rg [.c 2 (.slice none 0 0)]) (.sq (.sq (.rg [.t 6 0, .o 7 (.ln false (.tmp 6)), .o 8 (.cm .lss (.tmp 7) (.const (.int .i64 2)))]) (.cd (.tmp 8) (.sq (.rg [.t 9 0, .t 2 9]) (.rt)) (.sk))) (.sq (.sq (.rg [.c 3 (.int .i64 1)]) (.bk 0 (.lp (.sq (.sq (.rg [.t 10 3, .t 11 0, .o 12 (.ln false (.tmp 11)), .o 13 (.cm .lss (.tmp 10) (.tmp 12))]) (.cd (.tmp 13) (.sk) (.xt 0))) (.sq (.bk 1 (.sq (.dr [.t 16 0, .t 17 3, .o 18 (.ias (.tmp 16) (.tmp 17) 32), .o 19 (.ld (.tmp 18) (some 32)), .t 20 0, .t 21 3, .o 22 (.ar .sub .i64 (.tmp 21) (.const (.int .i64 1)) true), .o 23 (.ias (.tmp 20) (.tmp 22) 32), .o 24 (.ld (.tmp 23) (some 32)), .o 25 (.aq .eql 32 (.tmp 19) (.tmp 24))] [0, 0, 3, 7, 0, 0, 32, 112, 240, 511] (.q 0 (.q 1 (.q 2 (.q 3 (.q 4 (.q 5 (.q 6 (.q 7 (.q 8 (.q 9 (.fin)))))))))))) (.cd (.tmp 25) (.sq (.rg [.t 26 0, .t 27 3, .o 28 (.sl (.tmp 26) (some (.tmp 27)) none none 32), .t 4 28]) (.sq (.sq (.rg [.c 5 (.int .i64 1)]) (.bk 2 (.lp (.sq (.sq (.rg [.t 29 5, .t 30 4, .o 31 (.ln false (.tmp 30)), .o 32 (.cm .lss (.tmp 29) (.tmp 31))]) (.cd (.tmp 32) (.sk) (.xt 2))) (.sq (.bk 3 (.sq (.dr [.t 35 4, .t 36 5, .o 37 (.ias (.tmp 35) (.tmp 36) 32), .o 38 (.ld (.tmp 37) (some 32)), .t 39 4, .t 40 5, .o 41 (.ar .sub .i64 (.tmp 40) (.const (.int .i64 1)) true), .o 42 (.ias (.tmp 39) (.tmp 41) 32), .o 43 (.ld (.tmp 42) (some 32)), .o 44 (.aq .neq 32 (.tmp 38) (.tmp 43))] [0, 0, 3, 7, 0, 0, 32, 112, 240, 511] (.q 0 (.q 1 (.q 2 (.q 3 (.q 4 (.q 5 (.q 6 (.q 7 (.q 8 (.q 9 (.fin)))))))))))) (.cd (.tmp 44) (.sq (.rg [.t 45 0, .t 46 3, .t 47 4, .t 48 5, .o 49 (.ias (.tmp 47) (.tmp 48) 32), .o 50 (.ld (.tmp 49) (some 32)), .o 51 (.ias (.tmp 45) (.tmp 46) 32), .e (.st (.tmp 51) (.tmp 50) 32)]) (.rg [.t 52 3, .o 53 (.ar .add .i64 (.tmp 52) (.const (.int .i64 1)) true), .t 3 53])) (.sk)))) (.rg [.t 33 5, .o 34 (.ar .add .i64 (.tmp 33) (.const (.int .i64 1)) true), .t 5 34])))))) (.sq (.rg [.t 54 0, .t 55 3, .o 56 (.sl (.tmp 54) (some (.tmp 55)) none none 32), .e (.clr 32 [(32, .int .u8 0)] (.tmp 56))]) (.sq (.rg [.t 57 0, .t 58 3, .o 59 (.sl (.tmp 57) none (some (.tmp 58)) none 32), .t 2 59]) (.rt))))) (.sk)))) (.rg [.t 14 3, .o 15 (.ar .add .i64 (.tmp 14) (.const (.int .i64 1)) true), .t 3 15])))))) (.sq (.rg [.t 60 0, .t 2 60]) (.rt))))
theorem k39 : Tryz.f39.body.any (fun c => chkC Tryz.prog c m39 && allD (dlt 61) m39) = true := by kernel_rfl
end Go.Proofs.YtocofjmknnckhaaGreatDoor
namespace Go.Proofs
open Go.Shelf
def Tryz.lays137_ren : Go.Shelf.Ren := ⟨fun | 137 => 240 | 217 => 188 | 266 => 195 | n => n, fun | 9 => 9 | 5 => 5 | 3 => 3 | n => n, fun | n => n⟩
theorem Tryz.lays137 : Go.Proofs.Lays.n137 Tryz.prog Tryz.lays137_ren := {
 mixed := by kernel_rfl
 f137 := Tryz.func240.trans (congrArg some (by kernel_rfl))
 f217 := Tryz.func188.trans (congrArg some (by kernel_rfl))
 f266 := Tryz.func195.trans (congrArg some (by kernel_rfl))
 t3 := Tryz.underlying3
 a3 := Tryz.isAgg3
 z3 := Tryz.sizeOf3
 v3 := Tryz.zeroValue3
 t5 := Tryz.underlying5
 a5 := Tryz.isAgg5
 z5 := Tryz.sizeOf5
 v5 := Tryz.zeroValue5
 t9 := Tryz.underlying9
 a9 := Tryz.isAgg9
 z9 := Tryz.sizeOf9
 v9 := Tryz.zeroValue9 }
open Go.RowKit in
theorem Tryz.strings_IndexByte (s : ByteArray) (c : Int) (w : World) :
  Calls Tryz.prog 240 #[.string s, .int .u8 c] w fun e w' => e = .returned (.int .i64 (Lib.indexByte s.data.toList c.toNat.toUInt8)) ∧ w' = w := Any.strings_IndexByte Tryz.lays137 s c w
def Tryz.lays144_ren : Go.Shelf.Ren := ⟨fun | 144 => 160 | 143 => 180 | 219 => 185 | 217 => 188 | 225 => 189 | 224 => 190 | 267 => 191 | 266 => 195 | 314 => 196 | n => n, fun | 9 => 9 | 4 => 4 | 3 => 3 | 5 => 5 | 46 => 93 | 146 => 266 | 51 => 107 | n => n, fun | 1 => 2 | n => n⟩
theorem Tryz.lays144 : Go.Proofs.Lays.n144 Tryz.prog Tryz.lays144_ren := {
 mixed := by kernel_rfl
 f143 := Tryz.func180.trans (congrArg some (by kernel_rfl))
 f144 := Tryz.func160.trans (congrArg some (by kernel_rfl))
 f217 := Tryz.func188.trans (congrArg some (by kernel_rfl))
 f219 := Tryz.func185.trans (congrArg some (by kernel_rfl))
 f224 := Tryz.func190.trans (congrArg some (by kernel_rfl))
 f225 := Tryz.func189.trans (congrArg some (by kernel_rfl))
 f266 := Tryz.func195.trans (congrArg some (by kernel_rfl))
 f267 := Tryz.func191.trans (congrArg some (by kernel_rfl))
 f314 := Tryz.func196.trans (congrArg some (by kernel_rfl))
 t3 := Tryz.underlying3
 a3 := Tryz.isAgg3
 z3 := Tryz.sizeOf3
 v3 := Tryz.zeroValue3
 t4 := Tryz.underlying4
 a4 := Tryz.isAgg4
 z4 := Tryz.sizeOf4
 v4 := Tryz.zeroValue4
 t5 := Tryz.underlying5
 a5 := Tryz.isAgg5
 z5 := Tryz.sizeOf5
 v5 := Tryz.zeroValue5
 t9 := Tryz.underlying9
 a9 := Tryz.isAgg9
 z9 := Tryz.sizeOf9
 v9 := Tryz.zeroValue9
 t46 := Tryz.underlying93
 a46 := Tryz.isAgg93
 z46 := Tryz.sizeOf93
 v46 := Tryz.zeroValue93
 t51 := Tryz.underlying107
 a51 := Tryz.isAgg107
 z51 := Tryz.sizeOf107
 v51 := Tryz.zeroValue107
 t146 := Tryz.underlying266
 a146 := Tryz.isAgg266
 z146 := Tryz.sizeOf266
 v146 := Tryz.zeroValue266
 g1 := by kernel_rfl }
open Go.RowKit Go.Lib in
theorem Tryz.strings_Contains (s sub : ByteArray) (m : Int) (w : World) (hs : s.size < 4294967281) (hm : w.cell? ⟨2, 0, none⟩ = some (.int .i64 m)) :
  Calls Tryz.prog 160 #[.string s, .string sub] w fun e w' => e = .returned (.bool (Lib.contains s.data.toList sub.data.toList)) ∧ w' = w := Any.strings_Contains Tryz.lays144 s sub m w hs hm
def Tryz.lays99_ren : Go.Shelf.Ren := ⟨fun | 99 => 118 | 206 => 163 | n => n, fun | 9 => 9 | 4 => 4 | 3 => 3 | n => n, fun | n => n⟩
theorem Tryz.lays99 : Go.Proofs.Lays.n99 Tryz.prog Tryz.lays99_ren := {
 mixed := by kernel_rfl
 f99 := Tryz.func118.trans (congrArg some (by kernel_rfl))
 f206 := Tryz.func163.trans (congrArg some (by kernel_rfl))
 t3 := Tryz.underlying3
 a3 := Tryz.isAgg3
 z3 := Tryz.sizeOf3
 v3 := Tryz.zeroValue3
 t4 := Tryz.underlying4
 a4 := Tryz.isAgg4
 z4 := Tryz.sizeOf4
 v4 := Tryz.zeroValue4
 t9 := Tryz.underlying9
 a9 := Tryz.isAgg9
 z9 := Tryz.sizeOf9
 v9 := Tryz.zeroValue9 }
open Go.RowKit Go.Lib in
theorem Tryz.strings_HasPrefix (s p : ByteArray) (w : World) :
  Calls Tryz.prog 118 #[.string s, .string p] w fun e w' => e = .returned (.bool (Lib.hasPrefix s.data.toList p.data.toList)) ∧ w' = w := Any.strings_HasPrefix Tryz.lays99 s p w
def Tryz.lays100_ren : Go.Shelf.Ren := ⟨fun | 100 => 121 | 207 => 165 | n => n, fun | 9 => 9 | 4 => 4 | 3 => 3 | n => n, fun | n => n⟩
theorem Tryz.lays100 : Go.Proofs.Lays.n100 Tryz.prog Tryz.lays100_ren := {
 mixed := by kernel_rfl
 f100 := Tryz.func121.trans (congrArg some (by kernel_rfl))
 f207 := Tryz.func165.trans (congrArg some (by kernel_rfl))
 t3 := Tryz.underlying3
 a3 := Tryz.isAgg3
 z3 := Tryz.sizeOf3
 v3 := Tryz.zeroValue3
 t4 := Tryz.underlying4
 a4 := Tryz.isAgg4
 z4 := Tryz.sizeOf4
 v4 := Tryz.zeroValue4
 t9 := Tryz.underlying9
 a9 := Tryz.isAgg9
 z9 := Tryz.sizeOf9
 v9 := Tryz.zeroValue9 }
open Go.RowKit Go.Lib in
theorem Tryz.strings_HasSuffix (s p : ByteArray) (w : World) (hs : s.size ≤ 9223372036854775807) :
  Calls Tryz.prog 121 #[.string s, .string p] w fun e w' => e = .returned (.bool (Lib.hasSuffix s.data.toList p.data.toList)) ∧ w' = w := Any.strings_HasSuffix Tryz.lays100 s p w hs
def Tryz.lays146_ren : Go.Shelf.Ren := ⟨fun | 146 => 162 | 221 => 181 | 268 => 186 | 138 => 187 | 143 => 180 | 195 => 192 | 197 => 193 | 218 => 194 | 219 => 185 | 260 => 197 | 217 => 188 | 225 => 189 | 224 => 190 | 267 => 191 | 266 => 195 | 314 => 196 | n => n, fun | 9 => 9 | 31 => 139 | 3 => 3 | 4 => 4 | 0 => 0 | 105 => 264 | 21 => 21 | 5 => 5 | 46 => 93 | 119 => 268 | 139 => 271 | 138 => 270 | 146 => 266 | 51 => 107 | n => n, fun | 1 => 2 | 3 => 3 | 4 => 4 | n => n⟩
theorem Tryz.lays146 : Go.Proofs.Lays.n146 Tryz.prog Tryz.lays146_ren := {
 mixed := by kernel_rfl
 f138 := Tryz.func187.trans (congrArg some (by kernel_rfl))
 f143 := Tryz.func180.trans (congrArg some (by kernel_rfl))
 f146 := Tryz.func162.trans (congrArg some (by kernel_rfl))
 f195 := Tryz.func192.trans (congrArg some (by kernel_rfl))
 f197 := Tryz.func193.trans (congrArg some (by kernel_rfl))
 f217 := Tryz.func188.trans (congrArg some (by kernel_rfl))
 f218 := Tryz.func194.trans (congrArg some (by kernel_rfl))
 f219 := Tryz.func185.trans (congrArg some (by kernel_rfl))
 f221 := Tryz.func181.trans (congrArg some (by kernel_rfl))
 f224 := Tryz.func190.trans (congrArg some (by kernel_rfl))
 f225 := Tryz.func189.trans (congrArg some (by kernel_rfl))
 f260 := Tryz.func197.trans (congrArg some (by kernel_rfl))
 f266 := Tryz.func195.trans (congrArg some (by kernel_rfl))
 f267 := Tryz.func191.trans (congrArg some (by kernel_rfl))
 f268 := Tryz.func186.trans (congrArg some (by kernel_rfl))
 f314 := Tryz.func196.trans (congrArg some (by kernel_rfl))
 t0 := Tryz.underlying0
 a0 := Tryz.isAgg0
 z0 := Tryz.sizeOf0
 v0 := Tryz.zeroValue0
 t3 := Tryz.underlying3
 a3 := Tryz.isAgg3
 z3 := Tryz.sizeOf3
 v3 := Tryz.zeroValue3
 t4 := Tryz.underlying4
 a4 := Tryz.isAgg4
 z4 := Tryz.sizeOf4
 v4 := Tryz.zeroValue4
 t5 := Tryz.underlying5
 a5 := Tryz.isAgg5
 z5 := Tryz.sizeOf5
 v5 := Tryz.zeroValue5
 t9 := Tryz.underlying9
 a9 := Tryz.isAgg9
 z9 := Tryz.sizeOf9
 v9 := Tryz.zeroValue9
 t21 := Tryz.underlying21
 a21 := Tryz.isAgg21
 z21 := Tryz.sizeOf21
 v21 := Tryz.zeroValue21
 t31 := Tryz.underlying139
 a31 := Tryz.isAgg139
 z31 := Tryz.sizeOf139
 v31 := Tryz.zeroValue139
 t46 := Tryz.underlying93
 a46 := Tryz.isAgg93
 z46 := Tryz.sizeOf93
 v46 := Tryz.zeroValue93
 t51 := Tryz.underlying107
 a51 := Tryz.isAgg107
 z51 := Tryz.sizeOf107
 v51 := Tryz.zeroValue107
 t105 := Tryz.underlying264
 a105 := Tryz.isAgg264
 z105 := Tryz.sizeOf264
 v105 := Tryz.zeroValue264
 t119 := Tryz.underlying268
 a119 := Tryz.isAgg268
 z119 := Tryz.sizeOf268
 t138 := Tryz.underlying270
 a138 := Tryz.isAgg270
 z138 := Tryz.sizeOf270
 v138 := Tryz.zeroValue270
 t139 := Tryz.underlying271
 a139 := Tryz.isAgg271
 z139 := Tryz.sizeOf271
 v139 := Tryz.zeroValue271
 t146 := Tryz.underlying266
 a146 := Tryz.isAgg266
 z146 := Tryz.sizeOf266
 v146 := Tryz.zeroValue266
 g1 := by kernel_rfl
 g3 := by kernel_rfl
 g4 := by kernel_rfl }
open Go.RowKit Go.Lib in
theorem Tryz.strings_Split (s sep : ByteArray) (m : Int) (w : World) (hs : s.size < 4294967281) (hm : w.cell? ⟨2, 0, none⟩ = some (.int .i64 m)) (h1 : 1 ≤ sep.size) :
  Calls Tryz.prog 162 #[.string s, .string sep] w fun e w' =>
   e = .returned (.slice (some ⟨w.heap.size, 0, none⟩) (Lib.countB s sep + 1) (Lib.countB s sep + 1)) ∧ w' = w.alloc (.cells ((Lib.splitB sep 0 (Lib.countB s sep) s).map Value.string).toArray 9) := Any.strings_Split Tryz.lays146 (by kernel_rfl) s sep m w hs hm h1
end Go.Proofs
namespace Go.Proofs.YtocofjmknnckhaaGreatDoor
open Go.En
theorem mixed : Tryz.prog.follows .mixedOrders = true := by kernel_rfl
abbrev Bs := List UInt8
def sv (s : Bs) : Value := .string ⟨s.toArray⟩
def dp (b : Nat) : Value := .pointer (some ⟨b, 0, none⟩)
def Gl (w : World) : Prop := ∃ m, w.cell? ⟨2, 0, none⟩ = some (.int .i64 m)
section
variable {w w0 : World} {S0 : Nat → Prop} {L : List Res} {K : Value → World → Prop} {P : Program} {f : FuncId} {args : List Value} {v : Value}
theorem Gl.to (h : Gl w0) (h0 : ¬ S0 2) (hS : St w0 S0 w L) : Gl w := by
 obtain ⟨m, hm⟩ := h
 refine ⟨m, ?_⟩
 have hlt : 2 < w0.heap.size := by
  unfold World.cell? at hm
  by_cases hl : 2 < w0.heap.size
  ·exact hl
  ·rw [Array.getElem?_eq_none (show _ ≤ 2 by omega)] at hm; cases hm
 have := hS.fr.kept 2 hlt h0
 unfold World.cell? at hm ⊢
 rw [this]; exact hm
theorem Gl.in (h : Gl w0) (hS : St w0 (fun _ => False) w L) : Gl w := h.to (fun h => h) hS
theorem Gl.drew (h : Gl w) : Gl w.drew := h
theorem ck_of (h : Calls P f ⟨args⟩ w fun e w' => e = .returned v ∧ w' = w) (hk : K v w) : CK P f args w K :=
 h.mono fun e w' ⟨he, hw⟩ => ⟨v, he, hw ▸ hk⟩
theorem c_Contains {s p : Bs} (hg : Gl w) (hs : s.length < 4294967281) (h : K (.bool (Lib.contains s p)) w) : CK Tryz.prog 160 [sv s, sv p] w K := by
 obtain ⟨m, hm⟩ := hg
 exact ck_of (Tryz.strings_Contains ⟨s.toArray⟩ ⟨p.toArray⟩ m w (by rw [Lib.size_eq]; exact hs) hm) h
theorem c_HasPrefix {s p : Bs} (h : K (.bool (p.isPrefixOf s)) w) : CK Tryz.prog 118 [sv s, sv p] w K :=
 ck_of (Tryz.strings_HasPrefix ⟨s.toArray⟩ ⟨p.toArray⟩ w) h
theorem c_HasSuffix {s p : Bs} (hs : s.length ≤ 9223372036854775807) (h : K (.bool (p.isSuffixOf s)) w) : CK Tryz.prog 121 [sv s, sv p] w K :=
 ck_of (Tryz.strings_HasSuffix ⟨s.toArray⟩ ⟨p.toArray⟩ w (by rw [Lib.size_eq]; exact hs)) h
def prt (s : Bs) : List Bs := (Lib.splitB ⟨#[47]⟩ 0 (Lib.countB ⟨s.toArray⟩ ⟨#[47]⟩) ⟨s.toArray⟩).map (·.data.toList)
theorem sv_of (s : ByteArray) : sv s.data.toList = .string s := by
 unfold sv
 obtain ⟨⟨l⟩⟩ := s
 rfl
theorem c_Split {s : Bs} (hg : Gl w) (hs : s.length < 4294967281) (hS : St w0 S0 w L) (h : ∀ w' b n, (prt s).length = n + 1 → n ≤ s.length → St w0 S0 w' (L ++ [cel b ((prt s).map sv) 9]) → K (.slice (some ⟨b, 0, none⟩) (n + 1) (n + 1)) w') : CK Tryz.prog 162 [sv s, sv [47]] w K := by
 obtain ⟨m, hm⟩ := hg
 have hc := Tryz.strings_Split ⟨s.toArray⟩ ⟨#[47]⟩ m w (by rw [Lib.size_eq]; exact hs) hm (by decide)
 refine hc.mono ?_
 rintro e w' ⟨rfl, rfl⟩
 refine ⟨_, rfl, ?_⟩
 have hl : (prt s).length = Lib.countB ⟨s.toArray⟩ ⟨#[47]⟩ + 1 := by
  rw [prt, List.length_map]
  exact Lib.splitB_all _ (by decide) _ _ _ rfl
 have e1 : ((Lib.splitB ⟨#[47]⟩ 0 (Lib.countB ⟨s.toArray⟩ ⟨#[47]⟩) ⟨s.toArray⟩).map Value.string) = (prt s).map sv := by
  rw [prt, List.map_map]
  refine List.map_congr_left fun x _ => ?_
  exact (sv_of x).symm
 have hS := hS.alloc ((prt s).map sv) 9
 rw [← e1] at hS
 refine h _ _ _ hl ?_ (by rw [← e1]; exact hS)
 have := Lib.countB_le ⟨#[47]⟩ (by decide) _ (⟨s.toArray⟩ : ByteArray) (Nat.le_refl _)
 rw [Lib.size_eq] at this
 exact this
end
def wrongB : Bs := [126, 94, 58, 63, 42, 91, 92]
def may (c : UInt8) : Bool := decide (33 ≤ c.toNat) && (decide (c.toNat ≤ 126) && !Lib.contains wrongB [c])
def rul (k : Nat) (s : Bs) : Bool := match k with
 | 0 => decide (s = []) || decide (100 < s.length)
 | 1 => s.any fun c => !may c
 | 2 => (prt s).any fun p => decide (p = [])
 | 3 => (prt s).any fun p => [46].isPrefixOf p
 | 4 => Lib.contains s [46, 46]
 | 5 => (prt s).any fun p => [46, 108, 111, 99, 107].isSuffixOf p
 | 6 => [46].isSuffixOf s
 | _ => Lib.contains s [64, 123]
def brkF (s : Bs) : Nat → Nat → Nat
 | 0, _ => 0
 | n + 1, k => if rul k s then k + 1 else brkF s n (k + 1)
def brk (s : Bs) : Nat := brkF s 8 0
theorem brkF_0 (s : Bs) : ∀ (n k : Nat), brkF s n k = 0 → ∀ j, k ≤ j → j < k + n → rul j s = false
 | 0, k, _, j, h1, h2 => by omega
 | n + 1, k, h, j, h1, h2 => by
  unfold brkF at h
  split at h
  ·omega
  ·rename_i hr
   by_cases e : j = k
   ·subst e; simpa using hr
   ·exact brkF_0 s n (k + 1) h j (by omega) (by omega)
theorem brkF_n (s : Bs) : ∀ (n k : Nat), (∀ j, k ≤ j → j < k + n → rul j s = false) → brkF s n k = 0
 | 0, _, _ => rfl
 | n + 1, k, h => by
  unfold brkF
  rw [if_neg (by rw [h k (Nat.le_refl _) (by omega)]; simp)]
  exact brkF_n s n (k + 1) fun j h1 h2 => h j (by omega) (by omega)
theorem brkF_at (s : Bs) : ∀ (n k i : Nat), i < n → (∀ j, k ≤ j → j < k + i → rul j s = false) → rul (k + i) s = true → brkF s n k = k + i + 1
 | 0, _, _, h, _, _ => by omega
 | n + 1, k, i, h, hl, hr => by
  unfold brkF
  by_cases e : i = 0
  ·subst e
   rw [if_pos (by simpa using hr)]
  ·rw [if_neg (by rw [hl k (Nat.le_refl _) (by omega)]; simp)]
   have := brkF_at s n (k + 1) (i - 1) (by omega) (fun j h1 h2 => hl j (by omega) (by omega)) (by rw [show k + 1 + (i - 1) = k + i by omega]; exact hr)
   rw [this]; omega
section
variable {w w0 : World} {S0 : Nat → Prop} {L B : List Res} {K : Value → World → Prop} {s : Bs}
theorem b_r1 (h : K (.bool (rul 0 s)) w) : CK Tryz.prog 113 [sv s] w K := by
 refine call_k Tryz.func113 k113 Tryz.ntmps113 (Nat.le_of_ble_eq_true rfl) ?_
 refine gW ?_
 have e : rul 0 s = (decide (s = []) || decide (100 < s.length)) := rfl
 generalize hq : decide ((⟨s.toArray⟩ : ByteArray).data.toList = (⟨#[]⟩ : ByteArray).data.toList) = q
 have hq2 : decide (s = []) = q := hq
 rw [e, hq2] at h
 cases q
 ·refine gW ?_
  refine g_ret (q_1 rfl ?_)
  simp only [cmv]
  simp only [Bool.false_or] at h
  have e2 : decide ((100 : Int) < ((⟨s.toArray⟩ : ByteArray).size : Nat)) = decide (100 < s.length) := by
   rw [decide_eq_decide]
   show (100 : Int) < (s.length : Int) ↔ _
   omega
  rw [e2]
  exact h
 ·refine gW ?_
  exact g_ret (q_1 rfl h)
theorem b_r2 (h : K (.bool (decide (s = []))) w) : CK Tryz.prog 116 [sv s] w K := by
 refine call_k Tryz.func116 k116 Tryz.ntmps116 (Nat.le_of_ble_eq_true rfl) ?_
 refine gW ?_
 exact g_ret (q_1 rfl h)
theorem b_r3 (h : K (.bool ([46].isPrefixOf s)) w) : CK Tryz.prog 117 [sv s] w K := by
 refine call_k Tryz.func117 k117 Tryz.ntmps117 (Nat.le_of_ble_eq_true rfl) ?_
 refine gW ?_
 refine g_cl rfl rfl (c_HasPrefix (s := s) (p := [46]) ?_)
 refine gW ?_
 exact g_ret (q_1 rfl h)
theorem b_r4 (hs : s.length ≤ 9223372036854775807) (h : K (.bool ([46, 108, 111, 99, 107].isSuffixOf s)) w) : CK Tryz.prog 120 [sv s] w K := by
 refine call_k Tryz.func120 k120 Tryz.ntmps120 (Nat.le_of_ble_eq_true rfl) ?_
 refine gW ?_
 refine g_cl rfl rfl (c_HasSuffix (s := s) (p := [46, 108, 111, 99, 107]) hs ?_)
 refine gW ?_
 exact g_ret (q_1 rfl h)
theorem b_r5 (hs : s.length ≤ 9223372036854775807) (h : K (.bool ([46].isSuffixOf s)) w) : CK Tryz.prog 122 [sv s] w K := by
 refine call_k Tryz.func122 k122 Tryz.ntmps122 (Nat.le_of_ble_eq_true rfl) ?_
 refine gW ?_
 refine g_cl rfl rfl (c_HasSuffix (s := s) (p := [46]) hs ?_)
 refine gW ?_
 exact g_ret (q_1 rfl h)
theorem b_has {p : Bs} {b : Nat} (hg : Gl w) (hs : s.length < 4294967281) (hB : Blk w b [sv p] 9) (h : K (.bool (Lib.contains s p)) w) : CK Tryz.prog 164 [sv s, dp b] w K := by
 refine call_k Tryz.func164 k164 Tryz.ntmps164 (Nat.le_of_ble_eq_true rfl) ?_
 refine gW ?_
 refine g_l1 rfl rfl hB rfl ?_
 refine g_cl rfl rfl (c_Contains (s := s) (p := p) hg hs ?_)
 refine gW ?_
 exact g_ret (q_1 rfl h)
theorem dec_1 {s : Bs} {k : Nat} (hk : k < s.length) (hb : s[k].toNat < 128) : Utf8.decode ⟨s.toArray⟩ k = (s[k].toNat, 1) := by
 have e : ((⟨s.toArray⟩ : ByteArray).get! (k + 0)) = s[k] := by
  show (s.toArray)[k + 0]! = s[k]
  simp [hk]
 unfold Utf8.decode
 simp only [e]
 rw [if_pos (by simpa using hb)]
theorem dec_2 {s : Bs} {k : Nat} (hk : k < s.length) (hb : ¬ s[k].toNat < 128) : 128 ≤ (Utf8.decode ⟨s.toArray⟩ k).1 := by
 have e : ((⟨s.toArray⟩ : ByteArray).get! (k + 0)) = s[k] := by
  show (s.toArray)[k + 0]! = s[k]
  simp [hk]
 have hr : Utf8.runeError = 65533 := rfl
 unfold Utf8.decode
 simp only [e]
 rw [if_neg (by simpa using hb)]
 split
 ·split
  ·simp only; omega
  ·rw [hr]; simp
 ·split
  ·split
   ·rename_i h; simp only [Bool.and_eq_true, decide_eq_true_eq] at h; have := h.1; simp only; omega
   ·rw [hr]; simp
  ·split
   ·split
    ·rename_i h; simp only [Bool.and_eq_true, decide_eq_true_eq] at h; have := h.1; simp only; omega
    ·rw [hr]; simp
   ·rw [hr]; simp
theorem enc_1 {c : UInt8} (h : c.toNat < 128) : Utf8.encode ((c.toNat : Nat) : Int) = ⟨#[c]⟩ := by
 have hv : Utf8.valid ((c.toNat : Nat) : Int) = true := by
  unfold Utf8.valid
  simp
  omega
 unfold Utf8.encode
 rw [if_pos hv]
 simp [h]
theorem b_byte (hg : Gl w) (h : ∀ w', St w (fun _ => False) w' [] → K (.bool (s.any fun c => !may c)) w') : CK Tryz.prog 114 [sv s] w K := by
 refine call_k Tryz.func114 k114 Tryz.ntmps114 (Nat.le_of_ble_eq_true rfl) ?_
 refine gW ?_
 refine g_ef rfl (ef_rg (s := ⟨s.toArray⟩) (St.nil w (fun _ => False)) rfl fun b w1 hS => ?_)
 refine gW ?_
 refine g_lp (ι := Nat) (fun k => [(0, sv s), (6, dp b)]) (fun k w' => k ≤ s.length ∧ (∀ j (hj : j < k) (hl : j < s.length), may s[j] = true) ∧ St w (fun _ => False) w' [obj b (.stringIter ⟨s.toArray⟩ k)]) (fun k => s.length - k) 0
  ⟨rfl, rfl, trivial⟩ ⟨Nat.zero_le _, fun j hj => absurd hj (Nat.not_lt_zero j), hS⟩ ?_
 clear hS
 rintro k w1 ⟨hk, hm, hS⟩
 refine gW ?_
 refine g_ef rfl (ef_nx hS 0 rfl rfl (fun hlt w1 hS => ?_) (fun hge => ?_))
 ·have hlt : k < s.length := hlt
  refine gW ?_
  by_cases hb : s[k].toNat < 128
  ·rw [dec_1 hlt hb] at hS ⊢
   generalize hq1 : cmv BinOp.lss ((s[k].toNat : Nat) : Int) 33 = q1
   have bad : may s[k] = false → s.any (fun c => !may c) = true := fun h => List.any_eq_true.2 ⟨s[k], List.getElem_mem hlt, by simp [h]⟩
   cases q1
   all_goals simp only [cmv, decide_eq_true_eq, decide_eq_false_iff_not] at hq1
   rotate_left
   ·refine gW ?_
    have e := bad (by unfold may; rw [decide_eq_false (by omega)]; rfl)
    rw [e] at h
    exact g_ret (q_1 rfl (h _ (hS.sel [] rfl rfl)))
   refine gW ?_
   generalize hq2 : cmv BinOp.gtr ((s[k].toNat : Nat) : Int) 126 = q2
   cases q2
   all_goals simp only [cmv, decide_eq_true_eq, decide_eq_false_iff_not] at hq2
   rotate_left
   ·refine gW ?_
    have e := bad (by unfold may; rw [decide_eq_false (show ¬ s[k].toNat ≤ 126 by omega), Bool.false_and, Bool.and_false])
    rw [e] at h
    exact g_ret (q_1 rfl (h _ (hS.sel [] rfl rfl)))
   refine gW ?_
   rw [enc_1 hb]
   refine g_cl rfl rfl (c_Contains (s := wrongB) (p := [s[k]]) (hg.in hS) (by decide) ?_)
   refine gW ?_
   refine g_cd (t := Lib.contains wrongB [s[k]]) rfl (fun hc => ?_) (fun hc => ?_)
   ·refine gW ?_
    have e := bad (by unfold may; rw [hc]; simp)
    rw [e] at h
    exact g_ret (q_1 rfl (h _ (hS.sel [] rfl rfl)))
   ·refine gW ?_
    refine g_l (k + 1) ⟨rfl, rfl, trivial⟩ ⟨hlt, fun j hj hl => ?_, hS⟩ (by omega)
    by_cases e : j = k
    ·subst e
     unfold may
     rw [decide_eq_true (show 33 ≤ s[j].toNat by omega), decide_eq_true (show s[j].toNat ≤ 126 by omega), hc]
     rfl
    ·exact hm j (by omega) hl
  ·have hd := dec_2 hlt hb
   generalize Utf8.decode ⟨s.toArray⟩ k = dc at hS hd ⊢
   have e : s.any (fun c => !may c) = true := List.any_eq_true.2 ⟨s[k], List.getElem_mem hlt, by
    unfold may
    rw [decide_eq_false (show ¬ s[k].toNat ≤ 126 by omega)]
    simp⟩
   rw [e] at h
   generalize hq1 : cmv BinOp.lss (dc.1 : Int) 33 = q1
   cases q1
   all_goals simp only [cmv, decide_eq_true_eq, decide_eq_false_iff_not] at hq1
   ·refine gW ?_
    generalize hq2 : cmv BinOp.gtr (dc.1 : Int) 126 = q2
    cases q2
    all_goals simp only [cmv, decide_eq_true_eq, decide_eq_false_iff_not] at hq2
    ·omega
    refine gW ?_
    exact g_ret (q_1 rfl (h _ (hS.sel [] rfl rfl)))
   ·omega
 ·have hge : ¬ k < s.length := hge
  have e : s.any (fun c => !may c) = false := by
   rw [List.any_eq_false]
   intro c hc
   obtain ⟨j, hj, rfl⟩ := List.getElem_of_mem hc
   simp [hm j (by omega) hj]
  rw [e] at h
  refine gW ?_
  exact g_ret (q_1 rfl (h _ (hS.sel [] rfl rfl)))
theorem b_part {bad : Bs → Bool} {q b : Nat} (hq : ∀ {w : World} {K : Value → World → Prop} {p : Bs}, p ∈ prt s → K (.bool (bad p)) w → CK Tryz.prog q [sv p] w K) (he : ∀ (args : Array Value) (w : World), (callFunc q args).run Tryz.prog w = .ok (.enter q args) w)
  (hg : Gl w) (hs : s.length < 4294967281) (hB : Blr w b [.func (.func q) ⟨[]⟩ ⟨[]⟩] 122) (h : ∀ w', St w (fun _ => False) w' [] → K (.bool ((prt s).any bad)) w') : CK Tryz.prog 161 [sv s, dp b] w K := by
 refine call_k Tryz.func161 k161 Tryz.ntmps161 (Nat.le_of_ble_eq_true rfl) ?_
 refine gW ?_
 refine g_cl rfl rfl (c_Split (s := s) hg hs (St.nil w (fun _ => False)) fun w1 g n hn hns hS => ?_)
 have hBr : ∀ {w' : World} {L' : List Res}, St w (fun _ => False) w' L' → Blr w' b [.func (.func q) ⟨[]⟩ ⟨[]⟩] 122 := fun hS => hB.same (hS.fr.kept b hB.lt (fun h => h))
 refine gW ?_
 refine g_lp (ι := Nat) (fun k => [(0, sv s), (1, dp b), (7, .slice (some ⟨g, 0, none⟩) (n + 1) (n + 1)), (8, .int .i64 ((n + 1 : Nat) : Int)), (9, .int .i64 k)]) (fun k w' => k ≤ n + 1 ∧ (∀ j (hj : j < (prt s).length), j < k → bad (prt s)[j] = false) ∧ St w (fun _ => False) w' [cel g ((prt s).map sv) 9]) (fun k => n + 1 - k) 0
  ⟨rfl, rfl, rfl, rfl, rfl, trivial⟩ ⟨Nat.zero_le _, fun j _ hj => absurd hj (Nat.not_lt_zero j), hS⟩ ?_
 clear hS
 rintro k w1 ⟨hk, hm, hS⟩
 refine gW ?_
 refine g_cd rfl (fun hc => ?_) (fun hc => ?_)
 all_goals simp only [cmv, decide_eq_true_eq, decide_eq_false_iff_not] at hc
 ·have hlt : k < (prt s).length := by omega
  have hp : (prt s)[k]? = some (prt s)[k] := List.getElem?_eq_getElem hlt
  have hpm : (prt s)[k] ∈ prt s := List.getElem_mem hlt
  have hmk := hm
  refine gW ?_
  refine g_rq rfl rfl ⟨by omega, by omega⟩ ?_
  refine g_l1 (v := sv (prt s)[k]) rfl rfl (hS.b 0 rfl) (by rw [Nat.zero_add, Int.toNat_natCast, Nat.mul_one, List.getElem?_map, hp]; rfl) ?_
  refine gW ?_
  refine g_l1r rfl rfl (hBr hS) rfl ?_
  refine gW ?_
  refine g_ef rfl (ef_cv (vs := [sv (prt s)[k]]) rfl rfl he (hq hpm ?_))
  refine gW ?_
  refine g_cd (t := bad (prt s)[k]) rfl (fun hc2 => ?_) (fun hc2 => ?_)
  ·have e : (prt s).any bad = true := List.any_eq_true.2 ⟨_, hpm, hc2⟩
   rw [e] at h
   refine gW ?_
   exact g_ret (q_1 rfl (h _ (hS.sel [] rfl rfl)))
  ·refine gW ?_
   refine g_rq rfl rfl (in64 (by simp only [arv]; omega)) ?_
   refine gW ?_
   refine g_l (k + 1) ⟨rfl, rfl, rfl, rfl, rfl, trivial⟩ ⟨by omega, fun j hj hl => ?_, hS⟩ (by omega)
   by_cases e : j = k
   ·subst e; exact hc2
   ·exact hm j hj (by omega)
 ·have e : (prt s).any bad = false := by
   rw [List.any_eq_false]
   intro c hc
   obtain ⟨j, hj, rfl⟩ := List.getElem_of_mem hc
   simp [hm j hj (by omega)]
  rw [e] at h
  refine gW ?_
  exact g_ret (q_1 rfl (h _ (hS.sel [] rfl rfl)))
end
section
variable {w w0 : World} {S0 : Nat → Prop} {L B : List Res} {K : Value → World → Prop} {s : Bs}
theorem _root_.Go.En.St.init {r : Res} (hS : St w0 S0 w (L ++ [r])) : St w0 S0 w L := hS.front.tail
def fvl (a2 a3 h4 a5 h7 : Nat) : Nat → Value
 | 0 => .func (.func 113) ⟨[]⟩ ⟨[]⟩
 | 1 => .func (.func 114) ⟨[]⟩ ⟨[]⟩
 | 2 => .func (.func 161) ⟨[]⟩ ⟨[dp a2]⟩
 | 3 => .func (.func 161) ⟨[]⟩ ⟨[dp a3]⟩
 | 4 => .func (.func 164) ⟨[]⟩ ⟨[dp h4]⟩
 | 5 => .func (.func 161) ⟨[]⟩ ⟨[dp a5]⟩
 | 6 => .func (.func 122) ⟨[]⟩ ⟨[]⟩
 | _ => .func (.func 164) ⟨[]⟩ ⟨[dp h7]⟩
def rcl (fv : Nat → Value) (k : Nat) : List Value := [.int .i64 ((k + 1 : Nat) : Int), fv k]
def ruM (b g a2 a3 h4 a5 h7 : Nat) : List Res :=
 [cel a2 [.func (.func 116) ⟨[]⟩ ⟨[]⟩] 122, cel a3 [.func (.func 117) ⟨[]⟩ ⟨[]⟩] 122, cel h4 [sv [46, 46]] 9, cel a5 [.func (.func 120) ⟨[]⟩ ⟨[]⟩] 122, cel h7 [sv [64, 123]] 9,
  cel g (((List.range 8).map (rcl (fvl a2 a3 h4 a5 h7))).flatten) 124, cel b [.slice (some ⟨g, 0, none⟩) 8 8] 198]
theorem b_byPartF {v : Value} {i : Nat} (hS : St w0 S0 w L) (hv : v.cells.toList = [v]) (h : ∀ w' b, St w0 S0 w' (L ++ [cel b [v] 122]) → K (.func (.func 161) ⟨[]⟩ ⟨[dp b]⟩) w') : CK Tryz.prog 115 [v] w K := by
 refine call_k Tryz.func115 k115 Tryz.ntmps115 (Nat.le_of_ble_eq_true rfl) ?_
 refine gW ?_
 refine g_ef rfl (ef_bx hS rfl fun b w hS => ?_)
 rw [hv] at hS
 refine gW ?_
 exact g_ret (q_1 rfl (h _ _ hS))
theorem b_hasF {p : Bs} (hS : St w0 S0 w L) (h : ∀ w' b, St w0 S0 w' (L ++ [cel b [sv p] 9]) → K (.func (.func 164) ⟨[]⟩ ⟨[dp b]⟩) w') : CK Tryz.prog 119 [sv p] w K := by
 refine call_k Tryz.func119 k119 Tryz.ntmps119 (Nat.le_of_ble_eq_true rfl) ?_
 refine gW ?_
 refine g_ef rfl (ef_bx hS rfl fun b w hS => ?_)
 refine gW ?_
 exact g_ret (q_1 rfl (h _ _ hS))
theorem b_rules (h : ∀ w' b g a2 a3 h4 a5 h7, St w (fun _ => False) w' (ruM b g a2 a3 h4 a5 h7) → K (.func (.func 123) ⟨[]⟩ ⟨[dp b]⟩) w') : CK Tryz.prog 61 [] w K := by
 have hS := St.nil w (fun _ => False)
 refine call_k Tryz.func61 k61 Tryz.ntmps61 (Nat.le_of_ble_eq_true rfl) ?_
 refine gW ?_
 refine g_cl rfl rfl (b_byPartF (i := 0) hS rfl fun w a2 hS => ?_)
 refine gW ?_
 refine g_cl rfl rfl (b_byPartF (i := 0) hS rfl fun w a3 hS => ?_)
 refine gW ?_
 refine g_cl rfl rfl (b_hasF (p := [46, 46]) hS fun w h4 hS => ?_)
 refine gW ?_
 refine g_cl rfl rfl (b_byPartF (i := 0) hS rfl fun w a5 hS => ?_)
 refine gW ?_
 refine g_cl rfl rfl (b_hasF (p := [64, 123]) hS fun w h7 hS => ?_)
 refine gW ?_
 refine g_ef rfl (ef_bl (rs := ((List.range 8).map (rcl (fvl a2 a3 h4 a5 h7))).flatten) hS rfl fun g w hS => ?_)
 refine g_ef rfl (ef_al hS fun b w hS => ?_)
 refine g_ef0 rfl (ef_st hS 6 rfl rfl rfl rfl (Nat.le_of_ble_eq_true rfl) rfl fun w hS => ?_)
 refine gW ?_
 exact g_ret (q_1 rfl (h _ _ _ _ _ _ _ _ hS))
theorem rcl_at (fv : Nat → Value) {k : Nat} (hk : k < 8) : List.take 2 (List.drop (0 + k * 2) ((List.range 8).map (rcl fv)).flatten) = rcl fv k := by
 rcases k with _ | _ | _ | _ | _ | _ | _ | _ | k <;> first | rfl | omega
theorem d_rules6 {fv : Nat → Value} {b g l i j : Nat} {Pk : Nat → Prop} (hfv : ∀ k, (fv k).oneCell' = true) (hi : L[i]? = some (cel b [.slice (some ⟨g, 0, none⟩) 8 8] 198)) (hj : L[j]? = some (cel g (((List.range 8).map (rcl fv)).flatten) 124)) (hS : St w0 S0 w L)
  (hy : ∀ (k : Nat) (w : World), k < 8 → (∀ n, n < k → Pk n) → St w0 S0 w L → Yd Tryz.prog l [.agg ⟨rcl fv k⟩] w fun v w' => (v = .bool true ∧ Pk k ∧ St w0 S0 w' L) ∨ (v = .bool false ∧ K (.tuple ⟨[]⟩) w'))
  (he : ∀ w, (∀ n, n < 8 → Pk n) → St w0 S0 w L → K (.tuple ⟨[]⟩) w) : CK Tryz.prog 123 [.func (.yield l) ⟨[]⟩ ⟨[]⟩, dp b] w K := by
 refine call_k Tryz.func123 k123 Tryz.ntmps123 (Nat.le_of_ble_eq_true rfl) ?_
 refine gW ?_
 refine g_l1 rfl rfl (hS.b i hi) rfl ?_
 refine gW ?_
 refine g_lp (ι := Nat) (fun k => [(0, .func (.yield l) ⟨[]⟩ ⟨[]⟩), (5, .slice (some ⟨g, 0, none⟩) 8 8), (6, .int .i64 8), (7, .int .i64 k)]) (fun k w => k ≤ 8 ∧ (∀ n, n < k → Pk n) ∧ St w0 S0 w L) (fun k => 8 - k) 0 ⟨rfl, rfl, rfl, rfl, trivial⟩ ⟨Nat.zero_le _, fun n hn => absurd hn (Nat.not_lt_zero n), hS⟩ ?_
 clear hS
 rintro k w ⟨hk, hP, hS⟩
 refine gW ?_
 refine g_cd rfl (fun hc => ?_) (fun hc => ?_)
 all_goals simp only [cmv, decide_eq_true_eq, decide_eq_false_iff_not] at hc
 ·have hlt : k < 8 := by omega
  refine gW ?_
  refine g_rq rfl rfl ⟨by omega, by omega⟩ ?_
  refine g_lm rfl rfl (hS.b j hj) (by show 0 + (k : Int).toNat * 2 + 2 ≤ 16; rw [Int.toNat_natCast]; omega) ?_
  rw [Int.toNat_natCast, rcl_at fv hlt]
  refine g_ef rfl (ef_al hS fun g4 w hS => ?_)
  have hi2 : (L ++ [cel g4 (zx [(1, .int .i64 0), (1, .nilFunc)]) 124])[L.length]? = some (cel g4 (zx [(1, .int .i64 0), (1, .nilFunc)]) 124) := by
   rw [List.getElem?_append_right (Nat.le_refl _), Nat.sub_self]; rfl
  have h1c : (rcl fv k).all (·.oneCell') = true := by
   have := hfv k
   simp only [rcl, List.all_cons, List.all_nil, Bool.and_true, this]
   rfl
  refine g_ef0 rfl (ef_st hS L.length hi2 rfl rfl rfl (Nat.le_of_ble_eq_true rfl) h1c fun w hS => ?_)
  rw [List.set_append_right _ _ (Nat.le_refl _), Nat.sub_self, List.set_cons_zero] at hS
  have hi3 : (L ++ [cel g4 (rcl fv k) 124])[L.length]? = some (cel g4 (rcl fv k) 124) := by
   rw [List.getElem?_append_right (Nat.le_refl _), Nat.sub_self]; rfl
  have hS : St w0 S0 w (L ++ [cel g4 (rcl fv k) 124]) := hS
  refine gW ?_
  refine g_lm rfl rfl (hS.b _ hi3) (Nat.le_of_ble_eq_true rfl) ?_
  refine g_ef rfl (ef_yd (vs := [.agg ⟨rcl fv k⟩]) rfl rfl ((hy k w hlt hP hS.init).mono ?_))
  rintro v w' (⟨rfl, hn, hS⟩ | ⟨rfl, hK⟩)
  ·refine gW ?_
   refine g_rq rfl rfl (in64 (by simp only [arv]; omega)) ?_
   refine gW ?_
   refine g_l (k + 1) ⟨rfl, rfl, rfl, rfl, trivial⟩ ⟨by omega, fun n hn' => ?_, hS⟩ (by omega)
   by_cases e : n = k
   ·subst e; exact hn
   ·exact hP n (by omega)
  ·refine gW ?_
   exact g_ret (q_0 hK)
 ·have e : k = 8 := by omega
  subst e
  refine gW ?_
  exact q_n (he _ hP hS)
theorem splitB_le (sep : ByteArray) : ∀ (k : Nat) (s p : ByteArray), p ∈ Lib.splitB sep 0 k s → p.size ≤ s.size
 | 0, s, p, h => by simp [Lib.splitB] at h; subst h; exact Nat.le_refl _
 | k + 1, s, p, h => by
  unfold Lib.splitB at h
  split at h
  ·simp at h; subst h; exact Nat.le_refl _
  ·rcases List.mem_cons.1 h with h | h
   ·subst h; rw [ByteArray.size_extract]; omega
   ·have := splitB_le sep k _ p h
    rw [ByteArray.size_extract] at this
    omega
theorem prt_le {p : Bs} (h : p ∈ prt s) : p.length ≤ s.length := by
 simp only [prt, List.mem_map] at h
 obtain ⟨q, hq, rfl⟩ := h
 have := splitB_le _ _ _ _ hq
 rw [Lib.size_eq, Lib.size_eq] at this
 exact this
theorem fvl_call {a2 a3 h4 a5 h7 k b g : Nat} (hk : k < 8) (hg : Gl w) (hs : 0 < k → s.length ≤ 100) (hS : St w0 S0 w (ruM b g a2 a3 h4 a5 h7 ++ B)) :
  ∃ f cap, fvl a2 a3 h4 a5 h7 k = .func (.func f) ⟨[]⟩ ⟨cap⟩ ∧ (∀ (args : Array Value) (w : World), (callFunc f args).run Tryz.prog w = .ok (.enter f args) w) ∧
   ∀ {K : Value → World → Prop}, (∀ w', St w0 S0 w' (ruM b g a2 a3 h4 a5 h7 ++ B) → K (.bool (rul k s)) w') → CK Tryz.prog f ([sv s] ++ cap) w K := by
 have hfr : ∀ {w' : World}, St w (fun _ => False) w' [] → St w0 S0 w' (ruM b g a2 a3 h4 a5 h7 ++ B) := fun h => by
  have := hS.call0.2 _ _ h
  rwa [List.append_nil] at this
 have p1 : s.length ≤ 100 → ∀ p ∈ prt s, p.length ≤ 9223372036854775807 := fun hl p hp => by
  have := prt_le hp; omega
 rcases k with _ | _ | _ | _ | _ | _ | _ | _ | k
 ·exact ⟨_, _, rfl, callFunc_of Tryz.func113 rfl rfl, fun h => b_r1 (h _ hS)⟩
 ·exact ⟨_, _, rfl, callFunc_of Tryz.func114 rfl rfl, fun h => b_byte hg fun w' h' => h _ (hfr h')⟩
 ·have hl := hs (by decide)
  exact ⟨_, _, rfl, callFunc_of Tryz.func161 rfl rfl, fun h => b_part (bad := fun p => decide (p = [])) (fun _ h => b_r2 h) (callFunc_of Tryz.func116 rfl rfl) hg (by omega) (hS.b 0 rfl).r fun w' h' => h _ (hfr h')⟩
 ·have hl := hs (by decide)
  exact ⟨_, _, rfl, callFunc_of Tryz.func161 rfl rfl, fun h => b_part (bad := fun p => [46].isPrefixOf p) (fun _ h => b_r3 h) (callFunc_of Tryz.func117 rfl rfl) hg (by omega) (hS.b 1 rfl).r fun w' h' => h _ (hfr h')⟩
 ·have hl := hs (by decide)
  exact ⟨_, _, rfl, callFunc_of Tryz.func164 rfl rfl, fun h => b_has hg (by omega) (hS.b 2 rfl) (h _ hS)⟩
 ·have hl := hs (by decide)
  exact ⟨_, _, rfl, callFunc_of Tryz.func161 rfl rfl, fun h => b_part (bad := fun p => [46, 108, 111, 99, 107].isSuffixOf p) (fun hp h => b_r4 (p1 hl _ hp) h) (callFunc_of Tryz.func120 rfl rfl) hg (by omega) (hS.b 3 rfl).r fun w' h' => h _ (hfr h')⟩
 ·have hl := hs (by decide)
  exact ⟨_, _, rfl, callFunc_of Tryz.func122 rfl rfl, fun h => b_r5 (by omega) (h _ hS)⟩
 ·have hl := hs (by decide)
  exact ⟨_, _, rfl, callFunc_of Tryz.func164 rfl rfl, fun h => b_has hg (by omega) (hS.b 4 rfl) (h _ hS)⟩
 ·omega
theorem b_Breaks (hg : Gl w) (h : ∀ w', St w (fun _ => False) w' [] → K (.int .i64 (brk s)) w') : CK Tryz.prog 35 [sv s] w K := by
 have hS := St.nil w (fun _ => False)
 refine call_k Tryz.func35 k35 Tryz.ntmps35 (Nat.le_of_ble_eq_true rfl) ?_
 refine gW ?_
 refine g_ef rfl (ef_bx hS rfl fun b1 w1 hS => ?_)
 refine gW ?_
 refine g_sc rfl ?_
 refine gW ?_
 refine g_ef rfl (ef_al hS fun b3 w1 hS => ?_)
 refine g_ef0 rfl (ef_st hS 1 rfl rfl rfl rfl (Nat.le_of_ble_eq_true rfl) rfl fun w1 hS => ?_)
 have hS : St w (fun _ => False) w1 [cel b1 [sv s] 9, cel b3 [.int .i64 0] 3] := hS
 refine gW ?_
 refine g_cl rfl rfl (b_rules fun w2 b g a2 a3 h4 a5 h7 h' => ?_)
 have hS := hS.call0.2 _ _ h'
 have hS := selB' (A := [_, _]) (B := ruM b g a2 a3 h4 a5 h7) hS [0, 1] rfl rfl
 have hS : St w (fun _ => False) w2 [cel b1 [sv s] 9, cel b3 [.int .i64 0] 3, _, _, _, _, _, _, _] := hS
 have hS := hS.sel [2, 3, 4, 5, 6, 7, 8, 0, 1] rfl rfl
 have hS : St w (fun _ => False) w2 (ruM b g a2 a3 h4 a5 h7 ++ [cel b1 [sv s] 9, cel b3 [.int .i64 0] 3]) := hS
 refine g_r0 ?_
 refine g_atd 1 [(3, dp b3)] (fun D1 w' => ∃ dB, D1 = [⟨.collected dB, #[]⟩] ∧ St w (fun _ => False) w' [cel b3 [.int .i64 (brk s)] 3, obj dB (.deferred (some []))]) rfl ?_ ?_
 ·refine gW ?_
  refine g_wkc (T' := [(5, .func (.func 123) ⟨[]⟩ ⟨[dp b]⟩), (1, dp b1), (3, dp b3)]) ⟨rfl, rfl, rfl, trivial⟩ ?_
  refine g_rf (cap := [dp b]) (first := []) hS rfl (callFunc_of Tryz.func123 rfl rfl) fun l dB w2 hS => ?_
  have hfv : ∀ k, (fvl a2 a3 h4 a5 h7 k).oneCell' = true := fun k => by
   rcases k with _ | _ | _ | _ | _ | _ | _ | k <;> rfl
  refine d_rules6 (i := 6) (j := 5) (Pk := fun k => rul k s = false) hfv rfl rfl hS ?_ ?_
  ·clear hS
   intro k w2 hk hP hS
   refine yd_of hS 10 rfl rfl ?_
   refine gW ?_
   refine g_ef rfl (ef_al hS fun b4 w2 hS => ?_)
   have h1c : (rcl (fvl a2 a3 h4 a5 h7) k).all (·.oneCell') = true := by
    have := hfv k
    simp only [rcl, List.all_cons, List.all_nil, Bool.and_true, this]
    rfl
   refine g_ef0 rfl (ef_st hS 11 rfl rfl rfl rfl (Nat.le_of_ble_eq_true rfl) h1c fun w2 hS => ?_)
   have hS := hS.ceq (l' := rcl (fvl a2 a3 h4 a5 h7) k) 11 rfl rfl
   refine gW ?_
   refine ⟨rfl, _, _, hS, rfl, fun w2 hS => ?_⟩
   refine gW ?_
   refine g_l1 rfl rfl (hS.b  11 rfl) rfl ?_
   refine g_l1 rfl rfl (hS.b  7 rfl) rfl ?_
   have hS : St w (fun _ => False) w2 (ruM b g a2 a3 h4 a5 h7 ++ [cel b1 [sv s] 9, cel b3 [.int .i64 0] 3, _, _, _]) := hS
   obtain ⟨f, cap, e, hent, hcall⟩ := fvl_call hk (hg.in hS) (s := s) (fun hk0 => by
    have := hP 0 hk0
    simp only [rul, Bool.or_eq_false_iff, decide_eq_false_iff_not] at this
    omega) hS
   rw [e]
   refine g_ef rfl (ef_cv (vs := [sv s]) rfl rfl hent (hcall fun w2 hS => ?_))
   refine g_r0 ?_
   refine g_cd (t := rul k s) rfl (fun hr => ?_) (fun hr => ?_)
   ·refine gW ?_
    refine g_l1 rfl rfl (hS.b  11 rfl) rfl ?_
    refine gW ?_
    refine g_ef0 rfl (ef_st hS 8 rfl rfl rfl rfl (Nat.le_of_ble_eq_true rfl) rfl fun w2 hS => ?_)
    refine g_r0 ?_
    refine g_xt (k_xo rfl ?_)
    refine ⟨_, _, hS, rfl, fun w2 hS => .inr ⟨rfl, ?_⟩⟩
    refine ⟨_, 10, _, _, hS, rfl, (fun h => nomatch h), fun w2 hS => ?_⟩
    refine k_xt rfl (g_jd ⟨rfl, trivial⟩ ⟨dB, rfl, ?_⟩)
    have e : brk s = k + 1 := by
     have := brkF_at s 8 0 k hk (fun j _ h2 => hP j (by omega)) (by rw [Nat.zero_add]; exact hr)
     rw [Nat.zero_add] at this
     exact this
    rw [e]
    exact hS.sel [8, 9] rfl rfl
   ·refine gW ?_
    exact ⟨_, _, hS.sel [0, 1, 2, 3, 4, 5, 6, 7, 8, 9, 10] rfl rfl, rfl, fun w2 hS => .inl ⟨rfl, hr, hS⟩⟩
  ·clear hS
   intro w2 hP hS
   refine ⟨_, 10, _, _, hS, rfl, (fun h => nomatch h), fun w2 hS => ?_⟩
   refine g_b (g_jd ⟨rfl, trivial⟩ ⟨dB, rfl, ?_⟩)
   have e : brk s = 0 := brkF_n s 8 0 fun j _ h2 => hP j (by omega)
   rw [e]
   exact hS.sel [8, 9] rfl rfl
 ·clear hS
  rintro T D1 w1 hT ⟨dB, rfl, hS⟩
  refine g_wkc hT ?_
  refine gW ?_
  refine g_l1 rfl rfl (hS.b  0 rfl) rfl ?_
  refine gW ?_
  refine g_ret (q_dr hS 1 rfl fun w hS => q_1 rfl (h _ (hS.sel [] rfl rfl)))
def nmE (s : Bs) : Int := if brk s = 0 then 0 else 40
theorem b_Check (hg : Gl w) (h : ∀ w', St w (fun _ => False) w' [] → K (.int .i64 (nmE s)) w') : CK Tryz.prog 16 [sv s] w K := by
 refine call_k Tryz.func16 k16 Tryz.ntmps16 (Nat.le_of_ble_eq_true rfl) ?_
 refine gW ?_
 refine g_cl rfl rfl (b_Breaks hg fun w' hS => ?_)
 refine gW ?_
 (refine g_cd rfl (fun hc => ?_) (fun hc => ?_) <;> simp only [cmv, arv, Bool.not_eq_true', Bool.not_eq_false', decide_eq_true_eq, decide_eq_false_iff_not] at hc)
 ·refine gW ?_
  have e : nmE s = 40 := by unfold nmE; rw [if_neg (by omega)]
  rw [e] at h
  exact g_ret (q_1 rfl (h _ hS))
 ·refine gW ?_
  have e : nmE s = 0 := by unfold nmE; rw [if_pos (by omega)]
  rw [e] at h
  exact g_ret (q_1 rfl (h _ hS))
theorem c_Check (hg : Gl w) (hS : St w0 S0 w L) (h : ∀ w', St w0 S0 w' L → K (.int .i64 (nmE s)) w') : CK Tryz.prog 16 [sv s] w K :=
 b_Check hg fun w' h' => h w' (by have := hS.call0.2 _ _ h'; rwa [List.append_nil] at this)
end
def dig : Bs := [48, 49, 50, 51, 52, 53, 54, 55, 56, 57, 97, 98, 99, 100, 101, 102]
def hx (c : UInt8) : Bs := [dig.getD (c.toNat / 16) 0, dig.getD (c.toNat % 16) 0]
def hex (id : Bs) : Bs := (id.map hx).flatten
theorem hex_len : ∀ (id : Bs), (hex id).length = 2 * id.length
 | [] => rfl
 | c :: r => by
  have := hex_len r
  unfold hex at this ⊢
  simp only [List.map_cons, List.flatten_cons, List.length_append, List.length_cons, this]
  simp [hx]
  omega
theorem hex_app (a b : Bs) : hex (a ++ b) = hex a ++ hex b := by simp [hex]
theorem and15 (c : UInt8) : btv .and .u8 (c.toNat : Int) 15 = ((c.toNat % 16 : Nat) : Int) := by
 have key : ∀ c : Fin 256, btv .and .u8 (c.val : Int) 15 = ((c.val % 16 : Nat) : Int) := by decide +kernel
 exact key ⟨c.toNat, c.toNat_lt⟩
theorem shr4 (c : UInt8) : shv .shr .u8 (c.toNat : Int) 4 = ((c.toNat / 16 : Nat) : Int) := by
 have key : ∀ c : Fin 256, shv .shr .u8 (c.val : Int) 4 = ((c.val / 16 : Nat) : Int) := by decide +kernel
 exact key ⟨c.toNat, c.toNat_lt⟩
section
variable {w w0 : World} {S0 : Nat → Prop} {L B : List Res} {K : Value → World → Prop} {s : Bs}
set_option maxRecDepth 100000 in
theorem b_Text {id : Bs} (hl : id.length = 32) (h : ∀ w', St w (fun _ => False) w' [] → K (sv (hex id)) w') : CK Tryz.prog 40 [.agg ⟨bys id⟩] w K := by
 have hS := St.nil w (fun _ => False)
 refine call_k Tryz.func40 k40 Tryz.ntmps40 (Nat.le_of_ble_eq_true rfl) ?_
 refine gW ?_
 refine g_ef rfl (ef_bx hS rfl fun b1 w1 hS => ?_)
 have hS : St w (fun _ => False) w1 [cel b1 (bys id) 46] := hS
 refine gW ?_
 refine g_lm rfl rfl (hS.b 0 rfl) (by show 0 + 32 ≤ (bys id).length; rw [bys_length]; omega) ?_
 rw [List.drop_zero, List.take_of_length_le (by rw [bys_length]; omega)]
 refine gW ?_
 refine g_lp (ι := Nat × Value) (fun x => [(3, x.2), (6, .agg ⟨bys id⟩), (7, .int .i64 x.1)]) (fun x w' => x.1 ≤ 32 ∧ St w (fun _ => False) w' [row x.2 5 1 (2 * x.1) (bys (hex (id.take x.1)))]) (fun x => 32 - x.1) (0, .slice none 0 0)
  ⟨rfl, rfl, rfl, trivial⟩ ⟨Nat.zero_le _, (hS.nilrow 5 1).sel [1] rfl rfl⟩ ?_
 clear hS
 rintro ⟨k, v⟩ w1 ⟨hk, hS⟩
 simp only at hk hS
 refine gW ?_
 (refine g_cd rfl (fun hc => ?_) (fun hc => ?_) <;> simp only [cmv, arv, Bool.not_eq_true', Bool.not_eq_false', decide_eq_true_eq, decide_eq_false_iff_not] at hc)
 ·have hlt : k < id.length := by omega
  have hg : (bys id).getD k undef = .int .u8 (id[k].toNat : Int) := by simp [bys, hlt]
  have hst : hex (id.take (k + 1)) = hex (id.take k) ++ hx id[k] := by
   rw [List.take_succ_eq_append_getElem hlt, hex_app]
   simp [hex]
  obtain ⟨a, c, rfl⟩ := hS.rlen 0 rfl
  refine gW ?_
  refine g_rq rfl rfl ⟨by omega, by omega, by rw [bys_length]; omega⟩ ?_
  rw [Int.toNat_natCast, Nat.mul_one, hg]
  refine gW ?_
  refine g_dr mixed ?_
  have hS := hS.drew
  refine gD ?_
  refine d_rq rfl rfl rfl (by decide) ?_
  rw [shr4]
  refine d_rq rfl rfl rfl ⟨by omega, by have := id[k].toNat_lt; show ((id[k].toNat / 16 : Nat) : Int) < 16; omega⟩ ?_
  refine gD ?_
  rw [and15]
  refine d_rq rfl rfl rfl ⟨by omega, by show ((id[k].toNat % 16 : Nat) : Int) < 16; omega⟩ ?_
  refine d_e rfl rfl ?_
  refine ef_bl (rs := bys (hx id[k])) hS rfl fun g w1 hS => ⟨rc_0, ?_⟩
  refine d_e rfl rfl ?_
  refine ef_ap (n := 2 * k) (m := 2) (ys := bys (hx id[k])) hS 0 rfl rfl rfl (.inl ⟨5, .inr ⟨g, 0, 2, _, rfl, Nat.le_refl _, Nat.le_refl _, rfl, (hS.b 1 rfl).r⟩⟩) rfl (by omega) (by omega) fun v1 w1 hS => ⟨rc_0, ?_⟩
  refine d_e rfl rfl ?_
  refine ef_qt ((pev_ok rfl).2 _) ⟨rc_0, ?_⟩
  refine d_fin ?_
  rw [← bys_append, ← hst] at hS
  refine gW ?_
  refine g_rq rfl rfl (in64 (by simp only [arv]; omega)) ?_
  refine gW ?_
  exact g_l (k + 1, v1) ⟨rfl, rfl, rfl, trivial⟩ ⟨by simp only; omega, hS.sel [0] rfl rfl⟩ (by simp only; omega)
 ·have e : id.take k = id := List.take_of_length_le (by omega)
  rw [e] at hS
  refine gW ?_
  refine g_qt rfl (qt_bsR rfl (Ow.rd (hS.ok 0 _ rfl))) ?_
  refine gW ?_
  exact g_ret (q_1 rfl (h _ (hS.sel [] rfl rfl)))
theorem b_bcmp {v u : Value} {E E' n m : Nat} {a b : Bs} (ha : Rd v E 1 n (bys a) w) (hb : Rd u E' 1 m (bys b) w) (h : K (.int .i64 (Lib.compareBytes a b)) w) : CK Tryz.prog 63 [v, u] w K := by
 refine call_k Tryz.func63 k63 Tryz.ntmps63 (Nat.le_of_ble_eq_true rfl) ?_
 refine gW ?_
 refine g_ef rfl (ef_xl (vs := [v, u]) (e := Extern.BytealgCompare.compare) Tryz.func132 (by kernel_rfl) (by kernel_rfl) rfl (run_cmpX ha hb) ?_)
 refine gW ?_
 exact g_ret (q_1 rfl h)
theorem b_Compare {a b : Bs} (ha : a.length = 32) (hb : b.length = 32) (h : ∀ w', St w (fun _ => False) w' [] → K (.int .i64 (Lib.compareBytes a b)) w') : CK Tryz.prog 38 [.agg ⟨bys a⟩, .agg ⟨bys b⟩] w K := by
 have hS := St.nil w (fun _ => False)
 refine call_k Tryz.func38 k38 Tryz.ntmps38 (Nat.le_of_ble_eq_true rfl) ?_
 refine gW ?_
 refine g_ef rfl (ef_bx hS rfl fun b1 w1 hS => ?_)
 refine gW ?_
 refine g_ef rfl (ef_bx hS rfl fun b2 w1 hS => ?_)
 have hS : St w (fun _ => False) w1 [cel b1 (bys a) 46, cel b2 (bys b) 46] := hS
 refine gW ?_
 refine g_lm rfl rfl (hS.b 0 rfl) (by show 0 + 32 ≤ (bys a).length; rw [bys_length]; omega) ?_
 refine g_lm rfl rfl (hS.b 1 rfl) (by show 0 + 32 ≤ (bys b).length; rw [bys_length]; omega) ?_
 rw [List.drop_zero, List.drop_zero, List.take_of_length_le (by rw [bys_length]; omega), List.take_of_length_le (by rw [bys_length]; omega)]
 refine g_aq a b rfl rfl rfl ha hb ?_
 refine g_r0 ?_
 refine g_cd rfl (fun hc => ?_) (fun hc => ?_)
 ·have e : a = b := by simpa [aqv] using hc
  have e0 : ∀ l : Bs, Lib.compareBytes l l = 0 := fun l => by
   induction l with
   | nil => rfl
   | cons x l ih => unfold Lib.compareBytes; rw [if_neg (UInt8.lt_irrefl x), if_neg (UInt8.lt_irrefl x)]; exact ih
  rw [e, e0] at h
  refine gW ?_
  exact g_ret (q_1 rfl (h _ (hS.sel [] rfl rfl)))
 ·refine gW ?_
  refine g_dr mixed ?_
  have hS := hS.drew
  refine d_rq rfl rfl rfl ⟨by decide, by decide, by decide⟩ ?_
  refine d_rq rfl rfl rfl ⟨by decide, by decide, by decide⟩ ?_
  refine d_cl rfl rfl rfl (b_bcmp (n := 32) (m := 32) (E := 46) (E' := 46) (.inr ⟨b1, 0, 32, _, rfl, Nat.le_refl _, by rw [bys_length]; omega, by rw [List.drop_zero, List.take_of_length_le (by rw [bys_length]; omega)], (hS.b 0 rfl).r⟩) (.inr ⟨b2, 0, 32, _, rfl, Nat.le_refl _, by rw [bys_length]; omega, by rw [List.drop_zero, List.take_of_length_le (by rw [bys_length]; omega)], (hS.b 1 rfl).r⟩) ⟨rc_0, ?_⟩)
  refine gD ?_
  refine d_fin ?_
  exact g_ret (q_1 rfl (h _ (hS.sel [] rfl rfl)))
end
theorem brk_le {s : Bs} (h : brk s = 0) : s.length ≤ 255 := by
 have := brkF_0 s 8 0 h 0 (by omega) (by omega)
 simp only [rul, Bool.or_eq_false_iff, decide_eq_false_iff_not] at this
 omega
theorem spl_full (l m : List Value) (h : m.length = l.length) : spl l 0 m = m := by
 simp [spl, h]
section
variable {w w0 : World} {S0 : Nat → Prop} {L B : List Res} {K : Value → World → Prop} {s : Bs}
theorem b_Conflict {id : Bs} (hl : id.length = 32) (hg : Gl w) (h : ∀ w', St w (fun _ => False) w' [] → K (.tuple ⟨[sv (if brk s = 0 then s ++ 126 :: hex id else []), .int .i64 (nmE s)]⟩) w') : CK Tryz.prog 18 [sv s, .agg ⟨bys id⟩] w K := by
 have hS := St.nil w (fun _ => False)
 refine call_k Tryz.func18 k18 Tryz.ntmps18 (Nat.le_of_ble_eq_true rfl) ?_
 refine gW ?_
 refine g_ef rfl (ef_bx hS rfl fun b1 w1 hS => ?_)
 have hS : St w (fun _ => False) w1 [cel b1 (bys id) 46] := hS
 refine gW ?_
 refine g_cl rfl rfl (c_Check (hg.in hS) hS fun w' hS => ?_)
 refine gW ?_
 (refine g_cd rfl (fun hc => ?_) (fun hc => ?_) <;> simp only [cmv, arv, Bool.not_eq_true', Bool.not_eq_false', decide_eq_true_eq, decide_eq_false_iff_not] at hc)
 ·refine gW ?_
  have e : ¬ brk s = 0 := fun e => hc (by unfold nmE; rw [if_pos e])
  rw [if_neg e] at h
  exact g_ret (q_2 rfl rfl (h _ (hS.sel [] rfl rfl)))
 ·have e : brk s = 0 := by
   by_cases e : brk s = 0
   ·exact e
   ·unfold nmE at hc; rw [if_neg e] at hc; omega
  have hle := brk_le e
  rw [if_pos e] at h
  refine gW ?_
  refine g_rq rfl rfl (by rw [Lib.size_eq, Lib.size_eq]; simp; omega) ?_
  refine g_lm rfl rfl (hS.b 0 rfl) (by show 0 + 32 ≤ (bys id).length; rw [bys_length]; omega) ?_
  rw [List.drop_zero, List.take_of_length_le (by rw [bys_length]; omega)]
  refine g_cl rfl rfl (b_Text hl fun w' h' => ?_)
  have hS := by have := hS.call0.2 _ _ h'; rwa [List.append_nil] at this
  refine g_rq rfl rfl (by simp [Lib.size_eq, hex_len]; omega) ?_
  refine gW ?_
  have e0 : nmE s = 0 := by unfold nmE; rw [if_pos e]
  rw [e0] at h
  refine g_ret (q_2 rfl rfl ?_)
  have e1 : sv (s ++ 126 :: hex id) = .string ((⟨s.toArray⟩ : ByteArray) ++ ⟨#[126]⟩ ++ ⟨(hex id).toArray⟩) := by
   rw [← sv_of]; congr 1; simp
  have := h _ (hS.sel [] rfl rfl)
  rw [e1] at this
  exact this
end
def Tb (w : World) : Prop := (∃ E, Blr w 0 (ws H0) E) ∧ ∃ E, Blr w 1 (ws KF) E
section
variable {w w0 : World} {S0 : Nat → Prop} {L B : List Res} {K : Value → World → Prop} {s : Bs} {E0 E1 : Nat}
theorem Tb.in (h : Tb w) (hS : St w (fun _ => False) w0 L) : Tb w0 := by
 obtain ⟨⟨E, h1⟩, E', h2⟩ := h
 exact ⟨⟨E, h1.same (hS.fr.kept _ h1.lt fun h => h)⟩, E', h2.same (hS.fr.kept _ h2.lt fun h => h)⟩
theorem b_RotL {x : U} (k : Fin 32) (hk : 0 < k.val) (h : K (w4 (rr x k.val)) w) : CK Tryz.prog 153 [w4 x, .int .i64 (-(k.val : Int))] w K := by
 refine call_k Tryz.func153 k153 Tryz.ntmps153 (Nat.le_of_ble_eq_true rfl) ?_
 refine gW ?_
 rw [rotk k hk]
 have e1 : IntKind.u64.wrap (arv .sub 32 ((32 - k.val : Nat) : Int)) = ((k.val : Nat) : Int) := by
  have := k.isLt
  unfold IntKind.wrap
  simp [IntKind.bits, IntKind.signed, arv]
  omega
 refine g_rq rfl rfl (by omega) ?_
 refine gW ?_
 rw [e1]
 refine g_rq rfl rfl (by omega) ?_
 refine gW ?_
 rw [uS x _ (by omega), uR x _ (by omega), uO]
 exact g_ret (q_1 rfl h)
end
theorem uS24 (x : U) : shv .shl .u32 (x.toNat : Int) 24 = ((sl x 24).toNat : Int) := uS x 24 (by decide)
theorem uS16 (x : U) : shv .shl .u32 (x.toNat : Int) 16 = ((sl x 16).toNat : Int) := uS x 16 (by decide)
theorem uS8 (x : U) : shv .shl .u32 (x.toNat : Int) 8 = ((sl x 8).toNat : Int) := uS x 8 (by decide)
theorem uR3 (x : U) : shv .shr .u32 (x.toNat : Int) 3 = ((sr x 3).toNat : Int) := uR x 3 (by decide)
theorem uR10 (x : U) : shv .shr .u32 (x.toNat : Int) 10 = ((sr x 10).toNat : Int) := uR x 10 (by decide)
theorem uR24 (x : U) : shv .shr .u32 (x.toNat : Int) 24 = ((sr x 24).toNat : Int) := uR x 24 (by decide)
theorem uR16 (x : U) : shv .shr .u32 (x.toNat : Int) 16 = ((sr x 16).toNat : Int) := uR x 16 (by decide)
theorem uR8 (x : U) : shv .shr .u32 (x.toNat : Int) 8 = ((sr x 8).toNat : Int) := uR x 8 (by decide)
theorem bys_gd {l : Bs} {i : Nat} (h : i < l.length) : (bys l)[0 + i * 1]? = some (.int .u8 ((l.getD i 0).toNat : Int)) := by
 rw [Nat.zero_add, Nat.mul_one, List.getD_eq_getElem?_getD, List.getElem?_eq_getElem h]
 unfold bys
 rw [List.getElem?_map, List.getElem?_eq_getElem h]
 rfl
theorem ws_gd {l : List U} {i : Nat} (h : i < l.length) : (ws l)[0 + i * 1]? = some (w4 (l.getD i 0)) := by
 rw [Nat.zero_add, Nat.mul_one]
 exact ws_get h
theorem ws_set (l : List U) (i : Nat) (x : U) (h : i < l.length) : spl (ws l) (0 + i * 1) [w4 x] = ws (l.set i x) := by
 unfold spl ws
 rw [Nat.zero_add, Nat.mul_one, List.set_eq_take_append_cons_drop, if_pos h]
 simp
def wk (x : Bs) (k : Nat) : List U := sch x k ++ List.replicate (64 - k) 0
theorem wk_len (x : Bs) {k : Nat} (h : k ≤ 64) : (wk x k).length = 64 := by
 unfold wk
 rw [List.length_append, sch_len, List.length_replicate]
 omega
theorem wk_get (x : Bs) {k i : Nat} (h : i < k) : (wk x k).getD i 0 = (sch x k).getD i 0 := by
 unfold wk
 rw [List.getD_eq_getElem?_getD, List.getElem?_append_left (by rw [sch_len]; exact h), List.getD_eq_getElem?_getD]
theorem wk_set (x : Bs) {k : Nat} (h : k < 64) : (wk x k).set k ((sch x 64).getD k 0) = wk x (k + 1) := by
 unfold wk
 rw [List.set_append_right _ _ (by rw [sch_len]; exact Nat.le_refl _), sch_len, Nat.sub_self, show 64 - k = (64 - (k + 1)) + 1 by omega, List.replicate_succ, List.set_cons_zero, show sch x (k + 1) = sch x k ++ [(sch x 64).getD k 0] by rw [sch_at x h]; rfl, List.append_assoc]
 rfl
theorem wk_last (x : Bs) {k : Nat} (h : k < 64) : (wk x (k + 1)).getD k 0 = (sch x 64).getD k 0 := by
 rw [wk_get x (Nat.lt_succ_self k), List.getD_eq_getElem?_getD, List.getD_eq_getElem?_getD, sch_pre x (n := k + 1) (m := 64) (by omega) (by omega)]
section
variable {w w0 : World} {S0 : Nat → Prop} {L B : List Res} {K : Value → World → Prop} {s : Bs} {E0 E1 : Nat}
theorem getL {r : Res} : (L ++ [r])[L.length]? = some r := by rw [List.getElem?_append_right (Nat.le_refl _), Nat.sub_self]; rfl
theorem getA {M : List Res} {r : Res} {i : Nat} (h : L[i]? = some r) : (L ++ M)[i]? = some r := by rw [List.getElem?_append_left (List.getElem?_eq_some_iff.1 h).1]; exact h
theorem setL {r r' : Res} : (L ++ [r]).set L.length r' = L ++ [r'] := by rw [List.set_append_right _ _ (Nat.le_refl _), Nat.sub_self]; rfl
set_option maxHeartbeats 4000000 in
theorem d_spread {ι : Type} {Ls : ι → List Res} {Inv : Nat → ι → Prop} {x : Bs} {b l i : Nat} (hx : x.length = 64)
  (hi : ∀ σ, (Ls σ)[i]? = some (cel b (bys x) 179)) {σ0 : ι} (h0 : Inv 0 σ0) (hS : St w0 S0 w (Ls σ0))
  (hy : ∀ (X : Res) (k : Nat) (σ : ι) (w : World), k < 64 → Inv k σ → St w0 S0 w (Ls σ ++ [X]) → Yd Tryz.prog l [.int .i64 (k : Int), w4 ((sch x 64).getD k 0)] w fun v w' => (v = .bool true ∧ ∃ σ', Inv (k + 1) σ' ∧ St w0 S0 w' (Ls σ' ++ [X])) ∨ (v = .bool false ∧ K (.tuple ⟨[]⟩) w'))
  (he : ∀ σ w, Inv 64 σ → St w0 S0 w (Ls σ) → K (.tuple ⟨[]⟩) w) : CK Tryz.prog 178 [.func (.yield l) ⟨[]⟩ ⟨[]⟩, dp b] w K := by
 refine call_k Tryz.func178 k178 Tryz.ntmps178 (Nat.le_of_ble_eq_true rfl) ?_
 refine g_sc rfl ?_
 refine gW ?_
 refine g_ef rfl (ef_al hS fun b3 w hS => ?_)
 replace hS : St w0 S0 w (Ls σ0 ++ [cel b3 (ws (wk x 0)) 236]) := hS
 refine gW ?_
 refine g_lp (ι := Nat × ι) (fun y => [(0, .func (.yield l) ⟨[]⟩ ⟨[]⟩), (1, dp b), (3, dp b3), (9, .int .i64 y.1)]) (fun y w => y.1 ≤ 64 ∧ Inv y.1 y.2 ∧ St w0 S0 w (Ls y.2 ++ [cel b3 (ws (wk x y.1)) 236])) (fun y => 64 - y.1) (0, σ0) ⟨rfl, rfl, rfl, rfl, trivial⟩ ⟨Nat.zero_le _, h0, hS⟩ ?_
 clear hS h0
 rintro ⟨k, σ⟩ w ⟨hk, hI, hS⟩
 dsimp only at hk hI hS ⊢
 refine gW ?_
 (refine g_cd rfl (fun hc => ?_) (fun hc => ?_) <;> simp only [cmv, arv, Bool.not_eq_true', Bool.not_eq_false', decide_eq_true_eq, decide_eq_false_iff_not] at hc)
 ·have hk64 : k < 64 := by omega
  refine gW ?_
  refine g_at 1 [(0, .func (.yield l) ⟨[]⟩ ⟨[]⟩), (1, dp b), (3, dp b3), (4, .int .i64 k), (9, .int .i64 k)] (fun w => St w0 S0 w (Ls σ ++ [cel b3 (ws (wk x (k + 1))) 236])) rfl ?_ ?_
  ·have fin : ∀ {v : Value} {w : World}, v = w4 ((sch x 64).getD k 0) → St w0 S0 w ((Ls σ ++ [cel b3 (ws (wk x k)) 236]).set (Ls σ).length (cel b3 (spl (ws (wk x k)) (0 + k * 1) v.cells.toList) 236)) → St w0 S0 w (Ls σ ++ [cel b3 (ws (wk x (k + 1))) 236]) := fun {v} {w} e hS => by
    subst e
    rw [setL] at hS
    have e2 : spl (ws (wk x k)) (0 + k * 1) (w4 ((sch x 64).getD k 0)).cells.toList = ws (wk x (k + 1)) := by
     rw [← wk_set x hk64]
     exact ws_set _ _ _ (by rw [wk_len x hk]; exact hk64)
    rw [e2] at hS
    exact hS
   refine g_cd rfl (fun h16 => ?_) (fun h16 => ?_) <;> (simp only [cmv, arv, Bool.not_eq_true', Bool.not_eq_false', decide_eq_true_eq, decide_eq_false_iff_not] at h16)
   ·have h16 : k < 16 := by omega
    refine gW ?_
    refine g_dr mixed ?_
    replace hS := hS.drew
    refine gD ?_
    refine d_rq rfl rfl rfl (in64 (by simp only [arv]; omega)) ?_
    rw [show arv .mul 4 (k : Int) = ((4 * k : Nat) : Int) by simp only [arv]; omega]
    refine d_rq rfl rfl rfl ⟨by omega, by omega⟩ ?_
    refine d_l1 rfl rfl rfl (hS.b i (getA (hi σ))) (bys_gd (by omega)) ?_
    refine gD ?_
    refine d_rq rfl rfl rfl (by decide) ?_
    refine gD ?_
    refine d_rq rfl rfl rfl (in64 (by simp only [arv]; omega)) ?_
    rw [show arv .mul 4 (k : Int) = ((4 * k : Nat) : Int) by simp only [arv]; omega]
    refine d_rq rfl rfl rfl (in64 (by simp only [arv]; omega)) ?_
    rw [show arv .add ((4 * k : Nat) : Int) 1 = ((4 * k + 1 : Nat) : Int) by simp only [arv]; omega]
    refine d_rq rfl rfl rfl ⟨by omega, by omega⟩ ?_
    refine d_l1 rfl rfl rfl (hS.b i (getA (hi σ))) (bys_gd (by omega)) ?_
    refine gD ?_
    refine d_rq rfl rfl rfl (by decide) ?_
    refine gD ?_
    refine d_rq rfl rfl rfl (in64 (by simp only [arv]; omega)) ?_
    rw [show arv .mul 4 (k : Int) = ((4 * k : Nat) : Int) by simp only [arv]; omega]
    refine d_rq rfl rfl rfl (in64 (by simp only [arv]; omega)) ?_
    rw [show arv .add ((4 * k : Nat) : Int) 2 = ((4 * k + 2 : Nat) : Int) by simp only [arv]; omega]
    refine d_rq rfl rfl rfl ⟨by omega, by omega⟩ ?_
    refine d_l1 rfl rfl rfl (hS.b i (getA (hi σ))) (bys_gd (by omega)) ?_
    refine gD ?_
    refine d_rq rfl rfl rfl (by decide) ?_
    refine gD ?_
    refine d_rq rfl rfl rfl (in64 (by simp only [arv]; omega)) ?_
    rw [show arv .mul 4 (k : Int) = ((4 * k : Nat) : Int) by simp only [arv]; omega]
    refine d_rq rfl rfl rfl (in64 (by simp only [arv]; omega)) ?_
    rw [show arv .add ((4 * k : Nat) : Int) 3 = ((4 * k + 3 : Nat) : Int) by simp only [arv]; omega]
    refine d_rq rfl rfl rfl ⟨by omega, by omega⟩ ?_
    refine d_l1 rfl rfl rfl (hS.b i (getA (hi σ))) (bys_gd (by omega)) ?_
    refine gD ?_
    refine d_rq rfl rfl rfl ⟨by omega, by omega⟩ ?_
    refine d_e0 rfl rfl ?_
    refine ef_st hS (Ls σ).length getL rfl rfl rfl (by rw [ws_len, wk_len x hk]; show 0 + (k : Int).toNat * 1 + 1 ≤ 64; omega) rfl fun w hS => ⟨rc_0, ?_⟩
    rw [Int.toNat_natCast] at hS
    refine d_fin ?_
    refine g_j ⟨rfl, rfl, rfl, rfl, rfl, trivial⟩ (fin ?_ hS)
    rw [sch_at x hk64, if_pos h16]
    simp only [uB, uS24, uS16, uS8, uO]
    rfl
   ·have h16 : 16 ≤ k := by omega
    refine gW ?_
    refine g_dr mixed ?_
    replace hS := hS.drew
    refine gD ?_
    refine d_rq rfl rfl rfl (in64 (by simp only [arv]; omega)) ?_
    rw [show arv .sub (k : Int) 15 = ((k - 15 : Nat) : Int) by simp only [arv]; omega]
    refine d_rq rfl rfl rfl ⟨by omega, by omega⟩ ?_
    refine d_l1 rfl rfl rfl (hS.b (Ls σ).length getL) (ws_gd (i := k - 15) (by rw [wk_len x hk]; omega)) ?_
    refine gD ?_
    refine d_rq rfl rfl rfl (in64 (by simp only [arv]; omega)) ?_
    rw [show arv .sub (k : Int) 2 = ((k - 2 : Nat) : Int) by simp only [arv]; omega]
    refine d_rq rfl rfl rfl ⟨by omega, by omega⟩ ?_
    refine d_l1 rfl rfl rfl (hS.b (Ls σ).length getL) (ws_gd (i := k - 2) (by rw [wk_len x hk]; omega)) ?_
    refine gD ?_
    refine d_fin ?_
    refine gW ?_
    refine g_cl rfl rfl (b_RotL 7 (by decide) ?_)
    refine gW ?_
    refine g_cl rfl rfl (b_RotL 18 (by decide) ?_)
    refine gW ?_
    refine g_rq rfl rfl (by decide) ?_
    refine gW ?_
    refine g_cl rfl rfl (b_RotL 17 (by decide) ?_)
    refine gW ?_
    refine g_cl rfl rfl (b_RotL 19 (by decide) ?_)
    refine gW ?_
    refine g_rq rfl rfl (by decide) ?_
    refine gW ?_
    refine g_dr mixed ?_
    replace hS := hS.drew
    refine gD ?_
    refine d_rq rfl rfl rfl (in64 (by simp only [arv]; omega)) ?_
    rw [show arv .sub (k : Int) 16 = ((k - 16 : Nat) : Int) by simp only [arv]; omega]
    refine d_rq rfl rfl rfl ⟨by omega, by omega⟩ ?_
    refine d_l1 rfl rfl rfl (hS.b (Ls σ).length getL) (ws_gd (i := k - 16) (by rw [wk_len x hk]; omega)) ?_
    refine gD ?_
    refine d_rq rfl rfl rfl (in64 (by simp only [arv]; omega)) ?_
    rw [show arv .sub (k : Int) 7 = ((k - 7 : Nat) : Int) by simp only [arv]; omega]
    refine d_rq rfl rfl rfl ⟨by omega, by omega⟩ ?_
    refine d_l1 rfl rfl rfl (hS.b (Ls σ).length getL) (ws_gd (i := k - 7) (by rw [wk_len x hk]; omega)) ?_
    refine gD ?_
    refine d_rq rfl rfl rfl ⟨by omega, by omega⟩ ?_
    refine d_e0 rfl rfl ?_
    refine ef_st hS (Ls σ).length getL rfl rfl rfl (by rw [ws_len, wk_len x hk]; show 0 + (k : Int).toNat * 1 + 1 ≤ 64; omega) rfl fun w hS => ⟨rc_0, ?_⟩
    rw [Int.toNat_natCast] at hS
    refine d_fin ?_
    refine g_j ⟨rfl, rfl, rfl, rfl, rfl, trivial⟩ (fin ?_ hS)
    rw [sch_at x hk64, if_neg (by omega)]
    unfold nw g0 g1
    rw [← wk_get x (show k - 16 < k by omega), ← wk_get x (show k - 15 < k by omega), ← wk_get x (show k - 7 < k by omega), ← wk_get x (show k - 2 < k by omega)]
    simp only [w4, uX, uR3, uR10, uP]
    rfl
  ·clear hS
   intro T w hT hS
   refine g_wkc hT ?_
   refine gW ?_
   refine g_rq rfl rfl ⟨by omega, by omega⟩ ?_
   refine g_l1 rfl rfl (hS.b (Ls σ).length getL) (ws_gd (i := k) (by rw [wk_len x (by omega)]; omega)) ?_
   rw [wk_last x hk64]
   refine gW ?_
   refine g_ef rfl (ef_yd (vs := [.int .i64 (k : Int), w4 ((sch x 64).getD k 0)]) rfl rfl ((hy _ k σ _ hk64 hI hS).mono ?_))
   rintro v w (⟨rfl, σ', hI', hS⟩ | ⟨rfl, hK⟩)
   ·refine gW ?_
    refine g_rq rfl rfl (in64 (by simp only [arv]; omega)) ?_
    refine gW ?_
    exact g_l (k + 1, σ') ⟨rfl, rfl, rfl, rfl, trivial⟩ ⟨by simp only; omega, hI', hS⟩ (by simp only; omega)
   ·refine gW ?_
    refine g_s ?_
    exact q_n hK
 ·have e : k = 64 := by omega
  subst e
  refine gW ?_
  refine g_s ?_
  exact q_n (he σ _ hI hS.init)
end
section
variable {w w0 : World} {S0 : Nat → Prop} {L B : List Res} {K : Value → World → Prop} {s : Bs} {E0 E1 : Nat}
theorem b_spread {x : Bs} (h : ∀ b w', St w (fun _ => False) w' [cel b (bys x) 179] → K (.func (.func 178) ⟨[]⟩ ⟨[dp b]⟩) w') : CK Tryz.prog 152 [.agg ⟨bys x⟩] w K := by
 have hS := St.nil w (fun _ => False)
 refine call_k Tryz.func152 k152 Tryz.ntmps152 (Nat.le_of_ble_eq_true rfl) ?_
 refine gW ?_
 refine g_ef rfl (ef_bx hS rfl fun b1 w1 hS => ?_)
 refine gW ?_
 exact g_ret (q_1 rfl (h _ _ hS))
set_option maxHeartbeats 1000000 in
theorem b_mixed {st : List U} {x : Bs} (hs : st.length = 8) (hx : x.length = 64) (ht : Tb w) (h : ∀ w', St w (fun _ => False) w' [] → K (.agg ⟨ws (mixd st x)⟩) w') : CK Tryz.prog 102 [.agg ⟨ws st⟩, .agg ⟨bys x⟩] w K := by
 have hS := St.nil w (fun _ => False)
 have l8 : (ws st).length = 8 := by rw [ws_len, hs]
 have l64 : (bys x).length = 64 := by rw [bys_length, hx]
 refine call_k Tryz.func102 k102 Tryz.ntmps102 (Nat.le_of_ble_eq_true rfl) ?_
 refine gW ?_
 refine g_ef rfl (ef_bx hS rfl fun b2 w1 hS => ?_)
 refine gW ?_
 refine g_ef rfl (ef_bx hS rfl fun b3 w1 hS => ?_)
 refine gW ?_
 refine g_ef rfl (ef_al hS fun b4 w1 hS => ?_)
 replace hS : St w (fun _ => False) w1 [cel b2 (ws st) 108, cel b3 (bys x) 179, cel b4 (ws (List.replicate 8 0)) 108] := hS
 refine gW ?_
 refine g_lm rfl rfl (hS.b 0 rfl) (Nat.le_of_eq (by rw [l8])) ?_
 rw [List.drop_zero, List.take_of_length_le (Nat.le_of_eq l8)]
 refine g_ef rfl (ef_al hS fun b5 w1 hS => ?_)
 refine g_ef0 rfl (ef_st hS 3 rfl rfl rfl l8 (Nat.le_of_ble_eq_true rfl) (ws_one _) fun w1 hS => ?_)
 replace hS := hS.ceq (l' := ws st) 3 rfl (spl_full _ _ (by show (ws st).length = _; rw [l8]; rfl))
 replace hS : St w (fun _ => False) w1 [cel b2 (ws st) 108, cel b3 (bys x) 179, cel b4 (ws (List.replicate 8 0)) 108, cel b5 (ws st) 108] := hS
 refine gW ?_
 refine g_lm rfl rfl (hS.b 1 rfl) (Nat.le_of_eq (by rw [l64])) ?_
 rw [List.drop_zero, List.take_of_length_le (Nat.le_of_eq l64)]
 refine g_cl rfl rfl (b_spread fun bs w1 h' => ?_)
 replace hS := hS.call0.2 _ _ h'
 clear h'
 replace hS : St w (fun _ => False) w1 [cel b2 (ws st) 108, cel b3 (bys x) 179, cel b4 (ws (List.replicate 8 0)) 108, cel b5 (ws st) 108, cel bs (bys x) 179] := hS
 refine gW ?_
 refine g_atd 2 [(2, dp b2), (4, dp b4), (5, dp b5)] (fun D1 w' => ∃ dB, D1 = [⟨.collected dB, #[]⟩] ∧ St w (fun _ => False) w' [cel b2 (ws st) 108, cel b4 (ws (List.replicate 8 0)) 108, cel b5 (ws (rnds st x 64)) 108, obj dB (.deferred (some []))]) rfl ?_ ?_
 ·refine g_wkc (T' := [(17, .func (.func 178) ⟨[]⟩ ⟨[dp bs]⟩), (2, dp b2), (4, dp b4), (5, dp b5)]) ⟨rfl, rfl, rfl, rfl, trivial⟩ ?_
  refine g_rf (cap := [dp bs]) (first := []) hS rfl (callFunc_of Tryz.func178 rfl rfl) fun l dB w2 hS => ?_
  refine d_spread (ι := Nat) (Ls := fun k => [cel b2 (ws st) 108, cel b3 (bys x) 179, cel b4 (ws (List.replicate 8 0)) 108, cel b5 (ws (rnds st x k)) 108, cel bs (bys x) 179, obj dB (.deferred (some [])), _]) (Inv := fun k σ => σ = k) (i := 4) hx (fun σ => rfl) (σ0 := 0) rfl hS ?_ ?_
  ·clear hS
   rintro X k σ w2 hk hI hS
   have e : k = σ := Eq.symm hI
   subst e
   refine yd_of hS 6 rfl rfl ?_
   refine gW ?_
   refine ⟨rfl, _, _, hS, rfl, fun w2 hS => ?_⟩
   have hT := ht.in hS
   obtain ⟨_, E2, hF⟩ := hT
   generalize htt : rnds st x k = t at hS
   have lt8 : t.length = 8 := by rw [← htt]; exact rnds_len hs x k
   generalize hww : (sch x 64).getD k 0 = ww
   (repeat (first | refine g_mv rfl rfl ?_ | refine g_uX rfl rfl rfl ?_ | refine g_uP rfl rfl rfl ?_ | refine g_uA rfl rfl rfl ?_ | refine g_uO rfl rfl rfl ?_ | refine g_uN rfl rfl ?_ | refine g_sq ?_ | refine g_rg ?_ | refine g_r0 ?_ | refine g_bk ?_ | refine g_b ?_))
   refine g_dr mixed ?_
   replace hS := hS.drew
   replace hF := hF.same (w' := w2.drew) rfl
   (repeat (first | refine d_mv rfl rfl rfl ?_ | refine d_uX rfl rfl rfl rfl ?_ | refine d_uP rfl rfl rfl rfl ?_ | refine d_uA rfl rfl rfl rfl ?_ | refine d_uN rfl rfl rfl ?_))
   refine d_rq rfl rfl rfl ⟨by decide, by decide⟩ ?_
   refine d_l1 rfl rfl rfl (hS.b 3 rfl) (ws_gd (l := t) (i := 0) (by omega)) ?_
   refine d_rq rfl rfl rfl ⟨by decide, by decide⟩ ?_
   refine d_l1 rfl rfl rfl (hS.b 3 rfl) (ws_gd (l := t) (i := 4) (by omega)) ?_
   (repeat (first | refine d_mv rfl rfl rfl ?_ | refine d_uX rfl rfl rfl rfl ?_ | refine d_uP rfl rfl rfl rfl ?_ | refine d_uA rfl rfl rfl rfl ?_ | refine d_uN rfl rfl rfl ?_))
   refine d_fin ?_
   (repeat (first | refine g_mv rfl rfl ?_ | refine g_uX rfl rfl rfl ?_ | refine g_uP rfl rfl rfl ?_ | refine g_uA rfl rfl rfl ?_ | refine g_uO rfl rfl rfl ?_ | refine g_uN rfl rfl ?_ | refine g_sq ?_ | refine g_rg ?_ | refine g_r0 ?_ | refine g_bk ?_ | refine g_b ?_))
   refine g_cl rfl rfl (b_RotL 6 (by decide) ?_)
   (repeat (first | refine g_mv rfl rfl ?_ | refine g_uX rfl rfl rfl ?_ | refine g_uP rfl rfl rfl ?_ | refine g_uA rfl rfl rfl ?_ | refine g_uO rfl rfl rfl ?_ | refine g_uN rfl rfl ?_ | refine g_sq ?_ | refine g_rg ?_ | refine g_r0 ?_ | refine g_bk ?_ | refine g_b ?_))
   refine g_cl rfl rfl (b_RotL 11 (by decide) ?_)
   (repeat (first | refine g_mv rfl rfl ?_ | refine g_uX rfl rfl rfl ?_ | refine g_uP rfl rfl rfl ?_ | refine g_uA rfl rfl rfl ?_ | refine g_uO rfl rfl rfl ?_ | refine g_uN rfl rfl ?_ | refine g_sq ?_ | refine g_rg ?_ | refine g_r0 ?_ | refine g_bk ?_ | refine g_b ?_))
   refine g_cl rfl rfl (b_RotL 25 (by decide) ?_)
   (repeat (first | refine g_mv rfl rfl ?_ | refine g_uX rfl rfl rfl ?_ | refine g_uP rfl rfl rfl ?_ | refine g_uA rfl rfl rfl ?_ | refine g_uO rfl rfl rfl ?_ | refine g_uN rfl rfl ?_ | refine g_sq ?_ | refine g_rg ?_ | refine g_r0 ?_ | refine g_bk ?_ | refine g_b ?_))
   refine g_dr mixed ?_
   replace hS := hS.drew
   replace hF := hF.same (w' := w2.drew.drew) rfl
   (repeat (first | refine d_mv rfl rfl rfl ?_ | refine d_uX rfl rfl rfl rfl ?_ | refine d_uP rfl rfl rfl rfl ?_ | refine d_uA rfl rfl rfl rfl ?_ | refine d_uN rfl rfl rfl ?_))
   refine d_rq rfl rfl rfl ⟨by decide, by decide⟩ ?_
   refine d_l1 rfl rfl rfl (hS.b 3 rfl) (ws_gd (l := t) (i := 7) (by omega)) ?_
   (repeat (first | refine d_mv rfl rfl rfl ?_ | refine d_uX rfl rfl rfl rfl ?_ | refine d_uP rfl rfl rfl rfl ?_ | refine d_uA rfl rfl rfl rfl ?_ | refine d_uN rfl rfl rfl ?_))
   refine d_rq rfl rfl rfl ⟨by decide, by decide⟩ ?_
   refine d_l1 rfl rfl rfl (hS.b 3 rfl) (ws_gd (l := t) (i := 5) (by omega)) ?_
   (repeat (first | refine d_mv rfl rfl rfl ?_ | refine d_uX rfl rfl rfl rfl ?_ | refine d_uP rfl rfl rfl rfl ?_ | refine d_uA rfl rfl rfl rfl ?_ | refine d_uN rfl rfl rfl ?_))
   refine d_rq rfl rfl rfl ⟨by decide, by decide⟩ ?_
   refine d_l1 rfl rfl rfl (hS.b 3 rfl) (ws_gd (l := t) (i := 6) (by omega)) ?_
   (repeat (first | refine d_mv rfl rfl rfl ?_ | refine d_uX rfl rfl rfl rfl ?_ | refine d_uP rfl rfl rfl rfl ?_ | refine d_uA rfl rfl rfl rfl ?_ | refine d_uN rfl rfl rfl ?_))
   refine d_rq rfl rfl rfl ⟨by omega, by omega⟩ ?_
   refine d_l1r rfl rfl rfl hF (ws_gd (l := KF) (i := k) (by rw [KF_len]; omega)) ?_
   (repeat (first | refine d_mv rfl rfl rfl ?_ | refine d_uX rfl rfl rfl rfl ?_ | refine d_uP rfl rfl rfl rfl ?_ | refine d_uA rfl rfl rfl rfl ?_ | refine d_uN rfl rfl rfl ?_))
   refine d_fin ?_
   (repeat (first | refine g_mv rfl rfl ?_ | refine g_uX rfl rfl rfl ?_ | refine g_uP rfl rfl rfl ?_ | refine g_uA rfl rfl rfl ?_ | refine g_uO rfl rfl rfl ?_ | refine g_uN rfl rfl ?_ | refine g_sq ?_ | refine g_rg ?_ | refine g_r0 ?_ | refine g_bk ?_ | refine g_b ?_))
   refine g_cl rfl rfl (b_RotL 2 (by decide) ?_)
   (repeat (first | refine g_mv rfl rfl ?_ | refine g_uX rfl rfl rfl ?_ | refine g_uP rfl rfl rfl ?_ | refine g_uA rfl rfl rfl ?_ | refine g_uO rfl rfl rfl ?_ | refine g_uN rfl rfl ?_ | refine g_sq ?_ | refine g_rg ?_ | refine g_r0 ?_ | refine g_bk ?_ | refine g_b ?_))
   refine g_cl rfl rfl (b_RotL 13 (by decide) ?_)
   (repeat (first | refine g_mv rfl rfl ?_ | refine g_uX rfl rfl rfl ?_ | refine g_uP rfl rfl rfl ?_ | refine g_uA rfl rfl rfl ?_ | refine g_uO rfl rfl rfl ?_ | refine g_uN rfl rfl ?_ | refine g_sq ?_ | refine g_rg ?_ | refine g_r0 ?_ | refine g_bk ?_ | refine g_b ?_))
   refine g_cl rfl rfl (b_RotL 22 (by decide) ?_)
   (repeat (first | refine g_mv rfl rfl ?_ | refine g_uX rfl rfl rfl ?_ | refine g_uP rfl rfl rfl ?_ | refine g_uA rfl rfl rfl ?_ | refine g_uO rfl rfl rfl ?_ | refine g_uN rfl rfl ?_ | refine g_sq ?_ | refine g_rg ?_ | refine g_r0 ?_ | refine g_bk ?_ | refine g_b ?_))
   refine g_rq rfl rfl ⟨by decide, by decide⟩ ?_
   refine g_l1 rfl rfl (hS.b 3 rfl) (ws_gd (l := t) (i := 1) (by omega)) ?_
   (repeat (first | refine g_mv rfl rfl ?_ | refine g_uX rfl rfl rfl ?_ | refine g_uP rfl rfl rfl ?_ | refine g_uA rfl rfl rfl ?_ | refine g_uO rfl rfl rfl ?_ | refine g_uN rfl rfl ?_ | refine g_sq ?_ | refine g_rg ?_ | refine g_r0 ?_ | refine g_bk ?_ | refine g_b ?_))
   refine g_rq rfl rfl ⟨by decide, by decide⟩ ?_
   refine g_l1 rfl rfl (hS.b 3 rfl) (ws_gd (l := t) (i := 2) (by omega)) ?_
   (repeat (first | refine g_mv rfl rfl ?_ | refine g_uX rfl rfl rfl ?_ | refine g_uP rfl rfl rfl ?_ | refine g_uA rfl rfl rfl ?_ | refine g_uO rfl rfl rfl ?_ | refine g_uN rfl rfl ?_ | refine g_sq ?_ | refine g_rg ?_ | refine g_r0 ?_ | refine g_bk ?_ | refine g_b ?_))
   refine g_rq rfl rfl ⟨by decide, by decide⟩ ?_
   refine g_l1 rfl rfl (hS.b 3 rfl) (ws_gd (l := t) (i := 1) (by omega)) ?_
   refine g_rq rfl rfl ⟨by decide, by decide⟩ ?_
   refine g_l1 rfl rfl (hS.b 3 rfl) (ws_gd (l := t) (i := 2) (by omega)) ?_
   (repeat (first | refine g_mv rfl rfl ?_ | refine g_uX rfl rfl rfl ?_ | refine g_uP rfl rfl rfl ?_ | refine g_uA rfl rfl rfl ?_ | refine g_uO rfl rfl rfl ?_ | refine g_uN rfl rfl ?_ | refine g_sq ?_ | refine g_rg ?_ | refine g_r0 ?_ | refine g_bk ?_ | refine g_b ?_))
   refine g_rq rfl rfl ⟨by decide, by decide⟩ ?_
   refine g_l1 rfl rfl (hS.b 3 rfl) (ws_gd (l := t) (i := 1) (by omega)) ?_
   (repeat (first | refine g_mv rfl rfl ?_ | refine g_uX rfl rfl rfl ?_ | refine g_uP rfl rfl rfl ?_ | refine g_uA rfl rfl rfl ?_ | refine g_uO rfl rfl rfl ?_ | refine g_uN rfl rfl ?_ | refine g_sq ?_ | refine g_rg ?_ | refine g_r0 ?_ | refine g_bk ?_ | refine g_b ?_))
   refine g_rq rfl rfl ⟨by decide, by decide⟩ ?_
   refine g_l1 rfl rfl (hS.b 3 rfl) (ws_gd (l := t) (i := 2) (by omega)) ?_
   (repeat (first | refine g_mv rfl rfl ?_ | refine g_uX rfl rfl rfl ?_ | refine g_uP rfl rfl rfl ?_ | refine g_uA rfl rfl rfl ?_ | refine g_uO rfl rfl rfl ?_ | refine g_uN rfl rfl ?_ | refine g_sq ?_ | refine g_rg ?_ | refine g_r0 ?_ | refine g_bk ?_ | refine g_b ?_))
   refine g_rq rfl rfl ⟨by decide, by decide⟩ ?_
   refine g_l1 rfl rfl (hS.b 3 rfl) (ws_gd (l := t) (i := 3) (by omega)) ?_
   (repeat (first | refine g_mv rfl rfl ?_ | refine g_uX rfl rfl rfl ?_ | refine g_uP rfl rfl rfl ?_ | refine g_uA rfl rfl rfl ?_ | refine g_uO rfl rfl rfl ?_ | refine g_uN rfl rfl ?_ | refine g_sq ?_ | refine g_rg ?_ | refine g_r0 ?_ | refine g_bk ?_ | refine g_b ?_))
   refine g_rq rfl rfl ⟨by decide, by decide⟩ ?_
   refine g_l1 rfl rfl (hS.b 3 rfl) (ws_gd (l := t) (i := 5) (by omega)) ?_
   (repeat (first | refine g_mv rfl rfl ?_ | refine g_uX rfl rfl rfl ?_ | refine g_uP rfl rfl rfl ?_ | refine g_uA rfl rfl rfl ?_ | refine g_uO rfl rfl rfl ?_ | refine g_uN rfl rfl ?_ | refine g_sq ?_ | refine g_rg ?_ | refine g_r0 ?_ | refine g_bk ?_ | refine g_b ?_))
   refine g_rq rfl rfl ⟨by decide, by decide⟩ ?_
   refine g_l1 rfl rfl (hS.b 3 rfl) (ws_gd (l := t) (i := 6) (by omega)) ?_
   (repeat (first | refine g_mv rfl rfl ?_ | refine g_uX rfl rfl rfl ?_ | refine g_uP rfl rfl rfl ?_ | refine g_uA rfl rfl rfl ?_ | refine g_uO rfl rfl rfl ?_ | refine g_uN rfl rfl ?_ | refine g_sq ?_ | refine g_rg ?_ | refine g_r0 ?_ | refine g_bk ?_ | refine g_b ?_))
   refine g_qt rfl (qt_bd (out := ws (rnd t (KF.getD k 0) ww)) rfl _) ?_
   (repeat (first | refine g_mv rfl rfl ?_ | refine g_uX rfl rfl rfl ?_ | refine g_uP rfl rfl rfl ?_ | refine g_uA rfl rfl rfl ?_ | refine g_uO rfl rfl rfl ?_ | refine g_uN rfl rfl ?_ | refine g_sq ?_ | refine g_rg ?_ | refine g_r0 ?_ | refine g_bk ?_ | refine g_b ?_))
   refine g_ef0 rfl (ef_st hS 3 rfl rfl rfl rfl (by rw [ws_len, lt8]; decide) rfl fun w2 hS => ?_)
   replace hS := hS.ceq (l' := ws (rnd t (KF.getD k 0) ww)) 3 rfl (spl_full _ _ (by rw [ws_len, lt8]; rfl))
   refine gW ?_
   refine ⟨_, _, hS.sel [0, 1, 2, 3, 4, 5, 6, 7] rfl rfl, rfl, fun w2 hS => .inl ⟨rfl, k + 1, rfl, ?_⟩⟩
   show St w _ w2 ([cel b2 (ws st) 108, cel b3 (bys x) 179, cel b4 (ws (List.replicate 8 0)) 108, cel b5 (ws (rnds st x (k + 1))) 108, cel bs (bys x) 179, obj dB (.deferred (some [])), _] ++ [X])
   rw [show rnds st x (k + 1) = rnd t (KF.getD k 0) ww by rw [← htt, ← hww]; rfl]
   exact hS
  ·clear hS
   rintro σ w2 hI hS
   have e : 64 = σ := Eq.symm hI
   subst e
   refine ⟨_, 6, _, _, hS, rfl, (fun h => nomatch h), fun w2 hS => ?_⟩
   exact g_b (g_jd ⟨rfl, rfl, rfl, trivial⟩ ⟨dB, rfl, hS.sel [0, 2, 3, 5] rfl rfl⟩)
 ·clear hS
  rintro T D1 w1 hT ⟨dB, rfl, hS⟩
  refine g_wkc hT ?_
  have lt8 : (rnds st x 64).length = 8 := rnds_len hs x 64
  have hmx : mixd st x = List.zipWith (· + ·) (rnds st x 64) st := rfl
  generalize rnds st x 64 = t at hS lt8 hmx
  refine gW ?_
  refine g_atx (ι := Unit) 2 (fun _ => [(4, dp b4), (5, dp b5)]) (fun _ w' => St w (fun _ => False) w' [cel b2 (ws st) 108, cel b4 (ws (List.replicate 8 0)) 108, cel b5 (ws (mixd st x)) 108, obj dB (.deferred (some []))]) rfl ?_ ?_
  ·refine g_lp (ι := Nat) (fun k => [(2, dp b2), (4, dp b4), (5, dp b5), (96, .int .i64 k)]) (fun k w' => k ≤ 8 ∧ St w (fun _ => False) w' [cel b2 (ws st) 108, cel b4 (ws (List.replicate 8 0)) 108, cel b5 (ws ((mixd st x).take k ++ t.drop k)) 108, obj dB (.deferred (some []))]) (fun k => 8 - k) 0 ⟨rfl, rfl, rfl, rfl, trivial⟩ ⟨Nat.zero_le _, hS⟩ ?_
   clear hS
   rintro k w1 ⟨hk, hS⟩
   have lm : (mixd st x).length = 8 := mixd_len hs x
   have la : ((mixd st x).take k ++ t.drop k).length = 8 := by rw [List.length_append, List.length_take, List.length_drop]; omega
   refine gW ?_
   (refine g_cd rfl (fun hc => ?_) (fun hc => ?_) <;> simp only [cmv, arv, Bool.not_eq_true', Bool.not_eq_false', decide_eq_true_eq, decide_eq_false_iff_not] at hc)
   ·have hk8 : k < 8 := by omega
    have e1 : ((mixd st x).take k ++ t.drop k).getD k 0 = t.getD k 0 := by
     rw [List.getD_eq_getElem?_getD, List.getElem?_append_right (by rw [List.length_take]; omega), List.length_take, Nat.min_eq_left (by omega), Nat.sub_self, List.getElem?_drop, Nat.add_zero, List.getD_eq_getElem?_getD]
    have e2 : ((mixd st x).take k ++ t.drop k).set k (t.getD k 0 + st.getD k 0) = (mixd st x).take (k + 1) ++ t.drop (k + 1) := by
     rw [List.set_append_right _ _ (by rw [List.length_take]; omega), List.length_take, Nat.min_eq_left (by omega), Nat.sub_self, List.drop_eq_getElem_cons (by omega), List.set_cons_zero, List.take_succ_eq_append_getElem (by omega), List.append_assoc]
     congr 2
     simp only [hmx, List.getElem_zipWith, List.getD_eq_getElem?_getD, List.getElem?_eq_getElem (show k < t.length by omega), List.getElem?_eq_getElem (show k < st.length by omega)]
     rfl
    refine gW ?_
    refine g_dr mixed ?_
    replace hS := hS.drew
    refine gD ?_
    refine d_rq rfl rfl rfl ⟨by omega, by omega⟩ ?_
    refine d_l1 rfl rfl rfl (hS.b 2 rfl) (ws_gd (i := k) (by omega)) ?_
    rw [e1]
    refine gD ?_
    refine d_rq rfl rfl rfl ⟨by omega, by omega⟩ ?_
    refine d_l1 rfl rfl rfl (hS.b 0 rfl) (ws_gd (i := k) (by omega)) ?_
    refine gD ?_
    refine d_rq rfl rfl rfl ⟨by omega, by omega⟩ ?_
    refine d_e0 rfl rfl ?_
    refine ef_st hS 2 rfl rfl rfl rfl (by rw [ws_len, la, Int.toNat_natCast]; show 0 + k * 1 + 1 ≤ 8; omega) rfl fun w1 hS => ⟨rc_0, ?_⟩
    rw [Int.toNat_natCast] at hS
    replace hS := hS.ceq (l' := ws ((mixd st x).take (k + 1) ++ t.drop (k + 1))) 2 rfl (by
     rw [← e2, ← ws_set _ _ _ (by omega)]
     simp only [w4, uP]
     rfl)
    refine d_fin ?_
    refine gW ?_
    refine g_rq rfl rfl (in64 (by simp only [arv]; omega)) ?_
    refine gW ?_
    exact g_l (k + 1) ⟨rfl, rfl, rfl, rfl, trivial⟩ ⟨by omega, hS⟩ (by omega)
   ·have e : k = 8 := by omega
    subst e
    rw [List.take_of_length_le (by omega), List.drop_eq_nil_of_le (by omega), List.append_nil] at hS
    refine gW ?_
    exact g_jx () ⟨rfl, rfl, trivial⟩ hS
  ·clear hS
   rintro _ T w1 hT hS
   refine g_wkc hT ?_
   have lm : (ws (mixd st x)).length = 8 := by rw [ws_len, mixd_len hs x]
   refine gW ?_
   refine g_lm rfl rfl (hS.b 2 rfl) (Nat.le_of_eq (by rw [lm])) ?_
   rw [List.drop_zero, List.take_of_length_le (Nat.le_of_eq lm)]
   refine g_ef0 rfl (ef_st hS 1 rfl rfl rfl lm (Nat.le_of_ble_eq_true rfl) (ws_one _) fun w1 hS => ?_)
   replace hS := hS.ceq (l' := ws (mixd st x)) 1 rfl (spl_full _ _ (by show (ws (mixd st x)).length = _; rw [lm]; rfl))
   refine gW ?_
   refine g_ret (q_dr hS 3 rfl fun w2 hS => q_c1 (n := 8) rfl (by kernel_rfl) (hS.b 1 rfl) (Nat.le_of_eq (by rw [lm])) ?_)
   rw [List.drop_zero, List.take_of_length_le (Nat.le_of_eq lm)]
   exact h _ (hS.sel [] rfl rfl)
end
def runC (bg : Bool) (st : List U) (v : Value) (m : Nat) : List Value := .bool bg :: (ws st ++ [v, .int .i64 (m : Int)])
def Pl (v : Value) : Prop := ∀ y o s n c, v ≠ .slice (some ⟨y, o, some s⟩) n c
def stO (all : Bs) : List U := shaN all (all.length / 64)
def lfO (all : Bs) : Bs := all.drop (64 * (all.length / 64))
theorem eight {st : List U} (h : st.length = 8) : ∃ a b c d e f g i, st = [a, b, c, d, e, f, g, i] := by
 match st, h with
 | [a, b, c, d, e, f, g, i], _ => exact ⟨a, b, c, d, e, f, g, i, rfl⟩
section
variable {bg : Bool} {st st' : List U} {v v' : Value} {m m' : Nat}
theorem run_len (h : st.length = 8) : (runC bg st v m).length = 11 := by obtain ⟨a, b, c, d, e, f, g, i, rfl⟩ := eight h; rfl
theorem run_9 (h : st.length = 8) : (runC bg st v m)[0 + 9]? = some v := by obtain ⟨a, b, c, d, e, f, g, i, rfl⟩ := eight h; rfl
theorem run_10 (h : st.length = 8) : (runC bg st v m)[0 + 10]? = some (.int .i64 (m : Int)) := by obtain ⟨a, b, c, d, e, f, g, i, rfl⟩ := eight h; rfl
theorem run_1 (h : st.length = 8) : ((runC bg st v m).drop (0 + 1)).take 8 = ws st := by obtain ⟨a, b, c, d, e, f, g, i, rfl⟩ := eight h; rfl
theorem run_s0 : spl (runC bg st v m) (0 + 0) [.bool true] = runC true st v m := rfl
theorem run_s1 (h : st.length = 8) (h' : st'.length = 8) : spl (runC bg st v m) (0 + 1) (ws st') = runC bg st' v m := by
 obtain ⟨a, b, c, d, e, f, g, i, rfl⟩ := eight h
 obtain ⟨a', b', c', d', e', f', g', i', rfl⟩ := eight h'
 rfl
theorem run_s9 (h : st.length = 8) : spl (runC bg st v m) (0 + 9) [v'] = runC bg st v' m := by obtain ⟨a, b, c, d, e, f, g, i, rfl⟩ := eight h; rfl
theorem run_s10 (h : st.length = 8) : spl (runC bg st v m) (0 + 10) [.int .i64 (m' : Int)] = runC bg st v m' := by obtain ⟨a, b, c, d, e, f, g, i, rfl⟩ := eight h; rfl
end
theorem stO_len (all : Bs) : (stO all).length = 8 := shaN_len _ _
theorem add_lf (all bs : Bs) : lfO all ++ bs = (all ++ bs).drop (64 * (all.length / 64)) := by
 unfold lfO
 rw [List.drop_append_of_le_length (by omega)]
section
variable {w w0 : World} {S0 : Nat → Prop} {L B : List Res} {K : Value → World → Prop} {s : Bs} {E0 E1 : Nat}
theorem b_Clip {a : Option Addr} {n c : Nat} (hc : n ≤ c) (hsp : ∀ {y o v}, a = some ⟨y, o, some v⟩ → False) (h : K (.slice a n n) w) : CK Tryz.prog 101 [.slice a n c] w K := by
 refine call_k Tryz.func101 k101 Tryz.ntmps101 (Nat.le_of_ble_eq_true rfl) ?_
 cases a with
 | none =>
  refine gW ?_
  refine g_rq rfl rfl ⟨by decide, by omega, Int.le_refl _, by omega⟩ ?_
  refine gW ?_
  exact g_ret (q_1 rfl h)
 | some ad =>
  obtain ⟨b, o, sp⟩ := ad
  cases sp with
  | some v => exact (hsp rfl).elim
  | none =>
   refine gW ?_
   refine g_rq rfl rfl ⟨by decide, by omega, Int.le_refl _, by omega⟩ ?_
   refine gW ?_
   have e : slo none o ((n : Nat) : Int).toNat (0 : Int).toNat 1 = o := rfl
   exact g_ret (q_1 rfl h)
theorem _root_.Go.En.Rd.cap {a : Option Addr} {n c E sz : Nat} {xs : List Value} (h : Rd (.slice a n c) E sz n xs w) : n ≤ c := by
 rcases h with ⟨⟨a', e⟩, h0, _⟩ | ⟨b, off, cap, l, e, hc, _⟩
 ·omega
 ·cases e; exact hc
def RunR (r : Nat) (bg : Bool) (st : List U) (v : Value) (all : Bs) : List Res := [cel r (runC bg st v all.length) 110, rdR v 5 1 (lfO all).length (bys (lfO all))]
set_option maxHeartbeats 2000000 in
theorem b_Add {all bs : Bs} {bg : Bool} {st : List U} {v u : Value} {r m : Nat} (hgl : ∀ {L : List Res} {w' : World}, St w0 S0 w' L → Tb w') (hpl : Pl v) (hst : st.length = 8) (hbg : bg = true → st = stO all) (hb0 : bg = false → all = [])
  (hm : bs.length = m) (hm0 : 0 < m) (hlen : all.length + m < 1000000000) (hu : ∀ {L : List Res} (w' : World), St w0 S0 w' L → Rd u E0 1 m (bys bs) w')
  (hS : St w0 S0 w (RunR r bg st v all)) (h : ∀ v' w', Pl v' → St w0 S0 w' (RunR r true (stO (all ++ bs)) v' (all ++ bs)) → K (dp r) w') : CK Tryz.prog 54 [dp r, u] w K := by
 obtain ⟨au, cu, rfl⟩ := (hu _ hS).form
 have lz : (zx [(64, .int .u8 0)]).length = 64 := by decide
 refine call_k Tryz.func54 k54 Tryz.ntmps54 (Nat.le_of_ble_eq_true rfl) ?_
 refine gW ?_
 refine g_l1 rfl rfl (hS.b 0 rfl) (v := .bool bg) rfl ?_
 refine gW ?_
 refine g_at 1 [(0, dp r), (1, .slice au m cu)] (fun w' => St w0 S0 w' (RunR r true (stO all) v all)) rfl ?_ ?_
 ·cases bg with
  | true =>
   refine gW ?_
   rw [hbg rfl] at hS
   exact g_j ⟨rfl, rfl, trivial⟩ hS
  | false =>
   obtain ⟨⟨E2, hG⟩, _⟩ := hgl hS
   refine gW ?_
   refine g_lmr rfl rfl hG (by rw [ws_len]; decide) ?_
   refine gW ?_
   refine g_ef0 rfl (ef_st hS 0 rfl rfl rfl rfl (by rw [run_len hst]; decide) rfl fun w1 hS => ?_)
   replace hS := hS.ceq (l' := runC true st v all.length) 0 rfl run_s0
   refine gW ?_
   refine g_ef0 rfl (ef_st hS 0 rfl rfl rfl (by show (ws H0).length = 8; rfl) (by rw [run_len hst]; decide) (ws_one H0) fun w1 hS => ?_)
   replace hS := hS.ceq (l' := runC true (stO all) v all.length) 0 rfl (by
    have e : all = [] := hb0 rfl
    subst e
    exact run_s1 (st' := H0) hst rfl)
   refine gW ?_
   exact g_j ⟨rfl, rfl, trivial⟩ hS
 clear hS
 intro T w1 hT hS
 refine g_wkc hT ?_
 refine gW ?_
 refine g_l1 rfl rfl (hS.b 0 rfl) (run_10 (stO_len all)) ?_
 refine gW ?_
 refine g_rq rfl rfl (in64 (by simp only [arv]; omega)) ?_
 have e1 : arv .add (all.length : Int) (m : Int) = (((all ++ bs).length : Nat) : Int) := by rw [List.length_append, hm]; simp only [arv]; omega
 rw [e1]
 refine gW ?_
 refine g_ef0 rfl (ef_st hS 0 rfl rfl rfl rfl (by rw [run_len (stO_len all)]; decide) rfl fun w1 hS => ?_)
 replace hS := hS.ceq (l' := runC true (stO all) v (all ++ bs).length) 0 rfl (run_s10 (stO_len all))
 replace hS : St w0 S0 w1 [cel r (runC true (stO all) v (all ++ bs).length) 110, rdR v 5 1 (lfO all).length (bys (lfO all))] := hS
 refine gW ?_
 refine g_l1 rfl rfl (hS.b 0 rfl) (run_9 (stO_len all)) ?_
 have hR : Rd v 5 1 (lfO all).length (bys (lfO all)) w1 := hS.ok 1 _ rfl
 obtain ⟨a, c, rfl⟩ := hR.form
 have hsp : ∀ {y o s}, a = some ⟨y, o, some s⟩ → False := fun {y o s} e => hpl y o s _ _ (by rw [e])
 have hll : (lfO all).length ≤ all.length := by unfold lfO; rw [List.length_drop]; omega
 refine g_cl rfl rfl (b_Clip hR.cap hsp ?_)
 refine gW ?_
 refine g_ef rfl (ef_apf (n := (lfO all).length) (m := m) (xs := bys (lfO all)) (ys := bys bs) hS rfl hR.clip rfl (.inl ⟨_, hu _ hS⟩) hm0 (by omega) (by omega) fun v2 w1 hS => ?_)
 refine gW ?_
 refine g_ef0 rfl (ef_st hS 0 rfl rfl rfl (by have := hS.rlen 2 rfl; obtain ⟨_, _, rfl⟩ := this; rfl) (by rw [run_len (stO_len all)]; decide) (by have := hS.rlen 2 rfl; obtain ⟨_, _, rfl⟩ := this; rfl) fun w2 hS => ?_)
 obtain ⟨a2, c2, rfl⟩ := hS.rlen 2 rfl
 replace hS := hS.ceq (l' := runC true (stO all) (.slice a2 ((lfO all).length + m) c2) (all ++ bs).length) 0 rfl (run_s9 (stO_len all))
 have hpl2 : Pl (.slice a2 ((lfO all).length + m) c2) := by
  rcases hS.ok 2 _ rfl with ⟨e, _⟩ | ⟨b, cap, rest, e, _⟩
  ·rw [e]; intro y o s n c e; cases e
  ·rw [e]; intro y o s n c e; cases e
 replace hS := hS.sel [0, 2] rfl rfl
 have hA0 : ((all ++ bs).drop (64 * (all.length / 64))).length = (lfO all).length + m := by rw [← add_lf, List.length_append, hm]
 replace hS := hS.conv (r' := rdR (.slice a2 ((lfO all).length + m) c2) 5 1 ((all ++ bs).drop (64 * (all.length / 64))).length (bys ((all ++ bs).drop (64 * (all.length / 64))))) 1 rfl (fun b hb => vb_vo hb) (by
  have := Ow.rd (hS.ok 1 _ rfl)
  rw [← bys_append, add_lf] at this
  rw [hA0]
  exact this)
 have e0 : shaN (all ++ bs) (all.length / 64) = stO all := shaN_app all bs _ (by omega)
 have hAl : (all ++ bs).length = all.length + m := by rw [List.length_append, hm]
 have hj0 : 64 * (all.length / 64) ≤ (all ++ bs).length := by omega
 rw [← e0] at hS
 generalize all ++ bs = A at hS hAl hj0 h hA0
 generalize hJ : all.length / 64 = J at hS hj0
 clear e0 e1
 refine gW ?_
 refine g_lp (ι := Nat × Value) (fun x => [(0, dp r)]) (fun x w' => 64 * x.1 ≤ A.length ∧ Pl x.2 ∧ St w0 S0 w' [cel r (runC true (shaN A x.1) x.2 A.length) 110, rdR x.2 5 1 (A.drop (64 * x.1)).length (bys (A.drop (64 * x.1)))]) (fun x => A.length - 64 * x.1) (J, _) ⟨rfl, trivial⟩ ⟨hj0, hpl2, hS⟩ ?_
 clear hS hpl2
 rintro ⟨j, vj⟩ w1 ⟨hj, hp, hS⟩
 dsimp only at hj hp hS ⊢
 have hRj : Rd vj 5 1 (A.drop (64 * j)).length (bys (A.drop (64 * j))) w1 := hS.ok 1 _ rfl
 obtain ⟨aj, cj, rfl⟩ := hRj.form
 have hs8 := shaN_len A j
 have hDl : (A.drop (64 * j)).length = A.length - 64 * j := List.length_drop
 refine gW ?_
 refine g_l1 rfl rfl (hS.b 0 rfl) (run_9 hs8) ?_
 refine gW ?_
 (refine g_cd rfl (fun hc => ?_) (fun hc => ?_) <;> simp only [cmv, arv, Bool.not_eq_true', Bool.not_eq_false', decide_eq_true_eq, decide_eq_false_iff_not] at hc)
 ·obtain ⟨bj, off, cap, l, e, hcap, hl, hx, hb⟩ := hRj.block (by omega)
  cases e
  have ht64 : ((A.drop (64 * j)).take 64).length = 64 := by rw [List.length_take]; omega
  refine gW ?_
  refine g_ef rfl (ef_al hS fun b5 w1 hS => ?_)
  replace hS : St w0 S0 w1 [_, _, cel b5 (zx [(64, .int .u8 0)]) 179] := hS
  refine gW ?_
  refine g_dr mixed ?_
  replace hS := hS.drew
  refine gD ?_
  refine d_rq rfl rfl rfl ⟨by decide, by decide, by decide⟩ ?_
  refine gD ?_
  refine d_l1 rfl rfl rfl (hS.b 0 rfl) (run_9 hs8) ?_
  refine d_e rfl rfl ?_
  refine ef_cp (m := (A.drop (64 * j)).length) (ys := bys (A.drop (64 * j))) hS 2 rfl rfl rfl (.inl ⟨_, hS.ok 1 _ rfl⟩) (by rw [lz]; decide) (bys_one _) fun w1 hS => ⟨rc_0, ?_⟩
  replace hS := hS.ceq (l' := bys ((A.drop (64 * j)).take 64)) 2 rfl (by
   have e2 : (bys (A.drop (64 * j))).take (min (A.drop (64 * j)).length (64 - 0) * 1) = bys ((A.drop (64 * j)).take 64) := by
    rw [show min (A.drop (64 * j)).length (64 - 0) * 1 = 64 by omega, bys_take]
   have e3 := spl_full (zx [(64, .int .u8 0)]) (bys ((A.drop (64 * j)).take 64)) (by rw [bys_length, ht64, lz])
   rw [← e2] at e3
   rw [← e2]
   exact e3)
  replace hS : St w0 S0 w1 [cel r (runC true (shaN A j) (.slice (some ⟨bj, off, none⟩) (A.drop (64 * j)).length cj) A.length) 110, rdR (.slice (some ⟨bj, off, none⟩) (A.drop (64 * j)).length cj) 5 1 (A.drop (64 * j)).length (bys (A.drop (64 * j))), cel b5 (bys ((A.drop (64 * j)).take 64)) 179] := hS
  refine gD ?_
  refine d_fin ?_
  refine gW ?_
  refine g_dr mixed ?_
  replace hS := hS.drew
  refine gD ?_
  refine d_lm rfl rfl rfl (hS.b 0 rfl) (by rw [run_len hs8]; decide) ?_
  rw [run_1 hs8]
  refine d_lm rfl rfl rfl (hS.b 2 rfl) (Nat.le_of_eq (by rw [bys_length, ht64])) ?_
  rw [List.drop_zero, List.take_of_length_le (Nat.le_of_eq (by rw [bys_length, ht64]))]
  refine d_cl rfl rfl rfl (b_mixed hs8 ht64 (hgl hS) fun w1 h' => ?_)
  replace hS := hS.call0.2 _ _ h'
  rw [List.append_nil] at hS
  clear h'
  refine ⟨rc_0, ?_⟩
  have hs8' := shaN_len A (j + 1)
  replace hs8' : (mixd (shaN A j) ((A.drop (64 * j)).take 64)).length = 8 := hs8'
  refine gD ?_
  refine d_e0 rfl rfl ?_
  refine ef_st hS 0 rfl rfl rfl (by show (ws _).length = 8; rw [ws_len, hs8']) (by rw [run_len hs8]; decide) (ws_one _) fun w1 hS => ⟨rc_0, ?_⟩
  replace hS := hS.ceq (l' := runC true (shaN A (j + 1)) (.slice (some ⟨bj, off, none⟩) (A.drop (64 * j)).length cj) A.length) 0 rfl (run_s1 hs8 hs8')
  have hs9 := shaN_len A (j + 1)
  refine d_fin ?_
  refine gW ?_
  refine g_l1 rfl rfl (hS.b 0 rfl) (run_9 hs9) ?_
  refine g_rq rfl rfl ⟨by decide, by omega, by omega, by omega⟩ ?_
  refine gW ?_
  refine g_ef0 rfl (ef_st hS 0 rfl rfl rfl rfl (by rw [run_len hs9]; decide) rfl fun w1 hS => ?_)
  rw [Int.toNat_natCast, Int.toNat_natCast] at hS
  replace hS := hS.ceq (l' := runC true (shaN A (j + 1)) (.slice (some ⟨bj, slo (some (.const (.int .i64 64))) off cj 64 1, none⟩) ((A.drop (64 * j)).length - 64) (cj - 64)) A.length) 0 rfl (run_s9 hs9)
  have hRn : Rd (.slice (some ⟨bj, slo (some (.const (.int .i64 64))) off cj 64 1, none⟩) ((A.drop (64 * j)).length - 64) (cj - 64)) 5 1 ((A.drop (64 * j)).length - 64) ((bys (A.drop (64 * j))).drop 64) w1 := (hS.ok 1 _ rfl : Rd _ _ _ _ _ _).drop (by omega)
  have ed : A.drop (64 * (j + 1)) = (A.drop (64 * j)).drop 64 := by rw [List.drop_drop]; congr 1
  have edl : (A.drop (64 * (j + 1))).length = (A.drop (64 * j)).length - 64 := by rw [ed, List.length_drop]
  replace hS := hS.conv (r' := rdR (.slice (some ⟨bj, slo (some (.const (.int .i64 64))) off cj 64 1, none⟩) ((A.drop (64 * j)).length - 64) (cj - 64)) 5 1 (A.drop (64 * (j + 1))).length (bys (A.drop (64 * (j + 1))))) 1 rfl (fun b hb => ⟨hb.1, by have := hb.2; omega⟩) (by
   show Rd _ _ _ _ _ _
   rw [edl, ed, ← bys_drop]
   exact hRn)
  refine gW ?_
  exact g_l (j + 1, _) ⟨rfl, trivial⟩ ⟨by simp only; omega, by intro y o s n c e; simp at e, hS.sel [0, 1] rfl rfl⟩ (by simp only; omega)
 ·have ej : A.length / 64 = j := by omega
  refine gW ?_
  refine g_ret (q_1 rfl (h _ _ hp ?_))
  unfold RunR stO lfO
  rw [ej]
  exact hS
end
def zid : Bs := List.replicate 32 0
theorem zid_len : zid.length = 32 := by decide
end Go.Proofs.YtocofjmknnckhaaGreatDoor
