/- Qd0 Nb3 Nd1 Nd2 Qd2 Qg0 Qd3 -/
import Derived.Test.YtocofjmknnckhaaGreatDoorPk7
import Derived.Test.YtocofjmknnckhaaGreatDoorChecked
import Derived.KernelRfl
set_option linter.unusedSimpArgs false
set_option linter.unusedVariables false
namespace Go.Proofs.YtocofjmknnckhaaGreatDoor
open Go.En
def m30 : MC := .sq (.rg [.o 2 (.al [(1, .int .i64 0), (2, .slice none 0 0), (32, .int .u8 0), (1, .slice none 0 0), (1, .int .i64 0), (32, .int .u8 0), (1, .string ⟨#[]⟩)] 79), .c 3 (.int .i64 0)]) (.sq (.rg [.t 9 0, .o 10 (.cl 56 [.tmp 9]), .t 8 10, .o 11 (.ex (.tmp 8) 0), .o 12 (.ex (.tmp 8) 1), .o 4 (.al [(1, .int .i64 0), (2, .slice none 0 0), (32, .int .u8 0), (1, .slice none 0 0), (1, .int .i64 0), (32, .int .u8 0), (1, .string ⟨#[]⟩)] 79), .e (.st (.tmp 4) (.tmp 11) 70), .t 5 12]) (.sq (.sq (.rg [.t 13 5, .o 14 (.cm .neq (.tmp 13) (.const (.int .i64 0)))]) (.cd (.tmp 14) (.sq (.rg [.o 15 (.bd [(1, .int .i64 0), (2, .slice none 0 0), (32, .int .u8 0), (1, .slice none 0 0), (1, .int .i64 0), (32, .int .u8 0), (1, .string ⟨#[]⟩)] []), .e (.st (.tmp 2) (.tmp 15) 70), .c 3 (.int .i64 70)]) (.rt)) (.sk))) (.sq (.rg [.o 17 (.ld (.tmp 4) (some 70)), .o 18 (.cl 57 [.tmp 17]), .t 16 18, .o 19 (.ex (.tmp 16) 0), .o 20 (.ex (.tmp 16) 1), .t 6 19, .t 7 20]) (.sq (.sq (.rg [.t 21 7, .o 22 (.cm .neq (.tmp 21) (.const (.int .i64 0))), .t 23 22, .q 24 23 false (.mv (.tmp 6)), .q 25 23 false (.bs (.tmp 24)), .q 26 23 false (.mv (.tmp 0)), .q 27 23 false (.bs (.tmp 26)), .q 28 23 false (.se .neq (.tmp 25) (.tmp 27)), .o 29 (.pk (.tmp 23) (.const (.bool true)) (.tmp 28))]) (.cd (.tmp 29) (.sq (.rg [.o 30 (.bd [(1, .int .i64 0), (2, .slice none 0 0), (32, .int .u8 0), (1, .slice none 0 0), (1, .int .i64 0), (32, .int .u8 0), (1, .string ⟨#[]⟩)] []), .e (.st (.tmp 2) (.tmp 30) 70), .c 3 (.int .i64 70)]) (.rt)) (.sk))) (.sq (.rg [.o 31 (.ld (.tmp 4) (some 70)), .e (.st (.tmp 2) (.tmp 31) 70), .c 3 (.int .i64 0)]) (.rt))))))
theorem k30 : Tryz.f30.body.any (fun c => chkC Tryz.prog c m30 && allD (dlt 32) m30) = true := by kernel_rfl
def m56 : MC := .sq (.rg [.o 2 (.al [(1, .int .i64 0), (2, .slice none 0 0), (32, .int .u8 0), (1, .slice none 0 0), (1, .int .i64 0), (32, .int .u8 0), (1, .string ⟨#[]⟩)] 79), .c 3 (.int .i64 0)]) (.sq (.rg [.t 26 0, .o 27 (.cl 34 [.tmp 26]), .o 28 (.bd [(1, .slice none 0 0)] [(0, 1, .tmp 27)]), .o 29 (.bx 183 (.tmp 28)), .t 4 29]) (.sq (.rg [.t 31 4, .o 32 (.cl 104 [.tmp 31, .const (.int .i64 1)]), .t 30 32, .o 33 (.ex (.tmp 30) 0), .o 34 (.ex (.tmp 30) 1), .t 5 33, .t 6 34]) (.sq (.sq (.rg [.t 35 6, .o 36 (.cm .neq (.tmp 35) (.const (.int .i64 0)))]) (.cd (.tmp 36) (.sq (.rg [.o 37 (.bd [(1, .int .i64 0), (2, .slice none 0 0), (32, .int .u8 0), (1, .slice none 0 0), (1, .int .i64 0), (32, .int .u8 0), (1, .string ⟨#[]⟩)] []), .e (.st (.tmp 2) (.tmp 37) 70), .c 3 (.int .i64 70)]) (.rt)) (.sk))) (.sq (.rg [.t 38 5, .o 39 (.ias (.tmp 38) (.const (.int .i64 0)) 1), .o 40 (.ld (.tmp 39) none), .o 41 (.ci .i64 (.tmp 40)), .o 42 (.bd [(1, .int .i64 0), (2, .slice none 0 0), (32, .int .u8 0), (1, .slice none 0 0), (1, .int .i64 0), (32, .int .u8 0), (1, .string ⟨#[]⟩)] [(0, 1, .tmp 41)]), .o 7 (.al [(1, .int .i64 0), (2, .slice none 0 0), (32, .int .u8 0), (1, .slice none 0 0), (1, .int .i64 0), (32, .int .u8 0), (1, .string ⟨#[]⟩)] 79), .e (.st (.tmp 7) (.tmp 42) 70)]) (.sq (.sq (.rg [.o 43 (.fa (.tmp 7) 0), .o 44 (.ld (.tmp 43) none)]) (.bk 0 (.sq (.rg [.o 46 (.cm .eql (.tmp 44) (.const (.int .i64 1))), .t 45 46]) (.cd (.tmp 45) (.rg [.t 48 4, .o 49 (.cl 105 [.tmp 48, .const (.int .i64 1024)]), .t 47 49, .o 50 (.ex (.tmp 47) 0), .o 51 (.ex (.tmp 47) 1), .o 52 (.fa (.tmp 7) 1), .e (.st (.tmp 52) (.tmp 50) 1), .t 6 51]) (.sq (.rg [.o 54 (.cm .eql (.tmp 44) (.const (.int .i64 2))), .t 53 54]) (.cd (.tmp 53) (.sq (.rg [.t 56 4, .o 57 (.cl 106 [.tmp 56, .const (.int .u64 32)]), .t 55 57, .o 58 (.ex (.tmp 55) 0), .o 59 (.ex (.tmp 55) 1), .t 8 58, .t 9 59]) (.sq (.rg [.t 60 9, .t 6 60]) (.sq (.rg [.c 10 (.int .u64 0)]) (.bk 1 (.lp (.sq (.sq (.rg [.t 61 10, .t 62 8, .o 63 (.cm .lss (.tmp 61) (.tmp 62)), .t 64 63, .q 65 64 true (.mv (.tmp 6)), .q 66 64 true (.cm .eql (.tmp 65) (.const (.int .i64 0))), .o 67 (.pk (.tmp 64) (.tmp 66) (.const (.bool false)))]) (.cd (.tmp 67) (.sk) (.xt 1))) (.sq (.bk 2 (.sq (.rg [.t 71 4, .o 72 (.cl 107 [.tmp 71]), .t 70 72, .o 73 (.ex (.tmp 70) 0), .o 74 (.ex (.tmp 70) 1), .o 11 (.al [(1, .string ⟨#[]⟩), (1, .int .i64 0), (32, .int .u8 0)] 175), .e (.st (.tmp 11) (.tmp 73) 34), .t 12 74]) (.sq (.rg [.t 75 12, .t 6 75]) (.rg [.o 76 (.fa (.tmp 7) 2), .o 77 (.ld (.tmp 76) none), .o 78 (.ld (.tmp 11) (some 34)), .o 79 (.bl 175 34 [.tmp 78]), .o 80 (.ap 175 34 56 [(1, .string ⟨#[]⟩), (1, .int .i64 0), (32, .int .u8 0)] (.tmp 77) (.tmp 79)), .o 81 (.fa (.tmp 7) 2), .e (.st (.tmp 81) (.tmp 80) 1)])))) (.rg [.t 68 10, .o 69 (.ar .add .u64 (.tmp 68) (.const (.int .u64 1)) false), .t 10 69])))))))) (.sq (.rg [.o 83 (.cm .eql (.tmp 44) (.const (.int .i64 3))), .t 82 83]) (.cd (.tmp 82) (.sq (.rg [.t 85 4, .o 86 (.cl 108 [.tmp 85]), .t 84 86, .o 87 (.ex (.tmp 84) 0), .o 88 (.ex (.tmp 84) 1), .o 13 (.al [(32, .int .u8 0)] 46), .e (.st (.tmp 13) (.tmp 87) 32), .t 14 88]) (.sq (.rg [.o 89 (.ld (.tmp 13) (some 32)), .o 90 (.fa (.tmp 7) 3), .e (.st (.tmp 90) (.tmp 89) 32)]) (.sq (.rg [.t 92 4, .o 93 (.cl 106 [.tmp 92, .const (.int .u64 4)]), .t 91 93, .o 94 (.ex (.tmp 91) 0), .o 95 (.ex (.tmp 91) 1), .t 15 94, .t 16 95]) (.sq (.rg [.t 96 14, .t 97 16, .o 98 (.ar .add .i64 (.tmp 96) (.tmp 97) true), .t 6 98]) (.sq (.sq (.rg [.c 17 (.int .u64 0)]) (.bk 3 (.lp (.sq (.sq (.rg [.t 99 17, .t 100 15, .o 101 (.cm .lss (.tmp 99) (.tmp 100)), .t 102 101, .q 103 102 true (.mv (.tmp 6)), .q 104 102 true (.cm .eql (.tmp 103) (.const (.int .i64 0))), .o 105 (.pk (.tmp 102) (.tmp 104) (.const (.bool false)))]) (.cd (.tmp 105) (.sk) (.xt 3))) (.sq (.bk 4 (.sq (.rg [.t 109 4, .o 110 (.cl 108 [.tmp 109]), .t 108 110, .o 111 (.ex (.tmp 108) 0), .o 112 (.ex (.tmp 108) 1), .o 18 (.al [(32, .int .u8 0)] 46), .e (.st (.tmp 18) (.tmp 111) 32), .t 19 112]) (.sq (.rg [.t 113 19, .t 6 113]) (.rg [.o 114 (.fa (.tmp 7) 35), .o 115 (.ld (.tmp 114) none), .o 116 (.ld (.tmp 18) (some 32)), .o 117 (.bl 46 32 [.tmp 116]), .o 118 (.ap 46 32 32 [(32, .int .u8 0)] (.tmp 115) (.tmp 117)), .o 119 (.fa (.tmp 7) 35), .e (.st (.tmp 119) (.tmp 118) 1)])))) (.rg [.t 106 17, .o 107 (.ar .add .u64 (.tmp 106) (.const (.int .u64 1)) false), .t 17 107])))))) (.sq (.rg [.t 120 6, .o 121 (.cm .eql (.tmp 120) (.const (.int .i64 0)))]) (.cd (.tmp 121) (.rg [.t 123 4, .o 124 (.cl 109 [.tmp 123]), .t 122 124, .o 125 (.ex (.tmp 122) 0), .o 126 (.ex (.tmp 122) 1), .o 127 (.fa (.tmp 7) 69), .e (.st (.tmp 127) (.tmp 125) 1), .t 6 126]) (.sk)))))))) (.sq (.rg [.o 129 (.cm .eql (.tmp 44) (.const (.int .i64 4))), .t 128 129]) (.cd (.tmp 128) (.sq (.rg [.t 131 4, .o 132 (.cl 104 [.tmp 131, .const (.int .i64 1)]), .t 130 132, .o 133 (.ex (.tmp 130) 0), .o 134 (.ex (.tmp 130) 1), .t 20 133, .t 21 134]) (.sq (.rg [.t 136 4, .o 137 (.cl 108 [.tmp 136]), .t 135 137, .o 138 (.ex (.tmp 135) 0), .o 139 (.ex (.tmp 135) 1), .o 22 (.al [(32, .int .u8 0)] 46), .e (.st (.tmp 22) (.tmp 138) 32), .t 23 139]) (.sq (.rg [.t 141 4, .o 142 (.cl 109 [.tmp 141]), .t 140 142, .o 143 (.ex (.tmp 140) 0), .o 144 (.ex (.tmp 140) 1), .t 24 143, .t 25 144]) (.sq (.rg [.t 145 21, .t 146 23, .o 147 (.ar .add .i64 (.tmp 145) (.tmp 146) true), .t 148 25, .o 149 (.ar .add .i64 (.tmp 147) (.tmp 148) true), .t 6 149]) (.sq (.rg [.t 150 6, .o 151 (.cm .eql (.tmp 150) (.const (.int .i64 0)))]) (.cd (.tmp 151) (.sq (.dr [.t 152 20, .o 153 (.ias (.tmp 152) (.const (.int .i64 0)) 1), .o 154 (.ld (.tmp 153) none), .o 155 (.ci .i64 (.tmp 154)), .o 156 (.ld (.tmp 22) (some 32)), .o 157 (.bd [(1, .int .i64 0), (32, .int .u8 0)] [(0, 1, .tmp 155), (1, 32, .tmp 156)]), .o 158 (.fa (.tmp 7) 36), .e (.st (.tmp 158) (.tmp 157) 33)] [0, 1, 3, 7, 0, 31, 63, 127] (.q 0 (.q 1 (.q 2 (.q 3 (.q 4 (.q 5 (.q 6 (.e 7 [] (.fin)))))))))) (.rg [.t 159 24, .o 160 (.fa (.tmp 7) 69), .e (.st (.tmp 160) (.tmp 159) 1)])) (.sk))))))) (.sk))))))))))) (.sq (.rg [.o 161 (.ld (.tmp 7) (some 70)), .t 162 6, .e (.st (.tmp 2) (.tmp 161) 70), .t 3 162]) (.rt)))))))
theorem k56 : Tryz.f56.body.any (fun c => chkC Tryz.prog c m56 && allD (dlt 163) m56) = true := by kernel_rfl
def m57 : MC := .sq (.rg [.o 1 (.bx 79 (.tmp 0)), .c 2 (.slice none 0 0), .c 3 (.int .i64 0)]) (.sq (.sq (.rg [.o 4 (.ld (.tmp 1) (some 70)), .o 5 (.cl 110 [.tmp 4]), .o 6 (.cm .neq (.tmp 5) (.const (.int .i64 0)))]) (.cd (.tmp 6) (.sq (.rg [.c 2 (.slice none 0 0), .c 3 (.int .i64 70)]) (.rt)) (.sk))) (.sq (.rg [.o 7 (.ld (.tmp 1) (some 70)), .o 8 (.cl 111 [.tmp 7]), .t 2 8, .c 3 (.int .i64 0)]) (.rt)))
theorem k57 : Tryz.f57.body.any (fun c => chkC Tryz.prog c m57 && allD (dlt 9) m57) = true := by kernel_rfl
def m107 : MC := .sq (.rg [.o 2 (.al [(1, .string ⟨#[]⟩), (1, .int .i64 0), (32, .int .u8 0)] 175), .c 3 (.int .i64 0)]) (.sq (.rg [.t 11 0, .o 12 (.cl 109 [.tmp 11]), .t 10 12, .o 13 (.ex (.tmp 10) 0), .o 14 (.ex (.tmp 10) 1), .t 4 13, .t 5 14]) (.sq (.rg [.t 16 0, .o 17 (.cl 104 [.tmp 16, .const (.int .i64 1)]), .t 15 17, .o 18 (.ex (.tmp 15) 0), .o 19 (.ex (.tmp 15) 1), .t 6 18, .t 7 19]) (.sq (.rg [.t 21 0, .o 22 (.cl 108 [.tmp 21]), .t 20 22, .o 23 (.ex (.tmp 20) 0), .o 24 (.ex (.tmp 20) 1), .o 8 (.al [(32, .int .u8 0)] 46), .e (.st (.tmp 8) (.tmp 23) 32), .t 9 24]) (.sq (.sq (.rg [.t 25 5, .t 26 7, .o 27 (.ar .add .i64 (.tmp 25) (.tmp 26) true), .t 28 9, .o 29 (.ar .add .i64 (.tmp 27) (.tmp 28) true), .o 30 (.cm .neq (.tmp 29) (.const (.int .i64 0)))]) (.cd (.tmp 30) (.sq (.rg [.o 31 (.bd [(1, .string ⟨#[]⟩), (1, .int .i64 0), (32, .int .u8 0)] []), .e (.st (.tmp 2) (.tmp 31) 34), .c 3 (.int .i64 70)]) (.rt)) (.sk))) (.sq (.dr [.t 32 4, .t 33 6, .o 34 (.ias (.tmp 33) (.const (.int .i64 0)) 1), .o 35 (.ld (.tmp 34) none), .o 36 (.ci .i64 (.tmp 35)), .o 37 (.ld (.tmp 8) (some 32)), .o 38 (.bd [(1, .string ⟨#[]⟩), (1, .int .i64 0), (32, .int .u8 0)] [(0, 1, .tmp 32), (1, 1, .tmp 36), (2, 32, .tmp 37)]), .e (.st (.tmp 2) (.tmp 38) 34), .c 3 (.int .i64 0)] [0, 0, 2, 6, 14, 0, 63, 127, 255] (.q 0 (.q 1 (.q 2 (.q 3 (.q 4 (.q 5 (.q 6 (.e 7 [] (.q 8 (.fin))))))))))) (.rt))))))
theorem k107 : Tryz.f107.body.any (fun c => chkC Tryz.prog c m107 && allD (dlt 39) m107) = true := by kernel_rfl
def m108 : MC := .sq (.rg [.o 2 (.al [(32, .int .u8 0)] 46), .c 3 (.int .i64 0)]) (.sq (.rg [.o 8 (.bd [(32, .int .u8 0)] []), .o 4 (.al [(32, .int .u8 0)] 46), .e (.st (.tmp 4) (.tmp 8) 32)]) (.sq (.rg [.t 10 0, .o 11 (.cl 104 [.tmp 10, .const (.int .i64 32)]), .t 9 11, .o 12 (.ex (.tmp 9) 0), .o 13 (.ex (.tmp 9) 1), .t 5 12, .t 6 13]) (.sq (.sq (.rg [.c 7 (.int .i64 0)]) (.bk 0 (.lp (.sq (.sq (.rg [.t 14 7, .t 15 5, .o 16 (.ln false (.tmp 15)), .o 17 (.cm .lss (.tmp 14) (.tmp 16))]) (.cd (.tmp 17) (.sk) (.xt 0))) (.sq (.bk 1 (.rg [.t 20 7, .t 21 5, .t 22 7, .o 23 (.ias (.tmp 21) (.tmp 22) 1), .o 24 (.ld (.tmp 23) none), .o 25 (.iaa (.tmp 4) (.tmp 20) 32 1), .e (.st (.tmp 25) (.tmp 24) 1)])) (.rg [.t 18 7, .o 19 (.ar .add .i64 (.tmp 18) (.const (.int .i64 1)) true), .t 7 19])))))) (.sq (.rg [.o 26 (.ld (.tmp 4) (some 32)), .t 27 6, .e (.st (.tmp 2) (.tmp 26) 32), .t 3 27]) (.rt)))))
theorem k108 : Tryz.f108.body.any (fun c => chkC Tryz.prog c m108 && allD (dlt 28) m108) = true := by kernel_rfl
def m109 : MC := .sq (.rg [.c 2 (.string ⟨#[]⟩), .c 3 (.int .i64 0)]) (.sq (.rg [.t 7 0, .o 8 (.cl 105 [.tmp 7, .const (.int .i64 4000)]), .t 6 8, .o 9 (.ex (.tmp 6) 0), .o 10 (.ex (.tmp 6) 1), .t 4 9, .t 5 10]) (.sq (.rg [.t 11 4, .o 12 (.bs (.tmp 11)), .t 13 5, .t 2 12, .t 3 13]) (.rt)))
theorem k109 : Tryz.f109.body.any (fun c => chkC Tryz.prog c m109 && allD (dlt 14) m109) = true := by kernel_rfl
def m110 : MC := .sq (.rg [.o 1 (.bx 79 (.tmp 0)), .c 2 (.int .i64 0)]) (.sq (.rg [.o 10 (.fa (.tmp 1) 3), .o 11 (.ld (.tmp 10) (some 32)), .o 12 (.cl 156 [.tmp 11]), .t 3 12]) (.sq (.rg [.o 13 (.fa (.tmp 1) 36), .o 14 (.fa (.tmp 13) 0), .o 15 (.ld (.tmp 14) none), .o 16 (.cm .eql (.tmp 15) (.const (.int .i64 0))), .t 17 16, .q 18 17 true (.fa (.tmp 1) 36), .q 19 17 true (.fa (.tmp 18) 1), .q 20 17 true (.ld (.tmp 19) (some 32)), .q 21 17 true (.cl 156 [.tmp 20]), .o 22 (.pk (.tmp 17) (.tmp 21) (.const (.bool false))), .t 4 22]) (.sq (.rg [.o 23 (.fa (.tmp 1) 1), .o 24 (.ld (.tmp 23) none), .o 25 (.ln false (.tmp 24)), .o 26 (.cm .gtr (.tmp 25) (.const (.int .i64 0))), .t 5 26]) (.sq (.rg [.o 27 (.fa (.tmp 1) 2), .o 28 (.ld (.tmp 27) none), .o 29 (.ln false (.tmp 28)), .o 30 (.cm .gtr (.tmp 29) (.const (.int .i64 0))), .t 6 30]) (.sq (.rg [.o 31 (.fa (.tmp 1) 69), .o 32 (.ld (.tmp 31) none), .o 33 (.ln true (.tmp 32)), .o 34 (.cm .gtr (.tmp 33) (.const (.int .i64 0))), .t 7 34]) (.sq (.rg [.o 35 (.fa (.tmp 1) 35), .o 36 (.ld (.tmp 35) none), .o 37 (.ln false (.tmp 36)), .o 38 (.cm .gtr (.tmp 37) (.const (.int .i64 0))), .t 39 38, .q 40 39 false (.mv (.tmp 3)), .q 41 39 false (.nt (.tmp 40)), .o 42 (.pk (.tmp 39) (.const (.bool true)) (.tmp 41)), .t 8 42]) (.sq (.rg [.c 9 (.bool false)]) (.sq (.sq (.rg [.o 43 (.fa (.tmp 1) 0), .o 44 (.ld (.tmp 43) none)]) (.bk 0 (.sq (.rg [.o 46 (.cm .eql (.tmp 44) (.const (.int .i64 1))), .t 45 46]) (.cd (.tmp 45) (.rg [.o 47 (.fa (.tmp 1) 1), .o 48 (.ld (.tmp 47) none), .o 49 (.ln false (.tmp 48)), .o 50 (.cm .leq (.tmp 49) (.const (.int .i64 1024))), .t 51 50, .q 52 51 true (.mv (.tmp 6)), .q 53 51 true (.nt (.tmp 52)), .o 54 (.pk (.tmp 51) (.tmp 53) (.const (.bool false))), .t 55 54, .q 56 55 true (.mv (.tmp 8)), .q 57 55 true (.nt (.tmp 56)), .o 58 (.pk (.tmp 55) (.tmp 57) (.const (.bool false))), .t 59 58, .q 60 59 true (.mv (.tmp 7)), .q 61 59 true (.nt (.tmp 60)), .o 62 (.pk (.tmp 59) (.tmp 61) (.const (.bool false))), .t 63 62, .q 64 63 true (.mv (.tmp 4)), .o 65 (.pk (.tmp 63) (.tmp 64) (.const (.bool false))), .t 9 65]) (.sq (.rg [.o 67 (.cm .eql (.tmp 44) (.const (.int .i64 2))), .t 66 67]) (.cd (.tmp 66) (.rg [.o 68 (.fa (.tmp 1) 2), .o 69 (.ld (.tmp 68) none), .o 70 (.cl 157 [.tmp 69]), .t 71 70, .q 72 71 true (.mv (.tmp 5)), .q 73 71 true (.nt (.tmp 72)), .o 74 (.pk (.tmp 71) (.tmp 73) (.const (.bool false))), .t 75 74, .q 76 75 true (.mv (.tmp 8)), .q 77 75 true (.nt (.tmp 76)), .o 78 (.pk (.tmp 75) (.tmp 77) (.const (.bool false))), .t 79 78, .q 80 79 true (.mv (.tmp 7)), .q 81 79 true (.nt (.tmp 80)), .o 82 (.pk (.tmp 79) (.tmp 81) (.const (.bool false))), .t 83 82, .q 84 83 true (.mv (.tmp 4)), .o 85 (.pk (.tmp 83) (.tmp 84) (.const (.bool false))), .t 9 85]) (.sq (.rg [.o 87 (.cm .eql (.tmp 44) (.const (.int .i64 3))), .t 86 87]) (.cd (.tmp 86) (.rg [.o 88 (.fa (.tmp 1) 35), .o 89 (.ld (.tmp 88) none), .o 90 (.cl 158 [.tmp 89]), .t 91 90, .q 92 91 true (.fa (.tmp 1) 69), .q 93 91 true (.ld (.tmp 92) none), .q 94 91 true (.ln true (.tmp 93)), .q 95 91 true (.cm .leq (.tmp 94) (.const (.int .i64 200))), .o 96 (.pk (.tmp 91) (.tmp 95) (.const (.bool false))), .t 97 96, .q 98 97 true (.mv (.tmp 5)), .q 99 97 true (.nt (.tmp 98)), .o 100 (.pk (.tmp 97) (.tmp 99) (.const (.bool false))), .t 101 100, .q 102 101 true (.mv (.tmp 6)), .q 103 101 true (.nt (.tmp 102)), .o 104 (.pk (.tmp 101) (.tmp 103) (.const (.bool false))), .t 105 104, .q 106 105 true (.mv (.tmp 4)), .o 107 (.pk (.tmp 105) (.tmp 106) (.const (.bool false))), .t 9 107]) (.sq (.rg [.o 109 (.cm .eql (.tmp 44) (.const (.int .i64 4))), .t 108 109]) (.cd (.tmp 108) (.rg [.o 110 (.fa (.tmp 1) 36), .o 111 (.fa (.tmp 110) 0), .o 112 (.ld (.tmp 111) none), .o 113 (.cm .geq (.tmp 112) (.const (.int .i64 1))), .t 114 113, .q 115 114 true (.fa (.tmp 1) 36), .q 116 114 true (.fa (.tmp 115) 0), .q 117 114 true (.ld (.tmp 116) none), .q 118 114 true (.cm .leq (.tmp 117) (.const (.int .i64 4))), .o 119 (.pk (.tmp 114) (.tmp 118) (.const (.bool false))), .t 120 119, .q 121 120 true (.fa (.tmp 1) 69), .q 122 120 true (.ld (.tmp 121) none), .q 123 120 true (.ln true (.tmp 122)), .q 124 120 true (.cm .leq (.tmp 123) (.const (.int .i64 200))), .o 125 (.pk (.tmp 120) (.tmp 124) (.const (.bool false))), .t 126 125, .q 127 126 true (.mv (.tmp 5)), .q 128 126 true (.nt (.tmp 127)), .o 129 (.pk (.tmp 126) (.tmp 128) (.const (.bool false))), .t 130 129, .q 131 130 true (.mv (.tmp 6)), .q 132 130 true (.nt (.tmp 131)), .o 133 (.pk (.tmp 130) (.tmp 132) (.const (.bool false))), .t 134 133, .q 135 134 true (.mv (.tmp 8)), .q 136 134 true (.nt (.tmp 135)), .o 137 (.pk (.tmp 134) (.tmp 136) (.const (.bool false))), .t 9 137]) (.sk))))))))))) (.sq (.sq (.rg [.t 138 9]) (.cd (.tmp 138) (.sq (.rg [.c 2 (.int .i64 0)]) (.rt)) (.sk))) (.sq (.rg [.c 2 (.int .i64 70)]) (.rt)))))))))))
theorem k110 : Tryz.f110.body.any (fun c => chkC Tryz.prog c m110 && allD (dlt 139) m110) = true := by kernel_rfl
def m111 : MC := .sq (.rg [.o 1 (.bx 79 (.tmp 0)), .c 2 (.slice none 0 0)]) (.sq (.rg [.o 8 (.fa (.tmp 1) 0), .o 9 (.ld (.tmp 8) none), .o 10 (.ci .u8 (.tmp 9)), .o 11 (.bl 5 1 [.tmp 10]), .t 3 11]) (.sq (.sq (.rg [.o 12 (.fa (.tmp 1) 0), .o 13 (.ld (.tmp 12) none)]) (.bk 0 (.sq (.rg [.o 15 (.cm .eql (.tmp 13) (.const (.int .i64 1))), .t 14 15]) (.cd (.tmp 14) (.sq (.rg [.t 16 3, .o 17 (.fa (.tmp 1) 1), .o 18 (.ld (.tmp 17) none), .o 19 (.cl 159 [.tmp 18]), .o 20 (.ap 5 1 1 [(1, .int .u8 0)] (.tmp 16) (.tmp 19)), .t 2 20]) (.rt)) (.sq (.rg [.o 22 (.cm .eql (.tmp 13) (.const (.int .i64 2))), .t 21 22]) (.cd (.tmp 21) (.sq (.rg [.t 23 3, .o 24 (.fa (.tmp 1) 2), .o 25 (.ld (.tmp 24) none), .o 26 (.ln false (.tmp 25)), .o 27 (.ci .u64 (.tmp 26)), .o 28 (.cl 155 [.tmp 27]), .o 29 (.ap 5 1 1 [(1, .int .u8 0)] (.tmp 23) (.tmp 28)), .t 3 29]) (.sq (.sq (.rg [.c 4 (.int .i64 0)]) (.bk 1 (.lp (.sq (.sq (.rg [.t 30 4, .o 31 (.fa (.tmp 1) 2), .o 32 (.ld (.tmp 31) none), .o 33 (.ln false (.tmp 32)), .o 34 (.cm .lss (.tmp 30) (.tmp 33))]) (.cd (.tmp 34) (.sk) (.xt 1))) (.sq (.bk 2 (.sq (.rg [.o 37 (.fa (.tmp 1) 2), .o 38 (.ld (.tmp 37) none), .t 39 4, .o 40 (.ias (.tmp 38) (.tmp 39) 34), .o 41 (.ld (.tmp 40) (some 34)), .o 5 (.al [(1, .string ⟨#[]⟩), (1, .int .i64 0), (32, .int .u8 0)] 175), .e (.st (.tmp 5) (.tmp 41) 34)]) (.sq (.rg [.t 42 3, .o 43 (.fa (.tmp 5) 0), .o 44 (.ld (.tmp 43) none), .o 45 (.sb 5 (.tmp 44)), .o 46 (.cl 159 [.tmp 45]), .o 47 (.ap 5 1 1 [(1, .int .u8 0)] (.tmp 42) (.tmp 46)), .t 3 47]) (.sq (.rg [.t 48 3, .o 49 (.fa (.tmp 5) 1), .o 50 (.ld (.tmp 49) none), .o 51 (.ci .u8 (.tmp 50)), .o 52 (.bl 5 1 [.tmp 51]), .o 53 (.ap 5 1 1 [(1, .int .u8 0)] (.tmp 48) (.tmp 52)), .t 3 53]) (.rg [.t 54 3, .o 55 (.fa (.tmp 5) 2), .o 56 (.sp (.tmp 55) none none 32 1), .o 57 (.ap 5 1 1 [(1, .int .u8 0)] (.tmp 54) (.tmp 56)), .t 3 57]))))) (.rg [.t 35 4, .o 36 (.ar .add .i64 (.tmp 35) (.const (.int .i64 1)) true), .t 4 36])))))) (.sq (.rg [.t 58 3, .t 2 58]) (.rt)))) (.sq (.rg [.o 60 (.cm .eql (.tmp 13) (.const (.int .i64 3))), .t 59 60]) (.cd (.tmp 59) (.sq (.rg [.t 61 3, .o 62 (.fa (.tmp 1) 3), .o 63 (.sp (.tmp 62) none none 32 1), .o 64 (.ap 5 1 1 [(1, .int .u8 0)] (.tmp 61) (.tmp 63)), .t 3 64]) (.sq (.rg [.t 65 3, .o 66 (.fa (.tmp 1) 35), .o 67 (.ld (.tmp 66) none), .o 68 (.ln false (.tmp 67)), .o 69 (.ci .u64 (.tmp 68)), .o 70 (.cl 155 [.tmp 69]), .o 71 (.ap 5 1 1 [(1, .int .u8 0)] (.tmp 65) (.tmp 70)), .t 3 71]) (.sq (.rg [.c 6 (.int .i64 0)]) (.bk 3 (.lp (.sq (.sq (.rg [.t 72 6, .o 73 (.fa (.tmp 1) 35), .o 74 (.ld (.tmp 73) none), .o 75 (.ln false (.tmp 74)), .o 76 (.cm .lss (.tmp 72) (.tmp 75))]) (.cd (.tmp 76) (.sk) (.xt 3))) (.sq (.bk 4 (.sq (.rg [.o 79 (.fa (.tmp 1) 35), .o 80 (.ld (.tmp 79) none), .t 81 6, .o 82 (.ias (.tmp 80) (.tmp 81) 32), .o 83 (.ld (.tmp 82) (some 32)), .o 7 (.al [(32, .int .u8 0)] 46), .e (.st (.tmp 7) (.tmp 83) 32)]) (.rg [.t 84 3, .o 85 (.sp (.tmp 7) none none 32 1), .o 86 (.ap 5 1 1 [(1, .int .u8 0)] (.tmp 84) (.tmp 85)), .t 3 86]))) (.rg [.t 77 6, .o 78 (.ar .add .i64 (.tmp 77) (.const (.int .i64 1)) true), .t 6 78])))))))) (.sq (.rg [.o 88 (.cm .eql (.tmp 13) (.const (.int .i64 4))), .t 87 88]) (.cd (.tmp 87) (.sq (.rg [.t 89 3, .o 90 (.fa (.tmp 1) 36), .o 91 (.fa (.tmp 90) 0), .o 92 (.ld (.tmp 91) none), .o 93 (.ci .u8 (.tmp 92)), .o 94 (.bl 5 1 [.tmp 93]), .o 95 (.ap 5 1 1 [(1, .int .u8 0)] (.tmp 89) (.tmp 94)), .t 3 95]) (.rg [.t 96 3, .o 97 (.fa (.tmp 1) 36), .o 98 (.fa (.tmp 97) 1), .o 99 (.sp (.tmp 98) none none 32 1), .o 100 (.ap 5 1 1 [(1, .int .u8 0)] (.tmp 96) (.tmp 99)), .t 3 100])) (.sk))))))))))) (.sq (.rg [.t 101 3, .o 102 (.fa (.tmp 1) 69), .o 103 (.ld (.tmp 102) none), .o 104 (.sb 5 (.tmp 103)), .o 105 (.cl 159 [.tmp 104]), .o 106 (.ap 5 1 1 [(1, .int .u8 0)] (.tmp 101) (.tmp 105)), .t 2 106]) (.rt))))
theorem k111 : Tryz.f111.body.any (fun c => chkC Tryz.prog c m111 && allD (dlt 107) m111) = true := by kernel_rfl
def m156 : MC := .sq (.rg [.o 1 (.bx 46 (.tmp 0)), .c 2 (.bool false)]) (.sq (.rg [.o 3 (.ld (.tmp 1) (some 32)), .o 4 (.bd [(32, .int .u8 0)] []), .o 5 (.aq .eql 32 (.tmp 3) (.tmp 4)), .t 2 5]) (.rt))
theorem k156 : Tryz.f156.body.any (fun c => chkC Tryz.prog c m156 && allD (dlt 6) m156) = true := by kernel_rfl
def m157 : MC := .sq (.rg [.c 2 (.bool false)]) (.sq (.sq (.rg [.t 5 0, .o 6 (.ln false (.tmp 5)), .o 7 (.cm .gtr (.tmp 6) (.const (.int .i64 32)))]) (.cd (.tmp 7) (.sq (.rg [.c 2 (.bool false)]) (.rt)) (.sk))) (.sq (.sq (.rg [.c 3 (.int .i64 0)]) (.bk 0 (.lp (.sq (.sq (.rg [.t 8 3, .t 9 0, .o 10 (.ln false (.tmp 9)), .o 11 (.cm .lss (.tmp 8) (.tmp 10))]) (.cd (.tmp 11) (.sk) (.xt 0))) (.sq (.bk 1 (.sq (.rg [.t 14 0, .t 15 3, .o 16 (.ias (.tmp 14) (.tmp 15) 34), .o 17 (.fa (.tmp 16) 0), .o 18 (.ld (.tmp 17) none), .o 19 (.cl 179 [.tmp 18]), .t 4 19]) (.sq (.dr [.t 20 4, .o 21 (.nt (.tmp 20)), .t 22 21, .q 23 22 false (.mv (.tmp 0)), .q 24 22 false (.mv (.tmp 3)), .q 25 22 false (.ias (.tmp 23) (.tmp 24) 34), .q 26 22 false (.fa (.tmp 25) 1), .q 27 22 false (.ld (.tmp 26) none), .q 28 22 false (.cm .lss (.tmp 27) (.const (.int .i64 1))), .o 29 (.pk (.tmp 22) (.const (.bool true)) (.tmp 28)), .t 30 29, .q 31 30 false (.mv (.tmp 0)), .q 32 30 false (.mv (.tmp 3)), .q 33 30 false (.ias (.tmp 31) (.tmp 32) 34), .q 34 30 false (.fa (.tmp 33) 1), .q 35 30 false (.ld (.tmp 34) none), .q 36 30 false (.cm .gtr (.tmp 35) (.const (.int .i64 2))), .o 37 (.pk (.tmp 30) (.const (.bool true)) (.tmp 36)), .t 38 37, .q 39 38 false (.mv (.tmp 3)), .q 40 38 false (.cm .gtr (.tmp 39) (.const (.int .i64 0))), .q 41 38 false (.mv (.tmp 40)), .q 42 41 true (.mv (.tmp 0)), .q 43 41 true (.mv (.tmp 3)), .q 44 41 true (.ar .sub .i64 (.tmp 43) (.const (.int .i64 1)) true), .q 45 41 true (.ias (.tmp 42) (.tmp 44) 34), .q 46 41 true (.fa (.tmp 45) 0), .q 47 41 true (.ld (.tmp 46) none), .q 48 41 true (.mv (.tmp 0)), .q 49 41 true (.mv (.tmp 3)), .q 50 41 true (.ias (.tmp 48) (.tmp 49) 34), .q 51 41 true (.fa (.tmp 50) 0), .q 52 41 true (.ld (.tmp 51) none), .q 53 41 true (.sc .geq (.tmp 47) (.tmp 52)), .q 54 38 false (.pk (.tmp 41) (.tmp 53) (.const (.bool false))), .o 55 (.pk (.tmp 38) (.const (.bool true)) (.tmp 54))] [0, 1, 3, 7, 7, 31, 63, 127, 255, 511, 1023, 2047, 2047, 8191, 16383, 32767, 65535, 131071, 262143, 524287, 1048575, 2097151, 4194303, 4194303, 12582911, 33554431, 67108863, 134217727, 4194303, 4194303, 809500671, 1883242495, 4030726143, 8589934591, 17179869183, 34359738367] (.q 0 (.q 1 (.q 2 (.q 3 (.q 4 (.q 5 (.q 6 (.q 7 (.q 8 (.q 9 (.q 10 (.q 11 (.q 12 (.q 13 (.q 14 (.q 15 (.q 16 (.q 17 (.q 18 (.q 19 (.q 20 (.q 21 (.q 22 (.q 23 (.q 24 (.q 25 (.q 26 (.q 27 (.q 28 (.q 29 (.q 30 (.q 31 (.q 32 (.q 33 (.q 34 (.q 35 (.fin)))))))))))))))))))))))))))))))))))))) (.cd (.tmp 55) (.sq (.rg [.c 2 (.bool false)]) (.rt)) (.sk))))) (.rg [.t 12 3, .o 13 (.ar .add .i64 (.tmp 12) (.const (.int .i64 1)) true), .t 3 13])))))) (.sq (.rg [.c 2 (.bool true)]) (.rt))))
theorem k157 : Tryz.f157.body.any (fun c => chkC Tryz.prog c m157 && allD (dlt 56) m157) = true := by kernel_rfl
def m158 : MC := .sq (.rg [.c 2 (.bool false)]) (.sq (.sq (.rg [.c 3 (.int .i64 0)]) (.bk 0 (.lp (.sq (.sq (.rg [.t 5 3, .t 6 0, .o 7 (.ln false (.tmp 6)), .o 8 (.cm .lss (.tmp 5) (.tmp 7))]) (.cd (.tmp 8) (.sk) (.xt 0))) (.sq (.bk 1 (.sq (.rg [.c 4 (.int .i64 0)]) (.bk 2 (.lp (.sq (.sq (.rg [.t 11 4, .t 12 3, .o 13 (.cm .lss (.tmp 11) (.tmp 12))]) (.cd (.tmp 13) (.sk) (.xt 2))) (.sq (.bk 3 (.sq (.dr [.t 16 0, .t 17 3, .o 18 (.ias (.tmp 16) (.tmp 17) 32), .o 19 (.ld (.tmp 18) (some 32)), .t 20 0, .t 21 4, .o 22 (.ias (.tmp 20) (.tmp 21) 32), .o 23 (.ld (.tmp 22) (some 32)), .o 24 (.aq .eql 32 (.tmp 19) (.tmp 23))] [0, 0, 3, 7, 0, 0, 48, 112, 255] (.q 0 (.q 1 (.q 2 (.q 3 (.q 4 (.q 5 (.q 6 (.q 7 (.q 8 (.fin))))))))))) (.cd (.tmp 24) (.sq (.rg [.c 2 (.bool false)]) (.rt)) (.sk)))) (.rg [.t 14 4, .o 15 (.ar .add .i64 (.tmp 14) (.const (.int .i64 1)) true), .t 4 15]))))))) (.rg [.t 9 3, .o 10 (.ar .add .i64 (.tmp 9) (.const (.int .i64 1)) true), .t 3 10])))))) (.sq (.rg [.t 25 0, .o 26 (.ln false (.tmp 25)), .o 27 (.cm .leq (.tmp 26) (.const (.int .i64 4))), .t 2 27]) (.rt)))
theorem k158 : Tryz.f158.body.any (fun c => chkC Tryz.prog c m158 && allD (dlt 28) m158) = true := by kernel_rfl
def m179 : MC := .sq (.rg [.c 2 (.bool false)]) (.sq (.sq (.rg [.t 4 0, .o 5 (.ln true (.tmp 4)), .o 6 (.cm .lss (.tmp 5) (.const (.int .i64 1))), .t 7 6, .q 8 7 false (.mv (.tmp 0)), .q 9 7 false (.ln true (.tmp 8)), .q 10 7 false (.cm .gtr (.tmp 9) (.const (.int .i64 64))), .o 11 (.pk (.tmp 7) (.const (.bool true)) (.tmp 10))]) (.cd (.tmp 11) (.sq (.rg [.c 2 (.bool false)]) (.rt)) (.sk))) (.sq (.sq (.rg [.c 3 (.int .i64 0)]) (.bk 0 (.lp (.sq (.sq (.rg [.t 12 3, .t 13 0, .o 14 (.ln true (.tmp 13)), .o 15 (.cm .lss (.tmp 12) (.tmp 14))]) (.cd (.tmp 15) (.sk) (.xt 0))) (.sq (.bk 1 (.sq (.rg [.t 18 0, .t 19 3, .o 20 (.ixs (.tmp 18) (.tmp 19)), .o 21 (.cm .eql (.tmp 20) (.const (.int .u8 47))), .t 22 21, .q 23 22 false (.mv (.tmp 0)), .q 24 22 false (.mv (.tmp 3)), .q 25 22 false (.ixs (.tmp 23) (.tmp 24)), .q 26 22 false (.cm .eql (.tmp 25) (.const (.int .u8 0))), .o 27 (.pk (.tmp 22) (.const (.bool true)) (.tmp 26))]) (.cd (.tmp 27) (.sq (.rg [.c 2 (.bool false)]) (.rt)) (.sk)))) (.rg [.t 16 3, .o 17 (.ar .add .i64 (.tmp 16) (.const (.int .i64 1)) true), .t 3 17])))))) (.sq (.rg [.c 2 (.bool true)]) (.rt))))
theorem k179 : Tryz.f179.body.any (fun c => chkC Tryz.prog c m179 && allD (dlt 28) m179) = true := by kernel_rfl
theorem dig_lt {i j : Nat} (hi : i < 16) (hj : j < 16) : dig.getD i 0 < dig.getD j 0 ↔ i < j := by
 have key : ∀ i j : Fin 16, dig.getD i.val 0 < dig.getD j.val 0 ↔ i.val < j.val := by decide
 exact key ⟨i, hi⟩ ⟨j, hj⟩
theorem hx_cb (c d : UInt8) (a b : Bs) : Lib.compareBytes (hx c ++ a) (hx d ++ b) = if c < d then -1 else if d < c then 1 else Lib.compareBytes a b := by
 have h1 := c.toNat_lt; have h2 := d.toNat_lt
 show (if dig.getD (c.toNat / 16) 0 < dig.getD (d.toNat / 16) 0 then (-1 : Int) else if dig.getD (d.toNat / 16) 0 < dig.getD (c.toNat / 16) 0 then 1 else
  if dig.getD (c.toNat % 16) 0 < dig.getD (d.toNat % 16) 0 then (-1 : Int) else if dig.getD (d.toNat % 16) 0 < dig.getD (c.toNat % 16) 0 then 1 else Lib.compareBytes a b) = _
 simp only [dig_lt (show c.toNat / 16 < 16 by omega) (show d.toNat / 16 < 16 by omega), dig_lt (show d.toNat / 16 < 16 by omega) (show c.toNat / 16 < 16 by omega), dig_lt (show c.toNat % 16 < 16 by omega) (show d.toNat % 16 < 16 by omega), dig_lt (show d.toNat % 16 < 16 by omega) (show c.toNat % 16 < 16 by omega), UInt8.lt_iff_toNat_lt]
 repeat' split
 all_goals first | rfl | omega
theorem hex_cb : ∀ a b : Bs, Lib.compareBytes (hex a) (hex b) = Lib.compareBytes a b
 | [], [] => rfl
 | [], d :: b => rfl
 | c :: a, [] => rfl
 | c :: a, d :: b => by
  have := hex_cb a b
  have e : ∀ c a, hex (c :: a) = hx c ++ hex a := fun c a => by simp [hex]
  rw [e, e, hx_cb, this]
  rw [Lib.compareBytes]
def cfl (s : Bs) (id : Id) : Bs := s ++ 126 :: hex id.1
def nm1 (s : Bs) (m : Bool) (id : Id) : Li := (if m then cfl s id else s, id)
def nmL (s : Bs) (ids : List Id) : List Li := (iset ids).map (nm1 s (decide (1 < (iset ids).length)))
theorem cfl_cb (s : Bs) (a b : Id) : Lib.compareBytes (cfl s a) (cfl s b) = Lib.compareBytes a.1 b.1 := by
 unfold cfl
 rw [cb_app, ← hex_cb a.1 b.1]
 rw [Lib.compareBytes, if_neg (UInt8.lt_irrefl _), if_neg (UInt8.lt_irrefl _)]
theorem nmL_inj (s : Bs) (ids : List Id) (x y : Li) (hx : x ∈ nmL s ids) (hy : y ∈ nmL s ids) (h : x.1 = y.1) : x = y := by
 unfold nmL at hx hy
 obtain ⟨a, ha, rfl⟩ := List.mem_map.1 hx
 obtain ⟨b, hb, rfl⟩ := List.mem_map.1 hy
 by_cases h1 : 1 < (iset ids).length
 ·simp only [nm1, decide_eq_true h1, if_true] at h ⊢
  have : a.1 = b.1 := cb_zero (by rw [← cfl_cb s a b, h, cb_self])
  rw [id_inj a b this]
 ·match hl : iset ids, ha, hb, h1 with
  | [], ha, _, _ => cases ha
  | [c], ha, hb, _ =>
   rw [List.mem_singleton.1 ha, List.mem_singleton.1 hb]
  | _ :: _ :: _, _, _, h1 => exact absurd (by simp) h1
theorem nmL_sorted (s : Bs) (ids : List Id) : (nmL s ids).Pairwise fun x y => ble x.1 y.1 = true := by
 unfold nmL
 rw [List.pairwise_map]
 have hs := kset_sorted (fun x : Id => x.1) id_inj ids
 by_cases h1 : 1 < (iset ids).length
 ·refine List.Pairwise.imp ?_ hs
  intro a b h
  simp only [nm1, decide_eq_true h1, if_true]
  have := h.1
  unfold ble at this ⊢
  rw [cfl_cb]; exact this
 ·match hl : iset ids, h1 with
  | [], _ => exact List.Pairwise.nil
  | [c], _ => exact List.pairwise_singleton _ _
  | _ :: _ :: _, h1 => exact absurd (by simp) h1
section
variable {w w0 : World} {S0 : Nat → Prop} {L B : List Res} {K : Value → World → Prop} {s : Bs} {E0 E1 : Nat}
theorem b_Names {v : Value} {n : Nat} {ids : List Id} (hd : ids.length = n) (hn : n < 2000000) (hg : Gl w) (hr : Rd v E0 32 n (fl ic ids) w)
  (h0 : brk s ≠ 0 → ∀ w', St w (fun _ => False) w' [] → K (.tuple ⟨[.slice none 0 0, .int .i64 40]⟩) w')
  (h : brk s = 0 → ∀ v' w', St w (fun _ => False) w' [row v' 56 33 (nmL s ids).length (fl lc (nmL s ids))] → K (.tuple ⟨[v', .int .i64 0]⟩) w') : CK Tryz.prog 6 [sv s, v] w K := by
 have hS := St.nil w (fun _ => False)
 refine call_k Tryz.func6 k6 Tryz.ntmps6 (Nat.le_of_ble_eq_true rfl) ?_
 refine gW ?_
 refine g_cl rfl rfl (c_Check (hg.in hS) hS fun w' hS => ?_)
 refine gW ?_
 (refine g_cd rfl (fun hc => ?_) (fun hc => ?_) <;> simp only [cmv, arv, Bool.not_eq_true', Bool.not_eq_false', decide_eq_true_eq, decide_eq_false_iff_not] at hc)
 ·have e : brk s ≠ 0 := fun e => hc (by unfold nmE; rw [if_pos e])
  have e1 : nmE s = 40 := by unfold nmE; rw [if_neg e]
  rw [e1]
  refine gW ?_
  exact g_ret (q_2 rfl rfl (h0 e _ hS))
 ·have e : brk s = 0 := by
   by_cases e : brk s = 0
   ·exact e
   ·unfold nmE at hc; rw [if_neg e] at hc; omega
  have hle := brk_le e
  replace h := h e
  clear h0
  refine gW ?_
  refine g_cl rfl rfl (b_Set hd hn (hr.same fun b hb => hS.fr.kept b (hr.lt b hb) (fun h => h)) fun v1 w1 h' => ?_)
  replace hS := hS.call0.2 _ _ h'
  replace hS : St w (fun _ => False) w1 [row v1 46 32 (iset ids).length (fl ic (iset ids))] := hS
  clear h'
  have hml : (iset ids).length < 2000000 := by have := kset_len (fun x : Id => x.1) ids; unfold iset; omega
  generalize hI : iset ids = I at hS hml
  obtain ⟨a, c, rfl⟩ := hS.rlen 0 rfl
  refine gW ?_
  refine g_lp (ι := Nat × Value) (fun x => [(0, sv s), (7, .slice a I.length c), (8, x.2), (19, .slice a I.length c), (20, .int .i64 I.length), (21, .int .i64 x.1)])
   (fun x w' => x.1 ≤ I.length ∧ St w (fun _ => False) w' [row (.slice a I.length c) 46 32 I.length (fl ic I), row x.2 56 33 x.1 (fl lc ((I.take x.1).map (nm1 s (decide (1 < I.length)))))]) (fun x => I.length - x.1) (0, .slice none 0 0)
   ⟨rfl, rfl, rfl, rfl, rfl, rfl, trivial⟩ ⟨Nat.zero_le _, hS.nilrow 56 33⟩ ?_
  clear hS
  rintro ⟨k, vo⟩ w1 ⟨hk, hS⟩
  dsimp only at hk hS ⊢
  refine gW ?_
  (refine g_cd rfl (fun hlt => ?_) (fun hlt => ?_) <;> simp only [cmv, arv, Bool.not_eq_true', Bool.not_eq_false', decide_eq_true_eq, decide_eq_false_iff_not] at hlt)
  ·have hlt : k < I.length := by omega
   obtain ⟨b, off, cap, l, e1, hcap, hl, hx, hb⟩ := Rd.block (Ow.rd (hS.ok 0 _ rfl)) (by omega)
   cases e1
   refine gW ?_
   refine g_rq rfl rfl ⟨by omega, by omega⟩ ?_
   have hbd : off + k * 32 + 32 ≤ l.length := by have : (k + 1) * 32 ≤ c * 32 := Nat.mul_le_mul_right 32 (by omega); omega
   refine g_lmr rfl rfl hb hbd ?_
   rw [Int.toNat_natCast, rd_at ic_len hx rfl hlt]
   refine gW ?_
   refine g_ef rfl (ef_al hS fun b2 w1 hS => ?_)
   replace hS : St w (fun _ => False) w1 [_, _, cel b2 (bys zid) 46] := hS
   refine g_ef0 rfl (ef_st hS 2 rfl rfl rfl (ic_len _) (by rw [bys_length, zid_len]; decide) (bys_one _) fun w1 hS => ?_)
   replace hS := hS.ceq (l' := ic I[k]) 2 rfl (spl_full _ _ (by show (ic _).length = _; rw [ic_len, bys_length, zid_len]))
   refine gW ?_
   refine g_at 1 [(0, sv s), (7, .slice (some ⟨b, off, none⟩) I.length c), (8, vo), (10, dp b2), (11, sv (nm1 s (decide (1 < I.length)) I[k]).1), (19, .slice (some ⟨b, off, none⟩) I.length c), (20, .int .i64 I.length), (21, .int .i64 k)]
    (fun w' => St w (fun _ => False) w' [row (.slice (some ⟨b, off, none⟩) I.length c) 46 32 I.length (fl ic I), row vo 56 33 k (fl lc ((I.take k).map (nm1 s (decide (1 < I.length))))), cel b2 (ic I[k]) 46]) rfl ?_ ?_
   ·refine g_cd rfl (fun hm => ?_) (fun hm => ?_) <;> (simp only [cmv, arv, Bool.not_eq_true', Bool.not_eq_false', decide_eq_true_eq, decide_eq_false_iff_not] at hm)
    ·refine gW ?_
     refine g_lm rfl rfl (hS.b 2 rfl) (Nat.le_of_eq (by rw [ic_len])) ?_
     rw [List.drop_zero, List.take_of_length_le (Nat.le_of_eq (ic_len _))]
     refine g_cl rfl rfl (b_Conflict I[k].2 (hg.in hS) fun w' h' => ?_)
     replace hS := hS.call0.2 _ _ h'
     rw [List.append_nil] at hS
     rw [if_pos e]
     refine gW ?_
     have e1 : (nm1 s (decide (1 < I.length)) I[k]).1 = s ++ 126 :: hex I[k].1 := by
      unfold nm1 cfl
      rw [if_pos (decide_eq_true (by omega))]
     exact g_j ⟨rfl, rfl, rfl, rfl, by rw [e1]; rfl, rfl, rfl, rfl, trivial⟩ hS
    ·refine gW ?_
     have e1 : (nm1 s (decide (1 < I.length)) I[k]).1 = s := by
      unfold nm1
      rw [if_neg (by rw [decide_eq_true_eq]; omega)]
     exact g_j ⟨rfl, rfl, rfl, rfl, by rw [e1]; rfl, rfl, rfl, rfl, trivial⟩ hS
   ·clear hS
    intro T w1 hT hS
    refine g_wkc hT ?_
    refine gW ?_
    refine g_lm rfl rfl (hS.b 2 rfl) (Nat.le_of_eq (by rw [ic_len])) ?_
    rw [List.drop_zero, List.take_of_length_le (Nat.le_of_eq (ic_len _))]
    refine g_qt rfl (qt_bd (out := lc (nm1 s (decide (1 < I.length)) I[k])) (fill_li _ rfl rfl) _) ?_
    refine g_ef rfl (ef_bl (rs := lc (nm1 s (decide (1 < I.length)) I[k])) hS (evcs_1 rfl (lc_len _)) fun g w1 hS => ?_)
    have hone : (lc (nm1 s (decide (1 < I.length)) I[k])).all (·.oneCell') = true := List.all_eq_true.2 (lc_one _)
    refine g_ef rfl (ef_ap (n := k) (m := 1) hS 1 rfl rfl rfl (.inl ⟨56, .inr ⟨g, 0, 1, _, rfl, Nat.le_refl _, Nat.le_of_eq (by rw [lc_len]), by rw [List.drop_zero, List.take_of_length_le (Nat.le_of_eq (lc_len _))], (hS.b 3 rfl).r⟩⟩) hone (by omega) (by omega) fun v1 w1 hS => ?_)
    have est : fl lc ((I.take k).map (nm1 s (decide (1 < I.length)))) ++ lc (nm1 s (decide (1 < I.length)) I[k]) = fl lc ((I.take (k + 1)).map (nm1 s (decide (1 < I.length)))) := by
     rw [List.take_succ_eq_append_getElem hlt, List.map_append, fl_app]
     simp [fl]
    rw [est] at hS
    refine gW ?_
    refine g_rq rfl rfl (in64 (by simp only [arv]; omega)) ?_
    refine gW ?_
    exact g_l (k + 1, v1) ⟨rfl, rfl, rfl, rfl, rfl, rfl, trivial⟩ ⟨by simp only; omega, hS.sel [0, 1] rfl rfl⟩ (by simp only; omega)
  ·have ek : k = I.length := by omega
   subst ek
   rw [List.take_length] at hS
   have en : I.map (nm1 s (decide (1 < I.length))) = nmL s ids := by unfold nmL; rw [hI]
   rw [en] at hS
   have enl : (nmL s ids).length = I.length := by rw [← en, List.length_map]
   refine gW ?_
   refine g_cl rfl rfl (CK.fr (A := [row vo 56 33 I.length (fl lc (nmL s ids))]) (B := []) (A' := [row vo 56 33 I.length (fl lc (nmL s ids))]) (hS.sel [1] rfl rfl) (fun hS h => b_SortL enl hml hS fun d' w' hp hs hS => h w' ?_) fun w1 hS => ?_)
   ·have ed : d' = nmL s ids := sorted_unique (nmL_inj s ids) hp hs (nmL_sorted s ids)
    rw [ed] at hS
    exact hS
   ·refine gW ?_
    rw [← enl] at hS
    exact g_ret (q_2 rfl rfl (h _ _ hS))
end
def m11 : MC := .sq (.rg [.c 4 (.bool false)]) (.sq (.sq (.rg [.t 6 0, .o 7 (.ln false (.tmp 6)), .t 8 1, .o 9 (.ln false (.tmp 8)), .o 10 (.cm .neq (.tmp 7) (.tmp 9))]) (.cd (.tmp 10) (.sq (.rg [.c 4 (.bool false)]) (.rt)) (.sk))) (.sq (.sq (.rg [.c 5 (.int .i64 0)]) (.bk 0 (.lp (.sq (.sq (.rg [.t 11 5, .t 12 0, .o 13 (.ln false (.tmp 12)), .o 14 (.cm .lss (.tmp 11) (.tmp 13))]) (.cd (.tmp 14) (.sk) (.xt 0))) (.sq (.bk 1 (.sq (.dr [.t 17 0, .t 18 5, .o 19 (.ias (.tmp 17) (.tmp 18) 33), .o 20 (.ld (.tmp 19) (some 33)), .t 21 1, .t 22 5, .o 23 (.ias (.tmp 21) (.tmp 22) 33), .o 24 (.ld (.tmp 23) (some 33)), .o 25 (.eqd .neq ([.s] ++ List.replicate 32 (.i .u8)) (.tmp 20) (.tmp 24))] [0, 0, 3, 7, 0, 0, 48, 112, 255] (.q 0 (.q 1 (.q 2 (.q 3 (.q 4 (.q 5 (.q 6 (.q 7 (.q 8 (.fin))))))))))) (.cd (.tmp 25) (.sq (.rg [.c 4 (.bool false)]) (.rt)) (.sk)))) (.rg [.t 15 5, .o 16 (.ar .add .i64 (.tmp 15) (.const (.int .i64 1)) true), .t 5 16])))))) (.sq (.rg [.c 4 (.bool true)]) (.rt))))
theorem k11 : Tryz.f11.body.any (fun c => chkC Tryz.prog c m11 && allD (dlt 26) m11) = true := by kernel_rfl
def m8 : MC := .sq (.rg [.c 4 (.bool false)]) (.sq (.sq (.rg [.t 6 0, .o 7 (.ln false (.tmp 6)), .t 8 1, .o 9 (.ln false (.tmp 8)), .o 10 (.cm .neq (.tmp 7) (.tmp 9))]) (.cd (.tmp 10) (.sq (.rg [.c 4 (.bool false)]) (.rt)) (.sk))) (.sq (.sq (.rg [.c 5 (.int .i64 0)]) (.bk 0 (.lp (.sq (.sq (.rg [.t 11 5, .t 12 0, .o 13 (.ln false (.tmp 12)), .o 14 (.cm .lss (.tmp 11) (.tmp 13))]) (.cd (.tmp 14) (.sk) (.xt 0))) (.sq (.bk 1 (.sq (.dr [.t 17 0, .t 18 5, .o 19 (.ias (.tmp 17) (.tmp 18) 32), .o 20 (.ld (.tmp 19) (some 32)), .t 21 1, .t 22 5, .o 23 (.ias (.tmp 21) (.tmp 22) 32), .o 24 (.ld (.tmp 23) (some 32)), .o 25 (.aq .neq 32 (.tmp 20) (.tmp 24))] [0, 0, 3, 7, 0, 0, 48, 112, 255] (.q 0 (.q 1 (.q 2 (.q 3 (.q 4 (.q 5 (.q 6 (.q 7 (.q 8 (.fin))))))))))) (.cd (.tmp 25) (.sq (.rg [.c 4 (.bool false)]) (.rt)) (.sk)))) (.rg [.t 15 5, .o 16 (.ar .add .i64 (.tmp 15) (.const (.int .i64 1)) true), .t 5 16])))))) (.sq (.rg [.c 4 (.bool true)]) (.rt))))
theorem k8 : Tryz.f8.body.any (fun c => chkC Tryz.prog c m8 && allD (dlt 26) m8) = true := by kernel_rfl
def m22 : MC := .sq (.rg [.c 2 (.slice none 0 0)]) (.sq (.rg [.c 3 (.slice none 0 0)]) (.sq (.sq (.rg [.c 4 (.int .i64 0)]) (.bk 0 (.lp (.sq (.sq (.rg [.t 8 4, .t 9 0, .o 10 (.ln false (.tmp 9)), .o 11 (.cm .lss (.tmp 8) (.tmp 10))]) (.cd (.tmp 11) (.sk) (.xt 0))) (.sq (.bk 1 (.sq (.rg [.t 14 3, .t 15 0, .t 16 4, .o 17 (.ias (.tmp 15) (.tmp 16) 32), .o 18 (.ld (.tmp 17) (some 32)), .o 19 (.cl 45 [.tmp 14, .tmp 18]), .t 5 19]) (.sq (.sq (.rg [.t 20 5]) (.cd (.tmp 20) (.xt 1) (.sk))) (.sq (.rg [.c 6 (.int .i64 0)]) (.sq (.bk 2 (.lp (.sq (.sq (.dr [.t 21 6, .t 22 3, .o 23 (.ln false (.tmp 22)), .o 24 (.cm .lss (.tmp 21) (.tmp 23)), .t 25 24, .q 26 25 true (.mv (.tmp 3)), .q 27 25 true (.mv (.tmp 6)), .q 28 25 true (.ias (.tmp 26) (.tmp 27) 32), .q 29 25 true (.ld (.tmp 28) (some 32)), .q 30 25 true (.mv (.tmp 0)), .q 31 25 true (.mv (.tmp 4)), .q 32 25 true (.ias (.tmp 30) (.tmp 31) 32), .q 33 25 true (.ld (.tmp 32) (some 32)), .q 34 25 true (.cl 46 [.tmp 29, .tmp 33]), .q 35 25 true (.cm .lss (.tmp 34) (.const (.int .i64 0))), .o 36 (.pk (.tmp 25) (.tmp 35) (.const (.bool false)))] [0, 0, 2, 7, 15, 31, 31, 127, 255, 31, 31, 1567, 3615, 8191, 16383, 32767] (.q 0 (.q 1 (.q 2 (.q 3 (.q 4 (.q 5 (.q 6 (.q 7 (.q 8 (.q 9 (.q 10 (.q 11 (.q 12 (.e 13 [] (.q 14 (.q 15 (.fin)))))))))))))))))) (.cd (.tmp 36) (.sk) (.xt 2))) (.bk 3 (.rg [.t 37 6, .o 38 (.ar .add .i64 (.tmp 37) (.const (.int .i64 1)) true), .t 6 38]))))) (.sq (.rg [.c 7 (.slice none 0 0)]) (.sq (.dr [.t 39 7, .t 40 3, .t 41 6, .o 42 (.sl (.tmp 40) none (some (.tmp 41)) none 32), .o 43 (.ap 46 32 32 [(32, .int .u8 0)] (.tmp 39) (.tmp 42)), .t 44 0, .t 45 4, .o 46 (.ias (.tmp 44) (.tmp 45) 32), .o 47 (.ld (.tmp 46) (some 32)), .o 48 (.bl 46 32 [.tmp 47]), .o 49 (.ap 46 32 32 [(32, .int .u8 0)] (.tmp 43) (.tmp 48)), .t 7 49] [0, 0, 0, 6, 15, 0, 0, 96, 224, 480, 1023, 2047] (.q 0 (.q 1 (.q 2 (.q 3 (.q 5 (.q 6 (.q 7 (.q 8 (.alt [.e 4 [8] (.e 9 [] (.e 10 [] (.e 11 [] (.fin)))), .e 9 [] (.e 4 [] (.e 10 [] (.e 11 [] (.fin))))])))))))))) (.rg [.t 50 7, .t 51 3, .t 52 6, .o 53 (.sl (.tmp 51) (some (.tmp 52)) none none 32), .o 54 (.ap 46 32 32 [(32, .int .u8 0)] (.tmp 50) (.tmp 53)), .t 3 54])))))))) (.rg [.t 12 4, .o 13 (.ar .add .i64 (.tmp 12) (.const (.int .i64 1)) true), .t 4 13])))))) (.sq (.rg [.t 55 3, .t 2 55]) (.rt))))
theorem k22 : Tryz.f22.body.any (fun c => chkC Tryz.prog c m22 && allD (dlt 56) m22) = true := by kernel_rfl
def m24 : MC := .sq (.rg [.o 1 (.bx 46 (.tmp 0)), .c 2 (.string ⟨#[]⟩)]) (.sq (.rg [.c 3 (.string ⟨#[]⟩)]) (.sq (.sq (.rg [.c 4 (.int .i64 0)]) (.bk 0 (.lp (.sq (.sq (.rg [.t 5 4, .o 6 (.cm .lss (.tmp 5) (.const (.int .i64 32)))]) (.cd (.tmp 6) (.sk) (.xt 0))) (.sq (.bk 1 (.dr [.t 9 3, .t 10 4, .o 11 (.iaa (.tmp 1) (.tmp 10) 32 1), .o 12 (.ld (.tmp 11) none), .o 13 (.dv .quo .u8 (.tmp 12) (.const (.int .u8 16))), .t 14 4, .o 15 (.iaa (.tmp 1) (.tmp 14) 32 1), .o 16 (.ld (.tmp 15) none), .o 17 (.dv .quo .u8 (.tmp 16) (.const (.int .u8 16))), .o 18 (.ar .add .u8 (.tmp 17) (.const (.int .u8 1)) false), .o 19 (.ss (.const (.string ⟨#[48, 49, 50, 51, 52, 53, 54, 55, 56, 57, 97, 98, 99, 100, 101, 102]⟩)) (some (.tmp 13)) (some (.tmp 18))), .o 20 (.sa (.tmp 9) (.tmp 19)), .t 21 4, .o 22 (.iaa (.tmp 1) (.tmp 21) 32 1), .o 23 (.ld (.tmp 22) none), .o 24 (.dv .rem .u8 (.tmp 23) (.const (.int .u8 16))), .t 25 4, .o 26 (.iaa (.tmp 1) (.tmp 25) 32 1), .o 27 (.ld (.tmp 26) none), .o 28 (.dv .rem .u8 (.tmp 27) (.const (.int .u8 16))), .o 29 (.ar .add .u8 (.tmp 28) (.const (.int .u8 1)) false), .o 30 (.ss (.const (.string ⟨#[48, 49, 50, 51, 52, 53, 54, 55, 56, 57, 97, 98, 99, 100, 101, 102]⟩)) (some (.tmp 24)) (some (.tmp 29))), .o 31 (.sa (.tmp 20) (.tmp 30)), .t 3 31] [0, 0, 2, 6, 14, 0, 32, 96, 224, 480, 1022, 2047, 0, 4096, 12288, 28672, 0, 65536, 196608, 458752, 983040, 2093056, 4194303, 8388607] (.q 0 (.q 1 (.q 2 (.q 3 (.q 4 (.q 5 (.q 6 (.q 7 (.q 8 (.q 9 (.q 10 (.q 11 (.q 12 (.q 13 (.q 14 (.q 15 (.q 16 (.q 17 (.q 18 (.q 19 (.q 20 (.q 21 (.q 22 (.e 23 [] (.fin))))))))))))))))))))))))))) (.rg [.t 7 4, .o 8 (.ar .add .i64 (.tmp 7) (.const (.int .i64 1)) true), .t 4 8])))))) (.sq (.rg [.t 32 3, .t 2 32]) (.rt))))
theorem k24 : Tryz.f24.body.any (fun c => chkC Tryz.prog c m24 && allD (dlt 33) m24) = true := by kernel_rfl
def m45 : MC := .sq (.rg [.o 3 (.bx 46 (.tmp 1)), .c 4 (.bool false)]) (.sq (.sq (.rg [.c 5 (.int .i64 0)]) (.bk 0 (.lp (.sq (.sq (.rg [.t 6 5, .t 7 0, .o 8 (.ln false (.tmp 7)), .o 9 (.cm .lss (.tmp 6) (.tmp 8))]) (.cd (.tmp 9) (.sk) (.xt 0))) (.sq (.bk 1 (.sq (.dr [.t 12 0, .t 13 5, .o 14 (.ias (.tmp 12) (.tmp 13) 32), .o 15 (.ld (.tmp 14) (some 32)), .o 16 (.ld (.tmp 3) (some 32)), .o 17 (.aq .eql 32 (.tmp 15) (.tmp 16))] [0, 0, 3, 7, 0, 31] (.q 0 (.q 1 (.q 2 (.q 3 (.q 4 (.q 5 (.fin)))))))) (.cd (.tmp 17) (.sq (.rg [.c 4 (.bool true)]) (.rt)) (.sk)))) (.rg [.t 10 5, .o 11 (.ar .add .i64 (.tmp 10) (.const (.int .i64 1)) true), .t 5 11])))))) (.sq (.rg [.c 4 (.bool false)]) (.rt)))
theorem k45 : Tryz.f45.body.any (fun c => chkC Tryz.prog c m45 && allD (dlt 18) m45) = true := by kernel_rfl
def m46 : MC := .sq (.rg [.o 2 (.bx 46 (.tmp 0)), .o 3 (.bx 46 (.tmp 1)), .c 4 (.int .i64 0)]) (.sq (.sq (.rg [.c 5 (.int .i64 0)]) (.bk 0 (.lp (.sq (.sq (.rg [.t 6 5, .o 7 (.cm .lss (.tmp 6) (.const (.int .i64 32)))]) (.cd (.tmp 7) (.sk) (.xt 0))) (.sq (.bk 1 (.sq (.sq (.dr [.t 10 5, .o 11 (.iaa (.tmp 2) (.tmp 10) 32 1), .o 12 (.ld (.tmp 11) none), .t 13 5, .o 14 (.iaa (.tmp 3) (.tmp 13) 32 1), .o 15 (.ld (.tmp 14) none), .o 16 (.cm .lss (.tmp 12) (.tmp 15))] [0, 1, 3, 0, 8, 24, 63] (.q 0 (.q 1 (.q 2 (.q 3 (.q 4 (.q 5 (.q 6 (.fin))))))))) (.cd (.tmp 16) (.sq (.rg [.c 4 (.int .i64 (-1))]) (.rt)) (.sk))) (.sq (.dr [.t 17 5, .o 18 (.iaa (.tmp 2) (.tmp 17) 32 1), .o 19 (.ld (.tmp 18) none), .t 20 5, .o 21 (.iaa (.tmp 3) (.tmp 20) 32 1), .o 22 (.ld (.tmp 21) none), .o 23 (.cm .gtr (.tmp 19) (.tmp 22))] [0, 1, 3, 0, 8, 24, 63] (.q 0 (.q 1 (.q 2 (.q 3 (.q 4 (.q 5 (.q 6 (.fin))))))))) (.cd (.tmp 23) (.sq (.rg [.c 4 (.int .i64 1)]) (.rt)) (.sk))))) (.rg [.t 8 5, .o 9 (.ar .add .i64 (.tmp 8) (.const (.int .i64 1)) true), .t 5 9])))))) (.sq (.rg [.c 4 (.int .i64 0)]) (.rt)))
theorem k46 : Tryz.f46.body.any (fun c => chkC Tryz.prog c m46 && allD (dlt 24) m46) = true := by kernel_rfl
def m23 : MC := .sq (.rg [.o 3 (.bx 56 (.tmp 1)), .c 4 (.slice none 0 0)]) (.sq (.rg [.c 5 (.int .i64 0)]) (.sq (.bk 0 (.lp (.sq (.sq (.dr [.t 7 5, .t 8 0, .o 9 (.ln false (.tmp 8)), .o 10 (.cm .lss (.tmp 7) (.tmp 9)), .t 11 10, .q 12 11 true (.mv (.tmp 0)), .q 13 11 true (.mv (.tmp 5)), .q 14 11 true (.ias (.tmp 12) (.tmp 13) 33), .q 15 11 true (.fa (.tmp 14) 0), .q 16 11 true (.ld (.tmp 15) none), .q 17 11 true (.fa (.tmp 3) 0), .q 18 11 true (.ld (.tmp 17) none), .q 19 11 true (.sc .leq (.tmp 16) (.tmp 18)), .o 20 (.pk (.tmp 11) (.tmp 19) (.const (.bool false)))] [0, 0, 2, 7, 15, 31, 31, 127, 255, 511, 31, 1055, 4095, 8191] (.q 0 (.q 1 (.q 2 (.q 3 (.q 4 (.q 5 (.q 6 (.q 7 (.q 8 (.q 9 (.q 10 (.q 11 (.q 12 (.q 13 (.fin)))))))))))))))) (.cd (.tmp 20) (.sk) (.xt 0))) (.bk 1 (.rg [.t 21 5, .o 22 (.ar .add .i64 (.tmp 21) (.const (.int .i64 1)) true), .t 5 22]))))) (.sq (.rg [.c 6 (.slice none 0 0)]) (.sq (.dr [.t 23 6, .t 24 0, .t 25 5, .o 26 (.sl (.tmp 24) none (some (.tmp 25)) none 33), .o 27 (.ap 56 33 48 [(1, .string ⟨#[]⟩), (32, .int .u8 0)] (.tmp 23) (.tmp 26)), .o 28 (.ld (.tmp 3) (some 33)), .o 29 (.bl 56 33 [.tmp 28]), .o 30 (.ap 56 33 48 [(1, .string ⟨#[]⟩), (32, .int .u8 0)] (.tmp 27) (.tmp 29)), .t 6 30] [0, 0, 0, 6, 15, 0, 32, 127, 255] (.q 0 (.q 1 (.q 2 (.q 3 (.q 5 (.alt [.e 4 [5] (.e 6 [] (.e 7 [] (.e 8 [] (.fin)))), .e 6 [] (.e 4 [] (.e 7 [] (.e 8 [] (.fin))))]))))))) (.sq (.rg [.t 31 6, .t 32 0, .t 33 5, .o 34 (.sl (.tmp 32) (some (.tmp 33)) none none 33), .o 35 (.ap 56 33 48 [(1, .string ⟨#[]⟩), (32, .int .u8 0)] (.tmp 31) (.tmp 34)), .t 4 35]) (.rt))))))
theorem k23 : Tryz.f23.body.any (fun c => chkC Tryz.prog c m23 && allD (dlt 36) m23) = true := by kernel_rfl
def m7 : MC := .sq (.rg [.c 4 (.slice none 0 0), .c 5 (.int .i64 0)]) (.sq (.sq (.rg [.t 9 0, .o 10 (.cl 21 [.tmp 9]), .o 11 (.cm .neq (.tmp 10) (.const (.int .i64 0)))]) (.cd (.tmp 11) (.sq (.rg [.c 4 (.slice none 0 0), .c 5 (.int .i64 40)]) (.rt)) (.sk))) (.sq (.rg [.t 12 1, .o 13 (.cl 22 [.tmp 12]), .t 6 13]) (.sq (.sq (.rg [.t 14 6, .o 15 (.ln false (.tmp 14)), .o 16 (.cm .eql (.tmp 15) (.const (.int .i64 1)))]) (.cd (.tmp 16) (.sq (.rg [.t 17 0, .t 18 6, .o 19 (.ias (.tmp 18) (.const (.int .i64 0)) 32), .o 20 (.ld (.tmp 19) (some 32)), .o 21 (.bd [(1, .string ⟨#[]⟩), (32, .int .u8 0)] [(0, 1, .tmp 17), (1, 32, .tmp 20)]), .o 22 (.bl 56 33 [.tmp 21]), .t 4 22, .c 5 (.int .i64 0)]) (.rt)) (.sk))) (.sq (.rg [.c 7 (.slice none 0 0)]) (.sq (.sq (.rg [.c 8 (.int .i64 0)]) (.bk 0 (.lp (.sq (.sq (.rg [.t 23 8, .t 24 6, .o 25 (.ln false (.tmp 24)), .o 26 (.cm .lss (.tmp 23) (.tmp 25))]) (.cd (.tmp 26) (.sk) (.xt 0))) (.sq (.bk 1 (.dr [.t 29 7, .t 30 0, .o 31 (.sa (.tmp 30) (.const (.string ⟨#[126]⟩))), .t 32 6, .t 33 8, .o 34 (.ias (.tmp 32) (.tmp 33) 32), .o 35 (.ld (.tmp 34) (some 32)), .o 36 (.cl 24 [.tmp 35]), .o 37 (.sa (.tmp 31) (.tmp 36)), .t 38 6, .t 39 8, .o 40 (.ias (.tmp 38) (.tmp 39) 32), .o 41 (.ld (.tmp 40) (some 32)), .o 42 (.bd [(1, .string ⟨#[]⟩), (32, .int .u8 0)] [(0, 1, .tmp 37), (1, 32, .tmp 41)]), .o 43 (.cl 23 [.tmp 29, .tmp 42]), .t 7 43] [0, 0, 2, 0, 0, 24, 56, 120, 254, 0, 0, 1536, 3584, 8190, 16383, 32767] (.q 0 (.q 1 (.q 2 (.q 3 (.q 4 (.q 5 (.q 6 (.q 9 (.q 10 (.q 11 (.q 12 (.e 7 [12] (.q 8 (.q 13 (.e 14 [] (.e 15 [] (.fin))))))))))))))))))) (.rg [.t 27 8, .o 28 (.ar .add .i64 (.tmp 27) (.const (.int .i64 1)) true), .t 8 28])))))) (.sq (.rg [.t 44 7, .t 4 44, .c 5 (.int .i64 0)]) (.rt)))))))
theorem k7 : Tryz.f7.body.any (fun c => chkC Tryz.prog c m7 && allD (dlt 45) m7) = true := by kernel_rfl
def m10 : MC := .sq (.rg [.c 4 (.slice none 0 0)]) (.sq (.rg [.t 5 0, .t 6 1, .o 7 (.cl 26 [.tmp 5, .tmp 6]), .o 8 (.cl 22 [.tmp 7]), .t 4 8]) (.rt))
theorem k10 : Tryz.f10.body.any (fun c => chkC Tryz.prog c m10 && allD (dlt 9) m10) = true := by kernel_rfl
theorem lc_fits (x : Li) : Fits ([.s] ++ List.replicate 32 (.i .u8)) (lc x) := by
 have := fits_bys x.2.1
 rw [x.2.2] at this
 exact ⟨⟨_, rfl⟩, this⟩
theorem sv_inj {r t : Bs} (h : sv r = sv t) : r = t := by
 unfold sv at h
 simpa using h
theorem bys_inj : ∀ {a b : Bs}, bys a = bys b → a = b
 | [], [], _ => rfl
 | [], _ :: _, h => by simp [bys] at h
 | _ :: _, [], h => by simp [bys] at h
 | x :: a, y :: b, h => by
  have h1 : bys a = bys b := by simpa [bys] using (List.cons.inj h).2
  have h2 : (x.toNat : Int) = (y.toNat : Int) := by
   have := (List.cons.inj h).1
   simp only [Value.int.injEq, true_and] at this
   exact this
  rw [bys_inj h1, UInt8.toNat_inj.1 (Int.ofNat.inj h2)]
theorem lc_inj {x y : Li} (h : lc x = lc y) : x = y := by
 unfold lc at h
 rw [List.cons.injEq] at h
 exact Prod.ext (sv_inj h.1) (id_inj _ _ (bys_inj h.2))
section
variable {w w0 : World} {S0 : Nat → Prop} {L B : List Res} {K : Value → World → Prop} {s : Bs} {E0 E1 : Nat}
theorem r_Same {d e : List Li} {v u : Value} {n m : Nat} (hd : d.length = n) (he : e.length = m) (hn : n < 2000000) (hm : m < 2000000) (hr : Rd v E0 33 n (fl lc d) w) (hu : Rd u E1 33 m (fl lc e) w) (h : ∀ w', St w (fun _ => False) w' [] → K (.bool (decide (d = e))) w') : CK Tryz.prog 11 [v, u] w K := by
 have hS := St.nil w (fun _ => False)
 have hrr : ∀ {L : List Res} (w' : World), St w (fun _ => False) w' L → Rd v E0 33 n (fl lc d) w' := fun w' hS => hr.same fun b hb => hS.fr.kept b (hr.lt b hb) (fun h => h)
 have huu : ∀ {L : List Res} (w' : World), St w (fun _ => False) w' L → Rd u E1 33 m (fl lc e) w' := fun w' hS => hu.same fun b hb => hS.fr.kept b (hu.lt b hb) (fun h => h)
 obtain ⟨a, c, rfl⟩ := hr.form
 obtain ⟨a2, c2, rfl⟩ := hu.form
 refine call_k Tryz.func11 k11 Tryz.ntmps11 (Nat.le_of_ble_eq_true rfl) ?_
 refine gW ?_
 (refine g_cd rfl (fun hc => ?_) (fun hc => ?_) <;> simp only [cmv, arv, Bool.not_eq_true', Bool.not_eq_false', decide_eq_true_eq, decide_eq_false_iff_not] at hc)
 ·have e1 : decide (d = e) = false := decide_eq_false fun h1 => hc (by rw [← hd, ← he, h1])
  rw [e1] at h
  refine gW ?_
  exact g_ret (q_1 rfl (h _ hS))
 ·have hnm : n = m := by omega
  subst hnm
  refine gW ?_
  refine g_lp (ι := Nat) (fun k => [(0, .slice a n c), (1, .slice a2 n c2), (5, .int .i64 k)]) (fun k w' => k ≤ n ∧ d.take k = e.take k ∧ St w (fun _ => False) w' []) (fun k => n - k) 0 ⟨rfl, rfl, rfl, trivial⟩ ⟨Nat.zero_le _, rfl, hS⟩ ?_
  clear hS
  rintro k w1 ⟨hk, hP, hS⟩
  refine gW ?_
  (refine g_cd rfl (fun hlt => ?_) (fun hlt => ?_) <;> simp only [cmv, arv, Bool.not_eq_true', Bool.not_eq_false', decide_eq_true_eq, decide_eq_false_iff_not] at hlt)
  ·have hlt : k < n := by omega
   obtain ⟨b1, off, cap, l, e1, hcap, hl, hx, hb⟩ := Rd.block (hrr _ hS.drew) (by omega)
   cases e1
   obtain ⟨b3, off3, cap3, l3, e3, hcap3, hl3, hx3, hb3⟩ := Rd.block (huu _ hS.drew) (by omega)
   cases e3
   have hbd : off + k * 33 + 33 ≤ l.length := by have : (k + 1) * 33 ≤ c * 33 := Nat.mul_le_mul_right 33 (by omega); omega
   have hbd3 : off3 + k * 33 + 33 ≤ l3.length := by have : (k + 1) * 33 ≤ c2 * 33 := Nat.mul_le_mul_right 33 (by omega); omega
   refine gW ?_
   refine g_dr mixed ?_
   replace hS := hS.drew
   refine gD ?_
   refine d_rq rfl rfl rfl ⟨by omega, by omega⟩ ?_
   refine d_qt rfl rfl rfl (qt_ldmr rfl hb hbd) ?_
   rw [Int.toNat_natCast, rd_at lc_len hx hd (show k < d.length by omega)]
   refine gD ?_
   refine d_rq rfl rfl rfl ⟨by omega, by omega⟩ ?_
   refine d_qt rfl rfl rfl (qt_ldmr rfl hb3 hbd3) ?_
   rw [Int.toNat_natCast, rd_at lc_len hx3 he (show k < e.length by omega)]
   refine d_qt rfl rfl rfl (qt_eqd (a := lc (d[k]'(by omega))) (b := lc (e[k]'(by omega))) rfl rfl (lc_fits _) (lc_fits _)) ?_
   refine d_fin ?_
   have e5 : eqdv .neq (deqv (lc (d[k]'(by omega))) (lc (e[k]'(by omega)))) = !decide (d[k]'(by omega) = e[k]'(by omega)) := by
    show (!deqv _ _) = _
    rw [deqv_eq (q := decide (d[k]'(by omega) = e[k]'(by omega))) (by rw [decide_eq_true_eq]; exact ⟨fun h => by rw [h], lc_inj⟩)]
   rw [e5]
   cases hde : decide (d[k]'(by omega) = e[k]'(by omega))
   ·have e1 : decide (d = e) = false := decide_eq_false fun h1 => by
     subst h1
     simp at hde
    rw [e1] at h
    refine gW ?_
    exact g_ret (q_1 rfl (h _ hS))
   ·rw [decide_eq_true_eq] at hde
    refine gW ?_
    refine g_rq rfl rfl (in64 (by simp only [arv]; omega)) ?_
    refine gW ?_
    refine g_l (k + 1) ⟨rfl, rfl, rfl, trivial⟩ ⟨by omega, ?_, hS⟩ (by omega)
    rw [List.take_succ_eq_append_getElem (by omega), List.take_succ_eq_append_getElem (by omega), hP, hde]
  ·have e1 : decide (d = e) = true := decide_eq_true (by rw [← List.take_of_length_le (l := d) (i := k) (by omega), hP, List.take_of_length_le (by omega)])
   rw [e1] at h
   refine gW ?_
   exact g_ret (q_1 rfl (h _ hS))
theorem r_SameI {d e : List Id} {v u : Value} {n m : Nat} (hd : d.length = n) (he : e.length = m) (hn : n < 2000000) (hm : m < 2000000) (hr : Rd v E0 32 n (fl ic d) w) (hu : Rd u E1 32 m (fl ic e) w) (h : ∀ w', St w (fun _ => False) w' [] → K (.bool (decide (d = e))) w') : CK Tryz.prog 8 [v, u] w K := by
 have hS := St.nil w (fun _ => False)
 have hrr : ∀ {L : List Res} (w' : World), St w (fun _ => False) w' L → Rd v E0 32 n (fl ic d) w' := fun w' hS => hr.same fun b hb => hS.fr.kept b (hr.lt b hb) (fun h => h)
 have huu : ∀ {L : List Res} (w' : World), St w (fun _ => False) w' L → Rd u E1 32 m (fl ic e) w' := fun w' hS => hu.same fun b hb => hS.fr.kept b (hu.lt b hb) (fun h => h)
 obtain ⟨a, c, rfl⟩ := hr.form
 obtain ⟨a2, c2, rfl⟩ := hu.form
 refine call_k Tryz.func8 k8 Tryz.ntmps8 (Nat.le_of_ble_eq_true rfl) ?_
 refine gW ?_
 (refine g_cd rfl (fun hc => ?_) (fun hc => ?_) <;> simp only [cmv, arv, Bool.not_eq_true', Bool.not_eq_false', decide_eq_true_eq, decide_eq_false_iff_not] at hc)
 ·have e1 : decide (d = e) = false := decide_eq_false fun h1 => hc (by rw [← hd, ← he, h1])
  rw [e1] at h
  refine gW ?_
  exact g_ret (q_1 rfl (h _ hS))
 ·have hnm : n = m := by omega
  subst hnm
  refine gW ?_
  refine g_lp (ι := Nat) (fun k => [(0, .slice a n c), (1, .slice a2 n c2), (5, .int .i64 k)]) (fun k w' => k ≤ n ∧ d.take k = e.take k ∧ St w (fun _ => False) w' []) (fun k => n - k) 0 ⟨rfl, rfl, rfl, trivial⟩ ⟨Nat.zero_le _, rfl, hS⟩ ?_
  clear hS
  rintro k w1 ⟨hk, hP, hS⟩
  refine gW ?_
  (refine g_cd rfl (fun hlt => ?_) (fun hlt => ?_) <;> simp only [cmv, arv, Bool.not_eq_true', Bool.not_eq_false', decide_eq_true_eq, decide_eq_false_iff_not] at hlt)
  ·have hlt : k < n := by omega
   obtain ⟨b1, off, cap, l, e1, hcap, hl, hx, hb⟩ := Rd.block (hrr _ hS.drew) (by omega)
   cases e1
   obtain ⟨b3, off3, cap3, l3, e3, hcap3, hl3, hx3, hb3⟩ := Rd.block (huu _ hS.drew) (by omega)
   cases e3
   have hbd : off + k * 32 + 32 ≤ l.length := by have : (k + 1) * 32 ≤ c * 32 := Nat.mul_le_mul_right 32 (by omega); omega
   have hbd3 : off3 + k * 32 + 32 ≤ l3.length := by have : (k + 1) * 32 ≤ c2 * 32 := Nat.mul_le_mul_right 32 (by omega); omega
   refine gW ?_
   refine g_dr mixed ?_
   replace hS := hS.drew
   refine gD ?_
   refine d_rq rfl rfl rfl ⟨by omega, by omega⟩ ?_
   refine d_qt rfl rfl rfl (qt_ldmr rfl hb hbd) ?_
   rw [Int.toNat_natCast, rd_at ic_len hx hd (show k < d.length by omega)]
   refine gD ?_
   refine d_rq rfl rfl rfl ⟨by omega, by omega⟩ ?_
   refine d_qt rfl rfl rfl (qt_ldmr rfl hb3 hbd3) ?_
   rw [Int.toNat_natCast, rd_at ic_len hx3 he (show k < e.length by omega)]
   refine d_qt rfl rfl rfl (qt_aq (a := (d[k]'(by omega)).1) (b := (e[k]'(by omega)).1) rfl rfl (d[k]'(by omega)).2 (e[k]'(by omega)).2) ?_
   refine d_fin ?_
   have e5 : aqv .neq (d[k]'(by omega)).1 (e[k]'(by omega)).1 = !decide (d[k]'(by omega) = e[k]'(by omega)) := by
    show (!decide _) = _
    rw [decide_eq_decide.2 (⟨fun h => Subtype.ext h, fun h => by rw [h]⟩ : (d[k]'(by omega)).1 = (e[k]'(by omega)).1 ↔ d[k]'(by omega) = e[k]'(by omega))]
   rw [e5]
   cases hde : decide (d[k]'(by omega) = e[k]'(by omega))
   ·have e1 : decide (d = e) = false := decide_eq_false fun h1 => by
     subst h1
     simp at hde
    rw [e1] at h
    refine gW ?_
    exact g_ret (q_1 rfl (h _ hS))
   ·rw [decide_eq_true_eq] at hde
    refine gW ?_
    refine g_rq rfl rfl (in64 (by simp only [arv]; omega)) ?_
    refine gW ?_
    refine g_l (k + 1) ⟨rfl, rfl, rfl, trivial⟩ ⟨by omega, ?_, hS⟩ (by omega)
    rw [List.take_succ_eq_append_getElem (by omega), List.take_succ_eq_append_getElem (by omega), hP, hde]
  ·have e1 : decide (d = e) = true := decide_eq_true (by rw [← List.take_of_length_le (l := d) (i := k) (by omega), hP, List.take_of_length_le (by omega)])
   rw [e1] at h
   refine gW ?_
   exact g_ret (q_1 rfl (h _ hS))
end
theorem enC_inj {x y : En} (h : enC x = enC y) : x = y := by
 unfold enC at h
 rw [List.cons.injEq, List.cons.injEq] at h
 obtain ⟨h1, h2, h3⟩ := h
 have h2 : (x.2.1 : Int) = (y.2.1 : Int) := by simpa using h2
 exact Prod.ext (sv_inj h1) (Prod.ext (Int.ofNat.inj h2) (id_inj _ _ (bys_inj h3)))
theorem enC_fits (x : En) : Fits ([.s, .i .i64] ++ List.replicate 32 (.i .u8)) (enC x) := by
 have := fits_bys x.2.2.1
 rw [x.2.2.2] at this
 exact ⟨⟨_, rfl⟩, ⟨_, rfl⟩, this⟩
def tgC (k : Nat) (i : Id) : List Value := .int .i64 (k : Int) :: ic i
theorem tgC_fits (k : Nat) (x : Id) : Fits ([.i .i64] ++ List.replicate 32 (.i .u8)) (tgC k x) := by
 have := fits_bys x.1
 rw [x.2] at this
 exact ⟨⟨_, rfl⟩, this⟩
theorem tgC_inj {k m : Nat} {x y : Id} (h : tgC k x = tgC m y) : k = m ∧ x = y := by
 unfold tgC at h
 rw [List.cons.injEq] at h
 obtain ⟨h2, h3⟩ := h
 have h2 : (k : Int) = (m : Int) := by simpa using h2
 exact ⟨Int.ofNat.inj h2, id_inj _ _ (bys_inj h3)⟩
def OR (o : Obj) (vd ve vp : Value) (w : World) : Prop := (∃ E, Rd vd E 1 o.data.length (bys o.data) w) ∧ (∃ E, Rd ve E 34 o.ents.length (fl enC o.ents) w) ∧ ∃ E, Rd vp E 32 o.pars.length (fl ic o.pars) w
def OB (o : Obj) : Prop := o.data.length < 2000000 ∧ o.ents.length < 2000000 ∧ o.pars.length < 2000000 ∧ o.msg.length < 2000000 ∧ ∀ e ∈ o.ents, e.1.length < 1000000
section
variable {w w0 : World} {S0 : Nat → Prop} {L B : List Res} {K : Value → World → Prop} {s : Bs} {E0 E1 : Nat}
theorem OR.to {o : Obj} {vd ve vp : Value} (h : OR o vd ve vp w) (hS : St w (fun _ => False) w0 L) : OR o vd ve vp w0 := by
 obtain ⟨⟨E1, h1⟩, ⟨E2, h2⟩, ⟨E3, h3⟩⟩ := h
 exact ⟨⟨E1, h1.same fun b hb => hS.fr.kept b (h1.lt b hb) fun h => h⟩, ⟨E2, h2.same fun b hb => hS.fr.kept b (h2.lt b hb) fun h => h⟩, ⟨E3, h3.same fun b hb => hS.fr.kept b (h3.lt b hb) fun h => h⟩⟩
theorem OR.drew {o : Obj} {vd ve vp : Value} (h : OR o vd ve vp w) : OR o vd ve vp w.drew := h
theorem b_bEq {a b : Bs} {v u : Value} {n m : Nat} (hr : Rd v E0 1 n (bys a) w) (hu : Rd u E1 1 m (bys b) w) (h : K (.bool (decide (a = b))) w) : CK Tryz.prog 175 [v, u] w K := by
 refine call_k Tryz.func175 k175 Tryz.ntmps175 (Nat.le_of_ble_eq_true rfl) ?_
 refine gW ?_
 refine g_qt rfl (qt_bsR rfl hr) ?_
 refine gW ?_
 refine g_qt rfl (qt_bsR rfl hu) ?_
 refine gW ?_
 exact g_ret (q_1 rfl h)
theorem b_sEqE {d e : List En} {v u : Value} {n m : Nat} (hd : d.length = n) (he : e.length = m) (hn : n < 2000000) (hm : m < 2000000) (hr : Rd v E0 34 n (fl enC d) w) (hu : Rd u E1 34 m (fl enC e) w) (h : ∀ w', St w (fun _ => False) w' [] → K (.bool (decide (d = e))) w') : CK Tryz.prog 176 [v, u] w K := by
 have hS := St.nil w (fun _ => False)
 have hrr : ∀ {L : List Res} (w' : World), St w (fun _ => False) w' L → Rd v E0 34 n (fl enC d) w' := fun w' hS => hr.same fun b hb => hS.fr.kept b (hr.lt b hb) (fun h => h)
 have huu : ∀ {L : List Res} (w' : World), St w (fun _ => False) w' L → Rd u E1 34 m (fl enC e) w' := fun w' hS => hu.same fun b hb => hS.fr.kept b (hu.lt b hb) (fun h => h)
 obtain ⟨a, c, rfl⟩ := hr.form
 obtain ⟨a2, c2, rfl⟩ := hu.form
 refine call_k Tryz.func176 k176 Tryz.ntmps176 (Nat.le_of_ble_eq_true rfl) ?_
 refine gW ?_
 (refine g_cd rfl (fun hc => ?_) (fun hc => ?_) <;> simp only [cmv, arv, Bool.not_eq_true', Bool.not_eq_false', decide_eq_true_eq, decide_eq_false_iff_not] at hc)
 ·have e1 : decide (d = e) = false := decide_eq_false fun h1 => hc (by rw [← hd, ← he, h1])
  rw [e1] at h
  refine gW ?_
  exact g_ret (q_1 rfl (h _ hS))
 ·have hnm : n = m := by omega
  subst hnm
  refine gW ?_
  refine g_lp (ι := Nat) (fun k => [(0, .slice a n c), (1, .slice a2 n c2), (12, .int .i64 n), (13, .int .i64 k)]) (fun k w' => k ≤ n ∧ d.take k = e.take k ∧ St w (fun _ => False) w' []) (fun k => n - k) 0 ⟨rfl, rfl, rfl, rfl, trivial⟩ ⟨Nat.zero_le _, rfl, hS⟩ ?_
  clear hS
  rintro k w1 ⟨hk, hP, hS⟩
  refine gW ?_
  (refine g_cd rfl (fun hlt => ?_) (fun hlt => ?_) <;> simp only [cmv, arv, Bool.not_eq_true', Bool.not_eq_false', decide_eq_true_eq, decide_eq_false_iff_not] at hlt)
  ·have hlt : k < n := by omega
   obtain ⟨b1, off, cap, l, e1, hcap, hl, hx, hb⟩ := Rd.block (hrr _ hS.drew) (by omega)
   cases e1
   obtain ⟨b3, off3, cap3, l3, e3, hcap3, hl3, hx3, hb3⟩ := Rd.block (huu _ hS.drew) (by omega)
   cases e3
   have hbd : off + k * 34 + 34 ≤ l.length := by have : (k + 1) * 34 ≤ c * 34 := Nat.mul_le_mul_right 34 (by omega); omega
   have hbd3 : off3 + k * 34 + 34 ≤ l3.length := by have : (k + 1) * 34 ≤ c2 * 34 := Nat.mul_le_mul_right 34 (by omega); omega
   refine gW ?_
   refine g_dr mixed ?_
   replace hS := hS.drew
   refine gD ?_
   refine d_rq rfl rfl rfl ⟨by omega, by omega⟩ ?_
   refine d_qt rfl rfl rfl (qt_ldmr rfl hb hbd) ?_
   rw [Int.toNat_natCast, rd_at enC_len hx hd (show k < d.length by omega)]
   refine gD ?_
   refine d_rq rfl rfl rfl ⟨by omega, by omega⟩ ?_
   refine d_qt rfl rfl rfl (qt_ldmr rfl hb3 hbd3) ?_
   rw [Int.toNat_natCast, rd_at enC_len hx3 he (show k < e.length by omega)]
   refine d_qt rfl rfl rfl (qt_eqd (a := enC (d[k]'(by omega))) (b := enC (e[k]'(by omega))) rfl rfl (enC_fits _) (enC_fits _)) ?_
   refine d_fin ?_
   have e5 : eqdv .neq (deqv (enC (d[k]'(by omega))) (enC (e[k]'(by omega)))) = !decide (d[k]'(by omega) = e[k]'(by omega)) := by
    show (!deqv _ _) = _
    rw [deqv_eq (q := decide (d[k]'(by omega) = e[k]'(by omega))) (by rw [decide_eq_true_eq]; exact ⟨fun h => by rw [h], enC_inj⟩)]
   rw [e5]
   cases hde : decide (d[k]'(by omega) = e[k]'(by omega))
   ·have e1 : decide (d = e) = false := decide_eq_false fun h1 => by
     subst h1
     simp at hde
    rw [e1] at h
    refine gW ?_
    exact g_ret (q_1 rfl (h _ hS))
   ·rw [decide_eq_true_eq] at hde
    refine gW ?_
    refine g_rq rfl rfl (in64 (by simp only [arv]; omega)) ?_
    refine gW ?_
    refine g_l (k + 1) ⟨rfl, rfl, rfl, rfl, trivial⟩ ⟨by omega, ?_, hS⟩ (by omega)
    rw [List.take_succ_eq_append_getElem (by omega), List.take_succ_eq_append_getElem (by omega), hP, hde]
  ·have e1 : decide (d = e) = true := decide_eq_true (by rw [← List.take_of_length_le (l := d) (i := k) (by omega), hP, List.take_of_length_le (by omega)])
   rw [e1] at h
   refine gW ?_
   exact g_ret (q_1 rfl (h _ hS))
theorem b_sEqI {d e : List Id} {v u : Value} {n m : Nat} (hd : d.length = n) (he : e.length = m) (hn : n < 2000000) (hm : m < 2000000) (hr : Rd v E0 32 n (fl ic d) w) (hu : Rd u E1 32 m (fl ic e) w) (h : ∀ w', St w (fun _ => False) w' [] → K (.bool (decide (d = e))) w') : CK Tryz.prog 177 [v, u] w K := by
 have hS := St.nil w (fun _ => False)
 have hrr : ∀ {L : List Res} (w' : World), St w (fun _ => False) w' L → Rd v E0 32 n (fl ic d) w' := fun w' hS => hr.same fun b hb => hS.fr.kept b (hr.lt b hb) (fun h => h)
 have huu : ∀ {L : List Res} (w' : World), St w (fun _ => False) w' L → Rd u E1 32 m (fl ic e) w' := fun w' hS => hu.same fun b hb => hS.fr.kept b (hu.lt b hb) (fun h => h)
 obtain ⟨a, c, rfl⟩ := hr.form
 obtain ⟨a2, c2, rfl⟩ := hu.form
 refine call_k Tryz.func177 k177 Tryz.ntmps177 (Nat.le_of_ble_eq_true rfl) ?_
 refine gW ?_
 (refine g_cd rfl (fun hc => ?_) (fun hc => ?_) <;> simp only [cmv, arv, Bool.not_eq_true', Bool.not_eq_false', decide_eq_true_eq, decide_eq_false_iff_not] at hc)
 ·have e1 : decide (d = e) = false := decide_eq_false fun h1 => hc (by rw [← hd, ← he, h1])
  rw [e1] at h
  refine gW ?_
  exact g_ret (q_1 rfl (h _ hS))
 ·have hnm : n = m := by omega
  subst hnm
  refine gW ?_
  refine g_lp (ι := Nat) (fun k => [(0, .slice a n c), (1, .slice a2 n c2), (12, .int .i64 n), (13, .int .i64 k)]) (fun k w' => k ≤ n ∧ d.take k = e.take k ∧ St w (fun _ => False) w' []) (fun k => n - k) 0 ⟨rfl, rfl, rfl, rfl, trivial⟩ ⟨Nat.zero_le _, rfl, hS⟩ ?_
  clear hS
  rintro k w1 ⟨hk, hP, hS⟩
  refine gW ?_
  (refine g_cd rfl (fun hlt => ?_) (fun hlt => ?_) <;> simp only [cmv, arv, Bool.not_eq_true', Bool.not_eq_false', decide_eq_true_eq, decide_eq_false_iff_not] at hlt)
  ·have hlt : k < n := by omega
   obtain ⟨b1, off, cap, l, e1, hcap, hl, hx, hb⟩ := Rd.block (hrr _ hS.drew) (by omega)
   cases e1
   obtain ⟨b3, off3, cap3, l3, e3, hcap3, hl3, hx3, hb3⟩ := Rd.block (huu _ hS.drew) (by omega)
   cases e3
   have hbd : off + k * 32 + 32 ≤ l.length := by have : (k + 1) * 32 ≤ c * 32 := Nat.mul_le_mul_right 32 (by omega); omega
   have hbd3 : off3 + k * 32 + 32 ≤ l3.length := by have : (k + 1) * 32 ≤ c2 * 32 := Nat.mul_le_mul_right 32 (by omega); omega
   refine gW ?_
   refine g_dr mixed ?_
   replace hS := hS.drew
   refine gD ?_
   refine d_rq rfl rfl rfl ⟨by omega, by omega⟩ ?_
   refine d_qt rfl rfl rfl (qt_ldmr rfl hb hbd) ?_
   rw [Int.toNat_natCast, rd_at ic_len hx hd (show k < d.length by omega)]
   refine gD ?_
   refine d_rq rfl rfl rfl ⟨by omega, by omega⟩ ?_
   refine d_qt rfl rfl rfl (qt_ldmr rfl hb3 hbd3) ?_
   rw [Int.toNat_natCast, rd_at ic_len hx3 he (show k < e.length by omega)]
   refine d_qt rfl rfl rfl (qt_aq (a := (d[k]'(by omega)).1) (b := (e[k]'(by omega)).1) rfl rfl (d[k]'(by omega)).2 (e[k]'(by omega)).2) ?_
   refine d_fin ?_
   have e5 : aqv .neq (d[k]'(by omega)).1 (e[k]'(by omega)).1 = !decide (d[k]'(by omega) = e[k]'(by omega)) := by
    show (!decide _) = _
    rw [decide_eq_decide.2 (⟨fun h => Subtype.ext h, fun h => by rw [h]⟩ : (d[k]'(by omega)).1 = (e[k]'(by omega)).1 ↔ d[k]'(by omega) = e[k]'(by omega))]
   rw [e5]
   cases hde : decide (d[k]'(by omega) = e[k]'(by omega))
   ·have e1 : decide (d = e) = false := decide_eq_false fun h1 => by
     subst h1
     simp at hde
    rw [e1] at h
    refine gW ?_
    exact g_ret (q_1 rfl (h _ hS))
   ·rw [decide_eq_true_eq] at hde
    refine gW ?_
    refine g_rq rfl rfl (in64 (by simp only [arv]; omega)) ?_
    refine gW ?_
    refine g_l (k + 1) ⟨rfl, rfl, rfl, rfl, trivial⟩ ⟨by omega, ?_, hS⟩ (by omega)
    rw [List.take_succ_eq_append_getElem (by omega), List.take_succ_eq_append_getElem (by omega), hP, hde]
  ·have e1 : decide (d = e) = true := decide_eq_true (by rw [← List.take_of_length_le (l := d) (i := k) (by omega), hP, List.take_of_length_le (by omega)])
   rw [e1] at h
   refine gW ?_
   exact g_ret (q_1 rfl (h _ hS))
theorem oc_part (o : Obj) (vd ve vp : Value) : (oc o vd ve vp).take 3 = [.int .i64 (o.kind : Int), vd, ve] ∧ ((oc o vd ve vp).drop 3).take 32 = ic o.tree ∧ ((oc o vd ve vp).drop 35).take 1 = [vp] ∧ ((oc o vd ve vp).drop 36).take 33 = tgC o.tk o.tid ∧ ((oc o vd ve vp).drop 69).take 1 = [sv o.msg] := by
 have l1 := ic_len o.tree
 have l2 := ic_len o.tid
 unfold oc tgC
 generalize ic o.tree = A at *
 generalize ic o.tid = C at *
 refine ⟨by simp, by simp [List.take_append_of_le_length, l1], ?_, ?_, ?_⟩
 ·rw [show (35 : Nat) = 32 + 3 by rfl, ← List.drop_drop]
  simp [List.drop_append, l1]
 ·rw [show (36 : Nat) = 33 + 3 by rfl, ← List.drop_drop]
  simp [List.drop_append, l1, l2]
  rw [List.drop_eq_nil_of_le (by omega)]
  simp [l2]
 ·rw [show (69 : Nat) = 66 + 3 by rfl, ← List.drop_drop]
  simp [List.drop_append, l1, l2]
  rw [List.drop_eq_nil_of_le (by omega)]
  rfl
theorem oc_at (o : Obj) (vd ve vp : Value) : (oc o vd ve vp)[35]? = some vp ∧ (oc o vd ve vp)[36]? = some (.int .i64 (o.tk : Int)) ∧ (oc o vd ve vp)[69]? = some (sv o.msg) := by
 have l1 := ic_len o.tree
 have l2 := ic_len o.tid
 unfold oc
 generalize ic o.tree = A at *
 generalize ic o.tid = C at *
 refine ⟨?_, ?_, ?_⟩ <;> simp [List.getElem?_append, l1, l2]
theorem ob_ext {a b : Obj} (h1 : a.kind = b.kind) (h2 : a.data = b.data) (h3 : a.ents = b.ents) (h4 : a.tree = b.tree) (h5 : a.pars = b.pars) (h6 : a.tk = b.tk) (h7 : a.tid = b.tid) (h8 : a.msg = b.msg) : a = b := by
 cases a; cases b
 simp_all
noncomputable instance : DecidableEq Obj := fun a b => Classical.propDecidable _
set_option maxRecDepth 100000 in
set_option maxHeartbeats 4000000 in
theorem b_SameO {a b : Obj} {vd ve vp ud ue up : Value} (ha : OR a vd ve vp w) (hb : OR b ud ue up w) (ba : OB a) (bb : OB b) (h : ∀ w', St w (fun _ => False) w' [] → K (.bool (decide (a = b))) w') : CK Tryz.prog 151 [.agg ⟨oc a vd ve vp⟩, .agg ⟨oc b ud ue up⟩] w K := by
 have hS := St.nil w (fun _ => False)
 obtain ⟨pa1, pa2, pa3, pa4, pa5⟩ := oc_part a vd ve vp
 obtain ⟨pb1, pb2, pb3, pb4, pb5⟩ := oc_part b ud ue up
 obtain ⟨qa1, qa2, qa3⟩ := oc_at a vd ve vp
 obtain ⟨qb1, qb2, qb3⟩ := oc_at b ud ue up
 have no : a ≠ b → decide (a = b) = false := decide_eq_false
 have la := oc_len a vd ve vp
 have lb := oc_len b ud ue up
 refine call_k Tryz.func151 k151 Tryz.ntmps151 (Nat.le_of_ble_eq_true rfl) ?_
 refine gW ?_
 refine g_ef rfl (ef_bx hS rfl fun b1 w1 hS => ?_)
 refine gW ?_
 refine g_ef rfl (ef_bx hS rfl fun b2 w1 hS => ?_)
 replace hS : St w (fun _ => False) w1 [cel b1 (oc a vd ve vp) 79, cel b2 (oc b ud ue up) 79] := hS
 refine gW ?_
 refine g_l1 rfl rfl (hS.b 0 rfl) (v := .int .i64 (a.kind : Int)) rfl ?_
 refine gW ?_
 refine g_l1 rfl rfl (hS.b 1 rfl) (v := .int .i64 (b.kind : Int)) rfl ?_
 refine gW ?_
 (generalize hk : cmv _ _ _ = q; cases q <;> simp only [cmv, arv, Bool.not_eq_true', Bool.not_eq_false', decide_eq_true_eq, decide_eq_false_iff_not] at hk <;> first | (exfalso; omega) | skip)
 ·rw [no fun e => hk (by rw [e])] at h
  refine gW ?_
  exact g_ret (q_1 rfl (h _ (hS.sel [] rfl rfl)))
 refine gW ?_
 obtain ⟨⟨Ea1, ra1⟩, ⟨Ea2, ra2⟩, ⟨Ea3, ra3⟩⟩ := ha.to hS
 obtain ⟨⟨Eb1, rb1⟩, ⟨Eb2, rb2⟩, ⟨Eb3, rb3⟩⟩ := hb.to hS
 refine g_l1 (off := 1) rfl rfl (hS.b 0 rfl) (v := vd) rfl ?_
 refine gW ?_
 refine g_l1 (off := 1) rfl rfl (hS.b 1 rfl) (v := ud) rfl ?_
 refine g_cl rfl rfl (b_bEq ra1 rb1 ?_)
 by_cases h1 : a.data = b.data
 rotate_left
 ·rw [no fun e => h1 (by rw [e])] at h
  rw [decide_eq_false h1]
  refine gW ?_
  exact g_ret (q_1 rfl (h _ (hS.sel [] rfl rfl)))
 rw [decide_eq_true h1]
 refine gW ?_
 refine g_l1 (off := 2) rfl rfl (hS.b 0 rfl) (v := ve) rfl ?_
 refine gW ?_
 refine g_l1 (off := 2) rfl rfl (hS.b 1 rfl) (v := ue) rfl ?_
 refine g_cl rfl rfl (b_sEqE rfl rfl ba.2.1 bb.2.1 ra2 rb2 fun w2 h' => ?_)
 replace hS := hS.call0.2 _ _ h'
 rw [List.append_nil] at hS
 by_cases h2 : a.ents = b.ents
 rotate_left
 ·rw [no fun e => h2 (by rw [e])] at h
  rw [decide_eq_false h2]
  refine gW ?_
  exact g_ret (q_1 rfl (h _ (hS.sel [] rfl rfl)))
 rw [decide_eq_true h2]
 refine gW ?_
 refine g_lm rfl rfl (hS.b 0 rfl) (by rw [la]; decide) ?_
 rw [pa2]
 refine gW ?_
 refine g_lm rfl rfl (hS.b 1 rfl) (by rw [lb]; decide) ?_
 rw [pb2]
 refine g_qt rfl (qt_aq (a := a.tree.1) (b := b.tree.1) rfl rfl a.tree.2 b.tree.2) ?_
 rw [show aqv .eql a.tree.1 b.tree.1 = decide (a.tree = b.tree) from decide_eq_decide.2 ⟨fun h => Subtype.ext h, fun h => by rw [h]⟩]
 by_cases h3 : a.tree = b.tree
 rotate_left
 ·rw [no fun e => h3 (by rw [e])] at h
  rw [decide_eq_false h3]
  refine gW ?_
  exact g_ret (q_1 rfl (h _ (hS.sel [] rfl rfl)))
 rw [decide_eq_true h3]
 refine gW ?_
 refine g_l1 rfl rfl (hS.b 0 rfl) (v := vp) qa1 ?_
 refine gW ?_
 refine g_l1 rfl rfl (hS.b 1 rfl) (v := up) qb1 ?_
 obtain ⟨_, _, ⟨Ea3, ra3⟩⟩ := ha.to hS
 obtain ⟨_, _, ⟨Eb3, rb3⟩⟩ := hb.to hS
 refine g_cl rfl rfl (b_sEqI rfl rfl ba.2.2.1 bb.2.2.1 ra3 rb3 fun w2 h' => ?_)
 replace hS := hS.call0.2 _ _ h'
 rw [List.append_nil] at hS
 by_cases h4 : a.pars = b.pars
 rotate_left
 ·rw [no fun e => h4 (by rw [e])] at h
  rw [decide_eq_false h4]
  refine gW ?_
  exact g_ret (q_1 rfl (h _ (hS.sel [] rfl rfl)))
 rw [decide_eq_true h4]
 refine gW ?_
 refine g_lm rfl rfl (hS.b 0 rfl) (by rw [la]; decide) ?_
 rw [pa4]
 refine gW ?_
 refine g_lm rfl rfl (hS.b 1 rfl) (by rw [lb]; decide) ?_
 rw [pb4]
 refine g_eqd (tgC a.tk a.tid) (tgC b.tk b.tid) rfl rfl rfl (tgC_fits _ _) (tgC_fits _ _) ?_
 rw [show eqdv .eql (deqv (tgC a.tk a.tid) (tgC b.tk b.tid)) = decide (a.tk = b.tk ∧ a.tid = b.tid) from deqv_eq (by rw [decide_eq_true_eq]; exact ⟨fun h => by rw [h.1, h.2], tgC_inj⟩)]
 by_cases h5 : a.tk = b.tk ∧ a.tid = b.tid
 rotate_left
 ·rw [no fun e => h5 (by rw [e]; exact ⟨rfl, rfl⟩)] at h
  rw [decide_eq_false h5]
  refine gW ?_
  exact g_ret (q_1 rfl (h _ (hS.sel [] rfl rfl)))
 rw [decide_eq_true h5]
 refine gW ?_
 refine g_l1 rfl rfl (hS.b 0 rfl) (v := sv a.msg) qa3 ?_
 refine gW ?_
 refine g_l1 rfl rfl (hS.b 1 rfl) (v := sv b.msg) qb3 ?_
 refine gW ?_
 have e : decide (a = b) = decide (a.msg = b.msg) := decide_eq_decide.2 ⟨fun h => by rw [h], fun h => ob_ext (by omega) h1 h2 h3 h4 h5.1 h5.2 h⟩
 rw [e] at h
 exact g_ret (q_1 rfl (h _ (hS.sel [] rfl rfl)))
end
def m237 : MC := .sq (.rg [.c 2 (.bool false)]) (.sq (.rg [.t 3 0, .o 4 (.cm .gtr (.tmp 3) (.const (.int .i64 8))), .t 2 4]) (.rt))
theorem k237 : Tryz.f237.body.any (fun c => chkC Tryz.prog c m237 && allD (dlt 5) m237) = true := by kernel_rfl
def m238 : MC := .sq (.rg [.o 2 (.al [(256, .bool false)] 294), .c 3 (.bool false)]) (.sq (.sq (.rg [.c 4 (.int .i64 0)]) (.bk 0 (.lp (.sq (.sq (.rg [.t 6 4, .t 7 0, .o 8 (.ln true (.tmp 7)), .o 9 (.cm .lss (.tmp 6) (.tmp 8))]) (.cd (.tmp 9) (.sk) (.xt 0))) (.sq (.bk 1 (.sq (.rg [.t 12 0, .t 13 4, .o 14 (.ixs (.tmp 12) (.tmp 13)), .t 5 14]) (.sq (.sq (.rg [.t 15 5, .o 16 (.cm .geq (.tmp 15) (.const (.int .u8 128)))]) (.cd (.tmp 16) (.sq (.rg [.o 17 (.ld (.tmp 2) (some 256)), .e (.st (.tmp 2) (.tmp 17) 256), .c 3 (.bool false)]) (.rt)) (.sk))) (.rg [.t 18 5, .o 19 (.iaa (.tmp 2) (.tmp 18) 256 1), .e (.st (.tmp 19) (.const (.bool true)) 1)])))) (.rg [.t 10 4, .o 11 (.ar .add .i64 (.tmp 10) (.const (.int .i64 1)) true), .t 4 11])))))) (.sq (.rg [.o 20 (.ld (.tmp 2) (some 256)), .e (.st (.tmp 2) (.tmp 20) 256), .c 3 (.bool true)]) (.rt)))
theorem k238 : Tryz.f238.body.any (fun c => chkC Tryz.prog c m238 && allD (dlt 21) m238) = true := by kernel_rfl
def m239 : MC := .sq (.rg [.c 4 (.bool false)]) (.sq (.rg [.t 5 0, .t 6 1, .o 7 (.nc (.tmp 5)), .o 8 (.iaa (.tmp 7) (.tmp 6) 256 1), .o 9 (.ld (.tmp 8) none), .t 4 9]) (.rt))
theorem k239 : Tryz.f239.body.any (fun c => chkC Tryz.prog c m239 && allD (dlt 10) m239) = true := by kernel_rfl
def m241 : MC := .sq (.rg [.c 2 (.bool false)]) (.sq (.bk 0 (.sq (.rg [.t 4 0, .o 5 (.cm .leq (.const (.int .i32 0)) (.tmp 4)), .t 6 5, .q 7 6 true (.mv (.tmp 0)), .q 8 6 true (.cm .lss (.tmp 7) (.const (.int .i32 55296))), .o 9 (.pk (.tmp 6) (.tmp 8) (.const (.bool false))), .t 3 9]) (.cd (.tmp 3) (.sq (.rg [.c 2 (.bool true)]) (.rt)) (.sq (.rg [.t 11 0, .o 12 (.cm .lss (.const (.int .i32 57343)) (.tmp 11)), .t 13 12, .q 14 13 true (.mv (.tmp 0)), .q 15 13 true (.cm .leq (.tmp 14) (.const (.int .i32 1114111))), .o 16 (.pk (.tmp 13) (.tmp 15) (.const (.bool false))), .t 10 16]) (.cd (.tmp 10) (.sq (.rg [.c 2 (.bool true)]) (.rt)) (.sk)))))) (.sq (.rg [.c 2 (.bool false)]) (.rt)))
theorem k241 : Tryz.f241.body.any (fun c => chkC Tryz.prog c m241 && allD (dlt 17) m241) = true := by kernel_rfl
def bdc (c : UInt8) : Bool := decide (c = 47 ∨ c = 0)
theorem bdc_hi {c : UInt8} (h : 128 ≤ c.toNat) : bdc c = false := decide_eq_false fun h1 => by
 rcases h1 with rfl | rfl
 ·exact absurd h (by decide)
 ·exact absurd h (by decide)
theorem bdc_n (c : UInt8) : bdc c = decide (c.toNat = 47 ∨ c.toNat = 0) := by
 unfold bdc
 rw [decide_eq_decide]
 constructor
 ·rintro (rfl | rfl) <;> simp
 ·rintro (h | h)
  ·exact .inl (UInt8.toNat_inj.1 h)
  ·exact .inr (UInt8.toNat_inj.1 h)
theorem ixb : ∀ c < 128, (0 ≤ Lib.indexByte [47, 0] ((c : Nat) : Int).toNat.toUInt8 ↔ c = 47 ∨ c = 0) := by decide
theorem ixe (c : UInt8) : Lib.indexByte [] c = -1 := rfl
theorem dec_3 {s : Bs} {k : Nat} (hk : k < s.length) (hb : ¬ s[k].toNat < 128) : (Utf8.decode ⟨s.toArray⟩ k).1 < 2147483648 ∧ 1 ≤ (Utf8.decode ⟨s.toArray⟩ k).2 ∧ ∀ j, k ≤ j → j < k + (Utf8.decode ⟨s.toArray⟩ k).2 → ∃ h : j < s.length, 128 ≤ s[j].toNat := by
 have hg : ∀ j (hj : k + j < s.length), ((⟨s.toArray⟩ : ByteArray).get! (k + j)) = s[k + j] := fun j hj => by
  show (s.toArray)[k + j]! = s[k + j]
  simp [hj]
 have hs : (⟨s.toArray⟩ : ByteArray).size = s.length := by show s.toArray.size = _; simp
 have h0 : ((⟨s.toArray⟩ : ByteArray).get! (k + 0)).toNat = s[k].toNat := by rw [hg 0 (by omega)]; rfl
 have hr : Utf8.runeError = 65533 := rfl
 have one : (65533 : Nat) < 2147483648 ∧ 1 ≤ 1 ∧ ∀ j, k ≤ j → j < k + 1 → ∃ h : j < s.length, 128 ≤ s[j].toNat := ⟨by decide, Nat.le_refl _, fun j h1 h2 => by
  obtain rfl : j = k := by omega
  exact ⟨hk, by omega⟩⟩
 have hc : ∀ j, (decide (k + j < (⟨s.toArray⟩ : ByteArray).size) && ((⟨s.toArray⟩ : ByteArray).get! (k + j)).toNat / 64 == 2) = true → ∃ h : k + j < s.length, 128 ≤ s[k + j].toNat ∧ s[k + j].toNat < 192 ∧ ((⟨s.toArray⟩ : ByteArray).get! (k + j)).toNat = s[k + j].toNat := fun j h => by
  simp only [Bool.and_eq_true, decide_eq_true_eq, beq_iff_eq, hs] at h
  obtain ⟨h1, h2⟩ := h
  rw [hg j h1] at h2 ⊢
  exact ⟨h1, by omega, by omega, rfl⟩
 have hlt := s[k].toNat_lt
 unfold Utf8.decode
 simp only [h0]
 rw [if_neg (by simpa using hb)]
 split
 ·rename_i h
  rw [Bool.and_eq_true] at h
  obtain ⟨l1, a1, b1, e1⟩ := hc 1 h.2
  split
  ·refine ⟨by rw [e1]; simp only; omega, Nat.le_of_ble_eq_true rfl, fun j h1 h2 => ?_⟩
   have h2 : j < k + 2 := h2
   by_cases e : j = k
   ·subst e; exact ⟨hk, by omega⟩
   ·obtain rfl : j = k + 1 := by omega
    exact ⟨l1, a1⟩
  ·rw [hr]; exact one
 ·split
  ·rename_i h
   rw [Bool.and_eq_true, Bool.and_eq_true] at h
   obtain ⟨l1, a1, b1, e1⟩ := hc 1 h.1.2
   obtain ⟨l2, a2, b2, e2⟩ := hc 2 h.2
   split
   ·refine ⟨by rw [e1, e2]; simp only; omega, Nat.le_of_ble_eq_true rfl, fun j h1 h2 => ?_⟩
    have h2 : j < k + 3 := h2
    by_cases e : j = k
    ·subst e; exact ⟨hk, by omega⟩
    by_cases e : j = k + 1
    ·subst e; exact ⟨l1, a1⟩
    ·obtain rfl : j = k + 2 := by omega
     exact ⟨l2, a2⟩
   ·rw [hr]; exact one
  ·split
   ·rename_i h
    rw [Bool.and_eq_true, Bool.and_eq_true, Bool.and_eq_true] at h
    obtain ⟨l1, a1, b1, e1⟩ := hc 1 h.1.1.2
    obtain ⟨l2, a2, b2, e2⟩ := hc 2 h.1.2
    obtain ⟨l3, a3, b3, e3⟩ := hc 3 h.2
    split
    ·refine ⟨by rw [e1, e2, e3]; simp only; omega, Nat.le_of_ble_eq_true rfl, fun j h1 h2 => ?_⟩
     have h2 : j < k + 4 := h2
     by_cases e : j = k
     ·subst e; exact ⟨hk, by omega⟩
     by_cases e : j = k + 1
     ·subst e; exact ⟨l1, a1⟩
     by_cases e : j = k + 2
     ·subst e; exact ⟨l2, a2⟩
     ·obtain rfl : j = k + 3 := by omega
      exact ⟨l3, a3⟩
    ·rw [hr]; exact one
   ·rw [hr]; exact one
theorem enc_hi {c : Nat} (hc : 128 ≤ c) : ∃ (l : Bs) (x : UInt8), Utf8.encode (c : Int) = ⟨(l ++ [x]).toArray⟩ ∧ 1 ≤ l.length ∧ l.length ≤ 3 ∧ 128 ≤ x.toNat := by
 have key : ∀ c : Nat, 128 ≤ c → ∃ (l : Bs) (x : UInt8), (if c < 0x80 then (⟨#[UInt8.ofNat c]⟩ : ByteArray) else if c < 0x800 then ⟨#[UInt8.ofNat (0xC0 + c / 64), UInt8.ofNat (0x80 + c % 64)]⟩ else if c < 0x10000 then ⟨#[UInt8.ofNat (0xE0 + c / 4096), UInt8.ofNat (0x80 + c / 64 % 64), UInt8.ofNat (0x80 + c % 64)]⟩
   else ⟨#[UInt8.ofNat (0xF0 + c / 262144), UInt8.ofNat (0x80 + c / 4096 % 64), UInt8.ofNat (0x80 + c / 64 % 64), UInt8.ofNat (0x80 + c % 64)]⟩) = ⟨(l ++ [x]).toArray⟩ ∧ 1 ≤ l.length ∧ l.length ≤ 3 ∧ 128 ≤ x.toNat := fun c hc => by
  have hx : 128 ≤ (UInt8.ofNat (0x80 + c % 64)).toNat := by rw [u8n (by omega)]; omega
  rw [if_neg (by omega)]
  split
  ·exact ⟨[_], _, rfl, by simp, by simp, hx⟩
  ·split
   ·exact ⟨[_, _], _, rfl, by simp, by simp, hx⟩
   ·exact ⟨[_, _, _], _, rfl, by simp, by simp, hx⟩
 unfold Utf8.encode
 dsimp only
 split
 ·exact key _ (by omega)
 ·exact key _ (by decide)
section
variable {w w0 : World} {S0 : Nat → Prop} {L B : List Res} {K : Value → World → Prop} {s : Bs} {E0 E1 : Nat}
theorem c_sIxB {c : Int} (h : K (.int .i64 (Lib.indexByte s c.toNat.toUInt8)) w) : CK Tryz.prog 240 [sv s, .int .u8 c] w K := ck_of (Tryz.strings_IndexByte ⟨s.toArray⟩ c w) h
theorem b_Valid {x : Int} (h : ∀ q : Bool, K (.bool q) w) : CK Tryz.prog 241 [.int .i32 x] w K := by
 refine call_k Tryz.func241 k241 Tryz.ntmps241 (Nat.le_of_ble_eq_true rfl) ?_
 refine gW ?_
 generalize cmv .leq 0 x = q0
 cases q0
 ·refine gW ?_
  generalize cmv .lss 57343 x = q2
  cases q2
  ·refine gW ?_
   exact g_ret (q_1 rfl (h _))
  ·refine gW ?_
   generalize cmv .leq x 1114111 = q3
   cases q3
   ·refine gW ?_
    exact g_ret (q_1 rfl (h _))
   ·refine gW ?_
    exact g_ret (q_1 rfl (h _))
 ·refine gW ?_
  generalize cmv .lss x 55296 = q1
  cases q1
  ·refine gW ?_
   generalize cmv .lss 57343 x = q2
   cases q2
   ·refine gW ?_
    exact g_ret (q_1 rfl (h _))
   ·refine gW ?_
    generalize cmv .leq x 1114111 = q3
    cases q3
    ·refine gW ?_
     exact g_ret (q_1 rfl (h _))
    ·refine gW ?_
     exact g_ret (q_1 rfl (h _))
  ·refine gW ?_
   exact g_ret (q_1 rfl (h _))
set_option maxHeartbeats 1000000 in
theorem b_IxR {c : Nat} (hc : c < 2147483648) (h : ∀ (n : Int) w', (0 ≤ n ↔ c = 47 ∨ c = 0) → St w (fun _ => False) w' [] → K (.int .i64 n) w') : CK Tryz.prog 236 [sv [47, 0], .int .i32 (c : Int)] w K := by
 have hS := St.nil w (fun _ => False)
 generalize hx : (c : Int) = x
 refine call_k Tryz.func236 k236 Tryz.ntmps236 (Nat.le_of_ble_eq_true rfl) ?_
 refine gW ?_
 (generalize h0 : cmv _ _ _ = q; cases q <;> simp only [cmv, arv, Bool.not_eq_true', Bool.not_eq_false', decide_eq_true_eq, decide_eq_false_iff_not] at h0 <;> first | (exfalso; omega) | skip)
 refine gW ?_
 (generalize h1 : cmv _ _ _ = q; cases q <;> simp only [cmv, arv, Bool.not_eq_true', Bool.not_eq_false', decide_eq_true_eq, decide_eq_false_iff_not] at h1 <;> first | (exfalso; omega) | skip)
 ·have hno : ¬ (c = 47 ∨ c = 0) := by omega
  have hm1 : (0 ≤ (-1 : Int) ↔ c = 47 ∨ c = 0) := ⟨fun h => absurd h (by decide), fun h => absurd h hno⟩
  refine gW ?_
  (generalize h2 : cmv _ _ _ = q; cases q <;> simp only [cmv, arv, Bool.not_eq_true', Bool.not_eq_false', decide_eq_true_eq, decide_eq_false_iff_not] at h2 <;> first | (exfalso; omega) | skip)
  ·refine gW ?_
   refine g_cl rfl rfl (b_Valid fun q => ?_)
   cases q
   ·refine gW ?_
    exact g_ret (q_1 rfl (h _ _ hm1 hS))
   refine gW ?_
   obtain ⟨l, y, he, hl, hle, hly⟩ := enc_hi (show 128 ≤ c by omega)
   rw [hx] at he
   refine g_sc rfl ?_
   refine gW ?_
   rw [he]
   have hsz : (⟨(l ++ [y]).toArray⟩ : ByteArray).size = l.length + 1 := by show (l ++ [y]).toArray.size = _; simp
   rw [hsz]
   refine g_rq rfl rfl (in64 (by simp only [arv]; omega)) ?_
   rw [show arv .sub ((l.length + 1 : Nat) : Int) 1 = (l.length : Int) by simp only [arv]; omega]
   refine gW ?_
   refine g_lp (ι := Unit) (fun _ => [(0, sv [47, 0]), (7, .string ⟨(l ++ [y]).toArray⟩), (8, .int .i64 l.length), (9, .int .i64 l.length)]) (fun _ w' => w' = w) (fun _ => 0) () ⟨rfl, rfl, rfl, rfl, trivial⟩ rfl ?_
   rintro _ w1 rfl
   refine gW ?_
   generalize hlt : cmv BinOp.lss (l.length : Int) _ = q5
   cases q5
   ·refine gW ?_
    exact g_ret (q_1 rfl (h _ _ hm1 hS))
   ·have h1 : l.length = 1 := by
     have h2 : (l.length : Int) < 2 := of_decide_eq_true hlt
     omega
    obtain ⟨z, rfl⟩ : ∃ z, l = [z] := by
     match l, h1 with
     | [z], _ => exact ⟨z, rfl⟩
    refine gW ?_
    refine g_sc rfl ?_
    refine gW ?_
    refine g_dr mixed ?_
    replace hS := hS.drew
    refine gD ?_
    refine d_rq rfl rfl rfl ⟨by show (0 : Int) ≤ 1; decide, by show (1 : Int) < 2; decide⟩ ?_
    refine gD ?_
    refine d_rq rfl rfl rfl ⟨by show (0 : Int) ≤ 1; decide, by show (1 : Int) < 2; decide⟩ ?_
    refine gD ?_
    refine d_fin ?_
    generalize hqq : cmv BinOp.neq _ _ = q6
    cases q6
    ·exfalso
     have h3 : cmv BinOp.neq 0 (y.toNat : Int) = false := hqq
     simp [cmv] at h3
     omega
    refine gW ?_
    refine g_dr mixed ?_
    replace hS := hS.drew
    refine gD ?_
    refine d_rq rfl rfl rfl (in64 (by show _ ∧ _; simp only [arv]; simp)) ?_
    refine gD ?_
    refine d_rq rfl rfl rfl (by simp [arv]; decide) ?_
    refine gD ?_
    refine d_rq rfl rfl rfl ⟨by show (0 : Int) ≤ 1; decide, by show (1 : Int) < 2; decide⟩ ?_
    refine d_cl rfl rfl rfl (c_sIxB (s := []) ⟨rc_0, ?_⟩)
    rw [ixe]
    refine gD ?_
    refine d_fin ?_
    refine gW ?_
    exact g_ret (q_1 rfl (h _ _ hm1 hS))
  ·refine gW ?_
   refine g_ef rfl (ef_rg (s := ⟨#[47, 0]⟩) hS rfl fun b w1 hS => ?_)
   refine gW ?_
   refine g_lp (ι := Nat) (fun _ => [(0, sv [47, 0]), (1, .int .i32 x), (175, dp b)]) (fun k w' => k ≤ 2 ∧ St w (fun _ => False) w' [obj b (.stringIter ⟨#[47, 0]⟩ k)]) (fun k => 2 - k) 0 ⟨rfl, rfl, rfl, trivial⟩ ⟨Nat.zero_le _, hS⟩ ?_
   clear hS
   rintro k w1 ⟨hk, hS⟩
   refine gW ?_
   refine g_ef rfl (ef_nx hS 0 rfl rfl (fun hlt w1 hS => ?_) (fun hge => ?_))
   ·have hlt : k < 2 := hlt
    refine gW ?_
    match k, hlt, hS with
    | 0, _, hS =>
     refine gW ?_
     exact g_l 1 ⟨rfl, rfl, rfl, trivial⟩ ⟨by decide, hS⟩ (by decide)
    | 1, _, hS =>
     refine gW ?_
     exact g_l 2 ⟨rfl, rfl, rfl, trivial⟩ ⟨by decide, hS⟩ (by decide)
   ·refine gW ?_
    exact g_ret (q_1 rfl (h _ _ hm1 (hS.sel [] rfl rfl)))
 ·refine gW ?_
  refine g_cl rfl rfl (c_sIxB (s := [47, 0]) ?_)
  refine gW ?_
  have e := ixb c (by omega)
  rw [hx] at e
  rw [show IntKind.u8.wrap x = x by rw [IntKind.wrap_u8]; omega]
  exact g_ret (q_1 rfl (h _ _ e hS))
theorem b_useA {n : Nat} (h : K (.bool (cmv .gtr (n : Int) 8)) w) : CK Tryz.prog 237 [.int .i64 n] w K := by
 refine call_k Tryz.func237 k237 Tryz.ntmps237 (Nat.le_of_ble_eq_true rfl) ?_
 refine gW ?_
 exact g_ret (q_1 rfl h)
end
def asB : List Bool := ((List.replicate 256 false).set 47 true).set 0 true
def asC : List Value := asB.map .bool
set_option maxRecDepth 100000 in
theorem asB_at : ∀ c < 256, asB[c]? = some (decide (c = 47 ∨ c = 0)) := by decide
theorem asC_at (x : UInt8) : asC[x.toNat]? = some (.bool (bdc x)) := by
 unfold asC
 rw [List.getElem?_map, asB_at _ x.toNat_lt, bdc_n]
 rfl
section
variable {w w0 : World} {S0 : Nat → Prop} {L B : List Res} {K : Value → World → Prop} {s : Bs} {E0 E1 : Nat}
set_option maxRecDepth 100000 in
theorem b_mkA (h : ∀ w', St w (fun _ => False) w' [] → K (.tuple ⟨[.agg ⟨asC⟩, .bool true]⟩) w') : CK Tryz.prog 238 [sv [47, 0]] w K := by
 have hS := St.nil w (fun _ => False)
 refine call_k Tryz.func238 k238 Tryz.ntmps238 (Nat.le_of_ble_eq_true rfl) ?_
 refine gW ?_
 refine g_ef rfl (ef_al hS fun b2 w1 hS => ?_)
 replace hS : St w (fun _ => False) w1 [cel b2 ((List.replicate 256 false).map .bool) 294] := hS
 refine gW ?_
 refine g_lp (ι := Nat) (fun k => [(0, sv [47, 0]), (2, dp b2), (4, .int .i64 k)]) (fun k w' => k ≤ 2 ∧ St w (fun _ => False) w' [cel b2 (((if k = 0 then List.replicate 256 false else if k = 1 then (List.replicate 256 false).set 47 true else asB)).map .bool) 294]) (fun k => 2 - k) 0 ⟨rfl, rfl, rfl, trivial⟩ ⟨Nat.zero_le _, hS⟩ ?_
 clear hS
 rintro k w1 ⟨hk, hS⟩
 refine gW ?_
 match k, hk, hS with
 | 0, _, hS =>
  refine gW ?_
  refine g_rq rfl rfl ⟨by decide, by decide⟩ ?_
  refine gW ?_
  refine g_rq rfl rfl ⟨by decide, by decide⟩ ?_
  refine gW ?_
  refine g_ef0 rfl (ef_st hS 0 rfl rfl rfl rfl (Nat.le_of_ble_eq_true rfl) rfl fun w1 hS => ?_)
  refine gW ?_
  refine g_rq rfl rfl (in64 (by simp [arv])) ?_
  refine gW ?_
  exact g_l 1 ⟨rfl, rfl, rfl, trivial⟩ ⟨by decide, hS.ceq 0 rfl rfl⟩ (by decide)
 | 1, _, hS =>
  refine gW ?_
  refine g_rq rfl rfl ⟨by decide, by decide⟩ ?_
  refine gW ?_
  refine g_rq rfl rfl ⟨by decide, by decide⟩ ?_
  refine gW ?_
  refine g_ef0 rfl (ef_st hS 0 rfl rfl rfl rfl (Nat.le_of_ble_eq_true rfl) rfl fun w1 hS => ?_)
  refine gW ?_
  refine g_rq rfl rfl (in64 (by simp [arv])) ?_
  refine gW ?_
  exact g_l 2 ⟨rfl, rfl, rfl, trivial⟩ ⟨by decide, hS.ceq 0 rfl rfl⟩ (by decide)
 | 2, _, hS =>
  replace hS : St w (fun _ => False) w1 [cel b2 asC 294] := hS
  refine gW ?_
  refine g_lm rfl rfl (hS.b 0 rfl) (Nat.le_of_ble_eq_true rfl) ?_
  rw [show (asC.drop 0).take 256 = asC from rfl]
  refine g_ef0 rfl (ef_st hS 0 rfl rfl rfl rfl (Nat.le_of_ble_eq_true rfl) rfl fun w1 hS => ?_)
  replace hS : St w (fun _ => False) w1 [cel b2 asC 294] := hS.ceq 0 rfl rfl
  refine gW ?_
  exact g_ret (q_c2 (n := 256) rfl (by kernel_rfl) (hS.b 0 rfl) (Nat.le_of_ble_eq_true rfl) rfl (h _ (hS.sel [] rfl rfl)))
theorem b_conA {b : Nat} {x : UInt8} (hb : Blk w b asC E0) (h : K (.bool (bdc x)) w) : CK Tryz.prog 239 [dp b, .int .u8 (x.toNat : Int)] w K := by
 refine call_k Tryz.func239 k239 Tryz.ntmps239 (Nat.le_of_ble_eq_true rfl) ?_
 refine gW ?_
 have hlt := x.toNat_lt
 refine g_rq rfl rfl ⟨by omega, by omega⟩ ?_
 refine g_l1 rfl rfl hb (v := .bool (bdc x)) (by rw [Int.toNat_natCast, Nat.zero_add, Nat.mul_one]; exact asC_at x) ?_
 refine gW ?_
 exact g_ret (q_1 rfl h)
set_option maxRecDepth 100000 in
set_option maxHeartbeats 1000000 in
theorem b_IxA (hs : s.length < 1000000000) (h : ∀ (n : Int) w', (0 ≤ n ↔ s.any bdc = true) → St w (fun _ => False) w' [] → K (.int .i64 n) w') : CK Tryz.prog 235 [sv s, sv [47, 0]] w K := by
 have hS := St.nil w (fun _ => False)
 have fin : ∀ {k : Nat}, s.length ≤ k → (∀ j (hj : j < s.length), j < k → bdc s[j] = false) → (0 ≤ (-1 : Int) ↔ s.any bdc = true) := fun {k} hk hI => by
  constructor
  ·intro h; exact absurd h (by decide)
  ·intro h
   obtain ⟨c, hc, hb⟩ := List.any_eq_true.1 h
   obtain ⟨j, hj, rfl⟩ := List.getElem_of_mem hc
   rw [hI j hj (by omega)] at hb
   cases hb
 have yes : ∀ {k : Nat} (hk : k < s.length), bdc s[k] = true → (0 ≤ (k : Int) ↔ s.any bdc = true) := fun {k} hk hb => ⟨fun _ => List.any_eq_true.2 ⟨_, List.getElem_mem hk, hb⟩, fun _ => by omega⟩
 refine call_k Tryz.func235 k235 Tryz.ntmps235 (Nat.le_of_ble_eq_true rfl) ?_
 refine gW ?_
 refine g_cl rfl rfl (b_useA (n := s.length) ?_)
 refine gW ?_
 (generalize hq : cmv _ _ _ = q; cases q <;> simp only [cmv, arv, Bool.not_eq_true', Bool.not_eq_false', decide_eq_true_eq, decide_eq_false_iff_not] at hq <;> first | (exfalso; omega) | skip)
 ·refine gW ?_
  refine g_ef rfl (ef_rg (s := ⟨s.toArray⟩) hS rfl fun b w1 hS => ?_)
  refine gW ?_
  refine g_lp (ι := Nat) (fun k => [(1, sv [47, 0]), (45, dp b)]) (fun k w' => k ≤ s.length ∧ (∀ j (hj : j < s.length), j < k → bdc s[j] = false) ∧ St w (fun _ => False) w' [obj b (.stringIter ⟨s.toArray⟩ k)]) (fun k => s.length - k) 0
   ⟨rfl, rfl, trivial⟩ ⟨Nat.zero_le _, fun j _ hj => absurd hj (Nat.not_lt_zero j), hS⟩ ?_
  clear hS
  rintro k w1 ⟨hk, hI, hS⟩
  refine gW ?_
  refine g_ef rfl (ef_nx hS 0 rfl rfl (fun hlt w1 hS => ?_) (fun hge => ?_))
  ·have hlt : k < s.length := hlt
   refine gW ?_
   by_cases hb : s[k].toNat < 128
   ·rw [dec_1 hlt hb] at hS ⊢
    refine g_cl rfl rfl (b_IxR (c := s[k].toNat) (by omega) fun n w2 hn h' => ?_)
    replace hS := hS.call0.2 _ _ h'
    rw [List.append_nil] at hS
    clear h'
    have hbd := bdc_n s[k]
    cases hc : bdc s[k]
    ·rw [hc] at hbd
     have : ¬ (s[k].toNat = 47 ∨ s[k].toNat = 0) := of_decide_eq_false hbd.symm
     have hn0 : ¬ 0 ≤ n := fun h => this (hn.1 h)
     refine gW ?_
     rw [show cmv BinOp.geq n 0 = false from decide_eq_false hn0]
     refine gW ?_
     refine g_l (k + 1) ⟨rfl, rfl, trivial⟩ ⟨hlt, fun j hj hl => ?_, hS⟩ (by omega)
     by_cases e : j = k
     ·subst e; exact hc
     ·exact hI j hj (by omega)
    ·rw [hc] at hbd
     have : s[k].toNat = 47 ∨ s[k].toNat = 0 := of_decide_eq_true hbd.symm
     have hn0 : 0 ≤ n := hn.2 this
     refine gW ?_
     rw [show cmv BinOp.geq n 0 = true from decide_eq_true hn0]
     refine gW ?_
     exact g_ret (q_1 rfl (h _ _ (yes hlt hc) (hS.sel [] rfl rfl)))
   ·have hd := dec_2 hlt hb
    obtain ⟨hd1, hd2, hd3⟩ := dec_3 hlt hb
    generalize Utf8.decode ⟨s.toArray⟩ k = dc at hS hd hd1 hd2 hd3 ⊢
    refine g_cl rfl rfl (b_IxR (c := dc.1) hd1 fun n w2 hn h' => ?_)
    replace hS := hS.call0.2 _ _ h'
    rw [List.append_nil] at hS
    clear h'
    have hn0 : ¬ 0 ≤ n := fun h => by have := hn.1 h; omega
    refine gW ?_
    rw [show cmv BinOp.geq n 0 = false from decide_eq_false hn0]
    refine gW ?_
    have hkl : k + dc.2 ≤ s.length := by
     obtain ⟨h1, _⟩ := hd3 (k + dc.2 - 1) (by omega) (by omega)
     omega
    refine g_l (k + dc.2) ⟨rfl, rfl, trivial⟩ ⟨hkl, fun j hj hl => ?_, hS⟩ (by omega)
    by_cases e : j < k
    ·exact hI j hj e
    ·obtain ⟨_, h2⟩ := hd3 j (by omega) hl
     exact bdc_hi h2
  ·have hge : ¬ k < s.length := hge
   refine gW ?_
   exact g_ret (q_1 rfl (h _ _ (fin (by omega) hI) (hS.sel [] rfl rfl)))
 ·refine gW ?_
  refine g_cl rfl rfl (b_mkA fun w1 h' => ?_)
  replace hS := hS.call0.2 _ _ h'
  clear h'
  refine gW ?_
  refine g_ef rfl (ef_al hS fun b w1 hS => ?_)
  have lz : (zx [(256, Value.bool false)]).length = 256 := by decide
  have la : asC.length = 256 := by decide
  refine gW ?_
  refine g_ef0 rfl (ef_st hS 0 rfl rfl rfl la (by rw [lz]; decide) (by decide) fun w1 hS => ?_)
  replace hS : St w (fun _ => False) w1 [cel b asC 294] := hS.ceq 0 rfl (spl_full _ _ (by show asC.length = _; rw [la, lz]))
  refine gW ?_
  refine g_lp (ι := Nat) (fun k => [(0, sv s), (1, sv [47, 0]), (6, dp b), (8, .int .i64 k)]) (fun k w' => k ≤ s.length ∧ (∀ j (hj : j < s.length), j < k → bdc s[j] = false) ∧ St w (fun _ => False) w' [cel b asC 294]) (fun k => s.length - k) 0
   ⟨rfl, rfl, rfl, rfl, trivial⟩ ⟨Nat.zero_le _, fun j _ hj => absurd hj (Nat.not_lt_zero j), hS⟩ ?_
  clear hS
  rintro k w1 ⟨hk, hI, hS⟩
  have hz : (⟨s.toArray⟩ : ByteArray).size = s.length := by show s.toArray.size = _; simp
  refine gW ?_
  rw [hz]
  (generalize hlt : cmv _ _ _ = q; cases q <;> simp only [cmv, arv, Bool.not_eq_true', Bool.not_eq_false', decide_eq_true_eq, decide_eq_false_iff_not] at hlt <;> first | (exfalso; omega) | skip)
  ·refine gW ?_
   exact g_ret (q_1 rfl (h _ _ (fin (by omega) hI) (hS.sel [] rfl rfl)))
  ·have hlt : k < s.length := by omega
   refine gW ?_
   refine g_rq rfl rfl ⟨by omega, by omega⟩ ?_
   have ex : (⟨s.toArray⟩ : ByteArray).data.toList.getD ((k : Int)).toNat 0 = s[k] := by
    show s.getD k 0 = s[k]
    rw [List.getD_eq_getElem?_getD, List.getElem?_eq_getElem hlt]
    rfl
   rw [ex]
   refine g_cl rfl rfl (b_conA (x := s[k]) (hS.b 0 rfl) ?_)
   cases hc : bdc s[k]
   ·refine gW ?_
    refine g_rq rfl rfl (in64 (by simp only [arv]; omega)) ?_
    refine gW ?_
    refine g_l (k + 1) ⟨rfl, rfl, rfl, rfl, trivial⟩ ⟨hlt, fun j hj hl => ?_, hS⟩ (by omega)
    by_cases e : j = k
    ·subst e; exact hc
    ·exact hI j hj (by omega)
   ·refine gW ?_
    exact g_ret (q_1 rfl (h _ _ (yes hlt hc) (hS.sel [] rfl rfl)))
theorem b_ConA (hs : s.length < 1000000000) (h : ∀ w', St w (fun _ => False) w' [] → K (.bool (s.any bdc)) w') : CK Tryz.prog 234 [sv s, sv [47, 0]] w K := by
 refine call_k Tryz.func234 k234 Tryz.ntmps234 (Nat.le_of_ble_eq_true rfl) ?_
 refine gW ?_
 refine g_cl rfl rfl (b_IxA hs fun n w1 hn hS => ?_)
 refine gW ?_
 have e : cmv BinOp.geq n 0 = s.any bdc := by
  cases hb : s.any bdc
  ·exact decide_eq_false fun h => by have := hn.1 h; rw [hb] at this; cases this
  ·exact decide_eq_true (hn.2 hb)
 rw [e]
 exact g_ret (q_1 rfl (h _ hS))
end
end Go.Proofs.YtocofjmknnckhaaGreatDoor
