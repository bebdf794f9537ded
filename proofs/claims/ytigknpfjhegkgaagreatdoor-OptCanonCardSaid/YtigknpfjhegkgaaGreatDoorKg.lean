/- The code of functions, as the framework reads it. -/
import Derived.Test.YtigknpfjhegkgaaGreatDoorZo
import Derived.KernelRfl
namespace Go.Proofs.YtigknpfjhegkgaaGreatDoor
open Go Go.AS
set_option maxRecDepth 100000

def c6t : ACode :=
 (.seq
 (.ops [⟨some 79, none, .loadN 38 (.tmp 5)⟩,
 ⟨some 80, none, .call 15 [(.tmp 79)]⟩,
 ⟨some 81, none, .call 23 [(.tmp 80)]⟩,
 ⟨some 78, none, .mov (.tmp 81)⟩,
 ⟨some 82, none, .ext (.tmp 78) 0⟩,
 ⟨some 83, none, .ext (.tmp 78) 1⟩,
 ⟨some 15, none, .alloc 23 [.int .i64 (0), .string ⟨⟨[]⟩⟩]⟩,
 ⟨none, none, .store 2 (.tmp 15) (.tmp 82)⟩,
 ⟨some 16, none, .mov (.tmp 83)⟩])
 (.seq
 (.seq
 (.ops [⟨some 84, none, .loadN 38 (.tmp 5)⟩,
 ⟨some 85, none, .call 15 [(.tmp 84)]⟩,
 ⟨some 86, none, .call 24 [(.tmp 85)]⟩,
 ⟨some 87, none, .un .not (.tmp 86)⟩])
 (.cond (.tmp 87)
 (.seq
 (.ops [⟨some 88, none, .mov (.tmp 16)⟩,
 ⟨some 89, none, .bin .eql (.tmp 88) (.const (.int .i64 (2)))⟩,
 ⟨some 90, none, .mov (.tmp 89)⟩,
 ⟨some 91, some (90, true), .loadN 2 (.tmp 15)⟩,
 ⟨some 92, some (90, true), .build [.int .i64 (0), .string ⟨⟨[]⟩⟩] []⟩,
 ⟨some 93, some (90, true), .eqF false [(0, .i), (1, .s)] (.tmp 91) (.tmp 92)⟩,
 ⟨some 94, none, .pick (.tmp 90) (.tmp 93) (.const (.bool false))⟩,
 ⟨some 6, none, .mov (.tmp 94)⟩])
 .ret)
 .skip))
 (.seq
 (.ops [⟨some 96, none, .loadN 2 (.tmp 15)⟩,
 ⟨some 97, none, .call 12 [(.tmp 96)]⟩,
 ⟨some 95, none, .mov (.tmp 97)⟩,
 ⟨some 98, none, .ext (.tmp 95) 0⟩,
 ⟨some 99, none, .ext (.tmp 95) 1⟩,
 ⟨none, none, .store 38 (.tmp 13) (.tmp 98)⟩,
 ⟨some 14, none, .mov (.tmp 99)⟩])
 (.seq
 (.opsD [⟨some 100, none, .mov (.tmp 16)⟩,
 ⟨some 101, none, .bin .eql (.tmp 100) (.const (.int .i64 (0)))⟩,
 ⟨some 102, none, .mov (.tmp 101)⟩,
 ⟨some 103, some (102, true), .mov (.tmp 14)⟩,
 ⟨some 104, some (102, true), .bin .eql (.tmp 103) (.const (.int .i64 (0)))⟩,
 ⟨some 105, none, .pick (.tmp 102) (.tmp 104) (.const (.bool false))⟩,
 ⟨some 106, none, .mov (.tmp 105)⟩,
 ⟨some 107, some (106, true), .loadN 38 (.tmp 13)⟩,
 ⟨some 108, some (106, true), .loadN 38 (.tmp 5)⟩,
 ⟨some 109, some (106, true), .call 15 [(.tmp 108)]⟩,
 ⟨some 110, some (106, true), .eqF false opL (.tmp 107) (.tmp 109)⟩,
 ⟨some 111, none, .pick (.tmp 106) (.tmp 110) (.const (.bool false))⟩,
 ⟨some 6, none, .mov (.tmp 111)⟩] [(7, 9), (7, 10)])
 .ret))))

/-- plait/plaitlaw14.OptBack -/
def c6 : AFunc := ⟨112, 3, [.inl 6],
 (.seq
 (.ops [⟨some 3, none, .box 29 34 (.tmp 0)⟩,
 ⟨some 4, none, .box 29 34 (.tmp 1)⟩,
 ⟨some 5, none, .box 54 38 (.tmp 2)⟩,
 ⟨some 6, none, .mov (.const (.bool false))⟩])
 (.seq
 (.seq
 (.ops [⟨some 17, none, .call 14 []⟩,
 ⟨some 18, none, .un .not (.tmp 17)⟩])
 (.cond (.tmp 18)
 (.seq
 (.ops [⟨some 6, none, .mov (.const (.bool false))⟩])
 .ret)
 .skip))
 (.seq
 (.opsD [⟨some 19, none, .loadN 34 (.tmp 3)⟩,
 ⟨some 20, none, .call 11 [(.tmp 19)]⟩,
 ⟨some 21, none, .loadN 34 (.tmp 4)⟩,
 ⟨some 22, none, .call 11 [(.tmp 21)]⟩,
 ⟨some 7, none, .alloc 54 opZ⟩,
 ⟨some 8, none, .alloc 54 opZ⟩,
 ⟨none, none, .store 38 (.tmp 7) (.tmp 20)⟩,
 ⟨none, none, .store 38 (.tmp 8) (.tmp 22)⟩] [(2, 1), (2, 2)])
 (.seq
 (.ops [⟨some 24, none, .loadN 38 (.tmp 7)⟩,
 ⟨some 25, none, .call 23 [(.tmp 24)]⟩,
 ⟨some 23, none, .mov (.tmp 25)⟩,
 ⟨some 26, none, .ext (.tmp 23) 0⟩,
 ⟨some 27, none, .ext (.tmp 23) 1⟩,
 ⟨some 9, none, .alloc 23 [.int .i64 (0), .string ⟨⟨[]⟩⟩]⟩,
 ⟨none, none, .store 2 (.tmp 9) (.tmp 26)⟩,
 ⟨some 10, none, .mov (.tmp 27)⟩])
 (.seq
 (.ops [⟨some 29, none, .loadN 38 (.tmp 8)⟩,
 ⟨some 30, none, .call 23 [(.tmp 29)]⟩,
 ⟨some 28, none, .mov (.tmp 30)⟩,
 ⟨some 31, none, .ext (.tmp 28) 0⟩,
 ⟨some 32, none, .ext (.tmp 28) 1⟩,
 ⟨some 11, none, .alloc 23 [.int .i64 (0), .string ⟨⟨[]⟩⟩]⟩,
 ⟨none, none, .store 2 (.tmp 11) (.tmp 31)⟩,
 ⟨some 12, none, .mov (.tmp 32)⟩])
 (.seq
 (.ops [⟨some 34, none, .loadN 2 (.tmp 9)⟩,
 ⟨some 35, none, .call 12 [(.tmp 34)]⟩,
 ⟨some 33, none, .mov (.tmp 35)⟩,
 ⟨some 36, none, .ext (.tmp 33) 0⟩,
 ⟨some 37, none, .ext (.tmp 33) 1⟩,
 ⟨some 13, none, .alloc 54 opZ⟩,
 ⟨none, none, .store 38 (.tmp 13) (.tmp 36)⟩,
 ⟨some 14, none, .mov (.tmp 37)⟩])
 (.seq
 (.seq
 (.opsD [⟨some 38, none, .mov (.tmp 10)⟩,
 ⟨some 39, none, .bin .neq (.tmp 38) (.const (.int .i64 (0)))⟩,
 ⟨some 40, none, .mov (.tmp 39)⟩,
 ⟨some 41, some (40, false), .mov (.tmp 12)⟩,
 ⟨some 42, some (40, false), .bin .neq (.tmp 41) (.const (.int .i64 (0)))⟩,
 ⟨some 43, none, .pick (.tmp 40) (.const (.bool true)) (.tmp 42)⟩,
 ⟨some 44, none, .mov (.tmp 43)⟩,
 ⟨some 45, some (44, false), .mov (.tmp 14)⟩,
 ⟨some 46, some (44, false), .bin .neq (.tmp 45) (.const (.int .i64 (0)))⟩,
 ⟨some 47, none, .pick (.tmp 44) (.const (.bool true)) (.tmp 46)⟩,
 ⟨some 48, none, .mov (.tmp 47)⟩,
 ⟨some 49, some (48, false), .loadN 38 (.tmp 13)⟩,
 ⟨some 50, some (48, false), .loadN 38 (.tmp 7)⟩,
 ⟨some 51, some (48, false), .eqF true opL (.tmp 49) (.tmp 50)⟩,
 ⟨some 52, none, .pick (.tmp 48) (.const (.bool true)) (.tmp 51)⟩,
 ⟨some 53, none, .mov (.tmp 52)⟩,
 ⟨some 54, some (53, false), .loadN 38 (.tmp 7)⟩,
 ⟨some 55, some (53, false), .call 24 [(.tmp 54)]⟩,
 ⟨some 56, some (53, false), .un .not (.tmp 55)⟩,
 ⟨some 57, none, .pick (.tmp 53) (.const (.bool true)) (.tmp 56)⟩,
 ⟨some 58, none, .mov (.tmp 57)⟩,
 ⟨some 59, some (58, false), .loadN 2 (.tmp 9)⟩,
 ⟨some 60, some (58, false), .loadN 2 (.tmp 11)⟩,
 ⟨some 61, some (58, false), .eqF false [(0, .i), (1, .s)] (.tmp 59) (.tmp 60)⟩,
 ⟨some 62, some (58, false), .loadN 38 (.tmp 7)⟩,
 ⟨some 63, some (58, false), .loadN 38 (.tmp 8)⟩,
 ⟨some 64, some (58, false), .eqF false opL (.tmp 62) (.tmp 63)⟩,
 ⟨some 65, some (58, false), .eq true false .bool (.tmp 61) (.tmp 64)⟩,
 ⟨some 66, none, .pick (.tmp 58) (.const (.bool true)) (.tmp 65)⟩,
 ⟨some 67, none, .mov (.tmp 66)⟩,
 ⟨some 68, some (67, false), .faddr 0 (.tmp 9)⟩,
 ⟨some 69, some (67, false), .load1 (.tmp 68)⟩,
 ⟨some 70, some (67, false), .bin .neq (.tmp 69) (.const (.int .i64 (30)))⟩,
 ⟨some 71, none, .pick (.tmp 67) (.const (.bool true)) (.tmp 70)⟩,
 ⟨some 72, none, .mov (.tmp 71)⟩,
 ⟨some 73, some (72, false), .faddr 1 (.tmp 9)⟩,
 ⟨some 74, some (72, false), .load1 (.tmp 73)⟩,
 ⟨some 75, some (72, false), .lenS (.tmp 74)⟩,
 ⟨some 76, some (72, false), .bin .gtr (.tmp 75) (.const (.int .i64 (38)))⟩,
 ⟨some 77, none, .pick (.tmp 72) (.const (.bool true)) (.tmp 76)⟩] [])
 (.cond (.tmp 77)
 (.seq
 (.ops [⟨some 6, none, .mov (.const (.bool false))⟩])
 .ret)
 .skip))
 c6t)))))))⟩
theorem t6 : T 6 = some c6 := by kernel_rfl

def c7c : ACode :=
 (.seq
 (.ops [⟨some 18, none, .mov (.const (.int .i64 (0)))⟩])
 (.block 2
 (.loop
 (.seq
 (.seq
 (.ops [⟨some 114, none, .mov (.tmp 18)⟩,
 ⟨some 115, none, .mov (.tmp 11)⟩,
 ⟨some 116, none, .lenS (.tmp 115)⟩,
 ⟨some 117, none, .bin .lss (.tmp 114) (.tmp 116)⟩])
 (.cond (.tmp 117)
 .skip
 (.exit 2)))
 (.seq
 (.block 3
 (.seq
 (.opsD [⟨some 120, none, .faddr 1 (.tmp 14)⟩,
 ⟨some 121, none, .load1 (.tmp 120)⟩,
 ⟨some 122, none, .mov (.tmp 18)⟩,
 ⟨some 123, none, .idxS (.tmp 121) (.tmp 122)⟩,
 ⟨some 124, none, .mov (.tmp 11)⟩,
 ⟨some 125, none, .mov (.tmp 18)⟩,
 ⟨some 126, none, .idxS (.tmp 124) (.tmp 125)⟩,
 ⟨some 127, none, .bin .andNot (.tmp 123) (.tmp 126)⟩,
 ⟨some 128, none, .bin .neq (.tmp 127) (.const (.int .u8 (0)))⟩] [])
 (.cond (.tmp 128)
 (.seq
 (.ops [⟨some 6, none, .mov (.const (.bool false))⟩])
 .ret)
 .skip)))
 (.ops [⟨some 118, none, .mov (.tmp 18)⟩,
 ⟨some 119, none, .bin .add (.tmp 118) (.const (.int .i64 (1)))⟩,
 ⟨some 18, none, .mov (.tmp 119)⟩]))))))

def c7b : ACode :=
 (.seq
 (.ops [⟨some 61, none, .idx1 2 1 (.tmp 58) (.tmp 59)⟩,
 ⟨some 11, none, .mov (.tmp 61)⟩])
 (.seq
 (.ops [⟨some 63, none, .mov (.tmp 11)⟩,
 ⟨some 64, none, .build [.int .i64 (0), .string ⟨⟨[]⟩⟩] [(0, 1, (.const (.int .i64 (30)))), (1, 1, (.tmp 63))]⟩,
 ⟨some 65, none, .call 12 [(.tmp 64)]⟩,
 ⟨some 62, none, .mov (.tmp 65)⟩,
 ⟨some 66, none, .ext (.tmp 62) 0⟩,
 ⟨some 67, none, .ext (.tmp 62) 1⟩,
 ⟨some 12, none, .alloc 54 opZ⟩,
 ⟨none, none, .store 38 (.tmp 12) (.tmp 66)⟩,
 ⟨some 13, none, .mov (.tmp 67)⟩])
 (.seq
 (.seq
 (.ops [⟨some 68, none, .mov (.tmp 13)⟩,
 ⟨some 69, none, .bin .neq (.tmp 68) (.const (.int .i64 (0)))⟩])
 (.cond (.tmp 69)
 (.seq
 (.seq
 (.ops [⟨some 70, none, .loadN 38 (.tmp 12)⟩,
 ⟨some 71, none, .build opZ []⟩,
 ⟨some 72, none, .eqF true opL (.tmp 70) (.tmp 71)⟩,
 ⟨some 73, none, .mov (.tmp 72)⟩,
 ⟨some 74, some (73, false), .loadN 38 (.tmp 12)⟩,
 ⟨some 75, some (73, false), .call 24 [(.tmp 74)]⟩,
 ⟨some 76, some (73, false), .build opZ []⟩,
 ⟨some 77, some (73, false), .call 24 [(.tmp 76)]⟩,
 ⟨some 78, some (73, false), .eq true false .bool (.tmp 75) (.tmp 77)⟩,
 ⟨some 79, none, .pick (.tmp 73) (.const (.bool true)) (.tmp 78)⟩])
 (.cond (.tmp 79)
 (.seq
 (.ops [⟨some 6, none, .mov (.const (.bool false))⟩])
 .ret)
 .skip))
 (.exit 1))
 .skip))
 (.seq
 (.ops [⟨some 81, none, .loadN 38 (.tmp 12)⟩,
 ⟨some 82, none, .call 23 [(.tmp 81)]⟩,
 ⟨some 80, none, .mov (.tmp 82)⟩,
 ⟨some 83, none, .ext (.tmp 80) 0⟩,
 ⟨some 84, none, .ext (.tmp 80) 1⟩,
 ⟨some 14, none, .alloc 23 [.int .i64 (0), .string ⟨⟨[]⟩⟩]⟩,
 ⟨none, none, .store 2 (.tmp 14) (.tmp 83)⟩,
 ⟨some 15, none, .mov (.tmp 84)⟩])
 (.seq
 (.ops [⟨some 86, none, .loadN 2 (.tmp 14)⟩,
 ⟨some 87, none, .call 12 [(.tmp 86)]⟩,
 ⟨some 85, none, .mov (.tmp 87)⟩,
 ⟨some 88, none, .ext (.tmp 85) 0⟩,
 ⟨some 89, none, .ext (.tmp 85) 1⟩,
 ⟨some 16, none, .alloc 54 opZ⟩,
 ⟨none, none, .store 38 (.tmp 16) (.tmp 88)⟩,
 ⟨some 17, none, .mov (.tmp 89)⟩])
 (.seq
 (.seq
 (.ops [⟨some 90, none, .loadN 38 (.tmp 12)⟩,
 ⟨some 91, none, .call 24 [(.tmp 90)]⟩,
 ⟨some 92, none, .un .not (.tmp 91)⟩,
 ⟨some 93, none, .mov (.tmp 92)⟩,
 ⟨some 94, some (93, false), .mov (.tmp 15)⟩,
 ⟨some 95, some (93, false), .bin .neq (.tmp 94) (.const (.int .i64 (0)))⟩,
 ⟨some 96, none, .pick (.tmp 93) (.const (.bool true)) (.tmp 95)⟩,
 ⟨some 97, none, .mov (.tmp 96)⟩,
 ⟨some 98, some (97, false), .mov (.tmp 17)⟩,
 ⟨some 99, some (97, false), .bin .neq (.tmp 98) (.const (.int .i64 (0)))⟩,
 ⟨some 100, none, .pick (.tmp 97) (.const (.bool true)) (.tmp 99)⟩,
 ⟨some 101, none, .mov (.tmp 100)⟩,
 ⟨some 102, some (101, false), .loadN 38 (.tmp 16)⟩,
 ⟨some 103, some (101, false), .loadN 38 (.tmp 12)⟩,
 ⟨some 104, some (101, false), .eqF true opL (.tmp 102) (.tmp 103)⟩,
 ⟨some 105, none, .pick (.tmp 101) (.const (.bool true)) (.tmp 104)⟩,
 ⟨some 106, none, .mov (.tmp 105)⟩,
 ⟨some 107, some (106, false), .faddr 1 (.tmp 14)⟩,
 ⟨some 108, some (106, false), .load1 (.tmp 107)⟩,
 ⟨some 109, some (106, false), .lenS (.tmp 108)⟩,
 ⟨some 110, some (106, false), .mov (.tmp 11)⟩,
 ⟨some 111, some (106, false), .lenS (.tmp 110)⟩,
 ⟨some 112, some (106, false), .bin .neq (.tmp 109) (.tmp 111)⟩,
 ⟨some 113, none, .pick (.tmp 106) (.const (.bool true)) (.tmp 112)⟩])
 (.cond (.tmp 113)
 (.seq
 (.ops [⟨some 6, none, .mov (.const (.bool false))⟩])
 .ret)
 .skip))
 c7c))))))

/-- plait/plaitlaw14.OptCanon -/
def c7 : AFunc := ⟨130, 3, [.inl 6],
 (.seq
 (.ops [⟨some 4, none, .box 29 34 (.tmp 1)⟩,
 ⟨some 5, none, .box 30 2 (.tmp 2)⟩,
 ⟨some 6, none, .mov (.const (.bool false))⟩])
 (.seq
 (.seq
 (.ops [⟨some 19, none, .call 14 []⟩,
 ⟨some 20, none, .un .not (.tmp 19)⟩])
 (.cond (.tmp 20)
 (.seq
 (.ops [⟨some 6, none, .mov (.const (.bool false))⟩])
 .ret)
 .skip))
 (.seq
 (.ops [⟨some 22, none, .loadN 34 (.tmp 4)⟩,
 ⟨some 23, none, .call 11 [(.tmp 22)]⟩,
 ⟨some 24, none, .call 23 [(.tmp 23)]⟩,
 ⟨some 21, none, .mov (.tmp 24)⟩,
 ⟨some 25, none, .ext (.tmp 21) 0⟩,
 ⟨some 26, none, .ext (.tmp 21) 1⟩,
 ⟨some 7, none, .alloc 23 [.int .i64 (0), .string ⟨⟨[]⟩⟩]⟩,
 ⟨none, none, .store 2 (.tmp 7) (.tmp 25)⟩,
 ⟨some 8, none, .mov (.tmp 26)⟩])
 (.seq
 (.seq
 (.ops [⟨some 27, none, .mov (.tmp 8)⟩,
 ⟨some 28, none, .bin .neq (.tmp 27) (.const (.int .i64 (0)))⟩,
 ⟨some 29, none, .mov (.tmp 28)⟩,
 ⟨some 30, some (29, false), .faddr 1 (.tmp 7)⟩,
 ⟨some 31, some (29, false), .load1 (.tmp 30)⟩,
 ⟨some 32, some (29, false), .lenS (.tmp 31)⟩,
 ⟨some 33, some (29, false), .bin .eql (.tmp 32) (.const (.int .i64 (0)))⟩,
 ⟨some 34, none, .pick (.tmp 29) (.const (.bool true)) (.tmp 33)⟩])
 (.cond (.tmp 34)
 (.seq
 (.ops [⟨some 6, none, .mov (.const (.bool false))⟩])
 .ret)
 .skip))
 (.seq
 (.ops [⟨some 35, none, .faddr 1 (.tmp 7)⟩,
 ⟨some 36, none, .load1 (.tmp 35)⟩,
 ⟨some 37, none, .cvS2B 5 (.tmp 36)⟩,
 ⟨some 9, none, .mov (.tmp 37)⟩])
 (.seq
 (.opsD [⟨some 38, none, .mov (.tmp 9)⟩,
 ⟨some 39, none, .iaddrA 2 1 (.tmp 5) (.const (.int .i64 (0)))⟩,
 ⟨some 40, none, .load1 (.tmp 39)⟩,
 ⟨some 41, none, .cvInt .i64 (.tmp 40)⟩,
 ⟨some 42, none, .mov (.tmp 9)⟩,
 ⟨some 43, none, .lenV (.tmp 42)⟩,
 ⟨some 44, none, .bin .rem (.tmp 41) (.tmp 43)⟩,
 ⟨some 45, none, .iaddrS 1 (.tmp 38) (.tmp 44)⟩,
 ⟨some 46, none, .load1 (.tmp 45)⟩,
 ⟨some 47, none, .iaddrA 2 1 (.tmp 5) (.const (.int .i64 (1)))⟩,
 ⟨some 48, none, .load1 (.tmp 47)⟩,
 ⟨some 49, none, .bin .xor (.tmp 46) (.tmp 48)⟩,
 ⟨some 50, none, .iaddrS 1 (.tmp 38) (.tmp 44)⟩,
 ⟨none, none, .store 1 (.tmp 50) (.tmp 49)⟩] [])
 (.seq
 (.seq
 (.opsD [⟨some 51, none, .mov (.tmp 0)⟩,
 ⟨some 52, none, .mov (.tmp 0)⟩,
 ⟨some 53, none, .lenS (.tmp 52)⟩,
 ⟨some 54, none, .min [(.tmp 53), (.const (.int .i64 (60)))]⟩,
 ⟨some 55, none, .sliceS (.tmp 51) none (some (.tmp 54))⟩,
 ⟨some 56, none, .mov (.tmp 9)⟩,
 ⟨some 57, none, .cvB2S (.tmp 56)⟩,
 ⟨some 58, none, .build [.string ⟨⟨[]⟩⟩, .string ⟨⟨[]⟩⟩] [(0, 1, (.tmp 55)), (1, 1, (.tmp 57))]⟩,
 ⟨some 59, none, .mov (.const (.int .i64 (0)))⟩] [])
 (.block 0
 (.loop
 (.seq
 (.ops [⟨some 60, none, .bin .lss (.tmp 59) (.const (.int .i64 (2)))⟩])
 (.seq
 (.cond (.tmp 60)
 .skip
 (.exit 0))
 (.seq
 (.block 1
 c7b)
 (.ops [⟨some 129, none, .bin .add (.tmp 59) (.const (.int .i64 (1)))⟩,
 ⟨some 59, none, .mov (.tmp 129)⟩])))))))
 (.seq
 (.ops [⟨some 6, none, .mov (.const (.bool true))⟩])
 .ret))))))))⟩
theorem t7 : T 7 = some c7 := by kernel_rfl

end Go.Proofs.YtigknpfjhegkgaaGreatDoor

