/- The code of functions, as the framework reads it. -/
import Derived.Test.YtigknpfjhegkgaaGreatDoorZo
import Derived.KernelRfl
namespace Go.Proofs.YtigknpfjhegkgaaGreatDoor
open Go Go.AS
set_option maxRecDepth 100000

def c9z : ACode :=
 (.seq
 (.ops [⟨some 185, none, .mov (.tmp 14)⟩,
 ⟨some 186, none, .bin .eql (.tmp 185) (.const (.int .i64 (0)))⟩,
 ⟨some 187, none, .mov (.tmp 186)⟩,
 ⟨some 188, some (187, true), .mov (.tmp 13)⟩,
 ⟨some 189, some (187, true), .lenS (.tmp 188)⟩,
 ⟨some 190, some (187, true), .bin .eql (.tmp 189) (.const (.int .i64 (40)))⟩,
 ⟨some 191, none, .pick (.tmp 187) (.tmp 190) (.const (.bool false))⟩,
 ⟨some 192, none, .mov (.tmp 191)⟩,
 ⟨some 193, some (192, true), .mov (.tmp 16)⟩,
 ⟨some 194, some (192, true), .bin .eql (.tmp 193) (.const (.int .i64 (6)))⟩,
 ⟨some 195, none, .pick (.tmp 192) (.tmp 194) (.const (.bool false))⟩,
 ⟨some 196, none, .mov (.tmp 195)⟩,
 ⟨some 197, some (196, true), .mov (.tmp 17)⟩,
 ⟨some 198, some (196, true), .bin .eql (.tmp 197) (.const (.string ⟨⟨[]⟩⟩))⟩,
 ⟨some 199, none, .pick (.tmp 196) (.tmp 198) (.const (.bool false))⟩,
 ⟨some 200, none, .mov (.tmp 199)⟩,
 ⟨some 201, some (200, true), .mov (.tmp 18)⟩,
 ⟨some 202, some (200, true), .bin .eql (.tmp 201) (.const (.int .i64 (0)))⟩,
 ⟨some 203, none, .pick (.tmp 200) (.tmp 202) (.const (.bool false))⟩,
 ⟨some 27, none, .mov (.tmp 203)⟩])
 (.seq
 (.ops [⟨some 204, none, .mov (.const (.bool true))⟩,
 ⟨some 205, some (204, true), .call 14 []⟩,
 ⟨some 206, none, .pick (.tmp 204) (.tmp 205) (.const (.bool false))⟩,
 ⟨some 207, none, .mov (.tmp 206)⟩,
 ⟨some 208, some (207, true), .mov (.tmp 27)⟩,
 ⟨some 209, none, .pick (.tmp 207) (.tmp 208) (.const (.bool false))⟩,
 ⟨some 210, none, .mov (.tmp 209)⟩,
 ⟨some 211, some (210, true), .mov (.tmp 19)⟩,
 ⟨some 212, some (210, true), .lenV (.tmp 211)⟩,
 ⟨some 213, some (210, true), .bin .eql (.tmp 212) (.const (.int .i64 (0)))⟩,
 ⟨some 214, none, .pick (.tmp 210) (.tmp 213) (.const (.bool false))⟩,
 ⟨some 215, none, .mov (.tmp 214)⟩,
 ⟨some 216, some (215, true), .mov (.tmp 20)⟩,
 ⟨some 217, some (215, true), .bin .eql (.tmp 216) (.const (.int .i64 (0)))⟩,
 ⟨some 218, none, .pick (.tmp 215) (.tmp 217) (.const (.bool false))⟩,
 ⟨some 219, none, .mov (.tmp 218)⟩,
 ⟨some 220, some (219, true), .mov (.tmp 22)⟩,
 ⟨some 221, some (219, true), .bin .eql (.tmp 220) (.const (.int .i64 (6)))⟩,
 ⟨some 222, none, .pick (.tmp 219) (.tmp 221) (.const (.bool false))⟩,
 ⟨some 223, none, .mov (.tmp 222)⟩,
 ⟨some 224, some (223, true), .mov (.tmp 24)⟩,
 ⟨some 225, some (223, true), .bin .eql (.tmp 224) (.const (.int .i64 (4)))⟩,
 ⟨some 226, none, .pick (.tmp 223) (.tmp 225) (.const (.bool false))⟩,
 ⟨some 227, none, .mov (.tmp 226)⟩,
 ⟨some 228, some (227, true), .mov (.tmp 26)⟩,
 ⟨some 229, some (227, true), .bin .eql (.tmp 228) (.const (.int .i64 (5)))⟩,
 ⟨some 230, none, .pick (.tmp 227) (.tmp 229) (.const (.bool false))⟩,
 ⟨some 0, none, .mov (.tmp 230)⟩])
 .ret))

def c9q : ACode :=
 (.seq
 (.ops [⟨some 151, none, .mov (.tmp 1)⟩,
 ⟨some 152, none, .build [.string ⟨⟨[]⟩⟩] [(0, 1, (.tmp 151))]⟩,
 ⟨some 153, none, .build opZ [(0, 1, (.const (.int .i64 (4)))), (32, 1, (.tmp 152))]⟩,
 ⟨some 154, none, .bslice 54 1 opZ [(0, 38, (.tmp 153))]⟩,
 ⟨some 155, none, .call 16 [(.tmp 154)]⟩,
 ⟨some 150, none, .mov (.tmp 155)⟩,
 ⟨some 156, none, .ext (.tmp 150) 0⟩,
 ⟨some 157, none, .ext (.tmp 150) 1⟩,
 ⟨some 13, none, .mov (.tmp 156)⟩,
 ⟨some 14, none, .mov (.tmp 157)⟩])
 (.seq
 (.ops [⟨some 159, none, .mov (.tmp 2)⟩,
 ⟨some 160, none, .call 16 [(.tmp 159)]⟩,
 ⟨some 158, none, .mov (.tmp 160)⟩,
 ⟨some 161, none, .ext (.tmp 158) 0⟩,
 ⟨some 162, none, .ext (.tmp 158) 1⟩,
 ⟨some 15, none, .mov (.tmp 161)⟩,
 ⟨some 16, none, .mov (.tmp 162)⟩])
 (.seq
 (.ops [⟨some 164, none, .call 16 [(.const (.slice none 0 0))]⟩,
 ⟨some 163, none, .mov (.tmp 164)⟩,
 ⟨some 165, none, .ext (.tmp 163) 0⟩,
 ⟨some 166, none, .ext (.tmp 163) 1⟩,
 ⟨some 17, none, .mov (.tmp 165)⟩,
 ⟨some 18, none, .mov (.tmp 166)⟩])
 (.seq
 (.ops [⟨some 168, none, .call 19 [(.const (.string ⟨⟨[]⟩⟩))]⟩,
 ⟨some 167, none, .mov (.tmp 168)⟩,
 ⟨some 169, none, .ext (.tmp 167) 0⟩,
 ⟨some 170, none, .ext (.tmp 167) 1⟩,
 ⟨some 19, none, .mov (.tmp 169)⟩,
 ⟨some 20, none, .mov (.tmp 170)⟩])
 (.seq
 (.ops [⟨some 172, none, .mov (.tmp 13)⟩,
 ⟨some 173, none, .bin .add (.tmp 172) (.const (.string ⟨⟨[0, 0, 0, 0]⟩⟩))⟩,
 ⟨some 174, none, .call 19 [(.tmp 173)]⟩,
 ⟨some 171, none, .mov (.tmp 174)⟩,
 ⟨some 175, none, .ext (.tmp 171) 0⟩,
 ⟨some 176, none, .ext (.tmp 171) 1⟩,
 ⟨some 21, none, .mov (.tmp 175)⟩,
 ⟨some 22, none, .mov (.tmp 176)⟩])
 (.seq
 (.ops [⟨some 178, none, .call 19 [(.const (.string ⟨⟨[30, 2, 0, 0]⟩⟩))]⟩,
 ⟨some 177, none, .mov (.tmp 178)⟩,
 ⟨some 179, none, .ext (.tmp 177) 0⟩,
 ⟨some 180, none, .ext (.tmp 177) 1⟩,
 ⟨some 23, none, .mov (.tmp 179)⟩,
 ⟨some 24, none, .mov (.tmp 180)⟩])
 (.seq
 (.ops [⟨some 182, none, .call 19 [(.const (.string ⟨⟨[30, 4, 80, 0, 30, 2, 0, 0]⟩⟩))]⟩,
 ⟨some 181, none, .mov (.tmp 182)⟩,
 ⟨some 183, none, .ext (.tmp 181) 0⟩,
 ⟨some 184, none, .ext (.tmp 181) 1⟩,
 ⟨some 25, none, .mov (.tmp 183)⟩,
 ⟨some 26, none, .mov (.tmp 184)⟩])
 c9z)))))))

def c9m : ACode :=
 (.seq
 (.ops [⟨some 8, none, .mov (.const (.int .i64 (0)))⟩])
 (.block 2
 (.loop
 (.seq
 (.seq
 (.ops [⟨some 111, none, .mov (.tmp 8)⟩,
 ⟨some 112, none, .mov (.tmp 7)⟩,
 ⟨some 113, none, .lenV (.tmp 112)⟩,
 ⟨some 114, none, .bin .lss (.tmp 111) (.tmp 113)⟩])
 (.cond (.tmp 114)
 .skip
 (.exit 2)))
 (.seq
 (.block 3
 (.seq
 (.ops [⟨some 118, none, .mov (.tmp 7)⟩,
 ⟨some 119, none, .mov (.tmp 8)⟩,
 ⟨some 120, none, .iaddrS 38 (.tmp 118) (.tmp 119)⟩,
 ⟨some 121, none, .loadN 38 (.tmp 120)⟩,
 ⟨some 122, none, .call 23 [(.tmp 121)]⟩,
 ⟨some 117, none, .mov (.tmp 122)⟩,
 ⟨some 123, none, .ext (.tmp 117) 0⟩,
 ⟨some 124, none, .ext (.tmp 117) 1⟩,
 ⟨some 9, none, .alloc 23 [.int .i64 (0), .string ⟨⟨[]⟩⟩]⟩,
 ⟨none, none, .store 2 (.tmp 9) (.tmp 123)⟩,
 ⟨some 10, none, .mov (.tmp 124)⟩])
 (.seq
 (.opsD [⟨some 126, none, .mov (.tmp 2)⟩,
 ⟨some 127, none, .iaddrS 38 (.tmp 126) (.const (.int .i64 (0)))⟩,
 ⟨some 128, none, .loadN 38 (.tmp 127)⟩,
 ⟨some 129, none, .mov (.tmp 7)⟩,
 ⟨some 130, none, .mov (.tmp 8)⟩,
 ⟨some 131, none, .iaddrS 38 (.tmp 129) (.tmp 130)⟩,
 ⟨some 132, none, .loadN 38 (.tmp 131)⟩,
 ⟨some 133, none, .bslice 54 2 opZ [(0, 38, (.tmp 128)), (38, 38, (.tmp 132))]⟩,
 ⟨some 134, none, .call 16 [(.tmp 133)]⟩,
 ⟨some 125, none, .mov (.tmp 134)⟩,
 ⟨some 135, none, .ext (.tmp 125) 0⟩,
 ⟨some 136, none, .ext (.tmp 125) 1⟩,
 ⟨some 11, none, .mov (.tmp 135)⟩,
 ⟨some 12, none, .mov (.tmp 136)⟩] [])
 (.seq
 (.ops [⟨some 137, none, .mov (.tmp 7)⟩,
 ⟨some 138, none, .mov (.tmp 8)⟩,
 ⟨some 139, none, .iaddrS 38 (.tmp 137) (.tmp 138)⟩,
 ⟨some 140, none, .loadN 38 (.tmp 139)⟩,
 ⟨some 141, none, .call 24 [(.tmp 140)]⟩,
 ⟨some 142, none, .mov (.tmp 141)⟩,
 ⟨some 143, some (142, false), .mov (.tmp 10)⟩,
 ⟨some 144, some (142, false), .bin .neq (.tmp 143) (.const (.int .i64 (2)))⟩,
 ⟨some 145, none, .pick (.tmp 142) (.const (.bool true)) (.tmp 144)⟩,
 ⟨some 146, none, .mov (.tmp 145)⟩,
 ⟨some 147, some (146, false), .mov (.tmp 12)⟩,
 ⟨some 148, some (146, false), .bin .neq (.tmp 147) (.const (.int .i64 (2)))⟩,
 ⟨some 149, none, .pick (.tmp 146) (.const (.bool true)) (.tmp 148)⟩])
 (.cond (.tmp 149)
 (.seq
 (.ops [⟨some 0, none, .mov (.const (.bool false))⟩])
 .ret)
 .skip)))))
 (.ops [⟨some 115, none, .mov (.tmp 8)⟩,
 ⟨some 116, none, .bin .add (.tmp 115) (.const (.int .i64 (1)))⟩,
 ⟨some 8, none, .mov (.tmp 116)⟩]))))))

def c9p : ACode :=
 (.seq
 (.ops [⟨some 100, none, .build opZ [(0, 1, (.const (.int .i64 (9))))]⟩,
 ⟨some 101, none, .build opZ [(0, 1, (.const (.int .i64 (-1))))]⟩,
 ⟨some 102, none, .build opZ [(0, 1, (.const (.int .i64 (2))))]⟩,
 ⟨some 103, none, .build opZ [(0, 1, (.const (.int .i64 (3))))]⟩,
 ⟨some 104, none, .build opZ [(0, 1, (.const (.int .i64 (4))))]⟩,
 ⟨some 105, none, .build [.int .i64 (0), .int .i64 (0)] [(1, 1, (.const (.int .i64 (1))))]⟩,
 ⟨some 106, none, .build opZ [(0, 1, (.const (.int .i64 (5)))), (36, 2, (.tmp 105))]⟩,
 ⟨some 107, none, .call 28 [(.const (.int .i64 (16))), (.const (.int .i64 (0)))]⟩,
 ⟨some 108, none, .build [.int .u64 (0)] [(0, 1, (.const (.int .u64 (1))))]⟩,
 ⟨some 109, none, .build opZ [(0, 1, (.const (.int .i64 (7)))), (34, 1, (.tmp 108))]⟩,
 ⟨some 110, none, .bslice 54 8 opZ [(0, 38, (.tmp 100)), (38, 38, (.tmp 101)), (76, 38, (.tmp 102)), (114, 38, (.tmp 103)), (152, 38, (.tmp 104)), (190, 38, (.tmp 106)), (228, 38, (.tmp 107)), (266, 38, (.tmp 109))]⟩,
 ⟨some 7, none, .mov (.tmp 110)⟩])
 (.seq
 c9m
 c9q))

def c9l : ACode :=
 (.seq
 (.ops [⟨some 4, none, .mov (.const (.int .i64 (0)))⟩])
 (.block 0
 (.loop
 (.seq
 (.seq
 (.ops [⟨some 45, none, .mov (.tmp 4)⟩,
 ⟨some 46, none, .mov (.tmp 2)⟩,
 ⟨some 47, none, .lenV (.tmp 46)⟩,
 ⟨some 48, none, .bin .lss (.tmp 45) (.tmp 47)⟩])
 (.cond (.tmp 48)
 .skip
 (.exit 0)))
 (.seq
 (.block 1
 (.seq
 (.ops [⟨some 52, none, .mov (.tmp 2)⟩,
 ⟨some 53, none, .mov (.tmp 4)⟩,
 ⟨some 54, none, .iaddrS 38 (.tmp 52) (.tmp 53)⟩,
 ⟨some 55, none, .loadN 38 (.tmp 54)⟩,
 ⟨some 56, none, .call 23 [(.tmp 55)]⟩,
 ⟨some 51, none, .mov (.tmp 56)⟩,
 ⟨some 57, none, .ext (.tmp 51) 0⟩,
 ⟨some 58, none, .ext (.tmp 51) 1⟩,
 ⟨some 5, none, .alloc 23 [.int .i64 (0), .string ⟨⟨[]⟩⟩]⟩,
 ⟨none, none, .store 2 (.tmp 5) (.tmp 57)⟩,
 ⟨some 6, none, .mov (.tmp 58)⟩])
 (.seq
 (.opsD [⟨some 59, none, .mov (.tmp 6)⟩,
 ⟨some 60, none, .bin .neq (.tmp 59) (.const (.int .i64 (0)))⟩,
 ⟨some 61, none, .mov (.tmp 60)⟩,
 ⟨some 62, some (61, false), .faddr 1 (.tmp 5)⟩,
 ⟨some 63, some (61, false), .load1 (.tmp 62)⟩,
 ⟨some 64, some (61, false), .lenS (.tmp 63)⟩,
 ⟨some 65, some (61, false), .mov (.tmp 3)⟩,
 ⟨some 66, some (61, false), .mov (.tmp 4)⟩,
 ⟨some 67, some (61, false), .iaddrS 1 (.tmp 65) (.tmp 66)⟩,
 ⟨some 68, some (61, false), .load1 (.tmp 67)⟩,
 ⟨some 69, some (61, false), .bin .neq (.tmp 64) (.tmp 68)⟩,
 ⟨some 70, none, .pick (.tmp 61) (.const (.bool true)) (.tmp 69)⟩,
 ⟨some 71, none, .mov (.tmp 70)⟩,
 ⟨some 72, some (71, false), .faddr 1 (.tmp 5)⟩,
 ⟨some 73, some (71, false), .load1 (.tmp 72)⟩,
 ⟨some 74, some (71, false), .idxS (.tmp 73) (.const (.int .i64 (0)))⟩,
 ⟨some 75, some (71, false), .mov (.tmp 4)⟩,
 ⟨some 76, some (71, false), .bin .mul (.tmp 75) (.const (.int .i64 (16)))⟩,
 ⟨some 77, some (71, false), .cvInt .u8 (.tmp 76)⟩,
 ⟨some 78, some (71, false), .mov (.tmp 2)⟩,
 ⟨some 79, some (71, false), .mov (.tmp 4)⟩,
 ⟨some 80, some (71, false), .iaddrS 38 (.tmp 78) (.tmp 79)⟩,
 ⟨some 81, some (71, false), .faddr 1 (.tmp 80)⟩,
 ⟨some 82, some (71, false), .faddr 1 (.tmp 81)⟩,
 ⟨some 83, some (71, false), .load1 (.tmp 82)⟩,
 ⟨some 84, some (71, false), .cvInt .u8 (.tmp 83)⟩,
 ⟨some 85, some (71, false), .bin .add (.tmp 77) (.tmp 84)⟩,
 ⟨some 86, some (71, false), .bin .neq (.tmp 74) (.tmp 85)⟩,
 ⟨some 87, some (71, false), .mov (.tmp 86)⟩,
 ⟨some 88, some (87, true), .mov (.tmp 4)⟩,
 ⟨some 89, some (87, true), .bin .neq (.tmp 88) (.const (.int .i64 (3)))⟩,
 ⟨some 90, some (71, false), .pick (.tmp 87) (.tmp 89) (.const (.bool false))⟩,
 ⟨some 91, none, .pick (.tmp 71) (.const (.bool true)) (.tmp 90)⟩,
 ⟨some 92, none, .mov (.tmp 91)⟩,
 ⟨some 93, some (92, false), .mov (.tmp 2)⟩,
 ⟨some 94, some (92, false), .mov (.tmp 4)⟩,
 ⟨some 95, some (92, false), .iaddrS 38 (.tmp 93) (.tmp 94)⟩,
 ⟨some 96, some (92, false), .loadN 38 (.tmp 95)⟩,
 ⟨some 97, some (92, false), .call 24 [(.tmp 96)]⟩,
 ⟨some 98, some (92, false), .un .not (.tmp 97)⟩,
 ⟨some 99, none, .pick (.tmp 92) (.const (.bool true)) (.tmp 98)⟩] [])
 (.cond (.tmp 99)
 (.seq
 (.ops [⟨some 0, none, .mov (.const (.bool false))⟩])
 .ret)
 .skip))))
 (.ops [⟨some 49, none, .mov (.tmp 4)⟩,
 ⟨some 50, none, .bin .add (.tmp 49) (.const (.int .i64 (1)))⟩,
 ⟨some 4, none, .mov (.tmp 50)⟩]))))))

/-- plait/plaitlaw14.OptKnown -/
def c9 : AFunc := ⟨231, 0, [.inl 0],
 (.seq
 (.ops [⟨some 0, none, .mov (.const (.bool false))⟩])
 (.seq
 (.ops [⟨some 28, none, .mkS 5 1 1 [.int .u8 (0)] (.const (.int .i64 (37))) (.const (.int .i64 (37)))⟩,
 ⟨some 29, none, .cvB2S (.tmp 28)⟩,
 ⟨some 1, none, .mov (.tmp 29)⟩])
 (.seq
 (.ops [⟨some 30, none, .build [.int .i64 (0), .int .i64 (0), .bool false, .bool false, .int .u64 (0), .int .u64 (0), .int .i64 (0), .int .u16 (0)] [(1, 1, (.const (.int .i64 (1))))]⟩,
 ⟨some 31, none, .build opZ [(1, 8, (.tmp 30))]⟩,
 ⟨some 32, none, .build opZ [(0, 1, (.const (.int .i64 (1))))]⟩,
 ⟨some 33, none, .build [.bool false, .bool false, .bool false, .int .u64 (0), .bool false, .bool false, .int .u64 (0), .int .u32 (0), .int .i64 (0), .bool false, .int .u16 (0)] [(1, 1, (.const (.bool true)))]⟩,
 ⟨some 34, none, .build opZ [(0, 1, (.const (.int .i64 (2)))), (15, 11, (.tmp 33))]⟩,
 ⟨some 35, none, .build [.bool false, .int .i64 (0), .string ⟨⟨[]⟩⟩, .bool false, .int .i64 (0), .string ⟨⟨[]⟩⟩] [(0, 1, (.const (.bool true))), (2, 1, (.const (.string ⟨⟨[97, 98, 99, 100]⟩⟩)))]⟩,
 ⟨some 36, none, .build opZ [(0, 1, (.const (.int .i64 (3)))), (26, 6, (.tmp 35))]⟩,
 ⟨some 37, none, .build [.string ⟨⟨[]⟩⟩] [(0, 1, (.const (.string ⟨⟨[97]⟩⟩)))]⟩,
 ⟨some 38, none, .build opZ [(0, 1, (.const (.int .i64 (4)))), (32, 1, (.tmp 37))]⟩,
 ⟨some 39, none, .call 27 [(.const (.bool false))]⟩,
 ⟨some 40, none, .build opZ [(0, 1, (.const (.int .i64 (6))))]⟩,
 ⟨some 41, none, .build opZ [(0, 1, (.const (.int .i64 (7))))]⟩,
 ⟨some 42, none, .call 28 [(.const (.int .i64 (0))), (.const (.int .i64 (0)))]⟩,
 ⟨some 43, none, .bslice 54 9 opZ [(0, 38, (.tmp 31)), (38, 38, (.tmp 32)), (76, 38, (.tmp 34)), (114, 38, (.tmp 36)), (152, 38, (.tmp 38)), (190, 38, (.tmp 39)), (228, 38, (.tmp 40)), (266, 38, (.tmp 41)), (304, 38, (.tmp 42))]⟩,
 ⟨some 2, none, .mov (.tmp 43)⟩])
 (.seq
 (.ops [⟨some 44, none, .bslice 3 9 [.int .i64 (0)] [(0, 1, (.const (.int .i64 (2)))), (1, 1, (.const (.int .i64 (10)))), (2, 1, (.const (.int .i64 (6)))), (3, 1, (.const (.int .i64 (6)))), (4, 1, (.const (.int .i64 (2)))), (5, 1, (.const (.int .i64 (1)))), (6, 1, (.const (.int .i64 (10)))), (7, 1, (.const (.int .i64 (10)))), (8, 1, (.const (.int .i64 (2))))]⟩,
 ⟨some 3, none, .mov (.tmp 44)⟩])
 (.seq
 c9l
 c9p)))))⟩
theorem t9 : T 9 = some c9 := by kernel_rfl

/-- plait/plaitlaw14.prio -/
def c27 : AFunc := ⟨6, 1, [.inr (2, 38, true)],
 (.seq
 (.ops [⟨some 2, none, .alloc 54 opZ⟩])
 (.seq
 (.ops [⟨some 3, none, .mov (.tmp 0)⟩,
 ⟨some 4, none, .build [.bool false] [(0, 1, (.tmp 3))]⟩,
 ⟨some 5, none, .build opZ [(0, 1, (.const (.int .i64 (5)))), (33, 1, (.tmp 4))]⟩,
 ⟨none, none, .store 38 (.tmp 2) (.tmp 5)⟩])
 .ret))⟩
theorem t27 : T 27 = some c27 := by kernel_rfl

/-- plait/plaitlaw14.rst -/
def c28 : AFunc := ⟨9, 2, [.inr (4, 38, true)],
 (.seq
 (.ops [⟨some 4, none, .alloc 54 opZ⟩])
 (.seq
 (.ops [⟨some 5, none, .mov (.tmp 0)⟩,
 ⟨some 6, none, .mov (.tmp 1)⟩,
 ⟨some 7, none, .build [.int .i64 (0), .int .i64 (0)] [(0, 1, (.tmp 5)), (1, 1, (.tmp 6))]⟩,
 ⟨some 8, none, .build opZ [(0, 1, (.const (.int .i64 (8)))), (36, 2, (.tmp 7))]⟩,
 ⟨none, none, .store 38 (.tmp 4) (.tmp 8)⟩])
 .ret))⟩
theorem t28 : T 28 = some c28 := by kernel_rfl

end Go.Proofs.YtigknpfjhegkgaaGreatDoor

