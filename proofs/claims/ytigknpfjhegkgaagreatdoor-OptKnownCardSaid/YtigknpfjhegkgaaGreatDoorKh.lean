/- The code of functions, as the framework reads it. -/
import Derived.Test.YtigknpfjhegkgaaGreatDoorZo
import Derived.KernelRfl
namespace Go.Proofs.YtigknpfjhegkgaaGreatDoor
open Go Go.AS
set_option maxRecDepth 100000

def c8e : ACode :=
 (.seq
 (.ops [⟨some 123, none, .mov (.tmp 18)⟩,
 ⟨some 124, none, .call 19 [(.tmp 123)]⟩,
 ⟨some 122, none, .mov (.tmp 124)⟩,
 ⟨some 125, none, .ext (.tmp 122) 0⟩,
 ⟨some 126, none, .ext (.tmp 122) 1⟩,
 ⟨some 20, none, .mov (.tmp 125)⟩,
 ⟨some 21, none, .mov (.tmp 126)⟩])
 (.seq
 (.ops [⟨some 128, none, .mov (.tmp 10)⟩,
 ⟨some 129, none, .call 16 [(.tmp 128)]⟩,
 ⟨some 127, none, .mov (.tmp 129)⟩,
 ⟨some 130, none, .ext (.tmp 127) 0⟩,
 ⟨some 131, none, .ext (.tmp 127) 1⟩,
 ⟨some 22, none, .mov (.tmp 130)⟩,
 ⟨some 23, none, .mov (.tmp 131)⟩])
 (.seq
 (.ops [⟨some 133, none, .mov (.tmp 22)⟩,
 ⟨some 134, none, .call 19 [(.tmp 133)]⟩,
 ⟨some 132, none, .mov (.tmp 134)⟩,
 ⟨some 135, none, .ext (.tmp 132) 0⟩,
 ⟨some 136, none, .ext (.tmp 132) 1⟩,
 ⟨some 24, none, .mov (.tmp 135)⟩,
 ⟨some 25, none, .mov (.tmp 136)⟩])
 (.seq
 (.ops [⟨some 137, none, .mov (.tmp 19)⟩,
 ⟨some 138, none, .bin .eql (.tmp 137) (.const (.int .i64 (0)))⟩,
 ⟨some 139, none, .mov (.tmp 138)⟩,
 ⟨some 140, some (139, true), .mov (.tmp 21)⟩,
 ⟨some 141, some (139, true), .bin .eql (.tmp 140) (.const (.int .i64 (0)))⟩,
 ⟨some 142, none, .pick (.tmp 139) (.tmp 141) (.const (.bool false))⟩,
 ⟨some 143, none, .mov (.tmp 142)⟩,
 ⟨some 144, some (143, true), .mov (.tmp 23)⟩,
 ⟨some 145, some (143, true), .bin .eql (.tmp 144) (.const (.int .i64 (0)))⟩,
 ⟨some 146, none, .pick (.tmp 143) (.tmp 145) (.const (.bool false))⟩,
 ⟨some 147, none, .mov (.tmp 146)⟩,
 ⟨some 148, some (147, true), .mov (.tmp 25)⟩,
 ⟨some 149, some (147, true), .bin .eql (.tmp 148) (.const (.int .i64 (0)))⟩,
 ⟨some 150, none, .pick (.tmp 147) (.tmp 149) (.const (.bool false))⟩,
 ⟨some 151, none, .mov (.tmp 150)⟩,
 ⟨some 152, some (151, true), .mov (.tmp 20)⟩,
 ⟨some 153, some (151, true), .mov (.tmp 10)⟩,
 ⟨some 154, some (151, true), .call 21 [(.tmp 152), (.tmp 153)]⟩,
 ⟨some 155, none, .pick (.tmp 151) (.tmp 154) (.const (.bool false))⟩,
 ⟨some 156, none, .mov (.tmp 155)⟩,
 ⟨some 157, some (156, true), .mov (.tmp 24)⟩,
 ⟨some 158, some (156, true), .mov (.tmp 10)⟩,
 ⟨some 159, some (156, true), .call 21 [(.tmp 157), (.tmp 158)]⟩,
 ⟨some 160, none, .pick (.tmp 156) (.tmp 159) (.const (.bool false))⟩,
 ⟨some 161, none, .mov (.tmp 160)⟩,
 ⟨some 162, some (161, true), .mov (.tmp 22)⟩,
 ⟨some 163, some (161, true), .lenS (.tmp 162)⟩,
 ⟨some 164, some (161, true), .mov (.tmp 18)⟩,
 ⟨some 165, some (161, true), .lenS (.tmp 164)⟩,
 ⟨some 166, some (161, true), .bin .leq (.tmp 163) (.tmp 165)⟩,
 ⟨some 167, none, .pick (.tmp 161) (.tmp 166) (.const (.bool false))⟩,
 ⟨some 8, none, .mov (.tmp 167)⟩])
 .ret))))

def c8p : ACode :=
 (.seq
 (.ops [⟨some 100, none, .mov (.tmp 3)⟩,
 ⟨some 101, none, .cvInt .i64 (.tmp 100)⟩,
 ⟨some 102, none, .mov (.tmp 11)⟩,
 ⟨some 103, none, .lenV (.tmp 102)⟩,
 ⟨some 104, none, .bin .add (.tmp 103) (.const (.int .i64 (1)))⟩,
 ⟨some 105, none, .bin .rem (.tmp 101) (.tmp 104)⟩,
 ⟨some 16, none, .mov (.tmp 105)⟩])
 (.seq
 (.opsD [⟨some 106, none, .bslice 23 0 [] []⟩,
 ⟨some 107, none, .mov (.tmp 11)⟩,
 ⟨some 108, none, .mov (.tmp 16)⟩,
 ⟨some 109, none, .sliceV 2 (.tmp 107) none (some (.tmp 108)) none⟩,
 ⟨some 110, none, .append 23 2 24 (.tmp 106) (.tmp 109)⟩,
 ⟨some 111, none, .mov (.tmp 9)⟩,
 ⟨some 112, none, .append 23 2 24 (.tmp 110) (.tmp 111)⟩,
 ⟨some 113, none, .mov (.tmp 11)⟩,
 ⟨some 114, none, .mov (.tmp 16)⟩,
 ⟨some 115, none, .sliceV 2 (.tmp 113) (some (.tmp 114)) none none⟩,
 ⟨some 116, none, .append 23 2 24 (.tmp 112) (.tmp 115)⟩,
 ⟨some 17, none, .mov (.tmp 116)⟩] [(9, 4), (9, 5), (9, 6), (9, 7)])
 (.seq
 (.ops [⟨some 118, none, .mov (.tmp 17)⟩,
 ⟨some 119, none, .call 26 [(.tmp 118)]⟩,
 ⟨some 117, none, .mov (.tmp 119)⟩,
 ⟨some 120, none, .ext (.tmp 117) 0⟩,
 ⟨some 121, none, .ext (.tmp 117) 1⟩,
 ⟨some 18, none, .mov (.tmp 120)⟩,
 ⟨some 19, none, .mov (.tmp 121)⟩])
 c8e)))

def c8l : ACode :=
 (.seq
 (.ops [⟨some 13, none, .mov (.const (.int .i64 (0)))⟩])
 (.block 0
 (.loop
 (.seq
 (.seq
 (.ops [⟨some 59, none, .mov (.tmp 13)⟩,
 ⟨some 60, none, .mov (.tmp 0)⟩,
 ⟨some 61, none, .lenV (.tmp 60)⟩,
 ⟨some 62, none, .bin .lss (.tmp 59) (.tmp 61)⟩,
 ⟨some 63, none, .mov (.tmp 62)⟩,
 ⟨some 64, some (63, true), .mov (.tmp 13)⟩,
 ⟨some 65, some (63, true), .bin .lss (.tmp 64) (.const (.int .i64 (8)))⟩,
 ⟨some 66, none, .pick (.tmp 63) (.tmp 65) (.const (.bool false))⟩])
 (.cond (.tmp 66)
 .skip
 (.exit 0)))
 (.seq
 (.block 1
 (.seq
 (.ops [⟨some 70, none, .mov (.tmp 0)⟩,
 ⟨some 71, none, .mov (.tmp 13)⟩,
 ⟨some 72, none, .iaddrS 34 (.tmp 70) (.tmp 71)⟩,
 ⟨some 73, none, .loadN 34 (.tmp 72)⟩,
 ⟨some 74, none, .call 11 [(.tmp 73)]⟩,
 ⟨some 75, none, .call 23 [(.tmp 74)]⟩,
 ⟨some 69, none, .mov (.tmp 75)⟩,
 ⟨some 76, none, .ext (.tmp 69) 0⟩,
 ⟨some 77, none, .ext (.tmp 69) 1⟩,
 ⟨some 14, none, .alloc 23 [.int .i64 (0), .string ⟨⟨[]⟩⟩]⟩,
 ⟨none, none, .store 2 (.tmp 14) (.tmp 76)⟩,
 ⟨some 15, none, .mov (.tmp 77)⟩])
 (.seq
 (.seq
 (.ops [⟨some 78, none, .mov (.tmp 15)⟩,
 ⟨some 79, none, .bin .neq (.tmp 78) (.const (.int .i64 (0)))⟩])
 (.cond (.tmp 79)
 (.seq
 (.ops [⟨some 8, none, .mov (.const (.bool false))⟩])
 .ret)
 .skip))
 (.seq
 (.ops [⟨some 80, none, .mov (.tmp 12)⟩,
 ⟨some 81, none, .bin .add (.tmp 80) (.const (.int .i64 (2)))⟩,
 ⟨some 82, none, .faddr 1 (.tmp 14)⟩,
 ⟨some 83, none, .load1 (.tmp 82)⟩,
 ⟨some 84, none, .lenS (.tmp 83)⟩,
 ⟨some 85, none, .bin .add (.tmp 81) (.tmp 84)⟩,
 ⟨some 12, none, .mov (.tmp 85)⟩])
 (.seq
 (.seq
 (.ops [⟨some 86, none, .mov (.tmp 12)⟩,
 ⟨some 87, none, .bin .gtr (.tmp 86) (.const (.int .i64 (40)))⟩])
 (.cond (.tmp 87)
 (.exit 0)
 .skip))
 (.seq
 (.ops [⟨some 88, none, .mov (.tmp 10)⟩,
 ⟨some 89, none, .mov (.tmp 0)⟩,
 ⟨some 90, none, .mov (.tmp 13)⟩,
 ⟨some 91, none, .iaddrS 34 (.tmp 89) (.tmp 90)⟩,
 ⟨some 92, none, .loadN 34 (.tmp 91)⟩,
 ⟨some 93, none, .call 11 [(.tmp 92)]⟩,
 ⟨some 94, none, .bslice 54 1 opZ [(0, 38, (.tmp 93))]⟩,
 ⟨some 95, none, .append 54 38 288 (.tmp 88) (.tmp 94)⟩,
 ⟨some 10, none, .mov (.tmp 95)⟩])
 (.ops [⟨some 96, none, .mov (.tmp 11)⟩,
 ⟨some 97, none, .loadN 2 (.tmp 14)⟩,
 ⟨some 98, none, .bslice 23 1 [.int .i64 (0), .string ⟨⟨[]⟩⟩] [(0, 2, (.tmp 97))]⟩,
 ⟨some 99, none, .append 23 2 24 (.tmp 96) (.tmp 98)⟩,
 ⟨some 11, none, .mov (.tmp 99)⟩])))))))
 (.ops [⟨some 67, none, .mov (.tmp 13)⟩,
 ⟨some 68, none, .bin .add (.tmp 67) (.const (.int .i64 (1)))⟩,
 ⟨some 13, none, .mov (.tmp 68)⟩]))))))

def c8m : ACode :=
 (.seq
 (.ops [⟨some 10, none, .mov (.const (.slice none 0 0))⟩])
 (.seq
 (.ops [⟨some 11, none, .mov (.const (.slice none 0 0))⟩])
 (.seq
 (.ops [⟨some 57, none, .mov (.tmp 9)⟩,
 ⟨some 58, none, .call 25 [(.tmp 57)]⟩,
 ⟨some 12, none, .mov (.tmp 58)⟩])
 (.seq
 c8l
 c8p))))

/-- plait/plaitlaw14.OptPasses -/
def c8 : AFunc := ⟨168, 4, [.inl 8],
 (.seq
 (.ops [⟨some 8, none, .mov (.const (.bool false))⟩])
 (.seq
 (.seq
 (.ops [⟨some 26, none, .call 14 []⟩,
 ⟨some 27, none, .un .not (.tmp 26)⟩])
 (.cond (.tmp 27)
 (.seq
 (.ops [⟨some 8, none, .mov (.const (.bool false))⟩])
 .ret)
 .skip))
 (.seq
 (.ops [⟨some 28, none, .mov (.tmp 1)⟩,
 ⟨some 29, none, .mov (.tmp 1)⟩,
 ⟨some 30, none, .lenS (.tmp 29)⟩,
 ⟨some 31, none, .min [(.tmp 30), (.const (.int .i64 (4)))]⟩,
 ⟨some 32, none, .sliceS (.tmp 28) none (some (.tmp 31))⟩,
 ⟨some 1, none, .mov (.tmp 32)⟩])
 (.seq
 (.ops [⟨some 33, none, .mov (.tmp 2)⟩,
 ⟨some 34, none, .cvInt .i64 (.tmp 33)⟩,
 ⟨some 35, none, .bin .rem (.tmp 34) (.const (.int .i64 (254)))⟩,
 ⟨some 36, none, .bin .add (.const (.int .i64 (2))) (.tmp 35)⟩,
 ⟨some 37, none, .mov (.tmp 1)⟩,
 ⟨some 38, none, .build [.int .i64 (0), .string ⟨⟨[]⟩⟩] [(0, 1, (.tmp 36)), (1, 1, (.tmp 37))]⟩,
 ⟨some 39, none, .mov (.tmp 2)⟩,
 ⟨some 40, none, .bin .rem (.tmp 39) (.const (.int .u8 (7)))⟩,
 ⟨some 41, none, .bin .mul (.tmp 40) (.const (.int .u8 (16)))⟩,
 ⟨some 42, none, .bin .add (.const (.int .u8 (144))) (.tmp 41)⟩,
 ⟨some 43, none, .bslice 5 1 [.int .u8 (0)] [(0, 1, (.tmp 42))]⟩,
 ⟨some 44, none, .cvB2S (.tmp 43)⟩,
 ⟨some 45, none, .mov (.tmp 1)⟩,
 ⟨some 46, none, .bin .add (.tmp 44) (.tmp 45)⟩,
 ⟨some 47, none, .build [.int .i64 (0), .string ⟨⟨[]⟩⟩] [(0, 1, (.const (.int .i64 (30)))), (1, 1, (.tmp 46))]⟩,
 ⟨some 48, none, .bslice 23 2 [.int .i64 (0), .string ⟨⟨[]⟩⟩] [(0, 2, (.tmp 38)), (2, 2, (.tmp 47))]⟩,
 ⟨some 9, none, .mov (.tmp 48)⟩])
 (.seq
 (.seq
 (.ops [⟨some 49, none, .mov (.tmp 9)⟩,
 ⟨some 50, none, .iaddrS 2 (.tmp 49) (.const (.int .i64 (0)))⟩,
 ⟨some 51, none, .faddr 0 (.tmp 50)⟩,
 ⟨some 52, none, .load1 (.tmp 51)⟩,
 ⟨some 53, none, .bin .eql (.tmp 52) (.const (.int .i64 (30)))⟩])
 (.cond (.tmp 53)
 (.ops [⟨some 54, none, .mov (.tmp 9)⟩,
 ⟨some 55, none, .iaddrS 2 (.tmp 54) (.const (.int .i64 (0)))⟩,
 ⟨some 56, none, .faddr 0 (.tmp 55)⟩,
 ⟨none, none, .store 1 (.tmp 56) (.const (.int .i64 (31)))⟩])
 .skip))
 c8m)))))⟩
theorem t8 : T 8 = some c8 := by kernel_rfl

/-- plait/opt.Lay -/
def c16 : AFunc := ⟨32, 1, [.inl 2, .inl 3],
 (.seq
 (.ops [⟨some 2, none, .mov (.const (.string ⟨⟨[]⟩⟩))⟩,
 ⟨some 3, none, .mov (.const (.int .i64 (0)))⟩])
 (.seq
 (.ops [⟨some 4, none, .mov (.const (.slice none 0 0))⟩])
 (.seq
 (.seq
 (.ops [⟨some 9, none, .mov (.tmp 0)⟩,
 ⟨some 10, none, .lenV (.tmp 9)⟩,
 ⟨some 11, none, .mov (.const (.int .i64 (0)))⟩])
 (.block 0
 (.loop
 (.seq
 (.ops [⟨some 12, none, .bin .lss (.tmp 11) (.tmp 10)⟩])
 (.seq
 (.cond (.tmp 12)
 .skip
 (.exit 0))
 (.seq
 (.block 1
 (.seq
 (.ops [⟨some 13, none, .iaddrS 38 (.tmp 9) (.tmp 11)⟩,
 ⟨some 14, none, .loadN 38 (.tmp 13)⟩,
 ⟨some 6, none, .alloc 54 opZ⟩,
 ⟨none, none, .store 38 (.tmp 6) (.tmp 14)⟩])
 (.seq
 (.ops [⟨some 16, none, .loadN 38 (.tmp 6)⟩,
 ⟨some 17, none, .call 23 [(.tmp 16)]⟩,
 ⟨some 15, none, .mov (.tmp 17)⟩,
 ⟨some 18, none, .ext (.tmp 15) 0⟩,
 ⟨some 19, none, .ext (.tmp 15) 1⟩,
 ⟨some 7, none, .alloc 23 [.int .i64 (0), .string ⟨⟨[]⟩⟩]⟩,
 ⟨none, none, .store 2 (.tmp 7) (.tmp 18)⟩,
 ⟨some 8, none, .mov (.tmp 19)⟩])
 (.seq
 (.seq
 (.ops [⟨some 20, none, .mov (.tmp 8)⟩,
 ⟨some 21, none, .bin .neq (.tmp 20) (.const (.int .i64 (0)))⟩])
 (.cond (.tmp 21)
 (.seq
 (.ops [⟨some 22, none, .mov (.tmp 8)⟩,
 ⟨some 2, none, .mov (.const (.string ⟨⟨[]⟩⟩))⟩,
 ⟨some 3, none, .mov (.tmp 22)⟩])
 .ret)
 .skip))
 (.ops [⟨some 23, none, .mov (.tmp 4)⟩,
 ⟨some 24, none, .loadN 2 (.tmp 7)⟩,
 ⟨some 25, none, .bslice 23 1 [.int .i64 (0), .string ⟨⟨[]⟩⟩] [(0, 2, (.tmp 24))]⟩,
 ⟨some 26, none, .append 23 2 24 (.tmp 23) (.tmp 25)⟩,
 ⟨some 4, none, .mov (.tmp 26)⟩])))))
 (.ops [⟨some 27, none, .bin .add (.tmp 11) (.const (.int .i64 (1)))⟩,
 ⟨some 11, none, .mov (.tmp 27)⟩])))))))
 (.seq
 (.ops [⟨some 28, none, .mov (.tmp 4)⟩,
 ⟨some 29, none, .call 26 [(.tmp 28)]⟩,
 ⟨some 30, none, .ext (.tmp 29) 0⟩,
 ⟨some 31, none, .ext (.tmp 29) 1⟩,
 ⟨some 2, none, .mov (.tmp 30)⟩,
 ⟨some 3, none, .mov (.tmp 31)⟩])
 .ret))))⟩
theorem t16 : T 16 = some c16 := by kernel_rfl

/-- plait/opt.All -/
def c19 : AFunc := ⟨49, 1, [.inl 2, .inl 3],
 (.seq
 (.ops [⟨some 2, none, .mov (.const (.slice none 0 0))⟩,
 ⟨some 3, none, .mov (.const (.int .i64 (0)))⟩])
 (.seq
 (.ops [⟨some 11, none, .mov (.tmp 0)⟩,
 ⟨some 12, none, .call 47 [(.tmp 11)]⟩,
 ⟨some 10, none, .mov (.tmp 12)⟩,
 ⟨some 13, none, .ext (.tmp 10) 0⟩,
 ⟨some 14, none, .ext (.tmp 10) 1⟩,
 ⟨some 4, none, .mov (.tmp 13)⟩,
 ⟨some 3, none, .mov (.tmp 14)⟩])
 (.seq
 (.seq
 (.ops [⟨some 15, none, .mov (.tmp 3)⟩,
 ⟨some 16, none, .bin .neq (.tmp 15) (.const (.int .i64 (0)))⟩])
 (.cond (.tmp 16)
 (.seq
 (.ops [⟨some 17, none, .mov (.tmp 3)⟩,
 ⟨some 2, none, .mov (.const (.slice none 0 0))⟩,
 ⟨some 3, none, .mov (.tmp 17)⟩])
 .ret)
 .skip))
 (.seq
 (.ops [⟨some 5, none, .alloc 31 [.int .i64 (0)]⟩])
 (.seq
 .skip
 (.seq
 (.seq
 (.ops [⟨some 18, none, .mov (.tmp 4)⟩,
 ⟨some 19, none, .lenV (.tmp 18)⟩,
 ⟨some 20, none, .mov (.const (.int .i64 (0)))⟩])
 (.block 0
 (.loop
 (.seq
 (.ops [⟨some 21, none, .bin .lss (.tmp 20) (.tmp 19)⟩])
 (.seq
 (.cond (.tmp 21)
 .skip
 (.exit 0))
 (.seq
 (.block 1
 (.seq
 (.ops [⟨some 22, none, .iaddrS 2 (.tmp 18) (.tmp 20)⟩,
 ⟨some 23, none, .loadN 2 (.tmp 22)⟩,
 ⟨some 7, none, .alloc 23 [.int .i64 (0), .string ⟨⟨[]⟩⟩]⟩,
 ⟨none, none, .store 2 (.tmp 7) (.tmp 23)⟩])
 (.seq
 (.ops [⟨some 25, none, .loadN 2 (.tmp 7)⟩,
 ⟨some 26, none, .call 34 [(.tmp 25)]⟩,
 ⟨some 24, none, .mov (.tmp 26)⟩,
 ⟨some 27, none, .ext (.tmp 24) 0⟩,
 ⟨some 28, none, .ext (.tmp 24) 1⟩,
 ⟨some 8, none, .alloc 54 opZ⟩,
 ⟨none, none, .store 38 (.tmp 8) (.tmp 27)⟩,
 ⟨some 9, none, .mov (.tmp 28)⟩])
 (.block 2
 (.seq
 (.ops [⟨some 30, none, .mov (.tmp 9)⟩,
 ⟨some 31, none, .eq false true .iface (.tmp 30) (.const (.nilIface))⟩,
 ⟨some 29, none, .mov (.tmp 31)⟩])
 (.cond (.tmp 29)
 (.ops [⟨some 32, none, .mov (.tmp 2)⟩,
 ⟨some 33, none, .loadN 38 (.tmp 8)⟩,
 ⟨some 34, none, .bslice 54 1 opZ [(0, 38, (.tmp 33))]⟩,
 ⟨some 35, none, .append 54 38 288 (.tmp 32) (.tmp 34)⟩,
 ⟨some 2, none, .mov (.tmp 35)⟩])
 (.seq
 (.ops [⟨some 37, none, .mov (.tmp 9)⟩,
 ⟨some 38, none, .mkI 97 (.tmp 5)⟩,
 ⟨some 39, none, .call 35 [(.tmp 37), (.tmp 38)]⟩,
 ⟨some 40, none, .mov (.tmp 39)⟩,
 ⟨some 41, some (40, true), .load1 (.tmp 5)⟩,
 ⟨some 42, some (40, true), .bin .neq (.tmp 41) (.const (.int .i64 (7)))⟩,
 ⟨some 43, none, .pick (.tmp 40) (.tmp 42) (.const (.bool false))⟩,
 ⟨some 36, none, .mov (.tmp 43)⟩])
 (.cond (.tmp 36)
 (.exit 0)
 (.ops [⟨none, none, .store 1 (.tmp 5) (.const (.int .i64 (0)))⟩])))))))))
 (.ops [⟨some 44, none, .bin .add (.tmp 20) (.const (.int .i64 (1)))⟩,
 ⟨some 20, none, .mov (.tmp 44)⟩])))))))
 (.seq
 (.seq
 (.ops [⟨some 45, none, .load1 (.tmp 5)⟩,
 ⟨some 46, none, .bin .neq (.tmp 45) (.const (.int .i64 (0)))⟩])
 (.cond (.tmp 46)
 (.seq
 (.opsD [⟨some 47, none, .load1 (.tmp 5)⟩,
 ⟨some 2, none, .mov (.const (.slice none 0 0))⟩,
 ⟨some 3, none, .mov (.tmp 47)⟩] [])
 .ret)
 .skip))
 (.seq
 (.ops [⟨some 48, none, .mov (.tmp 2)⟩,
 ⟨some 2, none, .mov (.tmp 48)⟩,
 ⟨some 3, none, .mov (.const (.int .i64 (0)))⟩])
 .ret))))))))⟩
theorem t19 : T 19 = some c19 := by kernel_rfl

/-- plait/plaitref14.Same -/
def c21 : AFunc := ⟨26, 2, [.inl 4],
 (.seq
 (.ops [⟨some 4, none, .mov (.const (.bool false))⟩])
 (.seq
 (.seq
 (.ops [⟨some 6, none, .mov (.tmp 0)⟩,
 ⟨some 7, none, .lenV (.tmp 6)⟩,
 ⟨some 8, none, .mov (.tmp 1)⟩,
 ⟨some 9, none, .lenV (.tmp 8)⟩,
 ⟨some 10, none, .bin .neq (.tmp 7) (.tmp 9)⟩])
 (.cond (.tmp 10)
 (.seq
 (.ops [⟨some 4, none, .mov (.const (.bool false))⟩])
 .ret)
 .skip))
 (.seq
 (.seq
 (.ops [⟨some 5, none, .mov (.const (.int .i64 (0)))⟩])
 (.block 0
 (.loop
 (.seq
 (.seq
 (.ops [⟨some 11, none, .mov (.tmp 5)⟩,
 ⟨some 12, none, .mov (.tmp 0)⟩,
 ⟨some 13, none, .lenV (.tmp 12)⟩,
 ⟨some 14, none, .bin .lss (.tmp 11) (.tmp 13)⟩])
 (.cond (.tmp 14)
 .skip
 (.exit 0)))
 (.seq
 (.block 1
 (.seq
 (.opsD [⟨some 17, none, .mov (.tmp 0)⟩,
 ⟨some 18, none, .mov (.tmp 5)⟩,
 ⟨some 19, none, .iaddrS 38 (.tmp 17) (.tmp 18)⟩,
 ⟨some 20, none, .loadN 38 (.tmp 19)⟩,
 ⟨some 21, none, .mov (.tmp 1)⟩,
 ⟨some 22, none, .mov (.tmp 5)⟩,
 ⟨some 23, none, .iaddrS 38 (.tmp 21) (.tmp 22)⟩,
 ⟨some 24, none, .loadN 38 (.tmp 23)⟩,
 ⟨some 25, none, .eqF true opL (.tmp 20) (.tmp 24)⟩] [])
 (.cond (.tmp 25)
 (.seq
 (.ops [⟨some 4, none, .mov (.const (.bool false))⟩])
 .ret)
 .skip)))
 (.ops [⟨some 15, none, .mov (.tmp 5)⟩,
 ⟨some 16, none, .bin .add (.tmp 15) (.const (.int .i64 (1)))⟩,
 ⟨some 5, none, .mov (.tmp 16)⟩]))))))
 (.seq
 (.ops [⟨some 4, none, .mov (.const (.bool true))⟩])
 .ret))))⟩
theorem t21 : T 21 = some c21 := by kernel_rfl

/-- plait/area.Size -/
def c25 : AFunc := ⟨12, 1, [.inl 2],
 (.seq
 (.ops [⟨some 2, none, .mov (.const (.int .i64 (0)))⟩])
 (.seq
 (.ops [⟨some 6, none, .mov (.tmp 0)⟩,
 ⟨some 7, none, .call 26 [(.tmp 6)]⟩,
 ⟨some 5, none, .mov (.tmp 7)⟩,
 ⟨some 8, none, .ext (.tmp 5) 0⟩,
 ⟨some 9, none, .ext (.tmp 5) 1⟩,
 ⟨some 3, none, .mov (.tmp 8)⟩,
 ⟨some 4, none, .mov (.tmp 9)⟩])
 (.seq
 (.ops [⟨some 10, none, .mov (.tmp 3)⟩,
 ⟨some 11, none, .lenS (.tmp 10)⟩,
 ⟨some 2, none, .mov (.tmp 11)⟩])
 .ret)))⟩
theorem t25 : T 25 = some c25 := by kernel_rfl

/-- plait/area.Lay -/
def c26 : AFunc := ⟨54, 1, [.inl 2, .inl 3],
 (.seq
 (.ops [⟨some 2, none, .mov (.const (.string ⟨⟨[]⟩⟩))⟩,
 ⟨some 3, none, .mov (.const (.int .i64 (0)))⟩])
 (.seq
 (.ops [⟨some 4, none, .mov (.const (.slice none 0 0))⟩])
 (.seq
 (.seq
 (.ops [⟨some 7, none, .mov (.tmp 0)⟩,
 ⟨some 8, none, .lenV (.tmp 7)⟩,
 ⟨some 9, none, .mov (.const (.int .i64 (0)))⟩])
 (.block 0
 (.loop
 (.seq
 (.ops [⟨some 10, none, .bin .lss (.tmp 9) (.tmp 8)⟩])
 (.seq
 (.cond (.tmp 10)
 .skip
 (.exit 0))
 (.seq
 (.block 1
 (.seq
 (.ops [⟨some 11, none, .iaddrS 2 (.tmp 7) (.tmp 9)⟩,
 ⟨some 12, none, .loadN 2 (.tmp 11)⟩,
 ⟨some 6, none, .alloc 23 [.int .i64 (0), .string ⟨⟨[]⟩⟩]⟩,
 ⟨none, none, .store 2 (.tmp 6) (.tmp 12)⟩])
 (.seq
 (.seq
 (.ops [⟨some 13, none, .faddr 0 (.tmp 6)⟩,
 ⟨some 14, none, .load1 (.tmp 13)⟩,
 ⟨some 15, none, .bin .leq (.tmp 14) (.const (.int .i64 (1)))⟩,
 ⟨some 16, none, .mov (.tmp 15)⟩,
 ⟨some 17, some (16, false), .faddr 0 (.tmp 6)⟩,
 ⟨some 18, some (16, false), .load1 (.tmp 17)⟩,
 ⟨some 19, some (16, false), .bin .gtr (.tmp 18) (.const (.int .i64 (255)))⟩,
 ⟨some 20, none, .pick (.tmp 16) (.const (.bool true)) (.tmp 19)⟩,
 ⟨some 21, none, .mov (.tmp 20)⟩,
 ⟨some 22, some (21, false), .faddr 1 (.tmp 6)⟩,
 ⟨some 23, some (21, false), .load1 (.tmp 22)⟩,
 ⟨some 24, some (21, false), .lenS (.tmp 23)⟩,
 ⟨some 25, some (21, false), .bin .gtr (.tmp 24) (.const (.int .i64 (253)))⟩,
 ⟨some 26, none, .pick (.tmp 21) (.const (.bool true)) (.tmp 25)⟩])
 (.cond (.tmp 26)
 (.seq
 (.ops [⟨some 2, none, .mov (.const (.string ⟨⟨[]⟩⟩))⟩,
 ⟨some 3, none, .mov (.const (.int .i64 (2)))⟩])
 .ret)
 .skip))
 (.opsD [⟨some 27, none, .mov (.tmp 4)⟩,
 ⟨some 28, none, .faddr 0 (.tmp 6)⟩,
 ⟨some 29, none, .load1 (.tmp 28)⟩,
 ⟨some 30, none, .cvInt .u8 (.tmp 29)⟩,
 ⟨some 31, none, .faddr 1 (.tmp 6)⟩,
 ⟨some 32, none, .load1 (.tmp 31)⟩,
 ⟨some 33, none, .lenS (.tmp 32)⟩,
 ⟨some 34, none, .bin .add (.const (.int .i64 (2))) (.tmp 33)⟩,
 ⟨some 35, none, .cvInt .u8 (.tmp 34)⟩,
 ⟨some 36, none, .bslice 5 2 [.int .u8 (0)] [(0, 1, (.tmp 30)), (1, 1, (.tmp 35))]⟩,
 ⟨some 37, none, .append 5 1 1 (.tmp 27) (.tmp 36)⟩,
 ⟨some 38, none, .faddr 1 (.tmp 6)⟩,
 ⟨some 39, none, .load1 (.tmp 38)⟩,
 ⟨some 40, none, .append 5 1 1 (.tmp 37) (.tmp 39)⟩,
 ⟨some 4, none, .mov (.tmp 40)⟩] [(12, 10), (12, 11)]))))
 (.ops [⟨some 41, none, .bin .add (.tmp 9) (.const (.int .i64 (1)))⟩,
 ⟨some 9, none, .mov (.tmp 41)⟩])))))))
 (.seq
 (.seq
 (.ops [⟨some 42, none, .mov (.tmp 4)⟩,
 ⟨some 43, none, .lenV (.tmp 42)⟩,
 ⟨some 44, none, .bin .gtr (.tmp 43) (.const (.int .i64 (40)))⟩])
 (.cond (.tmp 44)
 (.seq
 (.ops [⟨some 2, none, .mov (.const (.string ⟨⟨[]⟩⟩))⟩,
 ⟨some 3, none, .mov (.const (.int .i64 (6)))⟩])
 .ret)
 .skip))
 (.seq
 (.block 2
 (.loop
 (.seq
 (.seq
 (.ops [⟨some 45, none, .mov (.tmp 4)⟩,
 ⟨some 46, none, .lenV (.tmp 45)⟩,
 ⟨some 47, none, .bin .rem (.tmp 46) (.const (.int .i64 (4)))⟩,
 ⟨some 48, none, .bin .neq (.tmp 47) (.const (.int .i64 (0)))⟩])
 (.cond (.tmp 48)
 .skip
 (.exit 2)))
 (.block 3
 (.ops [⟨some 49, none, .mov (.tmp 4)⟩,
 ⟨some 50, none, .bslice 5 1 [.int .u8 (0)] [(0, 1, (.const (.int .u8 (0))))]⟩,
 ⟨some 51, none, .append 5 1 1 (.tmp 49) (.tmp 50)⟩,
 ⟨some 4, none, .mov (.tmp 51)⟩])))))
 (.seq
 (.ops [⟨some 52, none, .mov (.tmp 4)⟩,
 ⟨some 53, none, .cvB2S (.tmp 52)⟩,
 ⟨some 2, none, .mov (.tmp 53)⟩,
 ⟨some 3, none, .mov (.const (.int .i64 (0)))⟩])
 .ret))))))⟩
theorem t26 : T 26 = some c26 := by kernel_rfl

/-- plait/area.Walk -/
def c47 : AFunc := ⟨42, 1, [.inr (2, 1, false), .inr (3, 1, false)],
 (.seq
 (.ops [⟨some 2, none, .alloc 69 [.slice none 0 0]⟩,
 ⟨some 3, none, .alloc 31 [.int .i64 (0)]⟩])
 (.seq
 (.block 0
 (.seq
 (.ops [⟨some 7, none, .mov (.tmp 0)⟩,
 ⟨some 8, none, .lenS (.tmp 7)⟩,
 ⟨some 9, none, .bin .gtr (.tmp 8) (.const (.int .i64 (40)))⟩,
 ⟨some 6, none, .mov (.tmp 9)⟩])
 (.cond (.tmp 6)
 (.seq
 (.ops [⟨none, none, .store 1 (.tmp 2) (.const (.slice none 0 0))⟩,
 ⟨none, none, .store 1 (.tmp 3) (.const (.int .i64 (6)))⟩])
 .ret)
 (.seq
 (.ops [⟨some 11, none, .mov (.tmp 0)⟩,
 ⟨some 12, none, .lenS (.tmp 11)⟩,
 ⟨some 13, none, .bin .rem (.tmp 12) (.const (.int .i64 (4)))⟩,
 ⟨some 14, none, .bin .neq (.tmp 13) (.const (.int .i64 (0)))⟩,
 ⟨some 10, none, .mov (.tmp 14)⟩])
 (.cond (.tmp 10)
 (.seq
 (.ops [⟨none, none, .store 1 (.tmp 2) (.const (.slice none 0 0))⟩,
 ⟨none, none, .store 1 (.tmp 3) (.const (.int .i64 (5)))⟩])
 .ret)
 .skip)))))
 (.seq
 (.seq
 (.ops [⟨some 15, none, .mov (.tmp 0)⟩,
 ⟨some 16, none, .call 71 [(.tmp 15)]⟩])
 (.block 1
 (.rangeFunc (.tmp 16) [17]
 (.ops [⟨some 4, none, .alloc 162 [.int .i64 (0), .int .i64 (0), .string ⟨⟨[]⟩⟩]⟩,
 ⟨none, none, .store 3 (.tmp 4) (.tmp 17)⟩])
 (.block 2
 (.seq
 (.seq
 (.ops [⟨some 18, none, .faddr 0 (.tmp 4)⟩,
 ⟨some 19, none, .load1 (.tmp 18)⟩,
 ⟨some 20, none, .faddr 1 (.tmp 4)⟩,
 ⟨some 21, none, .load1 (.tmp 20)⟩,
 ⟨some 22, none, .build [.int .i64 (0), .int .i64 (0), .string ⟨⟨[]⟩⟩] [(0, 1, (.tmp 19)), (1, 1, (.tmp 21)), (2, 1, (.const (.string ⟨⟨[]⟩⟩)))]⟩,
 ⟨some 5, none, .alloc 162 [.int .i64 (0), .int .i64 (0), .string ⟨⟨[]⟩⟩]⟩,
 ⟨none, none, .store 3 (.tmp 5) (.tmp 22)⟩])
 (.seq
 (.ops [⟨some 23, none, .loadN 3 (.tmp 4)⟩,
 ⟨some 24, none, .loadN 3 (.tmp 5)⟩,
 ⟨some 25, none, .eqF false [(0, .i), (1, .i), (2, .s)] (.tmp 23) (.tmp 24)⟩,
 ⟨some 26, none, .mov (.tmp 25)⟩,
 ⟨some 27, some (26, true), .faddr 1 (.tmp 4)⟩,
 ⟨some 28, some (26, true), .load1 (.tmp 27)⟩,
 ⟨some 29, some (26, true), .bin .neq (.tmp 28) (.const (.int .i64 (0)))⟩,
 ⟨some 30, none, .pick (.tmp 26) (.tmp 29) (.const (.bool false))⟩])
 (.cond (.tmp 30)
 (.seq
 (.opsD [⟨some 31, none, .faddr 1 (.tmp 4)⟩,
 ⟨some 32, none, .load1 (.tmp 31)⟩,
 ⟨none, none, .store 1 (.tmp 2) (.const (.slice none 0 0))⟩,
 ⟨none, none, .store 1 (.tmp 3) (.tmp 32)⟩] [(1, 2), (1, 3)])
 .ret)
 .skip)))
 (.ops [⟨some 33, none, .load1 (.tmp 2)⟩,
 ⟨some 34, none, .faddr 0 (.tmp 4)⟩,
 ⟨some 35, none, .load1 (.tmp 34)⟩,
 ⟨some 36, none, .faddr 2 (.tmp 4)⟩,
 ⟨some 37, none, .load1 (.tmp 36)⟩,
 ⟨some 38, none, .build [.int .i64 (0), .string ⟨⟨[]⟩⟩] [(0, 1, (.tmp 35)), (1, 1, (.tmp 37))]⟩,
 ⟨some 39, none, .bslice 23 1 [.int .i64 (0), .string ⟨⟨[]⟩⟩] [(0, 2, (.tmp 38))]⟩,
 ⟨some 40, none, .append 23 2 24 (.tmp 33) (.tmp 39)⟩,
 ⟨none, none, .store 1 (.tmp 2) (.tmp 40)⟩]))))))
 (.seq
 (.ops [⟨some 41, none, .load1 (.tmp 2)⟩,
 ⟨none, none, .store 1 (.tmp 2) (.tmp 41)⟩,
 ⟨none, none, .store 1 (.tmp 3) (.const (.int .i64 (0)))⟩])
 .ret))))⟩
theorem t47 : T 47 = some c47 := by kernel_rfl

/-- plait/area.walk -/
def c71 : AFunc := ⟨4, 1, [.inl 2],
 (.seq
 (.ops [⟨some 1, none, .box 9 1 (.tmp 0)⟩,
 ⟨some 2, none, .mov (.const (.nilFunc))⟩])
 (.seq
 (.ops [⟨some 3, none, .mkF 118 [] [(.tmp 1)]⟩,
 ⟨some 2, none, .mov (.tmp 3)⟩])
 .ret))⟩
theorem t71 : T 71 = some c71 := by kernel_rfl

/-- plait/area.walk$1 -/
def c118 : AFunc := ⟨75, 2, [],
 (.seq
 .skip
 (.seq
 (.ops [⟨some 3, none, .mov (.const (.int .i64 (0)))⟩])
 (.block 0
 (.loop
 (.seq
 (.seq
 (.ops [⟨some 6, none, .mov (.tmp 3)⟩,
 ⟨some 7, none, .load1 (.tmp 1)⟩,
 ⟨some 8, none, .lenS (.tmp 7)⟩,
 ⟨some 9, none, .bin .lss (.tmp 6) (.tmp 8)⟩])
 (.cond (.tmp 9)
 .skip
 (.exit 0)))
 (.block 1
 (.seq
 (.seq
 (.ops [⟨some 10, none, .load1 (.tmp 1)⟩,
 ⟨some 11, none, .mov (.tmp 3)⟩,
 ⟨some 12, none, .idxS (.tmp 10) (.tmp 11)⟩])
 (.block 2
 (.seq
 (.ops [⟨some 14, none, .bin .eql (.tmp 12) (.const (.int .u8 (0)))⟩,
 ⟨some 13, none, .mov (.tmp 14)⟩])
 (.cond (.tmp 13)
 (.exit 0)
 (.seq
 (.ops [⟨some 16, none, .bin .eql (.tmp 12) (.const (.int .u8 (1)))⟩,
 ⟨some 15, none, .mov (.tmp 16)⟩])
 (.cond (.tmp 15)
 (.seq
 (.ops [⟨some 17, none, .mov (.tmp 3)⟩,
 ⟨some 18, none, .bin .add (.tmp 17) (.const (.int .i64 (1)))⟩,
 ⟨some 3, none, .mov (.tmp 18)⟩])
 (.exit 1))
 .skip))))))
 (.seq
 (.ops [⟨some 19, none, .load1 (.tmp 1)⟩,
 ⟨some 20, none, .mov (.tmp 3)⟩,
 ⟨some 21, none, .idxS (.tmp 19) (.tmp 20)⟩,
 ⟨some 22, none, .cvInt .i64 (.tmp 21)⟩,
 ⟨some 23, none, .build [.int .i64 (0), .int .i64 (0), .string ⟨⟨[]⟩⟩] [(0, 1, (.tmp 22))]⟩,
 ⟨some 4, none, .alloc 162 [.int .i64 (0), .int .i64 (0), .string ⟨⟨[]⟩⟩]⟩,
 ⟨none, none, .store 3 (.tmp 4) (.tmp 23)⟩])
 (.seq
 (.ops [⟨some 5, none, .mov (.const (.int .i64 (0)))⟩])
 (.seq
 (.block 3
 (.seq
 (.ops [⟨some 38, none, .mov (.tmp 3)⟩,
 ⟨some 39, none, .bin .add (.tmp 38) (.const (.int .i64 (1)))⟩,
 ⟨some 40, none, .load1 (.tmp 1)⟩,
 ⟨some 41, none, .lenS (.tmp 40)⟩,
 ⟨some 42, none, .bin .eql (.tmp 39) (.tmp 41)⟩,
 ⟨some 37, none, .mov (.tmp 42)⟩])
 (.cond (.tmp 37)
 (.ops [⟨some 43, none, .faddr 1 (.tmp 4)⟩,
 ⟨none, none, .store 1 (.tmp 43) (.const (.int .i64 (4)))⟩])
 (.seq
 (.ops [⟨some 45, none, .load1 (.tmp 1)⟩,
 ⟨some 46, none, .mov (.tmp 3)⟩,
 ⟨some 47, none, .bin .add (.tmp 46) (.const (.int .i64 (1)))⟩,
 ⟨some 48, none, .idxS (.tmp 45) (.tmp 47)⟩,
 ⟨some 49, none, .bin .lss (.tmp 48) (.const (.int .u8 (2)))⟩,
 ⟨some 44, none, .mov (.tmp 49)⟩])
 (.cond (.tmp 44)
 (.ops [⟨some 50, none, .faddr 1 (.tmp 4)⟩,
 ⟨none, none, .store 1 (.tmp 50) (.const (.int .i64 (5)))⟩])
 (.seq
 (.opsD [⟨some 52, none, .load1 (.tmp 1)⟩,
 ⟨some 53, none, .mov (.tmp 3)⟩,
 ⟨some 54, none, .bin .add (.tmp 53) (.const (.int .i64 (1)))⟩,
 ⟨some 55, none, .idxS (.tmp 52) (.tmp 54)⟩,
 ⟨some 56, none, .cvInt .i64 (.tmp 55)⟩,
 ⟨some 57, none, .load1 (.tmp 1)⟩,
 ⟨some 58, none, .lenS (.tmp 57)⟩,
 ⟨some 59, none, .mov (.tmp 3)⟩,
 ⟨some 60, none, .bin .sub (.tmp 58) (.tmp 59)⟩,
 ⟨some 61, none, .bin .gtr (.tmp 56) (.tmp 60)⟩,
 ⟨some 51, none, .mov (.tmp 61)⟩] [])
 (.cond (.tmp 51)
 (.ops [⟨some 62, none, .faddr 1 (.tmp 4)⟩,
 ⟨none, none, .store 1 (.tmp 62) (.const (.int .i64 (4)))⟩])
 (.seq
 (.ops [⟨some 24, none, .load1 (.tmp 1)⟩,
 ⟨some 25, none, .mov (.tmp 3)⟩,
 ⟨some 26, none, .bin .add (.tmp 25) (.const (.int .i64 (1)))⟩,
 ⟨some 27, none, .idxS (.tmp 24) (.tmp 26)⟩,
 ⟨some 28, none, .cvInt .i64 (.tmp 27)⟩,
 ⟨some 5, none, .mov (.tmp 28)⟩])
 (.ops [⟨some 29, none, .load1 (.tmp 1)⟩,
 ⟨some 30, none, .mov (.tmp 3)⟩,
 ⟨some 31, none, .bin .add (.tmp 30) (.const (.int .i64 (2)))⟩,
 ⟨some 32, none, .mov (.tmp 3)⟩,
 ⟨some 33, none, .mov (.tmp 5)⟩,
 ⟨some 34, none, .bin .add (.tmp 32) (.tmp 33)⟩,
 ⟨some 35, none, .sliceS (.tmp 29) (some (.tmp 31)) (some (.tmp 34))⟩,
 ⟨some 36, none, .faddr 2 (.tmp 4)⟩,
 ⟨none, none, .store 1 (.tmp 36) (.tmp 35)⟩])))))))))
 (.seq
 (.seq
 (.ops [⟨some 63, none, .mov (.tmp 0)⟩,
 ⟨some 64, none, .loadN 3 (.tmp 4)⟩,
 ⟨some 65, none, .callv (.tmp 63) [(.tmp 64)]⟩,
 ⟨some 66, none, .un .not (.tmp 65)⟩,
 ⟨some 67, none, .mov (.tmp 66)⟩,
 ⟨some 68, some (67, false), .faddr 1 (.tmp 4)⟩,
 ⟨some 69, some (67, false), .load1 (.tmp 68)⟩,
 ⟨some 70, some (67, false), .bin .neq (.tmp 69) (.const (.int .i64 (0)))⟩,
 ⟨some 71, none, .pick (.tmp 67) (.const (.bool true)) (.tmp 70)⟩])
 (.cond (.tmp 71)
 (.exit 0)
 .skip))
 (.ops [⟨some 72, none, .mov (.tmp 3)⟩,
 ⟨some 73, none, .mov (.tmp 5)⟩,
 ⟨some 74, none, .bin .add (.tmp 72) (.tmp 73)⟩,
 ⟨some 3, none, .mov (.tmp 74)⟩]))))))))))))⟩
theorem t118 : T 118 = some c118 := by kernel_rfl

end Go.Proofs.YtigknpfjhegkgaaGreatDoor

