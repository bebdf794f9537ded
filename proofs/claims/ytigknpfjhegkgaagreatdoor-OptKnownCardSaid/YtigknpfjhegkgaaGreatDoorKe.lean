/- The code of functions, as the framework reads it. -/
import Derived.Test.YtigknpfjhegkgaaGreatDoorZo
import Derived.KernelRfl
namespace Go.Proofs.YtigknpfjhegkgaaGreatDoor
open Go Go.AS
set_option maxRecDepth 100000

def c75t : ACode :=
 (.seq
 (.ops [⟨some 43, none, .load1 (.tmp 5)⟩,
 ⟨some 44, none, .mov (.tmp 10)⟩,
 ⟨some 45, none, .bin .and (.tmp 44) (.const (.int .u8 (15)))⟩,
 ⟨some 46, none, .cvInt .i64 (.tmp 45)⟩,
 ⟨some 47, none, .mov (.tmp 11)⟩,
 ⟨some 48, none, .bin .and (.tmp 47) (.const (.int .u8 (128)))⟩,
 ⟨some 49, none, .bin .neq (.tmp 48) (.const (.int .u8 (0)))⟩,
 ⟨some 50, none, .mov (.tmp 11)⟩,
 ⟨some 51, none, .bin .and (.tmp 50) (.const (.int .u8 (32)))⟩,
 ⟨some 52, none, .bin .neq (.tmp 51) (.const (.int .u8 (0)))⟩,
 ⟨some 53, none, .build [.int .i64 (0), .int .i64 (0), .bool false, .bool false, .int .u64 (0), .int .u64 (0), .int .i64 (0), .int .u16 (0)] [(0, 1, (.tmp 43)), (1, 1, (.tmp 46)), (2, 1, (.tmp 49)), (3, 1, (.tmp 52))]⟩,
 ⟨some 12, none, .alloc 35 [.int .i64 (0), .int .i64 (0), .bool false, .bool false, .int .u64 (0), .int .u64 (0), .int .i64 (0), .int .u16 (0)]⟩,
 ⟨none, none, .store 8 (.tmp 12) (.tmp 53)⟩])
 (.seq
 (.ops [⟨some 54, none, .mov (.tmp 8)⟩,
 ⟨some 55, none, .callv (.tmp 54) [(.const (.int .i64 (1)))]⟩,
 ⟨some 56, none, .faddr 4 (.tmp 12)⟩,
 ⟨none, none, .store 1 (.tmp 56) (.tmp 55)⟩])
 (.seq
 (.ops [⟨some 57, none, .mov (.tmp 8)⟩,
 ⟨some 58, none, .callv (.tmp 57) [(.const (.int .i64 (2)))]⟩,
 ⟨some 59, none, .faddr 5 (.tmp 12)⟩,
 ⟨none, none, .store 1 (.tmp 59) (.tmp 58)⟩])
 (.seq
 (.ops [⟨some 60, none, .mov (.tmp 9)⟩,
 ⟨some 61, none, .callv (.tmp 60) [(.const (.int .i64 (3)))]⟩,
 ⟨some 62, none, .cvInt .i64 (.tmp 61)⟩,
 ⟨some 63, none, .faddr 6 (.tmp 12)⟩,
 ⟨none, none, .store 1 (.tmp 63) (.tmp 62)⟩])
 (.seq
 (.ops [⟨some 64, none, .mov (.tmp 9)⟩,
 ⟨some 65, none, .callv (.tmp 64) [(.const (.int .i64 (4)))]⟩,
 ⟨some 66, none, .faddr 7 (.tmp 12)⟩,
 ⟨none, none, .store 1 (.tmp 66) (.tmp 65)⟩])
 (.seq
 (.ops [⟨some 67, none, .loadN 8 (.tmp 12)⟩,
 ⟨none, none, .store 8 (.tmp 2) (.tmp 67)⟩,
 ⟨some 3, none, .mov (.const (.int .i64 (0)))⟩])
 .ret))))))

/-- plait/capable.Decode -/
def c75 : AFunc := ⟨68, 1, [.inr (2, 8, true), .inl 3],
 (.seq
 (.ops [⟨some 2, none, .alloc 35 [.int .i64 (0), .int .i64 (0), .bool false, .bool false, .int .u64 (0), .int .u64 (0), .int .i64 (0), .int .u16 (0)]⟩,
 ⟨some 3, none, .mov (.const (.int .i64 (0)))⟩])
 (.seq
 (.ops [⟨some 13, none, .build [.int .i64 (0), .int .i64 (0), .bool false, .bool false, .int .u64 (0), .int .u64 (0), .int .i64 (0), .int .u16 (0)] []⟩,
 ⟨some 4, none, .alloc 35 [.int .i64 (0), .int .i64 (0), .bool false, .bool false, .int .u64 (0), .int .u64 (0), .int .i64 (0), .int .u16 (0)]⟩,
 ⟨none, none, .store 8 (.tmp 4) (.tmp 13)⟩])
 (.seq
 (.seq
 (.ops [⟨some 14, none, .mov (.tmp 0)⟩,
 ⟨some 15, none, .bin .eql (.tmp 14) (.const (.string ⟨⟨[]⟩⟩))⟩])
 (.cond (.tmp 15)
 (.seq
 (.ops [⟨some 16, none, .loadN 8 (.tmp 4)⟩,
 ⟨none, none, .store 8 (.tmp 2) (.tmp 16)⟩,
 ⟨some 3, none, .mov (.const (.int .i64 (4)))⟩])
 .ret)
 .skip))
 (.seq
 (.seq
 (.ops [⟨some 17, none, .mov (.tmp 0)⟩,
 ⟨some 18, none, .idxS (.tmp 17) (.const (.int .i64 (0)))⟩,
 ⟨some 19, none, .bin .shr (.tmp 18) (.const (.int .u64 (4)))⟩,
 ⟨some 20, none, .bin .neq (.tmp 19) (.const (.int .u8 (0)))⟩])
 (.cond (.tmp 20)
 (.seq
 (.ops [⟨some 21, none, .loadN 8 (.tmp 4)⟩,
 ⟨none, none, .store 8 (.tmp 2) (.tmp 21)⟩,
 ⟨some 3, none, .mov (.const (.int .i64 (7)))⟩])
 .ret)
 .skip))
 (.seq
 (.ops [⟨some 23, none, .mov (.tmp 0)⟩,
 ⟨some 24, none, .lenS (.tmp 23)⟩,
 ⟨some 25, none, .call 123 [(.tmp 24)]⟩,
 ⟨some 22, none, .mov (.tmp 25)⟩,
 ⟨some 26, none, .ext (.tmp 22) 0⟩,
 ⟨some 27, none, .ext (.tmp 22) 1⟩,
 ⟨some 5, none, .alloc 3 [.int .i64 (0)]⟩,
 ⟨none, none, .store 1 (.tmp 5) (.tmp 26)⟩,
 ⟨some 6, none, .mov (.tmp 27)⟩])
 (.seq
 (.seq
 (.ops [⟨some 28, none, .mov (.tmp 6)⟩,
 ⟨some 29, none, .un .not (.tmp 28)⟩])
 (.cond (.tmp 29)
 (.seq
 (.ops [⟨some 30, none, .loadN 8 (.tmp 4)⟩,
 ⟨none, none, .store 8 (.tmp 2) (.tmp 30)⟩,
 ⟨some 3, none, .mov (.const (.int .i64 (5)))⟩])
 .ret)
 .skip))
 (.seq
 (.ops [⟨some 31, none, .mov (.tmp 0)⟩,
 ⟨some 32, none, .call 124 [(.tmp 31)]⟩,
 ⟨some 7, none, .alloc 193 [.pointer none]⟩,
 ⟨none, none, .store 1 (.tmp 7) (.tmp 32)⟩])
 (.seq
 (.ops [⟨some 33, none, .mkF 125 [] [(.tmp 5), (.tmp 7)]⟩,
 ⟨some 8, none, .mov (.tmp 33)⟩])
 (.seq
 (.ops [⟨some 34, none, .mkF 127 [] [(.tmp 5), (.tmp 7)]⟩,
 ⟨some 9, none, .mov (.tmp 34)⟩])
 (.seq
 (.opsD [⟨some 35, none, .load1 (.tmp 7)⟩,
 ⟨some 36, none, .call 129 [(.tmp 35)]⟩,
 ⟨some 37, none, .load1 (.tmp 7)⟩,
 ⟨some 38, none, .call 129 [(.tmp 37)]⟩,
 ⟨some 10, none, .mov (.tmp 36)⟩,
 ⟨some 11, none, .mov (.tmp 38)⟩] [(2, 1), (2, 2)])
 (.seq
 (.seq
 (.ops [⟨some 39, none, .mov (.tmp 11)⟩,
 ⟨some 40, none, .bin .and (.tmp 39) (.const (.int .u8 (1)))⟩,
 ⟨some 41, none, .bin .eql (.tmp 40) (.const (.int .u8 (0)))⟩])
 (.cond (.tmp 41)
 (.seq
 (.ops [⟨some 42, none, .loadN 8 (.tmp 4)⟩,
 ⟨none, none, .store 8 (.tmp 2) (.tmp 42)⟩,
 ⟨some 3, none, .mov (.const (.int .i64 (2)))⟩])
 .ret)
 .skip))
 c75t)))))))))))⟩
theorem t75 : T 75 = some c75 := by kernel_rfl

/-- plait/capable.form -/
def c123 : AFunc := ⟨17, 1, [.inl 2, .inl 3],
 (.seq
 (.ops [⟨some 2, none, .mov (.const (.int .i64 (0)))⟩,
 ⟨some 3, none, .mov (.const (.bool false))⟩])
 (.seq
 (.seq
 (.ops [⟨some 4, none, .mov (.tmp 0)⟩])
 (.block 0
 (.seq
 (.ops [⟨some 6, none, .bin .eql (.tmp 4) (.const (.int .i64 (2)))⟩,
 ⟨some 5, none, .mov (.tmp 6)⟩])
 (.cond (.tmp 5)
 (.seq
 (.ops [⟨some 2, none, .mov (.const (.int .i64 (0)))⟩,
 ⟨some 3, none, .mov (.const (.bool true))⟩])
 .ret)
 (.seq
 (.ops [⟨some 8, none, .bin .eql (.tmp 4) (.const (.int .i64 (10)))⟩,
 ⟨some 7, none, .mov (.tmp 8)⟩])
 (.cond (.tmp 7)
 (.seq
 (.ops [⟨some 2, none, .mov (.const (.int .i64 (1)))⟩,
 ⟨some 3, none, .mov (.const (.bool true))⟩])
 .ret)
 (.seq
 (.seq
 (.ops [⟨some 10, none, .bin .eql (.tmp 4) (.const (.int .i64 (18)))⟩,
 ⟨some 9, none, .mov (.tmp 10)⟩])
 (.cond (.tmp 9)
 .skip
 (.seq
 (.ops [⟨some 11, none, .bin .eql (.tmp 4) (.const (.int .i64 (20)))⟩,
 ⟨some 9, none, .mov (.tmp 11)⟩])
 (.cond (.tmp 9)
 .skip
 (.ops [⟨some 12, none, .bin .eql (.tmp 4) (.const (.int .i64 (22)))⟩,
 ⟨some 9, none, .mov (.tmp 12)⟩])))))
 (.cond (.tmp 9)
 (.seq
 (.ops [⟨some 13, none, .mov (.tmp 0)⟩,
 ⟨some 14, none, .bin .sub (.tmp 13) (.const (.int .i64 (18)))⟩,
 ⟨some 15, none, .bin .quo (.tmp 14) (.const (.int .i64 (2)))⟩,
 ⟨some 16, none, .bin .add (.const (.int .i64 (2))) (.tmp 15)⟩,
 ⟨some 2, none, .mov (.tmp 16)⟩,
 ⟨some 3, none, .mov (.const (.bool true))⟩])
 .ret)
 .skip))))))))
 (.seq
 (.ops [⟨some 2, none, .mov (.const (.int .i64 (0)))⟩,
 ⟨some 3, none, .mov (.const (.bool false))⟩])
 .ret)))⟩
theorem t123 : T 123 = some c123 := by kernel_rfl

/-- plait/capable.Decode$1 -/
def c125 : AFunc := ⟨11, 3, [.inl 4],
 (.seq
 (.ops [⟨some 4, none, .mov (.const (.int .u64 (0)))⟩])
 (.seq
 (.seq
 (.ops [⟨some 5, none, .load1 (.tmp 1)⟩,
 ⟨some 6, none, .mov (.tmp 0)⟩,
 ⟨some 7, none, .bin .geq (.tmp 5) (.tmp 6)⟩])
 (.cond (.tmp 7)
 (.ops [⟨some 8, none, .load1 (.tmp 2)⟩,
 ⟨some 9, none, .call 126 [(.tmp 8)]⟩,
 ⟨some 4, none, .mov (.tmp 9)⟩])
 .skip))
 (.seq
 (.ops [⟨some 10, none, .mov (.tmp 4)⟩,
 ⟨some 4, none, .mov (.tmp 10)⟩])
 .ret)))⟩
theorem t125 : T 125 = some c125 := by kernel_rfl

/-- plait/capable.Decode$2 -/
def c127 : AFunc := ⟨11, 3, [.inl 4],
 (.seq
 (.ops [⟨some 4, none, .mov (.const (.int .u16 (0)))⟩])
 (.seq
 (.seq
 (.ops [⟨some 5, none, .load1 (.tmp 1)⟩,
 ⟨some 6, none, .mov (.tmp 0)⟩,
 ⟨some 7, none, .bin .geq (.tmp 5) (.tmp 6)⟩])
 (.cond (.tmp 7)
 (.ops [⟨some 8, none, .load1 (.tmp 2)⟩,
 ⟨some 9, none, .call 128 [(.tmp 8)]⟩,
 ⟨some 4, none, .mov (.tmp 9)⟩])
 .skip))
 (.seq
 (.ops [⟨some 10, none, .mov (.tmp 4)⟩,
 ⟨some 4, none, .mov (.tmp 10)⟩])
 .ret)))⟩
theorem t127 : T 127 = some c127 := by kernel_rfl

/-- plait/join.Decode -/
def c79 : AFunc := ⟨60, 1, [.inr (2, 6, true), .inl 3],
 (.seq
 (.ops [⟨some 2, none, .alloc 38 [.int .i64 (0), .bool false, .int .i64 (0), .int .u32 (0), .int .u32 (0), .string ⟨⟨[]⟩⟩]⟩,
 ⟨some 3, none, .mov (.const (.int .i64 (0)))⟩])
 (.seq
 (.block 0
 (.seq
 (.ops [⟨some 8, none, .mov (.tmp 0)⟩,
 ⟨some 9, none, .bin .eql (.tmp 8) (.const (.string ⟨⟨[]⟩⟩))⟩,
 ⟨some 7, none, .mov (.tmp 9)⟩])
 (.cond (.tmp 7)
 (.seq
 (.ops [⟨some 10, none, .loadN 6 (.tmp 2)⟩,
 ⟨none, none, .store 6 (.tmp 2) (.tmp 10)⟩,
 ⟨some 3, none, .mov (.const (.int .i64 (4)))⟩])
 .ret)
 (.seq
 (.ops [⟨some 12, none, .mov (.tmp 0)⟩,
 ⟨some 13, none, .idxS (.tmp 12) (.const (.int .i64 (0)))⟩,
 ⟨some 14, none, .bin .shr (.tmp 13) (.const (.int .u64 (4)))⟩,
 ⟨some 15, none, .bin .neq (.tmp 14) (.const (.int .u8 (1)))⟩,
 ⟨some 11, none, .mov (.tmp 15)⟩])
 (.cond (.tmp 11)
 (.seq
 (.ops [⟨some 16, none, .loadN 6 (.tmp 2)⟩,
 ⟨none, none, .store 6 (.tmp 2) (.tmp 16)⟩,
 ⟨some 3, none, .mov (.const (.int .i64 (7)))⟩])
 .ret)
 .skip)))))
 (.seq
 (.ops [⟨some 17, none, .mov (.tmp 0)⟩,
 ⟨some 18, none, .call 124 [(.tmp 17)]⟩,
 ⟨some 4, none, .mov (.tmp 18)⟩])
 (.seq
 (.ops [⟨some 19, none, .mov (.tmp 4)⟩,
 ⟨some 20, none, .call 129 [(.tmp 19)]⟩,
 ⟨some 21, none, .mov (.tmp 4)⟩,
 ⟨some 22, none, .call 129 [(.tmp 21)]⟩,
 ⟨some 5, none, .mov (.tmp 20)⟩,
 ⟨some 6, none, .mov (.tmp 22)⟩])
 (.seq
 (.ops [⟨some 23, none, .mov (.tmp 5)⟩,
 ⟨some 24, none, .bin .and (.tmp 23) (.const (.int .u8 (1)))⟩,
 ⟨some 25, none, .bin .neq (.tmp 24) (.const (.int .u8 (0)))⟩,
 ⟨some 26, none, .mov (.tmp 6)⟩,
 ⟨some 27, none, .cvInt .i64 (.tmp 26)⟩,
 ⟨some 28, none, .faddr 1 (.tmp 2)⟩,
 ⟨none, none, .store 1 (.tmp 28) (.tmp 25)⟩,
 ⟨some 29, none, .faddr 2 (.tmp 2)⟩,
 ⟨none, none, .store 1 (.tmp 29) (.tmp 27)⟩])
 (.seq
 (.seq
 (.ops [⟨some 30, none, .mov (.tmp 0)⟩,
 ⟨some 31, none, .lenS (.tmp 30)⟩])
 (.block 1
 (.seq
 (.ops [⟨some 34, none, .call 130 [(.const (.int .i64 (0)))]⟩,
 ⟨some 35, none, .bin .eql (.tmp 31) (.tmp 34)⟩,
 ⟨some 33, none, .mov (.tmp 35)⟩])
 (.cond (.tmp 33)
 (.seq
 (.ops [⟨some 36, none, .faddr 0 (.tmp 2)⟩,
 ⟨none, none, .store 1 (.tmp 36) (.const (.int .i64 (0)))⟩])
 (.seq
 (.ops [⟨some 37, none, .mov (.tmp 4)⟩,
 ⟨some 38, none, .call 135 [(.tmp 37)]⟩,
 ⟨some 39, none, .faddr 3 (.tmp 2)⟩,
 ⟨none, none, .store 1 (.tmp 39) (.tmp 38)⟩])
 (.ops [⟨some 40, none, .mov (.tmp 4)⟩,
 ⟨some 41, none, .call 135 [(.tmp 40)]⟩,
 ⟨some 42, none, .faddr 4 (.tmp 2)⟩,
 ⟨none, none, .store 1 (.tmp 42) (.tmp 41)⟩])))
 (.seq
 (.ops [⟨some 44, none, .call 130 [(.const (.int .i64 (1)))]⟩,
 ⟨some 45, none, .bin .eql (.tmp 31) (.tmp 44)⟩,
 ⟨some 43, none, .mov (.tmp 45)⟩])
 (.cond (.tmp 43)
 (.seq
 (.ops [⟨some 46, none, .faddr 0 (.tmp 2)⟩,
 ⟨none, none, .store 1 (.tmp 46) (.const (.int .i64 (1)))⟩])
 (.seq
 (.ops [⟨some 47, none, .mov (.tmp 4)⟩,
 ⟨some 48, none, .call 136 [(.tmp 47), (.const (.int .i64 (8)))]⟩,
 ⟨some 49, none, .faddr 5 (.tmp 2)⟩,
 ⟨none, none, .store 1 (.tmp 49) (.tmp 48)⟩])
 (.ops [⟨some 50, none, .mov (.tmp 4)⟩,
 ⟨some 51, none, .call 135 [(.tmp 50)]⟩,
 ⟨some 52, none, .faddr 4 (.tmp 2)⟩,
 ⟨none, none, .store 1 (.tmp 52) (.tmp 51)⟩])))
 (.seq
 (.ops [⟨some 54, none, .call 130 [(.const (.int .i64 (2)))]⟩,
 ⟨some 55, none, .bin .eql (.tmp 31) (.tmp 54)⟩,
 ⟨some 53, none, .mov (.tmp 55)⟩])
 (.cond (.tmp 53)
 (.seq
 (.ops [⟨some 56, none, .mov (.tmp 4)⟩,
 ⟨some 57, none, .call 136 [(.tmp 56), (.const (.int .i64 (20)))]⟩,
 ⟨some 58, none, .build [.int .i64 (0), .bool false, .int .i64 (0), .int .u32 (0), .int .u32 (0), .string ⟨⟨[]⟩⟩] [(0, 1, (.const (.int .i64 (2)))), (5, 1, (.tmp 57))]⟩,
 ⟨none, none, .store 6 (.tmp 2) (.tmp 58)⟩,
 ⟨some 3, none, .mov (.const (.int .i64 (0)))⟩])
 .ret)
 (.seq
 (.ops [⟨some 32, none, .build [.int .i64 (0), .bool false, .int .i64 (0), .int .u32 (0), .int .u32 (0), .string ⟨⟨[]⟩⟩] []⟩,
 ⟨none, none, .store 6 (.tmp 2) (.tmp 32)⟩,
 ⟨some 3, none, .mov (.const (.int .i64 (5)))⟩])
 .ret)))))))))
 (.seq
 (.ops [⟨some 59, none, .loadN 6 (.tmp 2)⟩,
 ⟨none, none, .store 6 (.tmp 2) (.tmp 59)⟩,
 ⟨some 3, none, .mov (.const (.int .i64 (0)))⟩])
 .ret)))))))⟩
theorem t79 : T 79 = some c79 := by kernel_rfl

def c83v : ACode :=
 (.seq
 (.seq
 (.ops [⟨some 118, none, .mov (.tmp 4)⟩,
 ⟨some 119, none, .nilchk (.tmp 118)⟩,
 ⟨some 120, none, .faddr 0 (.tmp 119)⟩,
 ⟨some 121, none, .load1 (.tmp 120)⟩,
 ⟨some 122, none, .call 141 [(.tmp 121)]⟩,
 ⟨some 8, none, .mov (.tmp 122)⟩])
 (.seq
 (.ops [⟨some 123, none, .mov (.tmp 8)⟩,
 ⟨some 124, none, .bin .neq (.tmp 123) (.const (.int .i64 (0)))⟩])
 (.cond (.tmp 124)
 (.seq
 (.ops [⟨some 125, none, .call 140 []⟩,
 ⟨some 126, none, .mov (.tmp 8)⟩,
 ⟨none, none, .store 11 (.tmp 2) (.tmp 125)⟩,
 ⟨some 3, none, .mov (.tmp 126)⟩])
 .ret)
 .skip)))
 (.seq
 (.ops [⟨some 127, none, .loadN 11 (.tmp 6)⟩,
 ⟨none, none, .store 11 (.tmp 2) (.tmp 127)⟩,
 ⟨some 3, none, .mov (.const (.int .i64 (0)))⟩])
 .ret))

def c83u : ACode :=
 (.seq
 (.seq
 (.ops [⟨some 72, none, .faddr 4 (.tmp 6)⟩,
 ⟨some 73, none, .load1 (.tmp 72)⟩])
 (.cond (.tmp 73)
 (.seq
 (.ops [⟨some 74, none, .mov (.tmp 5)⟩,
 ⟨some 75, none, .bin .and (.tmp 74) (.const (.int .u8 (8)))⟩,
 ⟨some 76, none, .bin .neq (.tmp 75) (.const (.int .u8 (0)))⟩,
 ⟨some 77, none, .mov (.tmp 5)⟩,
 ⟨some 78, none, .bin .and (.tmp 77) (.const (.int .u8 (16)))⟩,
 ⟨some 79, none, .bin .neq (.tmp 78) (.const (.int .u8 (0)))⟩,
 ⟨some 80, none, .faddr 5 (.tmp 6)⟩,
 ⟨none, none, .store 1 (.tmp 80) (.tmp 76)⟩,
 ⟨some 81, none, .faddr 0 (.tmp 6)⟩,
 ⟨none, none, .store 1 (.tmp 81) (.tmp 79)⟩])
 (.seq
 (.ops [⟨some 82, none, .mov (.tmp 4)⟩,
 ⟨some 83, none, .faddr 5 (.tmp 6)⟩,
 ⟨some 84, none, .load1 (.tmp 83)⟩,
 ⟨some 85, none, .nilchk (.tmp 82)⟩,
 ⟨some 86, none, .faddr 1 (.tmp 85)⟩,
 ⟨none, none, .store 1 (.tmp 86) (.tmp 84)⟩])
 (.seq
 (.ops [⟨some 87, none, .mov (.tmp 7)⟩,
 ⟨some 88, none, .callv (.tmp 87) []⟩,
 ⟨some 89, none, .faddr 6 (.tmp 6)⟩,
 ⟨none, none, .store 1 (.tmp 89) (.tmp 88)⟩])
 (.seq
 (.ops [⟨some 90, none, .mov (.tmp 4)⟩,
 ⟨some 91, none, .nilchk (.tmp 90)⟩,
 ⟨some 92, none, .faddr 0 (.tmp 91)⟩,
 ⟨some 93, none, .load1 (.tmp 92)⟩,
 ⟨some 94, none, .call 135 [(.tmp 93)]⟩,
 ⟨some 95, none, .faddr 7 (.tmp 6)⟩,
 ⟨none, none, .store 1 (.tmp 95) (.tmp 94)⟩])
 (.seq
 (.ops [⟨some 96, none, .mov (.tmp 4)⟩,
 ⟨some 97, none, .nilchk (.tmp 96)⟩,
 ⟨some 98, none, .faddr 0 (.tmp 97)⟩,
 ⟨some 99, none, .load1 (.tmp 98)⟩,
 ⟨some 100, none, .call 128 [(.tmp 99)]⟩,
 ⟨some 101, none, .cvInt .i64 (.tmp 100)⟩,
 ⟨some 102, none, .faddr 8 (.tmp 6)⟩,
 ⟨none, none, .store 1 (.tmp 102) (.tmp 101)⟩])
 (.seq
 (.ops [⟨some 103, none, .mov (.tmp 4)⟩,
 ⟨some 104, none, .nilchk (.tmp 103)⟩,
 ⟨some 105, none, .faddr 0 (.tmp 104)⟩,
 ⟨some 106, none, .load1 (.tmp 105)⟩,
 ⟨some 107, none, .call 143 [(.tmp 106)]⟩,
 ⟨some 108, none, .bin .eql (.tmp 107) (.const (.int .i64 (2)))⟩,
 ⟨some 109, none, .faddr 9 (.tmp 6)⟩,
 ⟨none, none, .store 1 (.tmp 109) (.tmp 108)⟩])
 (.seq
 (.ops [⟨some 110, none, .faddr 9 (.tmp 6)⟩,
 ⟨some 111, none, .load1 (.tmp 110)⟩])
 (.cond (.tmp 111)
 (.ops [⟨some 112, none, .mov (.tmp 4)⟩,
 ⟨some 113, none, .nilchk (.tmp 112)⟩,
 ⟨some 114, none, .faddr 0 (.tmp 113)⟩,
 ⟨some 115, none, .load1 (.tmp 114)⟩,
 ⟨some 116, none, .call 128 [(.tmp 115)]⟩,
 ⟨some 117, none, .faddr 10 (.tmp 6)⟩,
 ⟨none, none, .store 1 (.tmp 117) (.tmp 116)⟩])
 .skip))))))))
 .skip))
 c83v)

def c83t : ACode :=
 (.seq
 (.ops [⟨some 56, none, .mov (.tmp 4)⟩,
 ⟨some 57, none, .mkF 142 [(.tmp 56)] []⟩,
 ⟨some 7, none, .mov (.tmp 57)⟩])
 (.seq
 (.seq
 (.ops [⟨some 58, none, .faddr 1 (.tmp 6)⟩,
 ⟨some 59, none, .load1 (.tmp 58)⟩])
 (.cond (.tmp 59)
 (.seq
 (.ops [⟨some 60, none, .mov (.tmp 5)⟩,
 ⟨some 61, none, .bin .and (.tmp 60) (.const (.int .u8 (2)))⟩,
 ⟨some 62, none, .bin .neq (.tmp 61) (.const (.int .u8 (0)))⟩,
 ⟨some 63, none, .faddr 2 (.tmp 6)⟩,
 ⟨none, none, .store 1 (.tmp 63) (.tmp 62)⟩])
 (.seq
 (.ops [⟨some 64, none, .mov (.tmp 4)⟩,
 ⟨some 65, none, .faddr 2 (.tmp 6)⟩,
 ⟨some 66, none, .load1 (.tmp 65)⟩,
 ⟨some 67, none, .nilchk (.tmp 64)⟩,
 ⟨some 68, none, .faddr 1 (.tmp 67)⟩,
 ⟨none, none, .store 1 (.tmp 68) (.tmp 66)⟩])
 (.ops [⟨some 69, none, .mov (.tmp 7)⟩,
 ⟨some 70, none, .callv (.tmp 69) []⟩,
 ⟨some 71, none, .faddr 3 (.tmp 6)⟩,
 ⟨none, none, .store 1 (.tmp 71) (.tmp 70)⟩])))
 .skip))
 c83u))

/-- plait/dss.Decode -/
def c83 : AFunc := ⟨128, 1, [.inr (2, 11, true), .inl 3],
 (.seq
 (.ops [⟨some 2, none, .alloc 40 [.bool false, .bool false, .bool false, .int .u64 (0), .bool false, .bool false, .int .u64 (0), .int .u32 (0), .int .i64 (0), .bool false, .int .u16 (0)]⟩,
 ⟨some 3, none, .mov (.const (.int .i64 (0)))⟩])
 (.seq
 (.block 0
 (.seq
 (.ops [⟨some 10, none, .mov (.tmp 0)⟩,
 ⟨some 11, none, .bin .eql (.tmp 10) (.const (.string ⟨⟨[]⟩⟩))⟩,
 ⟨some 9, none, .mov (.tmp 11)⟩])
 (.cond (.tmp 9)
 (.seq
 (.ops [⟨some 12, none, .call 140 []⟩,
 ⟨none, none, .store 11 (.tmp 2) (.tmp 12)⟩,
 ⟨some 3, none, .mov (.const (.int .i64 (4)))⟩])
 .ret)
 (.seq
 (.ops [⟨some 14, none, .mov (.tmp 0)⟩,
 ⟨some 15, none, .idxS (.tmp 14) (.const (.int .i64 (0)))⟩,
 ⟨some 16, none, .bin .shr (.tmp 15) (.const (.int .u64 (4)))⟩,
 ⟨some 17, none, .bin .neq (.tmp 16) (.const (.int .u8 (2)))⟩,
 ⟨some 13, none, .mov (.tmp 17)⟩])
 (.cond (.tmp 13)
 (.seq
 (.ops [⟨some 18, none, .call 140 []⟩,
 ⟨none, none, .store 11 (.tmp 2) (.tmp 18)⟩,
 ⟨some 3, none, .mov (.const (.int .i64 (7)))⟩])
 .ret)
 .skip)))))
 (.seq
 (.ops [⟨some 19, none, .mov (.tmp 0)⟩,
 ⟨some 20, none, .call 124 [(.tmp 19)]⟩,
 ⟨some 21, none, .build [.pointer none, .bool false] [(0, 1, (.tmp 20))]⟩,
 ⟨some 22, none, .box 208 2 (.tmp 21)⟩,
 ⟨some 4, none, .mov (.tmp 22)⟩])
 (.seq
 (.ops [⟨some 23, none, .mov (.tmp 4)⟩,
 ⟨some 24, none, .nilchk (.tmp 23)⟩,
 ⟨some 25, none, .faddr 0 (.tmp 24)⟩,
 ⟨some 26, none, .load1 (.tmp 25)⟩,
 ⟨some 27, none, .call 129 [(.tmp 26)]⟩])
 (.seq
 (.ops [⟨some 28, none, .mov (.tmp 4)⟩,
 ⟨some 29, none, .nilchk (.tmp 28)⟩,
 ⟨some 30, none, .faddr 0 (.tmp 29)⟩,
 ⟨some 31, none, .load1 (.tmp 30)⟩,
 ⟨some 32, none, .call 129 [(.tmp 31)]⟩,
 ⟨some 5, none, .mov (.tmp 32)⟩])
 (.seq
 (.seq
 (.ops [⟨some 33, none, .mov (.tmp 4)⟩,
 ⟨some 34, none, .nilchk (.tmp 33)⟩,
 ⟨some 35, none, .faddr 0 (.tmp 34)⟩,
 ⟨some 36, none, .load1 (.tmp 35)⟩,
 ⟨some 37, none, .call 141 [(.tmp 36)]⟩,
 ⟨some 38, none, .bin .eql (.tmp 37) (.const (.int .i64 (4)))⟩])
 (.cond (.tmp 38)
 (.seq
 (.ops [⟨some 39, none, .call 140 []⟩,
 ⟨none, none, .store 11 (.tmp 2) (.tmp 39)⟩,
 ⟨some 3, none, .mov (.const (.int .i64 (4)))⟩])
 .ret)
 .skip))
 (.seq
 (.ops [⟨some 40, none, .mov (.tmp 5)⟩,
 ⟨some 41, none, .bin .and (.tmp 40) (.const (.int .u8 (1)))⟩,
 ⟨some 42, none, .bin .neq (.tmp 41) (.const (.int .u8 (0)))⟩,
 ⟨some 43, none, .mov (.tmp 5)⟩,
 ⟨some 44, none, .bin .and (.tmp 43) (.const (.int .u8 (4)))⟩,
 ⟨some 45, none, .bin .neq (.tmp 44) (.const (.int .u8 (0)))⟩,
 ⟨some 46, none, .build [.bool false, .bool false, .bool false, .int .u64 (0), .bool false, .bool false, .int .u64 (0), .int .u32 (0), .int .i64 (0), .bool false, .int .u16 (0)] [(1, 1, (.tmp 42)), (4, 1, (.tmp 45))]⟩,
 ⟨some 6, none, .alloc 40 [.bool false, .bool false, .bool false, .int .u64 (0), .bool false, .bool false, .int .u64 (0), .int .u32 (0), .int .i64 (0), .bool false, .int .u16 (0)]⟩,
 ⟨none, none, .store 11 (.tmp 6) (.tmp 46)⟩])
 (.seq
 (.seq
 (.ops [⟨some 47, none, .faddr 1 (.tmp 6)⟩,
 ⟨some 48, none, .load1 (.tmp 47)⟩,
 ⟨some 49, none, .un .not (.tmp 48)⟩,
 ⟨some 50, none, .mov (.tmp 49)⟩,
 ⟨some 51, some (50, true), .faddr 4 (.tmp 6)⟩,
 ⟨some 52, some (50, true), .load1 (.tmp 51)⟩,
 ⟨some 53, some (50, true), .un .not (.tmp 52)⟩,
 ⟨some 54, none, .pick (.tmp 50) (.tmp 53) (.const (.bool false))⟩])
 (.cond (.tmp 54)
 (.seq
 (.ops [⟨some 55, none, .call 140 []⟩,
 ⟨none, none, .store 11 (.tmp 2) (.tmp 55)⟩,
 ⟨some 3, none, .mov (.const (.int .i64 (5)))⟩])
 .ret)
 .skip))
 c83t))))))))⟩
theorem t83 : T 83 = some c83 := by kernel_rfl

/-- plait/dss.none -/
def c140 : AFunc := ⟨2, 0, [.inr (0, 11, true)],
 (.seq
 (.ops [⟨some 0, none, .alloc 40 [.bool false, .bool false, .bool false, .int .u64 (0), .bool false, .bool false, .int .u64 (0), .int .u32 (0), .int .i64 (0), .bool false, .int .u16 (0)]⟩])
 (.seq
 (.ops [⟨some 1, none, .build [.bool false, .bool false, .bool false, .int .u64 (0), .bool false, .bool false, .int .u64 (0), .int .u32 (0), .int .i64 (0), .bool false, .int .u16 (0)] []⟩,
 ⟨none, none, .store 11 (.tmp 0) (.tmp 1)⟩])
 .ret))⟩
theorem t140 : T 140 = some c140 := by kernel_rfl

/-- (*plait/dss.reader).number -/
def c142 : AFunc := ⟨18, 1, [.inl 2],
 (.seq
 (.ops [⟨some 2, none, .mov (.const (.int .u64 (0)))⟩])
 (.seq
 (.seq
 (.ops [⟨some 3, none, .mov (.tmp 0)⟩,
 ⟨some 4, none, .nilchk (.tmp 3)⟩,
 ⟨some 5, none, .faddr 1 (.tmp 4)⟩,
 ⟨some 6, none, .load1 (.tmp 5)⟩])
 (.cond (.tmp 6)
 (.seq
 (.ops [⟨some 7, none, .mov (.tmp 0)⟩,
 ⟨some 8, none, .nilchk (.tmp 7)⟩,
 ⟨some 9, none, .faddr 0 (.tmp 8)⟩,
 ⟨some 10, none, .load1 (.tmp 9)⟩,
 ⟨some 11, none, .call 126 [(.tmp 10)]⟩,
 ⟨some 2, none, .mov (.tmp 11)⟩])
 .ret)
 .skip))
 (.seq
 (.ops [⟨some 12, none, .mov (.tmp 0)⟩,
 ⟨some 13, none, .nilchk (.tmp 12)⟩,
 ⟨some 14, none, .faddr 0 (.tmp 13)⟩,
 ⟨some 15, none, .load1 (.tmp 14)⟩,
 ⟨some 16, none, .call 135 [(.tmp 15)]⟩,
 ⟨some 17, none, .cvInt .u64 (.tmp 16)⟩,
 ⟨some 2, none, .mov (.tmp 17)⟩])
 .ret)))⟩
theorem t142 : T 142 = some c142 := by kernel_rfl

def c87t : ACode :=
 (.seq
 (.ops [⟨some 33, none, .mov (.tmp 0)⟩,
 ⟨some 34, none, .call 124 [(.tmp 33)]⟩,
 ⟨some 8, none, .alloc 193 [.pointer none]⟩,
 ⟨none, none, .store 1 (.tmp 8) (.tmp 34)⟩])
 (.seq
 (.ops [⟨some 35, none, .load1 (.tmp 8)⟩,
 ⟨some 36, none, .call 129 [(.tmp 35)]⟩])
 (.seq
 (.ops [⟨some 37, none, .mov (.tmp 5)⟩,
 ⟨some 38, none, .bin .eql (.tmp 37) (.const (.int .i64 (0)))⟩,
 ⟨some 39, none, .faddr 0 (.tmp 2)⟩,
 ⟨none, none, .store 1 (.tmp 39) (.tmp 38)⟩])
 (.seq
 (.ops [⟨some 40, none, .load1 (.tmp 8)⟩,
 ⟨some 41, none, .call 129 [(.tmp 40)]⟩,
 ⟨some 42, none, .cvInt .i64 (.tmp 41)⟩,
 ⟨some 43, none, .faddr 1 (.tmp 2)⟩,
 ⟨none, none, .store 1 (.tmp 43) (.tmp 42)⟩])
 (.seq
 (.ops [⟨some 44, none, .mkF 148 [] [(.tmp 8)]⟩,
 ⟨some 9, none, .mov (.tmp 44)⟩])
 (.seq
 (.ops [⟨some 45, none, .mov (.tmp 9)⟩,
 ⟨some 46, none, .faddr 0 (.tmp 6)⟩,
 ⟨some 47, none, .load1 (.tmp 46)⟩,
 ⟨some 48, none, .callv (.tmp 45) [(.tmp 47)]⟩,
 ⟨some 49, none, .faddr 2 (.tmp 2)⟩,
 ⟨none, none, .store 1 (.tmp 49) (.tmp 48)⟩])
 (.seq
 (.seq
 (.ops [⟨some 50, none, .faddr 1 (.tmp 6)⟩,
 ⟨some 51, none, .load1 (.tmp 50)⟩,
 ⟨some 52, none, .bin .gtr (.tmp 51) (.const (.int .i64 (0)))⟩,
 ⟨some 53, none, .faddr 3 (.tmp 2)⟩,
 ⟨none, none, .store 1 (.tmp 53) (.tmp 52)⟩])
 (.seq
 (.ops [⟨some 54, none, .faddr 3 (.tmp 2)⟩,
 ⟨some 55, none, .load1 (.tmp 54)⟩])
 (.cond (.tmp 55)
 (.ops [⟨some 56, none, .load1 (.tmp 8)⟩,
 ⟨some 57, none, .call 128 [(.tmp 56)]⟩,
 ⟨some 58, none, .cvInt .i64 (.tmp 57)⟩,
 ⟨some 59, none, .faddr 4 (.tmp 2)⟩,
 ⟨none, none, .store 1 (.tmp 59) (.tmp 58)⟩])
 .skip)))
 (.seq
 (.ops [⟨some 60, none, .mov (.tmp 9)⟩,
 ⟨some 61, none, .mov (.tmp 5)⟩,
 ⟨some 62, none, .callv (.tmp 60) [(.tmp 61)]⟩,
 ⟨some 63, none, .faddr 5 (.tmp 2)⟩,
 ⟨none, none, .store 1 (.tmp 63) (.tmp 62)⟩])
 (.seq
 (.ops [⟨some 64, none, .loadN 6 (.tmp 2)⟩,
 ⟨none, none, .store 6 (.tmp 2) (.tmp 64)⟩,
 ⟨some 3, none, .mov (.const (.int .i64 (0)))⟩])
 .ret)))))))))

def c87u : ACode :=
 (.seq
 (.ops [⟨some 21, none, .call 147 []⟩,
 ⟨some 22, none, .mov (.tmp 0)⟩,
 ⟨some 23, none, .lenS (.tmp 22)⟩,
 ⟨some 24, none, .bin .sub (.tmp 23) (.const (.int .i64 (2)))⟩,
 ⟨some 25, none, .mov (.tmp 5)⟩,
 ⟨some 26, none, .bin .sub (.tmp 24) (.tmp 25)⟩,
 ⟨some 27, none, .mapGet .i64 true (.agg ⟨[.int .i64 (0), .int .i64 (0)]⟩) (.tmp 21) (.tmp 26)⟩,
 ⟨some 20, none, .mov (.tmp 27)⟩,
 ⟨some 28, none, .ext (.tmp 20) 0⟩,
 ⟨some 29, none, .ext (.tmp 20) 1⟩,
 ⟨some 6, none, .alloc 214 [.int .i64 (0), .int .i64 (0)]⟩,
 ⟨none, none, .store 2 (.tmp 6) (.tmp 28)⟩,
 ⟨some 7, none, .mov (.tmp 29)⟩])
 (.seq
 (.seq
 (.ops [⟨some 30, none, .mov (.tmp 7)⟩,
 ⟨some 31, none, .un .not (.tmp 30)⟩])
 (.cond (.tmp 31)
 (.seq
 (.ops [⟨some 32, none, .loadN 6 (.tmp 2)⟩,
 ⟨none, none, .store 6 (.tmp 2) (.tmp 32)⟩,
 ⟨some 3, none, .mov (.const (.int .i64 (5)))⟩])
 .ret)
 .skip))
 c87t))

/-- plait/addr.DecodeAdd -/
def c87 : AFunc := ⟨65, 1, [.inr (2, 6, true), .inl 3],
 (.seq
 (.ops [⟨some 2, none, .alloc 42 [.bool false, .int .i64 (0), .string ⟨⟨[]⟩⟩, .bool false, .int .i64 (0), .string ⟨⟨[]⟩⟩]⟩,
 ⟨some 3, none, .mov (.const (.int .i64 (0)))⟩])
 (.seq
 (.seq
 (.ops [⟨some 10, none, .mov (.tmp 0)⟩,
 ⟨some 11, none, .call 146 [(.tmp 10), (.const (.int .u8 (3)))]⟩,
 ⟨some 4, none, .mov (.tmp 11)⟩])
 (.seq
 (.ops [⟨some 12, none, .mov (.tmp 4)⟩,
 ⟨some 13, none, .bin .neq (.tmp 12) (.const (.int .i64 (0)))⟩])
 (.cond (.tmp 13)
 (.seq
 (.ops [⟨some 14, none, .loadN 6 (.tmp 2)⟩,
 ⟨some 15, none, .mov (.tmp 4)⟩,
 ⟨none, none, .store 6 (.tmp 2) (.tmp 14)⟩,
 ⟨some 3, none, .mov (.tmp 15)⟩])
 .ret)
 .skip)))
 (.seq
 (.ops [⟨some 5, none, .mov (.const (.int .i64 (8)))⟩])
 (.seq
 (.seq
 (.ops [⟨some 16, none, .mov (.tmp 0)⟩,
 ⟨some 17, none, .idxS (.tmp 16) (.const (.int .i64 (0)))⟩,
 ⟨some 18, none, .bin .and (.tmp 17) (.const (.int .u8 (1)))⟩,
 ⟨some 19, none, .bin .neq (.tmp 18) (.const (.int .u8 (0)))⟩])
 (.cond (.tmp 19)
 (.ops [⟨some 5, none, .mov (.const (.int .i64 (0)))⟩])
 .skip))
 c87u))))⟩
theorem t87 : T 87 = some c87 := by kernel_rfl

/-- plait/addr.DecodeRemove -/
def c91 : AFunc := ⟨25, 1, [.inr (2, 1, true), .inl 3],
 (.seq
 (.ops [⟨some 2, none, .alloc 44 [.string ⟨⟨[]⟩⟩]⟩,
 ⟨some 3, none, .mov (.const (.int .i64 (0)))⟩])
 (.seq
 (.ops [⟨some 5, none, .mov (.tmp 0)⟩,
 ⟨some 6, none, .call 146 [(.tmp 5), (.const (.int .u8 (4)))]⟩,
 ⟨some 4, none, .mov (.tmp 6)⟩])
 (.seq
 (.block 0
 (.seq
 (.ops [⟨some 8, none, .mov (.tmp 4)⟩,
 ⟨some 9, none, .bin .neq (.tmp 8) (.const (.int .i64 (0)))⟩,
 ⟨some 7, none, .mov (.tmp 9)⟩])
 (.cond (.tmp 7)
 (.seq
 (.ops [⟨some 10, none, .build [.string ⟨⟨[]⟩⟩] []⟩,
 ⟨some 11, none, .mov (.tmp 4)⟩,
 ⟨none, none, .store 1 (.tmp 2) (.tmp 10)⟩,
 ⟨some 3, none, .mov (.tmp 11)⟩])
 .ret)
 (.seq
 (.ops [⟨some 13, none, .mov (.tmp 0)⟩,
 ⟨some 14, none, .lenS (.tmp 13)⟩,
 ⟨some 15, none, .bin .lss (.tmp 14) (.const (.int .i64 (2)))⟩,
 ⟨some 16, none, .mov (.tmp 15)⟩,
 ⟨some 17, some (16, false), .mov (.tmp 0)⟩,
 ⟨some 18, some (16, false), .lenS (.tmp 17)⟩,
 ⟨some 19, some (16, false), .bin .gtr (.tmp 18) (.const (.int .i64 (38)))⟩,
 ⟨some 20, none, .pick (.tmp 16) (.const (.bool true)) (.tmp 19)⟩,
 ⟨some 12, none, .mov (.tmp 20)⟩])
 (.cond (.tmp 12)
 (.seq
 (.ops [⟨some 21, none, .build [.string ⟨⟨[]⟩⟩] []⟩,
 ⟨none, none, .store 1 (.tmp 2) (.tmp 21)⟩,
 ⟨some 3, none, .mov (.const (.int .i64 (5)))⟩])
 .ret)
 .skip)))))
 (.seq
 (.ops [⟨some 22, none, .mov (.tmp 0)⟩,
 ⟨some 23, none, .sliceS (.tmp 22) (some (.const (.int .i64 (1)))) none⟩,
 ⟨some 24, none, .build [.string ⟨⟨[]⟩⟩] [(0, 1, (.tmp 23))]⟩,
 ⟨none, none, .store 1 (.tmp 2) (.tmp 24)⟩,
 ⟨some 3, none, .mov (.const (.int .i64 (0)))⟩])
 .ret))))⟩
theorem t91 : T 91 = some c91 := by kernel_rfl

/-- plait/addr.begins -/
def c146 : AFunc := ⟨14, 2, [.inl 4],
 (.seq
 (.ops [⟨some 4, none, .mov (.const (.int .i64 (0)))⟩])
 (.seq
 (.block 0
 (.seq
 (.ops [⟨some 6, none, .mov (.tmp 0)⟩,
 ⟨some 7, none, .bin .eql (.tmp 6) (.const (.string ⟨⟨[]⟩⟩))⟩,
 ⟨some 5, none, .mov (.tmp 7)⟩])
 (.cond (.tmp 5)
 (.seq
 (.ops [⟨some 4, none, .mov (.const (.int .i64 (4)))⟩])
 .ret)
 (.seq
 (.ops [⟨some 9, none, .mov (.tmp 0)⟩,
 ⟨some 10, none, .idxS (.tmp 9) (.const (.int .i64 (0)))⟩,
 ⟨some 11, none, .bin .shr (.tmp 10) (.const (.int .u64 (4)))⟩,
 ⟨some 12, none, .mov (.tmp 1)⟩,
 ⟨some 13, none, .bin .neq (.tmp 11) (.tmp 12)⟩,
 ⟨some 8, none, .mov (.tmp 13)⟩])
 (.cond (.tmp 8)
 (.seq
 (.ops [⟨some 4, none, .mov (.const (.int .i64 (7)))⟩])
 .ret)
 .skip)))))
 (.seq
 (.ops [⟨some 4, none, .mov (.const (.int .i64 (0)))⟩])
 .ret)))⟩
theorem t146 : T 146 = some c146 := by kernel_rfl

/-- plait/addr.DecodeAdd$1 -/
def c148 : AFunc := ⟨7, 2, [.inl 3],
 (.seq
 (.ops [⟨some 3, none, .mov (.const (.string ⟨⟨[]⟩⟩))⟩])
 (.seq
 (.ops [⟨some 4, none, .load1 (.tmp 1)⟩,
 ⟨some 5, none, .mov (.tmp 0)⟩,
 ⟨some 6, none, .call 136 [(.tmp 4), (.tmp 5)]⟩,
 ⟨some 3, none, .mov (.tmp 6)⟩])
 .ret))⟩
theorem t148 : T 148 = some c148 := by kernel_rfl

/-- plait/ctrl.DecodePrio -/
def c95 : AFunc := ⟨8, 1, [.inr (2, 1, true), .inl 3],
 (.seq
 (.ops [⟨some 2, none, .alloc 46 [.bool false]⟩,
 ⟨some 3, none, .mov (.const (.int .i64 (0)))⟩])
 (.seq
 (.ops [⟨some 4, none, .mov (.tmp 0)⟩,
 ⟨some 5, none, .call 149 [(.tmp 4), (.const (.int .i64 (5))), (.func 150)]⟩,
 ⟨some 6, none, .ext (.tmp 5) 0⟩,
 ⟨some 7, none, .ext (.tmp 5) 1⟩,
 ⟨none, none, .store 1 (.tmp 2) (.tmp 6)⟩,
 ⟨some 3, none, .mov (.tmp 7)⟩])
 .ret))⟩
theorem t95 : T 95 = some c95 := by kernel_rfl

/-- plait/ctrl.DecodeFail -/
def c99 : AFunc := ⟨8, 1, [.inr (2, 1, true), .inl 3],
 (.seq
 (.ops [⟨some 2, none, .alloc 48 [.int .u64 (0)]⟩,
 ⟨some 3, none, .mov (.const (.int .i64 (0)))⟩])
 (.seq
 (.ops [⟨some 4, none, .mov (.tmp 0)⟩,
 ⟨some 5, none, .call 152 [(.tmp 4), (.const (.int .i64 (6))), (.func 153)]⟩,
 ⟨some 6, none, .ext (.tmp 5) 0⟩,
 ⟨some 7, none, .ext (.tmp 5) 1⟩,
 ⟨none, none, .store 1 (.tmp 2) (.tmp 6)⟩,
 ⟨some 3, none, .mov (.tmp 7)⟩])
 .ret))⟩
theorem t99 : T 99 = some c99 := by kernel_rfl

/-- plait/ctrl.DecodeFast -/
def c103 : AFunc := ⟨8, 1, [.inr (2, 1, true), .inl 3],
 (.seq
 (.ops [⟨some 2, none, .alloc 50 [.int .u64 (0)]⟩,
 ⟨some 3, none, .mov (.const (.int .i64 (0)))⟩])
 (.seq
 (.ops [⟨some 4, none, .mov (.tmp 0)⟩,
 ⟨some 5, none, .call 154 [(.tmp 4), (.const (.int .i64 (7))), (.func 155)]⟩,
 ⟨some 6, none, .ext (.tmp 5) 0⟩,
 ⟨some 7, none, .ext (.tmp 5) 1⟩,
 ⟨none, none, .store 1 (.tmp 2) (.tmp 6)⟩,
 ⟨some 3, none, .mov (.tmp 7)⟩])
 .ret))⟩
theorem t103 : T 103 = some c103 := by kernel_rfl

/-- plait/ctrl.DecodeRst -/
def c107 : AFunc := ⟨8, 1, [.inr (2, 2, true), .inl 3],
 (.seq
 (.ops [⟨some 2, none, .alloc 52 [.int .i64 (0), .int .i64 (0)]⟩,
 ⟨some 3, none, .mov (.const (.int .i64 (0)))⟩])
 (.seq
 (.ops [⟨some 4, none, .mov (.tmp 0)⟩,
 ⟨some 5, none, .call 156 [(.tmp 4), (.const (.int .i64 (8))), (.func 157)]⟩,
 ⟨some 6, none, .ext (.tmp 5) 0⟩,
 ⟨some 7, none, .ext (.tmp 5) 1⟩,
 ⟨none, none, .store 2 (.tmp 2) (.tmp 6)⟩,
 ⟨some 3, none, .mov (.tmp 7)⟩])
 .ret))⟩
theorem t107 : T 107 = some c107 := by kernel_rfl

/-- plait/ctrl.DecodePrio$1 -/
def c150 : AFunc := ⟨9, 2, [.inr (4, 1, true)],
 (.seq
 (.ops [⟨some 4, none, .alloc 46 [.bool false]⟩])
 (.seq
 (.ops [⟨some 5, none, .mov (.tmp 0)⟩,
 ⟨some 6, none, .bin .and (.tmp 5) (.const (.int .u8 (1)))⟩,
 ⟨some 7, none, .bin .neq (.tmp 6) (.const (.int .u8 (0)))⟩,
 ⟨some 8, none, .build [.bool false] [(0, 1, (.tmp 7))]⟩,
 ⟨none, none, .store 1 (.tmp 4) (.tmp 8)⟩])
 .ret))⟩
theorem t150 : T 150 = some c150 := by kernel_rfl

/-- plait/ctrl.DecodeFail$1 -/
def c153 : AFunc := ⟨10, 2, [.inr (4, 1, true)],
 (.seq
 (.ops [⟨some 4, none, .alloc 48 [.int .u64 (0)]⟩])
 (.seq
 (.ops [⟨some 5, none, .mov (.tmp 1)⟩,
 ⟨some 6, none, .call 129 [(.tmp 5)]⟩])
 (.seq
 (.ops [⟨some 7, none, .mov (.tmp 1)⟩,
 ⟨some 8, none, .call 126 [(.tmp 7)]⟩,
 ⟨some 9, none, .build [.int .u64 (0)] [(0, 1, (.tmp 8))]⟩,
 ⟨none, none, .store 1 (.tmp 4) (.tmp 9)⟩])
 .ret)))⟩
theorem t153 : T 153 = some c153 := by kernel_rfl

/-- plait/ctrl.DecodeFast$1 -/
def c155 : AFunc := ⟨10, 2, [.inr (4, 1, true)],
 (.seq
 (.ops [⟨some 4, none, .alloc 50 [.int .u64 (0)]⟩])
 (.seq
 (.ops [⟨some 5, none, .mov (.tmp 1)⟩,
 ⟨some 6, none, .call 129 [(.tmp 5)]⟩])
 (.seq
 (.ops [⟨some 7, none, .mov (.tmp 1)⟩,
 ⟨some 8, none, .call 126 [(.tmp 7)]⟩,
 ⟨some 9, none, .build [.int .u64 (0)] [(0, 1, (.tmp 8))]⟩,
 ⟨none, none, .store 1 (.tmp 4) (.tmp 9)⟩])
 .ret)))⟩
theorem t155 : T 155 = some c155 := by kernel_rfl

/-- plait/ctrl.DecodeRst$1 -/
def c157 : AFunc := ⟨11, 2, [.inr (4, 2, true)],
 (.seq
 (.ops [⟨some 4, none, .alloc 52 [.int .i64 (0), .int .i64 (0)]⟩])
 (.seq
 (.ops [⟨some 5, none, .mov (.tmp 0)⟩,
 ⟨some 6, none, .cvInt .i64 (.tmp 5)⟩,
 ⟨some 7, none, .mov (.tmp 1)⟩,
 ⟨some 8, none, .call 129 [(.tmp 7)]⟩,
 ⟨some 9, none, .cvInt .i64 (.tmp 8)⟩,
 ⟨some 10, none, .build [.int .i64 (0), .int .i64 (0)] [(0, 1, (.tmp 6)), (1, 1, (.tmp 9))]⟩,
 ⟨none, none, .store 2 (.tmp 4) (.tmp 10)⟩])
 .ret))⟩
theorem t157 : T 157 = some c157 := by kernel_rfl

end Go.Proofs.YtigknpfjhegkgaaGreatDoor

