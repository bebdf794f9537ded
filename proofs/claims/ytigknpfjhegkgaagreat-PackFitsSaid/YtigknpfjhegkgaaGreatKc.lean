/- The code of functions, as the framework reads it. -/
import Derived.Test.YtigknpfjhegkgaaGreatZo
import Derived.KernelRfl
namespace Go.Proofs.YtigknpfjhegkgaaGreat
open Go Go.AS
set_option maxRecDepth 100000

/-- plait/plaitref14.Encode -/
def c20 : AFunc := ⟨22, 1, [.inr (2, 2, true), .inl 3],
 (.seq
 (.ops [⟨some 1, none, .box 46 38 (.tmp 0)⟩,
 ⟨some 2, none, .alloc 62 [.int .i64 (0), .string ⟨⟨[]⟩⟩]⟩,
 ⟨some 3, none, .mov (.const (.int .i64 (0)))⟩])
 (.seq
 (.ops [⟨some 7, none, .loadN 38 (.tmp 1)⟩,
 ⟨some 8, none, .call 27 [(.tmp 7)]⟩,
 ⟨some 6, none, .mov (.tmp 8)⟩,
 ⟨some 9, none, .ext (.tmp 6) 0⟩,
 ⟨some 10, none, .ext (.tmp 6) 1⟩,
 ⟨some 4, none, .mov (.tmp 9)⟩,
 ⟨some 5, none, .mov (.tmp 10)⟩])
 (.seq
 (.seq
 (.opsD [⟨some 11, none, .mov (.tmp 5)⟩,
 ⟨some 12, none, .bin .neq (.tmp 11) (.const (.int .i64 (0)))⟩,
 ⟨some 13, none, .mov (.tmp 12)⟩,
 ⟨some 14, some (13, false), .loadN 38 (.tmp 1)⟩,
 ⟨some 15, some (13, false), .call 28 [(.tmp 14)]⟩,
 ⟨some 16, some (13, false), .loadN 38 (.tmp 1)⟩,
 ⟨some 17, some (13, false), .eqF true opL (.tmp 15) (.tmp 16)⟩,
 ⟨some 18, none, .pick (.tmp 13) (.const (.bool true)) (.tmp 17)⟩] [(5, 4), (5, 5)])
 (.cond (.tmp 18)
 (.seq
 (.ops [⟨some 19, none, .build [.int .i64 (0), .string ⟨⟨[]⟩⟩] []⟩,
 ⟨none, none, .store 2 (.tmp 2) (.tmp 19)⟩,
 ⟨some 3, none, .mov (.const (.int .i64 (2)))⟩])
 .ret)
 .skip))
 (.seq
 (.ops [⟨some 20, none, .mov (.tmp 4)⟩,
 ⟨some 21, none, .build [.int .i64 (0), .string ⟨⟨[]⟩⟩] [(0, 1, (.const (.int .i64 (30)))), (1, 1, (.tmp 20))]⟩,
 ⟨none, none, .store 2 (.tmp 2) (.tmp 21)⟩,
 ⟨some 3, none, .mov (.const (.int .i64 (0)))⟩])
 .ret))))⟩
theorem t20 : T 20 = some c20 := by kernel_rfl

/-- plait/plaitref14.body -/
def c27 : AFunc := ⟨63, 1, [.inl 2, .inl 3],
 (.seq
 (.ops [⟨some 1, none, .box 46 38 (.tmp 0)⟩,
 ⟨some 2, none, .mov (.const (.string ⟨⟨[]⟩⟩))⟩,
 ⟨some 3, none, .mov (.const (.int .i64 (0)))⟩])
 (.seq
 (.seq
 (.ops [⟨some 4, none, .faddr 0 (.tmp 1)⟩,
 ⟨some 5, none, .load1 (.tmp 4)⟩])
 (.block 0
 (.seq
 (.ops [⟨some 7, none, .bin .eql (.tmp 5) (.const (.int .i64 (0)))⟩,
 ⟨some 6, none, .mov (.tmp 7)⟩])
 (.cond (.tmp 6)
 (.seq
 (.ops [⟨some 8, none, .faddr 1 (.tmp 1)⟩,
 ⟨some 9, none, .loadN 8 (.tmp 8)⟩,
 ⟨some 10, none, .call 68 [(.tmp 9)]⟩,
 ⟨some 11, none, .ext (.tmp 10) 0⟩,
 ⟨some 12, none, .ext (.tmp 10) 1⟩,
 ⟨some 2, none, .mov (.tmp 11)⟩,
 ⟨some 3, none, .mov (.tmp 12)⟩])
 .ret)
 (.seq
 (.ops [⟨some 14, none, .bin .eql (.tmp 5) (.const (.int .i64 (1)))⟩,
 ⟨some 13, none, .mov (.tmp 14)⟩])
 (.cond (.tmp 13)
 (.seq
 (.ops [⟨some 15, none, .faddr 9 (.tmp 1)⟩,
 ⟨some 16, none, .loadN 6 (.tmp 15)⟩,
 ⟨some 17, none, .call 69 [(.tmp 16)]⟩,
 ⟨some 18, none, .ext (.tmp 17) 0⟩,
 ⟨some 19, none, .ext (.tmp 17) 1⟩,
 ⟨some 2, none, .mov (.tmp 18)⟩,
 ⟨some 3, none, .mov (.tmp 19)⟩])
 .ret)
 (.seq
 (.ops [⟨some 21, none, .bin .eql (.tmp 5) (.const (.int .i64 (2)))⟩,
 ⟨some 20, none, .mov (.tmp 21)⟩])
 (.cond (.tmp 20)
 (.seq
 (.ops [⟨some 22, none, .faddr 15 (.tmp 1)⟩,
 ⟨some 23, none, .loadN 11 (.tmp 22)⟩,
 ⟨some 24, none, .call 70 [(.tmp 23)]⟩,
 ⟨some 25, none, .ext (.tmp 24) 0⟩,
 ⟨some 26, none, .ext (.tmp 24) 1⟩,
 ⟨some 2, none, .mov (.tmp 25)⟩,
 ⟨some 3, none, .mov (.tmp 26)⟩])
 .ret)
 (.seq
 (.ops [⟨some 28, none, .bin .eql (.tmp 5) (.const (.int .i64 (3)))⟩,
 ⟨some 27, none, .mov (.tmp 28)⟩])
 (.cond (.tmp 27)
 (.seq
 (.ops [⟨some 29, none, .faddr 26 (.tmp 1)⟩,
 ⟨some 30, none, .loadN 6 (.tmp 29)⟩,
 ⟨some 31, none, .call 71 [(.tmp 30)]⟩,
 ⟨some 32, none, .ext (.tmp 31) 0⟩,
 ⟨some 33, none, .ext (.tmp 31) 1⟩,
 ⟨some 2, none, .mov (.tmp 32)⟩,
 ⟨some 3, none, .mov (.tmp 33)⟩])
 .ret)
 (.seq
 (.ops [⟨some 35, none, .bin .eql (.tmp 5) (.const (.int .i64 (4)))⟩,
 ⟨some 34, none, .mov (.tmp 35)⟩])
 (.cond (.tmp 34)
 (.seq
 (.ops [⟨some 36, none, .faddr 32 (.tmp 1)⟩,
 ⟨some 37, none, .loadN 1 (.tmp 36)⟩,
 ⟨some 38, none, .call 72 [(.tmp 37)]⟩,
 ⟨some 39, none, .ext (.tmp 38) 0⟩,
 ⟨some 40, none, .ext (.tmp 38) 1⟩,
 ⟨some 2, none, .mov (.tmp 39)⟩,
 ⟨some 3, none, .mov (.tmp 40)⟩])
 .ret)
 (.seq
 (.ops [⟨some 42, none, .bin .eql (.tmp 5) (.const (.int .i64 (5)))⟩,
 ⟨some 41, none, .mov (.tmp 42)⟩])
 (.cond (.tmp 41)
 (.seq
 (.ops [⟨some 43, none, .faddr 33 (.tmp 1)⟩,
 ⟨some 44, none, .loadN 1 (.tmp 43)⟩,
 ⟨some 45, none, .call 73 [(.tmp 44)]⟩,
 ⟨some 2, none, .mov (.tmp 45)⟩,
 ⟨some 3, none, .mov (.const (.int .i64 (0)))⟩])
 .ret)
 (.seq
 (.ops [⟨some 47, none, .bin .eql (.tmp 5) (.const (.int .i64 (6)))⟩,
 ⟨some 46, none, .mov (.tmp 47)⟩])
 (.cond (.tmp 46)
 (.seq
 (.ops [⟨some 48, none, .faddr 34 (.tmp 1)⟩,
 ⟨some 49, none, .loadN 1 (.tmp 48)⟩,
 ⟨some 50, none, .call 74 [(.tmp 49)]⟩,
 ⟨some 2, none, .mov (.tmp 50)⟩,
 ⟨some 3, none, .mov (.const (.int .i64 (0)))⟩])
 .ret)
 (.seq
 (.ops [⟨some 52, none, .bin .eql (.tmp 5) (.const (.int .i64 (7)))⟩,
 ⟨some 51, none, .mov (.tmp 52)⟩])
 (.cond (.tmp 51)
 (.seq
 (.ops [⟨some 53, none, .faddr 35 (.tmp 1)⟩,
 ⟨some 54, none, .loadN 1 (.tmp 53)⟩,
 ⟨some 55, none, .call 75 [(.tmp 54)]⟩,
 ⟨some 2, none, .mov (.tmp 55)⟩,
 ⟨some 3, none, .mov (.const (.int .i64 (0)))⟩])
 .ret)
 (.seq
 (.ops [⟨some 57, none, .bin .eql (.tmp 5) (.const (.int .i64 (8)))⟩,
 ⟨some 56, none, .mov (.tmp 57)⟩])
 (.cond (.tmp 56)
 (.seq
 (.ops [⟨some 58, none, .faddr 36 (.tmp 1)⟩,
 ⟨some 59, none, .loadN 2 (.tmp 58)⟩,
 ⟨some 60, none, .call 76 [(.tmp 59)]⟩,
 ⟨some 61, none, .ext (.tmp 60) 0⟩,
 ⟨some 62, none, .ext (.tmp 60) 1⟩,
 ⟨some 2, none, .mov (.tmp 61)⟩,
 ⟨some 3, none, .mov (.tmp 62)⟩])
 .ret)
 .skip))))))))))))))))))))
 (.seq
 (.ops [⟨some 2, none, .mov (.const (.string ⟨⟨[]⟩⟩))⟩,
 ⟨some 3, none, .mov (.const (.int .i64 (2)))⟩])
 .ret)))⟩
theorem t27 : T 27 = some c27 := by kernel_rfl

/-- plait/plaitref14.Has -/
def c28 : AFunc := ⟨55, 1, [.inr (2, 38, true)],
 (.seq
 (.ops [⟨some 1, none, .box 46 38 (.tmp 0)⟩,
 ⟨some 2, none, .alloc 46 opZ⟩])
 (.seq
 (.ops [⟨some 4, none, .faddr 0 (.tmp 1)⟩,
 ⟨some 5, none, .load1 (.tmp 4)⟩,
 ⟨some 6, none, .build opZ [(0, 1, (.tmp 5))]⟩,
 ⟨some 3, none, .alloc 46 opZ⟩,
 ⟨none, none, .store 38 (.tmp 3) (.tmp 6)⟩])
 (.seq
 (.seq
 (.ops [⟨some 7, none, .faddr 0 (.tmp 1)⟩,
 ⟨some 8, none, .load1 (.tmp 7)⟩])
 (.block 0
 (.seq
 (.ops [⟨some 10, none, .bin .eql (.tmp 8) (.const (.int .i64 (0)))⟩,
 ⟨some 9, none, .mov (.tmp 10)⟩])
 (.cond (.tmp 9)
 (.ops [⟨some 11, none, .faddr 1 (.tmp 1)⟩,
 ⟨some 12, none, .loadN 8 (.tmp 11)⟩,
 ⟨some 13, none, .faddr 1 (.tmp 3)⟩,
 ⟨none, none, .store 8 (.tmp 13) (.tmp 12)⟩])
 (.seq
 (.ops [⟨some 15, none, .bin .eql (.tmp 8) (.const (.int .i64 (1)))⟩,
 ⟨some 14, none, .mov (.tmp 15)⟩])
 (.cond (.tmp 14)
 (.ops [⟨some 16, none, .faddr 9 (.tmp 1)⟩,
 ⟨some 17, none, .loadN 6 (.tmp 16)⟩,
 ⟨some 18, none, .faddr 9 (.tmp 3)⟩,
 ⟨none, none, .store 6 (.tmp 18) (.tmp 17)⟩])
 (.seq
 (.ops [⟨some 20, none, .bin .eql (.tmp 8) (.const (.int .i64 (2)))⟩,
 ⟨some 19, none, .mov (.tmp 20)⟩])
 (.cond (.tmp 19)
 (.ops [⟨some 21, none, .faddr 15 (.tmp 1)⟩,
 ⟨some 22, none, .loadN 11 (.tmp 21)⟩,
 ⟨some 23, none, .faddr 15 (.tmp 3)⟩,
 ⟨none, none, .store 11 (.tmp 23) (.tmp 22)⟩])
 (.seq
 (.ops [⟨some 25, none, .bin .eql (.tmp 8) (.const (.int .i64 (3)))⟩,
 ⟨some 24, none, .mov (.tmp 25)⟩])
 (.cond (.tmp 24)
 (.ops [⟨some 26, none, .faddr 26 (.tmp 1)⟩,
 ⟨some 27, none, .loadN 6 (.tmp 26)⟩,
 ⟨some 28, none, .faddr 26 (.tmp 3)⟩,
 ⟨none, none, .store 6 (.tmp 28) (.tmp 27)⟩])
 (.seq
 (.ops [⟨some 30, none, .bin .eql (.tmp 8) (.const (.int .i64 (4)))⟩,
 ⟨some 29, none, .mov (.tmp 30)⟩])
 (.cond (.tmp 29)
 (.ops [⟨some 31, none, .faddr 32 (.tmp 1)⟩,
 ⟨some 32, none, .loadN 1 (.tmp 31)⟩,
 ⟨some 33, none, .faddr 32 (.tmp 3)⟩,
 ⟨none, none, .store 1 (.tmp 33) (.tmp 32)⟩])
 (.seq
 (.ops [⟨some 35, none, .bin .eql (.tmp 8) (.const (.int .i64 (5)))⟩,
 ⟨some 34, none, .mov (.tmp 35)⟩])
 (.cond (.tmp 34)
 (.ops [⟨some 36, none, .faddr 33 (.tmp 1)⟩,
 ⟨some 37, none, .loadN 1 (.tmp 36)⟩,
 ⟨some 38, none, .faddr 33 (.tmp 3)⟩,
 ⟨none, none, .store 1 (.tmp 38) (.tmp 37)⟩])
 (.seq
 (.ops [⟨some 40, none, .bin .eql (.tmp 8) (.const (.int .i64 (6)))⟩,
 ⟨some 39, none, .mov (.tmp 40)⟩])
 (.cond (.tmp 39)
 (.ops [⟨some 41, none, .faddr 34 (.tmp 1)⟩,
 ⟨some 42, none, .loadN 1 (.tmp 41)⟩,
 ⟨some 43, none, .faddr 34 (.tmp 3)⟩,
 ⟨none, none, .store 1 (.tmp 43) (.tmp 42)⟩])
 (.seq
 (.ops [⟨some 45, none, .bin .eql (.tmp 8) (.const (.int .i64 (7)))⟩,
 ⟨some 44, none, .mov (.tmp 45)⟩])
 (.cond (.tmp 44)
 (.ops [⟨some 46, none, .faddr 35 (.tmp 1)⟩,
 ⟨some 47, none, .loadN 1 (.tmp 46)⟩,
 ⟨some 48, none, .faddr 35 (.tmp 3)⟩,
 ⟨none, none, .store 1 (.tmp 48) (.tmp 47)⟩])
 (.seq
 (.ops [⟨some 50, none, .bin .eql (.tmp 8) (.const (.int .i64 (8)))⟩,
 ⟨some 49, none, .mov (.tmp 50)⟩])
 (.cond (.tmp 49)
 (.ops [⟨some 51, none, .faddr 36 (.tmp 1)⟩,
 ⟨some 52, none, .loadN 2 (.tmp 51)⟩,
 ⟨some 53, none, .faddr 36 (.tmp 3)⟩,
 ⟨none, none, .store 2 (.tmp 53) (.tmp 52)⟩])
 .skip))))))))))))))))))))
 (.seq
 (.ops [⟨some 54, none, .loadN 38 (.tmp 3)⟩,
 ⟨none, none, .store 38 (.tmp 2) (.tmp 54)⟩])
 .ret))))⟩
theorem t28 : T 28 = some c28 := by kernel_rfl

/-- plait/plaitref09.Encode -/
def c68 : AFunc := ⟨47, 1, [.inl 2, .inl 3],
 (.seq
 (.ops [⟨some 1, none, .box 27 8 (.tmp 0)⟩,
 ⟨some 2, none, .mov (.const (.string ⟨⟨[]⟩⟩))⟩,
 ⟨some 3, none, .mov (.const (.int .i64 (0)))⟩])
 (.seq
 (.seq
 (.ops [⟨some 6, none, .loadN 8 (.tmp 1)⟩,
 ⟨some 7, none, .call 117 [(.tmp 6)]⟩,
 ⟨some 8, none, .un .not (.tmp 7)⟩])
 (.cond (.tmp 8)
 (.seq
 (.ops [⟨some 2, none, .mov (.const (.string ⟨⟨[]⟩⟩))⟩,
 ⟨some 3, none, .mov (.const (.int .i64 (2)))⟩])
 .ret)
 .skip))
 (.seq
 (.ops [⟨some 4, none, .mov (.const (.int .u64 (1)))⟩])
 (.seq
 (.seq
 (.ops [⟨some 9, none, .faddr 2 (.tmp 1)⟩,
 ⟨some 10, none, .load1 (.tmp 9)⟩])
 (.cond (.tmp 10)
 (.ops [⟨some 11, none, .mov (.tmp 4)⟩,
 ⟨some 12, none, .bin .add (.tmp 11) (.const (.int .u64 (128)))⟩,
 ⟨some 4, none, .mov (.tmp 12)⟩])
 .skip))
 (.seq
 (.seq
 (.ops [⟨some 13, none, .faddr 3 (.tmp 1)⟩,
 ⟨some 14, none, .load1 (.tmp 13)⟩])
 (.cond (.tmp 14)
 (.ops [⟨some 15, none, .mov (.tmp 4)⟩,
 ⟨some 16, none, .bin .add (.tmp 15) (.const (.int .u64 (32)))⟩,
 ⟨some 4, none, .mov (.tmp 16)⟩])
 .skip))
 (.seq
 (.opsD [⟨some 17, none, .faddr 1 (.tmp 1)⟩,
 ⟨some 18, none, .load1 (.tmp 17)⟩,
 ⟨some 19, none, .cvInt .u64 (.tmp 18)⟩,
 ⟨some 20, none, .call 118 [(.tmp 19), (.const (.int .i64 (1)))]⟩,
 ⟨some 21, none, .mov (.tmp 4)⟩,
 ⟨some 22, none, .call 118 [(.tmp 21), (.const (.int .i64 (1)))]⟩,
 ⟨some 23, none, .bin .add (.tmp 20) (.tmp 22)⟩,
 ⟨some 24, none, .faddr 4 (.tmp 1)⟩,
 ⟨some 25, none, .load1 (.tmp 24)⟩,
 ⟨some 26, none, .call 118 [(.tmp 25), (.const (.int .i64 (8)))]⟩,
 ⟨some 27, none, .bin .add (.tmp 23) (.tmp 26)⟩,
 ⟨some 28, none, .faddr 5 (.tmp 1)⟩,
 ⟨some 29, none, .load1 (.tmp 28)⟩,
 ⟨some 30, none, .call 118 [(.tmp 29), (.const (.int .i64 (8)))]⟩,
 ⟨some 31, none, .bin .add (.tmp 27) (.tmp 30)⟩,
 ⟨some 32, none, .faddr 6 (.tmp 1)⟩,
 ⟨some 33, none, .load1 (.tmp 32)⟩,
 ⟨some 34, none, .cvInt .u64 (.tmp 33)⟩,
 ⟨some 35, none, .call 118 [(.tmp 34), (.const (.int .i64 (2)))]⟩,
 ⟨some 36, none, .bin .add (.tmp 31) (.tmp 35)⟩,
 ⟨some 37, none, .faddr 7 (.tmp 1)⟩,
 ⟨some 38, none, .load1 (.tmp 37)⟩,
 ⟨some 39, none, .cvInt .u64 (.tmp 38)⟩,
 ⟨some 40, none, .call 118 [(.tmp 39), (.const (.int .i64 (2)))]⟩,
 ⟨some 41, none, .bin .add (.tmp 36) (.tmp 40)⟩,
 ⟨some 5, none, .mov (.tmp 41)⟩] [(8, 3), (8, 4), (8, 5), (8, 6), (12, 3), (12, 4), (12, 5), (12, 6), (12, 9), (12, 10), (16, 3), (16, 4), (16, 5), (16, 6), (16, 9), (16, 10), (16, 13), (16, 14), (21, 3), (21, 4), (21, 5), (21, 6), (21, 9), (21, 10), (21, 13), (21, 14), (21, 18), (21, 19)])
 (.seq
 (.ops [⟨some 42, none, .mov (.tmp 5)⟩,
 ⟨some 43, none, .faddr 0 (.tmp 1)⟩,
 ⟨some 44, none, .load1 (.tmp 43)⟩,
 ⟨some 45, none, .call 119 [(.tmp 44)]⟩,
 ⟨some 46, none, .sliceS (.tmp 42) none (some (.tmp 45))⟩,
 ⟨some 2, none, .mov (.tmp 46)⟩,
 ⟨some 3, none, .mov (.const (.int .i64 (0)))⟩])
 .ret)))))))⟩
theorem t68 : T 68 = some c68 := by kernel_rfl

/-- plait/plaitref10.Encode -/
def c69 : AFunc := ⟨44, 1, [.inl 2, .inl 3],
 (.seq
 (.ops [⟨some 1, none, .box 30 6 (.tmp 0)⟩,
 ⟨some 2, none, .mov (.const (.string ⟨⟨[]⟩⟩))⟩,
 ⟨some 3, none, .mov (.const (.int .i64 (0)))⟩])
 (.seq
 (.seq
 (.ops [⟨some 6, none, .loadN 6 (.tmp 1)⟩,
 ⟨some 7, none, .call 120 [(.tmp 6)]⟩,
 ⟨some 8, none, .un .not (.tmp 7)⟩])
 (.cond (.tmp 8)
 (.seq
 (.ops [⟨some 2, none, .mov (.const (.string ⟨⟨[]⟩⟩))⟩,
 ⟨some 3, none, .mov (.const (.int .i64 (2)))⟩])
 .ret)
 .skip))
 (.seq
 (.ops [⟨some 4, none, .mov (.const (.int .u64 (16)))⟩])
 (.seq
 (.seq
 (.ops [⟨some 9, none, .faddr 1 (.tmp 1)⟩,
 ⟨some 10, none, .load1 (.tmp 9)⟩])
 (.cond (.tmp 10)
 (.ops [⟨some 4, none, .mov (.const (.int .u64 (17)))⟩])
 .skip))
 (.seq
 (.opsD [⟨some 11, none, .mov (.tmp 4)⟩,
 ⟨some 12, none, .call 121 [(.const (.string ⟨⟨[]⟩⟩)), (.tmp 11), (.const (.int .i64 (1)))]⟩,
 ⟨some 13, none, .faddr 2 (.tmp 1)⟩,
 ⟨some 14, none, .load1 (.tmp 13)⟩,
 ⟨some 15, none, .cvInt .u64 (.tmp 14)⟩,
 ⟨some 16, none, .call 121 [(.tmp 12), (.tmp 15), (.const (.int .i64 (1)))]⟩,
 ⟨some 5, none, .mov (.tmp 16)⟩] [(3, 1), (3, 2)])
 (.seq
 (.seq
 (.ops [⟨some 17, none, .faddr 0 (.tmp 1)⟩,
 ⟨some 18, none, .load1 (.tmp 17)⟩])
 (.block 0
 (.seq
 (.ops [⟨some 20, none, .bin .eql (.tmp 18) (.const (.int .i64 (0)))⟩,
 ⟨some 19, none, .mov (.tmp 20)⟩])
 (.cond (.tmp 19)
 (.seq
 (.opsD [⟨some 21, none, .mov (.tmp 5)⟩,
 ⟨some 22, none, .faddr 3 (.tmp 1)⟩,
 ⟨some 23, none, .load1 (.tmp 22)⟩,
 ⟨some 24, none, .cvInt .u64 (.tmp 23)⟩,
 ⟨some 25, none, .call 121 [(.tmp 21), (.tmp 24), (.const (.int .i64 (4)))]⟩,
 ⟨some 26, none, .faddr 4 (.tmp 1)⟩,
 ⟨some 27, none, .load1 (.tmp 26)⟩,
 ⟨some 28, none, .cvInt .u64 (.tmp 27)⟩,
 ⟨some 29, none, .call 121 [(.tmp 25), (.tmp 28), (.const (.int .i64 (4)))]⟩,
 ⟨some 2, none, .mov (.tmp 29)⟩,
 ⟨some 3, none, .mov (.const (.int .i64 (0)))⟩] [(6, 4), (6, 5)])
 .ret)
 (.seq
 (.ops [⟨some 31, none, .bin .eql (.tmp 18) (.const (.int .i64 (1)))⟩,
 ⟨some 30, none, .mov (.tmp 31)⟩])
 (.cond (.tmp 30)
 (.seq
 (.ops [⟨some 32, none, .mov (.tmp 5)⟩,
 ⟨some 33, none, .faddr 5 (.tmp 1)⟩,
 ⟨some 34, none, .load1 (.tmp 33)⟩,
 ⟨some 35, none, .bin .add (.tmp 32) (.tmp 34)⟩,
 ⟨some 36, none, .faddr 4 (.tmp 1)⟩,
 ⟨some 37, none, .load1 (.tmp 36)⟩,
 ⟨some 38, none, .cvInt .u64 (.tmp 37)⟩,
 ⟨some 39, none, .call 121 [(.tmp 35), (.tmp 38), (.const (.int .i64 (4)))]⟩,
 ⟨some 2, none, .mov (.tmp 39)⟩,
 ⟨some 3, none, .mov (.const (.int .i64 (0)))⟩])
 .ret)
 .skip))))))
 (.seq
 (.ops [⟨some 40, none, .mov (.tmp 5)⟩,
 ⟨some 41, none, .faddr 5 (.tmp 1)⟩,
 ⟨some 42, none, .load1 (.tmp 41)⟩,
 ⟨some 43, none, .bin .add (.tmp 40) (.tmp 42)⟩,
 ⟨some 2, none, .mov (.tmp 43)⟩,
 ⟨some 3, none, .mov (.const (.int .i64 (0)))⟩])
 .ret)))))))⟩
theorem t69 : T 69 = some c69 := by kernel_rfl

def c70v : ACode :=
 (.seq
 (.seq
 (.ops [⟨some 59, none, .faddr 9 (.tmp 1)⟩,
 ⟨some 60, none, .load1 (.tmp 59)⟩])
 (.cond (.tmp 60)
 (.ops [⟨some 61, none, .mov (.tmp 4)⟩,
 ⟨some 62, none, .faddr 10 (.tmp 1)⟩,
 ⟨some 63, none, .load1 (.tmp 62)⟩,
 ⟨some 64, none, .cvInt .u64 (.tmp 63)⟩,
 ⟨some 65, none, .call 118 [(.tmp 64), (.const (.int .i64 (2)))]⟩,
 ⟨some 66, none, .bin .add (.tmp 61) (.tmp 65)⟩,
 ⟨some 4, none, .mov (.tmp 66)⟩])
 .skip))
 (.seq
 (.ops [⟨some 67, none, .mov (.tmp 4)⟩,
 ⟨some 2, none, .mov (.tmp 67)⟩,
 ⟨some 3, none, .mov (.const (.int .i64 (0)))⟩])
 .ret))

def c70u : ACode :=
 (.seq
 (.seq
 (.ops [⟨some 39, none, .faddr 4 (.tmp 1)⟩,
 ⟨some 40, none, .load1 (.tmp 39)⟩])
 (.cond (.tmp 40)
 (.opsD [⟨some 41, none, .mov (.tmp 4)⟩,
 ⟨some 42, none, .faddr 6 (.tmp 1)⟩,
 ⟨some 43, none, .load1 (.tmp 42)⟩,
 ⟨some 44, none, .faddr 5 (.tmp 1)⟩,
 ⟨some 45, none, .load1 (.tmp 44)⟩,
 ⟨some 46, none, .call 124 [(.tmp 45)]⟩,
 ⟨some 47, none, .call 118 [(.tmp 43), (.tmp 46)]⟩,
 ⟨some 48, none, .bin .add (.tmp 41) (.tmp 47)⟩,
 ⟨some 49, none, .faddr 7 (.tmp 1)⟩,
 ⟨some 50, none, .load1 (.tmp 49)⟩,
 ⟨some 51, none, .cvInt .u64 (.tmp 50)⟩,
 ⟨some 52, none, .call 118 [(.tmp 51), (.const (.int .i64 (4)))]⟩,
 ⟨some 53, none, .bin .add (.tmp 48) (.tmp 52)⟩,
 ⟨some 54, none, .faddr 8 (.tmp 1)⟩,
 ⟨some 55, none, .load1 (.tmp 54)⟩,
 ⟨some 56, none, .cvInt .u64 (.tmp 55)⟩,
 ⟨some 57, none, .call 118 [(.tmp 56), (.const (.int .i64 (2)))]⟩,
 ⟨some 58, none, .bin .add (.tmp 53) (.tmp 57)⟩,
 ⟨some 4, none, .mov (.tmp 58)⟩] [(2, 5), (2, 6), (9, 5), (9, 6), (9, 6), (9, 7), (14, 5), (14, 6), (14, 6), (14, 7), (14, 11), (14, 12)])
 .skip))
 c70v)

def c70t : ACode :=
 (.seq
 (.seq
 (.ops [⟨some 29, none, .faddr 1 (.tmp 1)⟩,
 ⟨some 30, none, .load1 (.tmp 29)⟩])
 (.cond (.tmp 30)
 (.opsD [⟨some 31, none, .mov (.tmp 4)⟩,
 ⟨some 32, none, .faddr 3 (.tmp 1)⟩,
 ⟨some 33, none, .load1 (.tmp 32)⟩,
 ⟨some 34, none, .faddr 2 (.tmp 1)⟩,
 ⟨some 35, none, .load1 (.tmp 34)⟩,
 ⟨some 36, none, .call 124 [(.tmp 35)]⟩,
 ⟨some 37, none, .call 118 [(.tmp 33), (.tmp 36)]⟩,
 ⟨some 38, none, .bin .add (.tmp 31) (.tmp 37)⟩,
 ⟨some 4, none, .mov (.tmp 38)⟩] [(2, 5), (2, 6)])
 .skip))
 c70u)

/-- plait/plaitref11.Encode -/
def c70 : AFunc := ⟨68, 1, [.inl 2, .inl 3],
 (.seq
 (.ops [⟨some 1, none, .box 32 11 (.tmp 0)⟩,
 ⟨some 2, none, .mov (.const (.string ⟨⟨[]⟩⟩))⟩,
 ⟨some 3, none, .mov (.const (.int .i64 (0)))⟩])
 (.seq
 (.seq
 (.ops [⟨some 5, none, .loadN 11 (.tmp 1)⟩,
 ⟨some 6, none, .call 122 [(.tmp 5)]⟩,
 ⟨some 7, none, .un .not (.tmp 6)⟩])
 (.cond (.tmp 7)
 (.seq
 (.ops [⟨some 2, none, .mov (.const (.string ⟨⟨[]⟩⟩))⟩,
 ⟨some 3, none, .mov (.const (.int .i64 (2)))⟩])
 .ret)
 .skip))
 (.seq
 (.opsD [⟨some 8, none, .faddr 1 (.tmp 1)⟩,
 ⟨some 9, none, .load1 (.tmp 8)⟩,
 ⟨some 10, none, .call 123 [(.tmp 9), (.const (.int .u64 (1)))]⟩,
 ⟨some 11, none, .faddr 2 (.tmp 1)⟩,
 ⟨some 12, none, .load1 (.tmp 11)⟩,
 ⟨some 13, none, .call 123 [(.tmp 12), (.const (.int .u64 (2)))]⟩,
 ⟨some 14, none, .bin .add (.tmp 10) (.tmp 13)⟩,
 ⟨some 15, none, .faddr 4 (.tmp 1)⟩,
 ⟨some 16, none, .load1 (.tmp 15)⟩,
 ⟨some 17, none, .call 123 [(.tmp 16), (.const (.int .u64 (4)))]⟩,
 ⟨some 18, none, .bin .add (.tmp 14) (.tmp 17)⟩,
 ⟨some 19, none, .faddr 5 (.tmp 1)⟩,
 ⟨some 20, none, .load1 (.tmp 19)⟩,
 ⟨some 21, none, .call 123 [(.tmp 20), (.const (.int .u64 (8)))]⟩,
 ⟨some 22, none, .bin .add (.tmp 18) (.tmp 21)⟩,
 ⟨some 23, none, .faddr 0 (.tmp 1)⟩,
 ⟨some 24, none, .load1 (.tmp 23)⟩,
 ⟨some 25, none, .call 123 [(.tmp 24), (.const (.int .u64 (16)))]⟩,
 ⟨some 26, none, .bin .add (.tmp 22) (.tmp 25)⟩,
 ⟨some 27, none, .call 118 [(.tmp 26), (.const (.int .i64 (1)))]⟩,
 ⟨some 28, none, .bin .add (.const (.string ⟨⟨[32]⟩⟩)) (.tmp 27)⟩,
 ⟨some 4, none, .mov (.tmp 28)⟩] [(4, 2), (4, 3), (8, 2), (8, 3), (8, 5), (8, 6), (12, 2), (12, 3), (12, 5), (12, 6), (12, 9), (12, 10), (16, 2), (16, 3), (16, 5), (16, 6), (16, 9), (16, 10), (16, 13), (16, 14)])
 c70t)))⟩
theorem t70 : T 70 = some c70 := by kernel_rfl

/-- plait/plaitref12.EncodeAdd -/
def c71 : AFunc := ⟨29, 1, [.inl 2, .inl 3],
 (.seq
 (.ops [⟨some 1, none, .box 34 6 (.tmp 0)⟩,
 ⟨some 2, none, .mov (.const (.string ⟨⟨[]⟩⟩))⟩,
 ⟨some 3, none, .mov (.const (.int .i64 (0)))⟩])
 (.seq
 (.seq
 (.ops [⟨some 5, none, .loadN 6 (.tmp 1)⟩,
 ⟨some 6, none, .call 125 [(.tmp 5)]⟩,
 ⟨some 7, none, .un .not (.tmp 6)⟩])
 (.cond (.tmp 7)
 (.seq
 (.ops [⟨some 2, none, .mov (.const (.string ⟨⟨[]⟩⟩))⟩,
 ⟨some 3, none, .mov (.const (.int .i64 (2)))⟩])
 .ret)
 .skip))
 (.seq
 (.ops [⟨some 4, none, .mov (.const (.string ⟨⟨[48]⟩⟩))⟩])
 (.seq
 (.seq
 (.ops [⟨some 8, none, .faddr 0 (.tmp 1)⟩,
 ⟨some 9, none, .load1 (.tmp 8)⟩])
 (.cond (.tmp 9)
 (.ops [⟨some 4, none, .mov (.const (.string ⟨⟨[49]⟩⟩))⟩])
 .skip))
 (.seq
 (.opsD [⟨some 10, none, .mov (.tmp 4)⟩,
 ⟨some 11, none, .faddr 1 (.tmp 1)⟩,
 ⟨some 12, none, .load1 (.tmp 11)⟩,
 ⟨some 13, none, .cvInt .u64 (.tmp 12)⟩,
 ⟨some 14, none, .call 121 [(.tmp 10), (.tmp 13), (.const (.int .i64 (1)))]⟩,
 ⟨some 15, none, .faddr 2 (.tmp 1)⟩,
 ⟨some 16, none, .load1 (.tmp 15)⟩,
 ⟨some 17, none, .bin .add (.tmp 14) (.tmp 16)⟩,
 ⟨some 4, none, .mov (.tmp 17)⟩] [(6, 4), (6, 5)])
 (.seq
 (.seq
 (.ops [⟨some 18, none, .faddr 3 (.tmp 1)⟩,
 ⟨some 19, none, .load1 (.tmp 18)⟩])
 (.cond (.tmp 19)
 (.ops [⟨some 20, none, .mov (.tmp 4)⟩,
 ⟨some 21, none, .faddr 4 (.tmp 1)⟩,
 ⟨some 22, none, .load1 (.tmp 21)⟩,
 ⟨some 23, none, .cvInt .u64 (.tmp 22)⟩,
 ⟨some 24, none, .call 121 [(.tmp 20), (.tmp 23), (.const (.int .i64 (2)))]⟩,
 ⟨some 4, none, .mov (.tmp 24)⟩])
 .skip))
 (.seq
 (.ops [⟨some 25, none, .mov (.tmp 4)⟩,
 ⟨some 26, none, .faddr 5 (.tmp 1)⟩,
 ⟨some 27, none, .load1 (.tmp 26)⟩,
 ⟨some 28, none, .bin .add (.tmp 25) (.tmp 27)⟩,
 ⟨some 2, none, .mov (.tmp 28)⟩,
 ⟨some 3, none, .mov (.const (.int .i64 (0)))⟩])
 .ret)))))))⟩
theorem t71 : T 71 = some c71 := by kernel_rfl

/-- plait/plaitref12.EncodeRemove -/
def c72 : AFunc := ⟨17, 1, [.inl 2, .inl 3],
 (.seq
 (.ops [⟨some 1, none, .box 36 1 (.tmp 0)⟩,
 ⟨some 2, none, .mov (.const (.string ⟨⟨[]⟩⟩))⟩,
 ⟨some 3, none, .mov (.const (.int .i64 (0)))⟩])
 (.seq
 (.seq
 (.ops [⟨some 4, none, .faddr 0 (.tmp 1)⟩,
 ⟨some 5, none, .load1 (.tmp 4)⟩,
 ⟨some 6, none, .lenS (.tmp 5)⟩,
 ⟨some 7, none, .bin .lss (.tmp 6) (.const (.int .i64 (1)))⟩,
 ⟨some 8, none, .mov (.tmp 7)⟩,
 ⟨some 9, some (8, false), .faddr 0 (.tmp 1)⟩,
 ⟨some 10, some (8, false), .load1 (.tmp 9)⟩,
 ⟨some 11, some (8, false), .lenS (.tmp 10)⟩,
 ⟨some 12, some (8, false), .bin .gtr (.tmp 11) (.const (.int .i64 (37)))⟩,
 ⟨some 13, none, .pick (.tmp 8) (.const (.bool true)) (.tmp 12)⟩])
 (.cond (.tmp 13)
 (.seq
 (.ops [⟨some 2, none, .mov (.const (.string ⟨⟨[]⟩⟩))⟩,
 ⟨some 3, none, .mov (.const (.int .i64 (2)))⟩])
 .ret)
 .skip))
 (.seq
 (.ops [⟨some 14, none, .faddr 0 (.tmp 1)⟩,
 ⟨some 15, none, .load1 (.tmp 14)⟩,
 ⟨some 16, none, .bin .add (.const (.string ⟨⟨[64]⟩⟩)) (.tmp 15)⟩,
 ⟨some 2, none, .mov (.tmp 16)⟩,
 ⟨some 3, none, .mov (.const (.int .i64 (0)))⟩])
 .ret)))⟩
theorem t72 : T 72 = some c72 := by kernel_rfl

/-- plait/plaitref13.EncodePrio -/
def c73 : AFunc := ⟨5, 1, [.inl 2],
 (.seq
 (.ops [⟨some 1, none, .box 38 1 (.tmp 0)⟩,
 ⟨some 2, none, .mov (.const (.string ⟨⟨[]⟩⟩))⟩])
 (.seq
 (.seq
 (.ops [⟨some 3, none, .faddr 0 (.tmp 1)⟩,
 ⟨some 4, none, .load1 (.tmp 3)⟩])
 (.cond (.tmp 4)
 (.seq
 (.ops [⟨some 2, none, .mov (.const (.string ⟨⟨[81]⟩⟩))⟩])
 .ret)
 .skip))
 (.seq
 (.ops [⟨some 2, none, .mov (.const (.string ⟨⟨[80]⟩⟩))⟩])
 .ret)))⟩
theorem t73 : T 73 = some c73 := by kernel_rfl

/-- plait/plaitref13.EncodeFail -/
def c74 : AFunc := ⟨7, 1, [.inl 2],
 (.seq
 (.ops [⟨some 1, none, .box 40 1 (.tmp 0)⟩,
 ⟨some 2, none, .mov (.const (.string ⟨⟨[]⟩⟩))⟩])
 (.seq
 (.ops [⟨some 3, none, .faddr 0 (.tmp 1)⟩,
 ⟨some 4, none, .load1 (.tmp 3)⟩,
 ⟨some 5, none, .call 118 [(.tmp 4), (.const (.int .i64 (8)))]⟩,
 ⟨some 6, none, .bin .add (.const (.string ⟨⟨[96, 0]⟩⟩)) (.tmp 5)⟩,
 ⟨some 2, none, .mov (.tmp 6)⟩])
 .ret))⟩
theorem t74 : T 74 = some c74 := by kernel_rfl

/-- plait/plaitref13.EncodeFast -/
def c75 : AFunc := ⟨7, 1, [.inl 2],
 (.seq
 (.ops [⟨some 1, none, .box 42 1 (.tmp 0)⟩,
 ⟨some 2, none, .mov (.const (.string ⟨⟨[]⟩⟩))⟩])
 (.seq
 (.ops [⟨some 3, none, .faddr 0 (.tmp 1)⟩,
 ⟨some 4, none, .load1 (.tmp 3)⟩,
 ⟨some 5, none, .call 118 [(.tmp 4), (.const (.int .i64 (8)))]⟩,
 ⟨some 6, none, .bin .add (.const (.string ⟨⟨[112, 0]⟩⟩)) (.tmp 5)⟩,
 ⟨some 2, none, .mov (.tmp 6)⟩])
 .ret))⟩
theorem t75 : T 75 = some c75 := by kernel_rfl

/-- plait/plaitref13.EncodeRst -/
def c76 : AFunc := ⟨32, 1, [.inl 2, .inl 3],
 (.seq
 (.ops [⟨some 1, none, .box 44 2 (.tmp 0)⟩,
 ⟨some 2, none, .mov (.const (.string ⟨⟨[]⟩⟩))⟩,
 ⟨some 3, none, .mov (.const (.int .i64 (0)))⟩])
 (.seq
 (.seq
 (.ops [⟨some 4, none, .faddr 0 (.tmp 1)⟩,
 ⟨some 5, none, .load1 (.tmp 4)⟩,
 ⟨some 6, none, .bin .lss (.tmp 5) (.const (.int .i64 (0)))⟩,
 ⟨some 7, none, .mov (.tmp 6)⟩,
 ⟨some 8, some (7, false), .faddr 0 (.tmp 1)⟩,
 ⟨some 9, some (7, false), .load1 (.tmp 8)⟩,
 ⟨some 10, some (7, false), .bin .gtr (.tmp 9) (.const (.int .i64 (15)))⟩,
 ⟨some 11, none, .pick (.tmp 7) (.const (.bool true)) (.tmp 10)⟩,
 ⟨some 12, none, .mov (.tmp 11)⟩,
 ⟨some 13, some (12, false), .faddr 1 (.tmp 1)⟩,
 ⟨some 14, some (12, false), .load1 (.tmp 13)⟩,
 ⟨some 15, some (12, false), .bin .lss (.tmp 14) (.const (.int .i64 (0)))⟩,
 ⟨some 16, none, .pick (.tmp 12) (.const (.bool true)) (.tmp 15)⟩,
 ⟨some 17, none, .mov (.tmp 16)⟩,
 ⟨some 18, some (17, false), .faddr 1 (.tmp 1)⟩,
 ⟨some 19, some (17, false), .load1 (.tmp 18)⟩,
 ⟨some 20, some (17, false), .bin .gtr (.tmp 19) (.const (.int .i64 (255)))⟩,
 ⟨some 21, none, .pick (.tmp 17) (.const (.bool true)) (.tmp 20)⟩])
 (.cond (.tmp 21)
 (.seq
 (.ops [⟨some 2, none, .mov (.const (.string ⟨⟨[]⟩⟩))⟩,
 ⟨some 3, none, .mov (.const (.int .i64 (2)))⟩])
 .ret)
 .skip))
 (.seq
 (.opsD [⟨some 22, none, .faddr 0 (.tmp 1)⟩,
 ⟨some 23, none, .load1 (.tmp 22)⟩,
 ⟨some 24, none, .bin .add (.const (.int .i64 (128))) (.tmp 23)⟩,
 ⟨some 25, none, .cvInt .u64 (.tmp 24)⟩,
 ⟨some 26, none, .call 118 [(.tmp 25), (.const (.int .i64 (1)))]⟩,
 ⟨some 27, none, .faddr 1 (.tmp 1)⟩,
 ⟨some 28, none, .load1 (.tmp 27)⟩,
 ⟨some 29, none, .cvInt .u64 (.tmp 28)⟩,
 ⟨some 30, none, .call 118 [(.tmp 29), (.const (.int .i64 (1)))]⟩,
 ⟨some 31, none, .bin .add (.tmp 26) (.tmp 30)⟩,
 ⟨some 2, none, .mov (.tmp 31)⟩,
 ⟨some 3, none, .mov (.const (.int .i64 (0)))⟩] [(6, 4), (6, 5)])
 .ret)))⟩
theorem t76 : T 76 = some c76 := by kernel_rfl

/-- plait/plaitref09.May -/
def c117 : AFunc := ⟨69, 1, [.inl 2],
 (.seq
 (.ops [⟨some 1, none, .box 27 8 (.tmp 0)⟩,
 ⟨some 2, none, .mov (.const (.bool false))⟩])
 (.seq
 (.seq
 (.ops [⟨some 3, none, .faddr 0 (.tmp 1)⟩,
 ⟨some 4, none, .load1 (.tmp 3)⟩,
 ⟨some 5, none, .bin .lss (.tmp 4) (.const (.int .i64 (0)))⟩,
 ⟨some 6, none, .mov (.tmp 5)⟩,
 ⟨some 7, some (6, false), .faddr 0 (.tmp 1)⟩,
 ⟨some 8, some (6, false), .load1 (.tmp 7)⟩,
 ⟨some 9, some (6, false), .bin .geq (.tmp 8) (.const (.int .i64 (5)))⟩,
 ⟨some 10, none, .pick (.tmp 6) (.const (.bool true)) (.tmp 9)⟩,
 ⟨some 11, none, .mov (.tmp 10)⟩,
 ⟨some 12, some (11, false), .faddr 1 (.tmp 1)⟩,
 ⟨some 13, some (11, false), .load1 (.tmp 12)⟩,
 ⟨some 14, some (11, false), .bin .lss (.tmp 13) (.const (.int .i64 (0)))⟩,
 ⟨some 15, none, .pick (.tmp 11) (.const (.bool true)) (.tmp 14)⟩,
 ⟨some 16, none, .mov (.tmp 15)⟩,
 ⟨some 17, some (16, false), .faddr 1 (.tmp 1)⟩,
 ⟨some 18, some (16, false), .load1 (.tmp 17)⟩,
 ⟨some 19, some (16, false), .bin .gtr (.tmp 18) (.const (.int .i64 (15)))⟩,
 ⟨some 20, none, .pick (.tmp 16) (.const (.bool true)) (.tmp 19)⟩,
 ⟨some 21, none, .mov (.tmp 20)⟩,
 ⟨some 22, some (21, false), .faddr 6 (.tmp 1)⟩,
 ⟨some 23, some (21, false), .load1 (.tmp 22)⟩,
 ⟨some 24, some (21, false), .bin .lss (.tmp 23) (.const (.int .i64 (0)))⟩,
 ⟨some 25, none, .pick (.tmp 21) (.const (.bool true)) (.tmp 24)⟩,
 ⟨some 26, none, .mov (.tmp 25)⟩,
 ⟨some 27, some (26, false), .faddr 6 (.tmp 1)⟩,
 ⟨some 28, some (26, false), .load1 (.tmp 27)⟩,
 ⟨some 29, some (26, false), .bin .gtr (.tmp 28) (.const (.int .i64 (65535)))⟩,
 ⟨some 30, none, .pick (.tmp 26) (.const (.bool true)) (.tmp 29)⟩])
 (.cond (.tmp 30)
 (.seq
 (.ops [⟨some 2, none, .mov (.const (.bool false))⟩])
 .ret)
 .skip))
 (.seq
 (.ops [⟨some 31, none, .faddr 0 (.tmp 1)⟩,
 ⟨some 32, none, .load1 (.tmp 31)⟩,
 ⟨some 33, none, .bin .geq (.tmp 32) (.const (.int .i64 (1)))⟩,
 ⟨some 34, none, .mov (.tmp 33)⟩,
 ⟨some 35, some (34, false), .faddr 4 (.tmp 1)⟩,
 ⟨some 36, some (34, false), .load1 (.tmp 35)⟩,
 ⟨some 37, some (34, false), .bin .eql (.tmp 36) (.const (.int .u64 (0)))⟩,
 ⟨some 38, none, .pick (.tmp 34) (.const (.bool true)) (.tmp 37)⟩,
 ⟨some 39, none, .mov (.tmp 38)⟩,
 ⟨some 40, some (39, true), .faddr 0 (.tmp 1)⟩,
 ⟨some 41, some (39, true), .load1 (.tmp 40)⟩,
 ⟨some 42, some (39, true), .bin .geq (.tmp 41) (.const (.int .i64 (2)))⟩,
 ⟨some 43, some (39, true), .mov (.tmp 42)⟩,
 ⟨some 44, some (43, false), .faddr 5 (.tmp 1)⟩,
 ⟨some 45, some (43, false), .load1 (.tmp 44)⟩,
 ⟨some 46, some (43, false), .bin .eql (.tmp 45) (.const (.int .u64 (0)))⟩,
 ⟨some 47, some (39, true), .pick (.tmp 43) (.const (.bool true)) (.tmp 46)⟩,
 ⟨some 48, none, .pick (.tmp 39) (.tmp 47) (.const (.bool false))⟩,
 ⟨some 49, none, .mov (.tmp 48)⟩,
 ⟨some 50, some (49, true), .faddr 0 (.tmp 1)⟩,
 ⟨some 51, some (49, true), .load1 (.tmp 50)⟩,
 ⟨some 52, some (49, true), .bin .geq (.tmp 51) (.const (.int .i64 (3)))⟩,
 ⟨some 53, some (49, true), .mov (.tmp 52)⟩,
 ⟨some 54, some (53, false), .faddr 6 (.tmp 1)⟩,
 ⟨some 55, some (53, false), .load1 (.tmp 54)⟩,
 ⟨some 56, some (53, false), .bin .eql (.tmp 55) (.const (.int .i64 (0)))⟩,
 ⟨some 57, some (49, true), .pick (.tmp 53) (.const (.bool true)) (.tmp 56)⟩,
 ⟨some 58, none, .pick (.tmp 49) (.tmp 57) (.const (.bool false))⟩,
 ⟨some 59, none, .mov (.tmp 58)⟩,
 ⟨some 60, some (59, true), .faddr 0 (.tmp 1)⟩,
 ⟨some 61, some (59, true), .load1 (.tmp 60)⟩,
 ⟨some 62, some (59, true), .bin .eql (.tmp 61) (.const (.int .i64 (4)))⟩,
 ⟨some 63, some (59, true), .mov (.tmp 62)⟩,
 ⟨some 64, some (63, false), .faddr 7 (.tmp 1)⟩,
 ⟨some 65, some (63, false), .load1 (.tmp 64)⟩,
 ⟨some 66, some (63, false), .bin .eql (.tmp 65) (.const (.int .u16 (0)))⟩,
 ⟨some 67, some (59, true), .pick (.tmp 63) (.const (.bool true)) (.tmp 66)⟩,
 ⟨some 68, none, .pick (.tmp 59) (.tmp 67) (.const (.bool false))⟩,
 ⟨some 2, none, .mov (.tmp 68)⟩])
 .ret)))⟩
theorem t117 : T 117 = some c117 := by kernel_rfl

/-- plait/plaitref01.Laid -/
def c118 : AFunc := ⟨24, 2, [.inl 4],
 (.seq
 (.ops [⟨some 4, none, .mov (.const (.string ⟨⟨[]⟩⟩))⟩])
 (.seq
 (.ops [⟨some 5, none, .mov (.const (.slice none 0 0))⟩])
 (.seq
 (.seq
 (.ops [⟨some 7, none, .mov (.tmp 1)⟩,
 ⟨some 8, none, .bin .sub (.tmp 7) (.const (.int .i64 (1)))⟩,
 ⟨some 6, none, .mov (.tmp 8)⟩])
 (.block 0
 (.loop
 (.seq
 (.seq
 (.ops [⟨some 9, none, .mov (.tmp 6)⟩,
 ⟨some 10, none, .bin .geq (.tmp 9) (.const (.int .i64 (0)))⟩])
 (.cond (.tmp 10)
 .skip
 (.exit 0)))
 (.seq
 (.block 1
 (.ops [⟨some 13, none, .mov (.tmp 5)⟩,
 ⟨some 14, none, .mov (.tmp 0)⟩,
 ⟨some 15, none, .mov (.tmp 6)⟩,
 ⟨some 16, none, .bin .mul (.const (.int .i64 (8))) (.tmp 15)⟩,
 ⟨some 17, none, .cvInt .u64 (.tmp 16)⟩,
 ⟨some 18, none, .bin .shr (.tmp 14) (.tmp 17)⟩,
 ⟨some 19, none, .cvInt .u8 (.tmp 18)⟩,
 ⟨some 20, none, .bslice 5 1 [.int .u8 (0)] [(0, 1, (.tmp 19))]⟩,
 ⟨some 21, none, .append 5 1 1 (.tmp 13) (.tmp 20)⟩,
 ⟨some 5, none, .mov (.tmp 21)⟩]))
 (.ops [⟨some 11, none, .mov (.tmp 6)⟩,
 ⟨some 12, none, .bin .sub (.tmp 11) (.const (.int .i64 (1)))⟩,
 ⟨some 6, none, .mov (.tmp 12)⟩]))))))
 (.seq
 (.ops [⟨some 22, none, .mov (.tmp 5)⟩,
 ⟨some 23, none, .cvB2S (.tmp 22)⟩,
 ⟨some 4, none, .mov (.tmp 23)⟩])
 .ret))))⟩
theorem t118 : T 118 = some c118 := by kernel_rfl

/-- plait/plaitref09.Size -/
def c119 : AFunc := ⟨10, 1, [.inl 2],
 (.seq
 (.ops [⟨some 2, none, .mov (.const (.int .i64 (0)))⟩])
 (.seq
 (.seq
 (.ops [⟨some 3, none, .mov (.tmp 0)⟩,
 ⟨some 4, none, .bin .eql (.tmp 3) (.const (.int .i64 (0)))⟩])
 (.cond (.tmp 4)
 (.seq
 (.ops [⟨some 2, none, .mov (.const (.int .i64 (2)))⟩])
 .ret)
 .skip))
 (.seq
 (.seq
 (.ops [⟨some 5, none, .mov (.tmp 0)⟩,
 ⟨some 6, none, .bin .eql (.tmp 5) (.const (.int .i64 (1)))⟩])
 (.cond (.tmp 6)
 (.seq
 (.ops [⟨some 2, none, .mov (.const (.int .i64 (10)))⟩])
 .ret)
 .skip))
 (.seq
 (.ops [⟨some 7, none, .mov (.tmp 0)⟩,
 ⟨some 8, none, .bin .mul (.const (.int .i64 (2))) (.tmp 7)⟩,
 ⟨some 9, none, .bin .add (.const (.int .i64 (14))) (.tmp 8)⟩,
 ⟨some 2, none, .mov (.tmp 9)⟩])
 .ret))))⟩
theorem t119 : T 119 = some c119 := by kernel_rfl

/-- plait/plaitref10.May -/
def c120 : AFunc := ⟨55, 1, [.inl 2],
 (.seq
 (.ops [⟨some 1, none, .box 30 6 (.tmp 0)⟩,
 ⟨some 2, none, .mov (.const (.bool false))⟩])
 (.seq
 (.seq
 (.ops [⟨some 3, none, .faddr 2 (.tmp 1)⟩,
 ⟨some 4, none, .load1 (.tmp 3)⟩,
 ⟨some 5, none, .bin .lss (.tmp 4) (.const (.int .i64 (0)))⟩,
 ⟨some 6, none, .mov (.tmp 5)⟩,
 ⟨some 7, some (6, false), .faddr 2 (.tmp 1)⟩,
 ⟨some 8, some (6, false), .load1 (.tmp 7)⟩,
 ⟨some 9, some (6, false), .bin .gtr (.tmp 8) (.const (.int .i64 (255)))⟩,
 ⟨some 10, none, .pick (.tmp 6) (.const (.bool true)) (.tmp 9)⟩])
 (.cond (.tmp 10)
 (.seq
 (.ops [⟨some 2, none, .mov (.const (.bool false))⟩])
 .ret)
 .skip))
 (.seq
 (.seq
 (.ops [⟨some 11, none, .faddr 0 (.tmp 1)⟩,
 ⟨some 12, none, .load1 (.tmp 11)⟩])
 (.block 0
 (.seq
 (.ops [⟨some 14, none, .bin .eql (.tmp 12) (.const (.int .i64 (0)))⟩,
 ⟨some 13, none, .mov (.tmp 14)⟩])
 (.cond (.tmp 13)
 (.seq
 (.ops [⟨some 15, none, .faddr 5 (.tmp 1)⟩,
 ⟨some 16, none, .load1 (.tmp 15)⟩,
 ⟨some 17, none, .bin .eql (.tmp 16) (.const (.string ⟨⟨[]⟩⟩))⟩,
 ⟨some 2, none, .mov (.tmp 17)⟩])
 .ret)
 (.seq
 (.ops [⟨some 19, none, .bin .eql (.tmp 12) (.const (.int .i64 (1)))⟩,
 ⟨some 18, none, .mov (.tmp 19)⟩])
 (.cond (.tmp 18)
 (.seq
 (.ops [⟨some 20, none, .faddr 5 (.tmp 1)⟩,
 ⟨some 21, none, .load1 (.tmp 20)⟩,
 ⟨some 22, none, .lenS (.tmp 21)⟩,
 ⟨some 23, none, .bin .eql (.tmp 22) (.const (.int .i64 (8)))⟩,
 ⟨some 24, none, .mov (.tmp 23)⟩,
 ⟨some 25, some (24, true), .faddr 3 (.tmp 1)⟩,
 ⟨some 26, some (24, true), .load1 (.tmp 25)⟩,
 ⟨some 27, some (24, true), .bin .eql (.tmp 26) (.const (.int .u32 (0)))⟩,
 ⟨some 28, none, .pick (.tmp 24) (.tmp 27) (.const (.bool false))⟩,
 ⟨some 2, none, .mov (.tmp 28)⟩])
 .ret)
 (.seq
 (.ops [⟨some 30, none, .bin .eql (.tmp 12) (.const (.int .i64 (2)))⟩,
 ⟨some 29, none, .mov (.tmp 30)⟩])
 (.cond (.tmp 29)
 (.seq
 (.ops [⟨some 31, none, .faddr 5 (.tmp 1)⟩,
 ⟨some 32, none, .load1 (.tmp 31)⟩,
 ⟨some 33, none, .lenS (.tmp 32)⟩,
 ⟨some 34, none, .bin .eql (.tmp 33) (.const (.int .i64 (20)))⟩,
 ⟨some 35, none, .mov (.tmp 34)⟩,
 ⟨some 36, some (35, true), .faddr 1 (.tmp 1)⟩,
 ⟨some 37, some (35, true), .load1 (.tmp 36)⟩,
 ⟨some 38, some (35, true), .un .not (.tmp 37)⟩,
 ⟨some 39, none, .pick (.tmp 35) (.tmp 38) (.const (.bool false))⟩,
 ⟨some 40, none, .mov (.tmp 39)⟩,
 ⟨some 41, some (40, true), .faddr 2 (.tmp 1)⟩,
 ⟨some 42, some (40, true), .load1 (.tmp 41)⟩,
 ⟨some 43, some (40, true), .bin .eql (.tmp 42) (.const (.int .i64 (0)))⟩,
 ⟨some 44, none, .pick (.tmp 40) (.tmp 43) (.const (.bool false))⟩,
 ⟨some 45, none, .mov (.tmp 44)⟩,
 ⟨some 46, some (45, true), .faddr 3 (.tmp 1)⟩,
 ⟨some 47, some (45, true), .load1 (.tmp 46)⟩,
 ⟨some 48, some (45, true), .bin .eql (.tmp 47) (.const (.int .u32 (0)))⟩,
 ⟨some 49, none, .pick (.tmp 45) (.tmp 48) (.const (.bool false))⟩,
 ⟨some 50, none, .mov (.tmp 49)⟩,
 ⟨some 51, some (50, true), .faddr 4 (.tmp 1)⟩,
 ⟨some 52, some (50, true), .load1 (.tmp 51)⟩,
 ⟨some 53, some (50, true), .bin .eql (.tmp 52) (.const (.int .u32 (0)))⟩,
 ⟨some 54, none, .pick (.tmp 50) (.tmp 53) (.const (.bool false))⟩,
 ⟨some 2, none, .mov (.tmp 54)⟩])
 .ret)
 .skip))))))))
 (.seq
 (.ops [⟨some 2, none, .mov (.const (.bool false))⟩])
 .ret))))⟩
theorem t120 : T 120 = some c120 := by kernel_rfl

/-- plait/plaitref02.Put -/
def c121 : AFunc := ⟨26, 3, [.inl 6],
 (.seq
 (.ops [⟨some 6, none, .mov (.const (.string ⟨⟨[]⟩⟩))⟩])
 (.seq
 (.ops [⟨some 7, none, .mov (.const (.string ⟨⟨[]⟩⟩))⟩])
 (.seq
 (.seq
 (.ops [⟨some 8, none, .mov (.const (.int .i64 (0)))⟩])
 (.block 0
 (.loop
 (.seq
 (.seq
 (.ops [⟨some 9, none, .mov (.tmp 8)⟩,
 ⟨some 10, none, .mov (.tmp 2)⟩,
 ⟨some 11, none, .bin .lss (.tmp 9) (.tmp 10)⟩])
 (.cond (.tmp 11)
 .skip
 (.exit 0)))
 (.seq
 (.block 1
 (.seq
 (.ops [⟨some 14, none, .mov (.tmp 1)⟩,
 ⟨some 15, none, .bin .rem (.tmp 14) (.const (.int .u64 (256)))⟩,
 ⟨some 16, none, .cvInt .u8 (.tmp 15)⟩,
 ⟨some 17, none, .bslice 5 1 [.int .u8 (0)] [(0, 1, (.tmp 16))]⟩,
 ⟨some 18, none, .cvB2S (.tmp 17)⟩,
 ⟨some 19, none, .mov (.tmp 7)⟩,
 ⟨some 20, none, .bin .add (.tmp 18) (.tmp 19)⟩,
 ⟨some 7, none, .mov (.tmp 20)⟩])
 (.ops [⟨some 21, none, .mov (.tmp 1)⟩,
 ⟨some 22, none, .bin .quo (.tmp 21) (.const (.int .u64 (256)))⟩,
 ⟨some 1, none, .mov (.tmp 22)⟩])))
 (.ops [⟨some 12, none, .mov (.tmp 8)⟩,
 ⟨some 13, none, .bin .add (.tmp 12) (.const (.int .i64 (1)))⟩,
 ⟨some 8, none, .mov (.tmp 13)⟩]))))))
 (.seq
 (.ops [⟨some 23, none, .mov (.tmp 0)⟩,
 ⟨some 24, none, .mov (.tmp 7)⟩,
 ⟨some 25, none, .bin .add (.tmp 23) (.tmp 24)⟩,
 ⟨some 6, none, .mov (.tmp 25)⟩])
 .ret))))⟩
theorem t121 : T 121 = some c121 := by kernel_rfl

/-- plait/plaitref11.May -/
def c122 : AFunc := ⟨43, 1, [.inl 2],
 (.seq
 (.ops [⟨some 1, none, .box 32 11 (.tmp 0)⟩,
 ⟨some 2, none, .mov (.const (.bool false))⟩])
 (.seq
 (.opsD [⟨some 3, none, .faddr 1 (.tmp 1)⟩,
 ⟨some 4, none, .load1 (.tmp 3)⟩,
 ⟨some 5, none, .mov (.tmp 4)⟩,
 ⟨some 6, some (5, false), .faddr 4 (.tmp 1)⟩,
 ⟨some 7, some (5, false), .load1 (.tmp 6)⟩,
 ⟨some 8, none, .pick (.tmp 5) (.const (.bool true)) (.tmp 7)⟩,
 ⟨some 9, none, .mov (.tmp 8)⟩,
 ⟨some 10, some (9, true), .loadN 11 (.tmp 1)⟩,
 ⟨some 11, some (9, true), .loadN 11 (.tmp 1)⟩,
 ⟨some 12, some (9, true), .call 144 [(.tmp 11)]⟩,
 ⟨some 13, some (9, true), .eqF false [(0, .b), (1, .b), (2, .b), (3, .i), (4, .b), (5, .b), (6, .i), (7, .i), (8, .i), (9, .b), (10, .i)] (.tmp 10) (.tmp 12)⟩,
 ⟨some 14, none, .pick (.tmp 9) (.tmp 13) (.const (.bool false))⟩,
 ⟨some 15, none, .mov (.tmp 14)⟩,
 ⟨some 16, some (15, true), .faddr 2 (.tmp 1)⟩,
 ⟨some 17, some (15, true), .load1 (.tmp 16)⟩,
 ⟨some 18, some (15, true), .mov (.tmp 17)⟩,
 ⟨some 19, some (18, false), .faddr 3 (.tmp 1)⟩,
 ⟨some 20, some (18, false), .load1 (.tmp 19)⟩,
 ⟨some 21, some (18, false), .bin .lss (.tmp 20) (.const (.int .u64 (4294967296)))⟩,
 ⟨some 22, some (15, true), .pick (.tmp 18) (.const (.bool true)) (.tmp 21)⟩,
 ⟨some 23, none, .pick (.tmp 15) (.tmp 22) (.const (.bool false))⟩,
 ⟨some 24, none, .mov (.tmp 23)⟩,
 ⟨some 25, some (24, true), .faddr 5 (.tmp 1)⟩,
 ⟨some 26, some (24, true), .load1 (.tmp 25)⟩,
 ⟨some 27, some (24, true), .mov (.tmp 26)⟩,
 ⟨some 28, some (27, false), .faddr 6 (.tmp 1)⟩,
 ⟨some 29, some (27, false), .load1 (.tmp 28)⟩,
 ⟨some 30, some (27, false), .bin .lss (.tmp 29) (.const (.int .u64 (4294967296)))⟩,
 ⟨some 31, some (24, true), .pick (.tmp 27) (.const (.bool true)) (.tmp 30)⟩,
 ⟨some 32, none, .pick (.tmp 24) (.tmp 31) (.const (.bool false))⟩,
 ⟨some 33, none, .mov (.tmp 32)⟩,
 ⟨some 34, some (33, true), .faddr 8 (.tmp 1)⟩,
 ⟨some 35, some (33, true), .load1 (.tmp 34)⟩,
 ⟨some 36, some (33, true), .bin .geq (.tmp 35) (.const (.int .i64 (0)))⟩,
 ⟨some 37, none, .pick (.tmp 33) (.tmp 36) (.const (.bool false))⟩,
 ⟨some 38, none, .mov (.tmp 37)⟩,
 ⟨some 39, some (38, true), .faddr 8 (.tmp 1)⟩,
 ⟨some 40, some (38, true), .load1 (.tmp 39)⟩,
 ⟨some 41, some (38, true), .bin .leq (.tmp 40) (.const (.int .i64 (65535)))⟩,
 ⟨some 42, none, .pick (.tmp 38) (.tmp 41) (.const (.bool false))⟩,
 ⟨some 2, none, .mov (.tmp 42)⟩] [(7, 9), (7, 10)])
 .ret))⟩
theorem t122 : T 122 = some c122 := by kernel_rfl

/-- plait/plaitref11.bit -/
def c123 : AFunc := ⟨7, 2, [.inl 4],
 (.seq
 (.ops [⟨some 4, none, .mov (.const (.int .u64 (0)))⟩])
 (.seq
 (.seq
 (.ops [⟨some 5, none, .mov (.tmp 0)⟩])
 (.cond (.tmp 5)
 (.seq
 (.ops [⟨some 6, none, .mov (.tmp 1)⟩,
 ⟨some 4, none, .mov (.tmp 6)⟩])
 .ret)
 .skip))
 (.seq
 (.ops [⟨some 4, none, .mov (.const (.int .u64 (0)))⟩])
 .ret)))⟩
theorem t123 : T 123 = some c123 := by kernel_rfl

/-- plait/plaitref11.wide -/
def c124 : AFunc := ⟨4, 1, [.inl 2],
 (.seq
 (.ops [⟨some 2, none, .mov (.const (.int .i64 (0)))⟩])
 (.seq
 (.seq
 (.ops [⟨some 3, none, .mov (.tmp 0)⟩])
 (.cond (.tmp 3)
 (.seq
 (.ops [⟨some 2, none, .mov (.const (.int .i64 (8)))⟩])
 .ret)
 .skip))
 (.seq
 (.ops [⟨some 2, none, .mov (.const (.int .i64 (4)))⟩])
 .ret)))⟩
theorem t124 : T 124 = some c124 := by kernel_rfl

/-- plait/plaitref12.MayAdd -/
def c125 : AFunc := ⟨52, 1, [.inl 2],
 (.seq
 (.ops [⟨some 1, none, .box 34 6 (.tmp 0)⟩,
 ⟨some 2, none, .mov (.const (.bool false))⟩])
 (.seq
 (.ops [⟨some 3, none, .mov (.const (.int .i64 (8)))⟩])
 (.seq
 (.seq
 (.ops [⟨some 4, none, .faddr 0 (.tmp 1)⟩,
 ⟨some 5, none, .load1 (.tmp 4)⟩])
 (.cond (.tmp 5)
 (.ops [⟨some 3, none, .mov (.const (.int .i64 (0)))⟩])
 .skip))
 (.seq
 (.ops [⟨some 6, none, .faddr 1 (.tmp 1)⟩,
 ⟨some 7, none, .load1 (.tmp 6)⟩,
 ⟨some 8, none, .bin .geq (.tmp 7) (.const (.int .i64 (0)))⟩,
 ⟨some 9, none, .mov (.tmp 8)⟩,
 ⟨some 10, some (9, true), .faddr 1 (.tmp 1)⟩,
 ⟨some 11, some (9, true), .load1 (.tmp 10)⟩,
 ⟨some 12, some (9, true), .bin .leq (.tmp 11) (.const (.int .i64 (255)))⟩,
 ⟨some 13, none, .pick (.tmp 9) (.tmp 12) (.const (.bool false))⟩,
 ⟨some 14, none, .mov (.tmp 13)⟩,
 ⟨some 15, some (14, true), .faddr 2 (.tmp 1)⟩,
 ⟨some 16, some (14, true), .load1 (.tmp 15)⟩,
 ⟨some 17, some (14, true), .lenS (.tmp 16)⟩,
 ⟨some 18, some (14, true), .bin .eql (.tmp 17) (.const (.int .i64 (4)))⟩,
 ⟨some 19, some (14, true), .mov (.tmp 18)⟩,
 ⟨some 20, some (19, false), .faddr 2 (.tmp 1)⟩,
 ⟨some 21, some (19, false), .load1 (.tmp 20)⟩,
 ⟨some 22, some (19, false), .lenS (.tmp 21)⟩,
 ⟨some 23, some (19, false), .bin .eql (.tmp 22) (.const (.int .i64 (16)))⟩,
 ⟨some 24, some (14, true), .pick (.tmp 19) (.const (.bool true)) (.tmp 23)⟩,
 ⟨some 25, none, .pick (.tmp 14) (.tmp 24) (.const (.bool false))⟩,
 ⟨some 26, none, .mov (.tmp 25)⟩,
 ⟨some 27, some (26, true), .faddr 4 (.tmp 1)⟩,
 ⟨some 28, some (26, true), .load1 (.tmp 27)⟩,
 ⟨some 29, some (26, true), .bin .geq (.tmp 28) (.const (.int .i64 (0)))⟩,
 ⟨some 30, none, .pick (.tmp 26) (.tmp 29) (.const (.bool false))⟩,
 ⟨some 31, none, .mov (.tmp 30)⟩,
 ⟨some 32, some (31, true), .faddr 4 (.tmp 1)⟩,
 ⟨some 33, some (31, true), .load1 (.tmp 32)⟩,
 ⟨some 34, some (31, true), .bin .leq (.tmp 33) (.const (.int .i64 (65535)))⟩,
 ⟨some 35, none, .pick (.tmp 31) (.tmp 34) (.const (.bool false))⟩,
 ⟨some 36, none, .mov (.tmp 35)⟩,
 ⟨some 37, some (36, true), .faddr 3 (.tmp 1)⟩,
 ⟨some 38, some (36, true), .load1 (.tmp 37)⟩,
 ⟨some 39, some (36, true), .mov (.tmp 38)⟩,
 ⟨some 40, some (39, false), .faddr 4 (.tmp 1)⟩,
 ⟨some 41, some (39, false), .load1 (.tmp 40)⟩,
 ⟨some 42, some (39, false), .bin .eql (.tmp 41) (.const (.int .i64 (0)))⟩,
 ⟨some 43, some (36, true), .pick (.tmp 39) (.const (.bool true)) (.tmp 42)⟩,
 ⟨some 44, none, .pick (.tmp 36) (.tmp 43) (.const (.bool false))⟩,
 ⟨some 45, none, .mov (.tmp 44)⟩,
 ⟨some 46, some (45, true), .faddr 5 (.tmp 1)⟩,
 ⟨some 47, some (45, true), .load1 (.tmp 46)⟩,
 ⟨some 48, some (45, true), .lenS (.tmp 47)⟩,
 ⟨some 49, some (45, true), .mov (.tmp 3)⟩,
 ⟨some 50, some (45, true), .bin .eql (.tmp 48) (.tmp 49)⟩,
 ⟨some 51, none, .pick (.tmp 45) (.tmp 50) (.const (.bool false))⟩,
 ⟨some 2, none, .mov (.tmp 51)⟩])
 .ret))))⟩
theorem t125 : T 125 = some c125 := by kernel_rfl

def c144t : ACode :=
 (.seq
 (.seq
 (.ops [⟨some 17, none, .faddr 4 (.tmp 1)⟩,
 ⟨some 18, none, .load1 (.tmp 17)⟩])
 (.cond (.tmp 18)
 (.opsD [⟨some 19, none, .faddr 0 (.tmp 1)⟩,
 ⟨some 20, none, .load1 (.tmp 19)⟩,
 ⟨some 21, none, .faddr 5 (.tmp 1)⟩,
 ⟨some 22, none, .load1 (.tmp 21)⟩,
 ⟨some 23, none, .faddr 6 (.tmp 1)⟩,
 ⟨some 24, none, .load1 (.tmp 23)⟩,
 ⟨some 25, none, .faddr 7 (.tmp 1)⟩,
 ⟨some 26, none, .load1 (.tmp 25)⟩,
 ⟨some 27, none, .faddr 8 (.tmp 1)⟩,
 ⟨some 28, none, .load1 (.tmp 27)⟩,
 ⟨some 29, none, .faddr 9 (.tmp 1)⟩,
 ⟨some 30, none, .load1 (.tmp 29)⟩,
 ⟨some 31, none, .faddr 0 (.tmp 3)⟩,
 ⟨none, none, .store 1 (.tmp 31) (.tmp 20)⟩,
 ⟨some 32, none, .faddr 5 (.tmp 3)⟩,
 ⟨none, none, .store 1 (.tmp 32) (.tmp 22)⟩,
 ⟨some 33, none, .faddr 6 (.tmp 3)⟩,
 ⟨none, none, .store 1 (.tmp 33) (.tmp 24)⟩,
 ⟨some 34, none, .faddr 7 (.tmp 3)⟩,
 ⟨none, none, .store 1 (.tmp 34) (.tmp 26)⟩,
 ⟨some 35, none, .faddr 8 (.tmp 3)⟩,
 ⟨none, none, .store 1 (.tmp 35) (.tmp 28)⟩,
 ⟨some 36, none, .faddr 9 (.tmp 3)⟩,
 ⟨none, none, .store 1 (.tmp 36) (.tmp 30)⟩] [(3, 13), (3, 14), (5, 13), (5, 14), (5, 15), (5, 16), (7, 13), (7, 14), (7, 15), (7, 16), (7, 17), (7, 18), (9, 13), (9, 14), (9, 15), (9, 16), (9, 17), (9, 18), (9, 19), (9, 20), (11, 13), (11, 14), (11, 15), (11, 16), (11, 17), (11, 18), (11, 19), (11, 20), (11, 21), (11, 22)])
 .skip))
 (.seq
 (.seq
 (.ops [⟨some 37, none, .faddr 9 (.tmp 3)⟩,
 ⟨some 38, none, .load1 (.tmp 37)⟩])
 (.cond (.tmp 38)
 (.ops [⟨some 39, none, .faddr 10 (.tmp 1)⟩,
 ⟨some 40, none, .load1 (.tmp 39)⟩,
 ⟨some 41, none, .faddr 10 (.tmp 3)⟩,
 ⟨none, none, .store 1 (.tmp 41) (.tmp 40)⟩])
 .skip))
 (.seq
 (.ops [⟨some 42, none, .loadN 11 (.tmp 3)⟩,
 ⟨none, none, .store 11 (.tmp 2) (.tmp 42)⟩])
 .ret)))

/-- plait/plaitref11.bare -/
def c144 : AFunc := ⟨43, 1, [.inr (2, 11, true)],
 (.seq
 (.ops [⟨some 1, none, .box 32 11 (.tmp 0)⟩,
 ⟨some 2, none, .alloc 32 [.bool false, .bool false, .bool false, .int .u64 (0), .bool false, .bool false, .int .u64 (0), .int .u32 (0), .int .i64 (0), .bool false, .int .u16 (0)]⟩])
 (.seq
 (.ops [⟨some 4, none, .faddr 1 (.tmp 1)⟩,
 ⟨some 5, none, .load1 (.tmp 4)⟩,
 ⟨some 6, none, .faddr 4 (.tmp 1)⟩,
 ⟨some 7, none, .load1 (.tmp 6)⟩,
 ⟨some 8, none, .build [.bool false, .bool false, .bool false, .int .u64 (0), .bool false, .bool false, .int .u64 (0), .int .u32 (0), .int .i64 (0), .bool false, .int .u16 (0)] [(1, 1, (.tmp 5)), (4, 1, (.tmp 7))]⟩,
 ⟨some 3, none, .alloc 32 [.bool false, .bool false, .bool false, .int .u64 (0), .bool false, .bool false, .int .u64 (0), .int .u32 (0), .int .i64 (0), .bool false, .int .u16 (0)]⟩,
 ⟨none, none, .store 11 (.tmp 3) (.tmp 8)⟩])
 (.seq
 (.seq
 (.ops [⟨some 9, none, .faddr 1 (.tmp 1)⟩,
 ⟨some 10, none, .load1 (.tmp 9)⟩])
 (.cond (.tmp 10)
 (.opsD [⟨some 11, none, .faddr 2 (.tmp 1)⟩,
 ⟨some 12, none, .load1 (.tmp 11)⟩,
 ⟨some 13, none, .faddr 3 (.tmp 1)⟩,
 ⟨some 14, none, .load1 (.tmp 13)⟩,
 ⟨some 15, none, .faddr 2 (.tmp 3)⟩,
 ⟨none, none, .store 1 (.tmp 15) (.tmp 12)⟩,
 ⟨some 16, none, .faddr 3 (.tmp 3)⟩,
 ⟨none, none, .store 1 (.tmp 16) (.tmp 14)⟩] [(3, 5), (3, 6)])
 .skip))
 c144t)))⟩
theorem t144 : T 144 = some c144 := by kernel_rfl

end Go.Proofs.YtigknpfjhegkgaaGreat

