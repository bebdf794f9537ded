/- The code of functions, as the framework reads it. -/
import Derived.Test.YtigknpfjhegkgaaGreatZo
import Derived.KernelRfl
namespace Go.Proofs.YtigknpfjhegkgaaGreat
open Go Go.AS
set_option maxRecDepth 100000

/-- plait/opt.May -/
def c16 : AFunc := ⟨12, 1, [.inl 2],
 (.seq
 (.ops [⟨some 1, none, .box 46 38 (.tmp 0)⟩,
 ⟨some 2, none, .mov (.const (.bool false))⟩])
 (.seq
 (.ops [⟨some 6, none, .loadN 38 (.tmp 1)⟩,
 ⟨some 7, none, .call 19 [(.tmp 6)]⟩,
 ⟨some 5, none, .mov (.tmp 7)⟩,
 ⟨some 8, none, .ext (.tmp 5) 0⟩,
 ⟨some 9, none, .ext (.tmp 5) 1⟩,
 ⟨some 3, none, .alloc 62 [.int .i64 (0), .string ⟨⟨[]⟩⟩]⟩,
 ⟨none, none, .store 2 (.tmp 3) (.tmp 8)⟩,
 ⟨some 4, none, .mov (.tmp 9)⟩])
 (.seq
 (.ops [⟨some 10, none, .mov (.tmp 4)⟩,
 ⟨some 11, none, .bin .eql (.tmp 10) (.const (.int .i64 (0)))⟩,
 ⟨some 2, none, .mov (.tmp 11)⟩])
 .ret)))⟩
theorem t16 : T 16 = some c16 := by kernel_rfl

/-- plait/opt.Encode -/
def c19 : AFunc := ⟨36, 1, [.inr (2, 2, true), .inl 3],
 (.seq
 (.ops [⟨some 1, none, .box 46 38 (.tmp 0)⟩,
 ⟨some 2, none, .alloc 62 [.int .i64 (0), .string ⟨⟨[]⟩⟩]⟩,
 ⟨some 3, none, .mov (.const (.int .i64 (0)))⟩])
 (.seq
 (.seq
 (.opsD [⟨some 6, none, .faddr 0 (.tmp 1)⟩,
 ⟨some 7, none, .load1 (.tmp 6)⟩,
 ⟨some 8, none, .bin .lss (.tmp 7) (.const (.int .i64 (0)))⟩,
 ⟨some 9, none, .mov (.tmp 8)⟩,
 ⟨some 10, some (9, false), .faddr 0 (.tmp 1)⟩,
 ⟨some 11, some (9, false), .load1 (.tmp 10)⟩,
 ⟨some 12, some (9, false), .bin .geq (.tmp 11) (.const (.int .i64 (9)))⟩,
 ⟨some 13, none, .pick (.tmp 9) (.const (.bool true)) (.tmp 12)⟩,
 ⟨some 14, none, .mov (.tmp 13)⟩,
 ⟨some 15, some (14, false), .loadN 38 (.tmp 1)⟩,
 ⟨some 16, some (14, false), .loadN 38 (.tmp 1)⟩,
 ⟨some 17, some (14, false), .call 25 [(.tmp 16)]⟩,
 ⟨some 18, some (14, false), .eqF true opL (.tmp 15) (.tmp 17)⟩,
 ⟨some 19, none, .pick (.tmp 14) (.const (.bool true)) (.tmp 18)⟩] [(9, 11), (9, 12)])
 (.cond (.tmp 19)
 (.seq
 (.ops [⟨some 20, none, .build [.int .i64 (0), .string ⟨⟨[]⟩⟩] []⟩,
 ⟨none, none, .store 2 (.tmp 2) (.tmp 20)⟩,
 ⟨some 3, none, .mov (.const (.int .i64 (2)))⟩])
 .ret)
 .skip))
 (.seq
 (.opsD [⟨some 22, none, .call 26 []⟩,
 ⟨some 23, none, .faddr 0 (.tmp 1)⟩,
 ⟨some 24, none, .load1 (.tmp 23)⟩,
 ⟨some 25, none, .idxN 9 2 (.tmp 22) (.tmp 24)⟩,
 ⟨some 26, none, .fld1 0 (.tmp 25)⟩,
 ⟨some 27, none, .loadN 38 (.tmp 1)⟩,
 ⟨some 28, none, .callv (.tmp 26) [(.tmp 27)]⟩,
 ⟨some 21, none, .mov (.tmp 28)⟩,
 ⟨some 29, none, .ext (.tmp 21) 0⟩,
 ⟨some 30, none, .ext (.tmp 21) 1⟩,
 ⟨some 4, none, .mov (.tmp 29)⟩,
 ⟨some 5, none, .mov (.tmp 30)⟩] [(2, 0), (2, 1), (5, 0), (5, 1)])
 (.seq
 (.seq
 (.ops [⟨some 31, none, .mov (.tmp 5)⟩,
 ⟨some 32, none, .bin .neq (.tmp 31) (.const (.int .i64 (0)))⟩])
 (.cond (.tmp 32)
 (.seq
 (.ops [⟨some 33, none, .build [.int .i64 (0), .string ⟨⟨[]⟩⟩] []⟩,
 ⟨none, none, .store 2 (.tmp 2) (.tmp 33)⟩,
 ⟨some 3, none, .mov (.const (.int .i64 (2)))⟩])
 .ret)
 .skip))
 (.seq
 (.ops [⟨some 34, none, .mov (.tmp 4)⟩,
 ⟨some 35, none, .build [.int .i64 (0), .string ⟨⟨[]⟩⟩] [(0, 1, (.const (.int .i64 (30)))), (1, 1, (.tmp 34))]⟩,
 ⟨none, none, .store 2 (.tmp 2) (.tmp 35)⟩,
 ⟨some 3, none, .mov (.const (.int .i64 (0)))⟩])
 .ret)))))⟩
theorem t19 : T 19 = some c19 := by kernel_rfl

/-- plait/opt.has -/
def c25 : AFunc := ⟨55, 1, [.inr (2, 38, true)],
 (.seq
 (.ops [⟨some 1, none, .box 46 38 (.tmp 0)⟩,
 ⟨some 2, none, .alloc 46 opZ⟩])
 (.seq
 (.ops [⟨some 4, none, .faddr 0 (.tmp 1)⟩,
 ⟨some 5, none, .load1 (.tmp 4)⟩,
 ⟨some 6, none, .build opZ [(0, 1, (.tmp 5))]⟩,
 ⟨some 3, none, .alloc 46 opZ⟩,
 ⟨none, none, .store 38 (.tmp 3) (.tmp 6)⟩])
 (.seq
 (.seq
 (.ops [⟨some 7, none, .faddr 0 (.tmp 1)⟩,
 ⟨some 8, none, .load1 (.tmp 7)⟩])
 (.block 0
 (.seq
 (.ops [⟨some 10, none, .bin .eql (.tmp 8) (.const (.int .i64 (0)))⟩,
 ⟨some 9, none, .mov (.tmp 10)⟩])
 (.cond (.tmp 9)
 (.ops [⟨some 11, none, .faddr 1 (.tmp 1)⟩,
 ⟨some 12, none, .loadN 8 (.tmp 11)⟩,
 ⟨some 13, none, .faddr 1 (.tmp 3)⟩,
 ⟨none, none, .store 8 (.tmp 13) (.tmp 12)⟩])
 (.seq
 (.ops [⟨some 15, none, .bin .eql (.tmp 8) (.const (.int .i64 (1)))⟩,
 ⟨some 14, none, .mov (.tmp 15)⟩])
 (.cond (.tmp 14)
 (.ops [⟨some 16, none, .faddr 9 (.tmp 1)⟩,
 ⟨some 17, none, .loadN 6 (.tmp 16)⟩,
 ⟨some 18, none, .faddr 9 (.tmp 3)⟩,
 ⟨none, none, .store 6 (.tmp 18) (.tmp 17)⟩])
 (.seq
 (.ops [⟨some 20, none, .bin .eql (.tmp 8) (.const (.int .i64 (2)))⟩,
 ⟨some 19, none, .mov (.tmp 20)⟩])
 (.cond (.tmp 19)
 (.ops [⟨some 21, none, .faddr 15 (.tmp 1)⟩,
 ⟨some 22, none, .loadN 11 (.tmp 21)⟩,
 ⟨some 23, none, .faddr 15 (.tmp 3)⟩,
 ⟨none, none, .store 11 (.tmp 23) (.tmp 22)⟩])
 (.seq
 (.ops [⟨some 25, none, .bin .eql (.tmp 8) (.const (.int .i64 (3)))⟩,
 ⟨some 24, none, .mov (.tmp 25)⟩])
 (.cond (.tmp 24)
 (.ops [⟨some 26, none, .faddr 26 (.tmp 1)⟩,
 ⟨some 27, none, .loadN 6 (.tmp 26)⟩,
 ⟨some 28, none, .faddr 26 (.tmp 3)⟩,
 ⟨none, none, .store 6 (.tmp 28) (.tmp 27)⟩])
 (.seq
 (.ops [⟨some 30, none, .bin .eql (.tmp 8) (.const (.int .i64 (4)))⟩,
 ⟨some 29, none, .mov (.tmp 30)⟩])
 (.cond (.tmp 29)
 (.ops [⟨some 31, none, .faddr 32 (.tmp 1)⟩,
 ⟨some 32, none, .loadN 1 (.tmp 31)⟩,
 ⟨some 33, none, .faddr 32 (.tmp 3)⟩,
 ⟨none, none, .store 1 (.tmp 33) (.tmp 32)⟩])
 (.seq
 (.ops [⟨some 35, none, .bin .eql (.tmp 8) (.const (.int .i64 (5)))⟩,
 ⟨some 34, none, .mov (.tmp 35)⟩])
 (.cond (.tmp 34)
 (.ops [⟨some 36, none, .faddr 33 (.tmp 1)⟩,
 ⟨some 37, none, .loadN 1 (.tmp 36)⟩,
 ⟨some 38, none, .faddr 33 (.tmp 3)⟩,
 ⟨none, none, .store 1 (.tmp 38) (.tmp 37)⟩])
 (.seq
 (.ops [⟨some 40, none, .bin .eql (.tmp 8) (.const (.int .i64 (6)))⟩,
 ⟨some 39, none, .mov (.tmp 40)⟩])
 (.cond (.tmp 39)
 (.ops [⟨some 41, none, .faddr 34 (.tmp 1)⟩,
 ⟨some 42, none, .loadN 1 (.tmp 41)⟩,
 ⟨some 43, none, .faddr 34 (.tmp 3)⟩,
 ⟨none, none, .store 1 (.tmp 43) (.tmp 42)⟩])
 (.seq
 (.ops [⟨some 45, none, .bin .eql (.tmp 8) (.const (.int .i64 (7)))⟩,
 ⟨some 44, none, .mov (.tmp 45)⟩])
 (.cond (.tmp 44)
 (.ops [⟨some 46, none, .faddr 35 (.tmp 1)⟩,
 ⟨some 47, none, .loadN 1 (.tmp 46)⟩,
 ⟨some 48, none, .faddr 35 (.tmp 3)⟩,
 ⟨none, none, .store 1 (.tmp 48) (.tmp 47)⟩])
 (.seq
 (.ops [⟨some 50, none, .bin .eql (.tmp 8) (.const (.int .i64 (8)))⟩,
 ⟨some 49, none, .mov (.tmp 50)⟩])
 (.cond (.tmp 49)
 (.ops [⟨some 51, none, .faddr 36 (.tmp 1)⟩,
 ⟨some 52, none, .loadN 2 (.tmp 51)⟩,
 ⟨some 53, none, .faddr 36 (.tmp 3)⟩,
 ⟨none, none, .store 2 (.tmp 53) (.tmp 52)⟩])
 .skip))))))))))))))))))))
 (.seq
 (.ops [⟨some 54, none, .loadN 38 (.tmp 3)⟩,
 ⟨none, none, .store 38 (.tmp 2) (.tmp 54)⟩])
 .ret))))⟩
theorem t25 : T 25 = some c25 := by kernel_rfl

/-- plait/opt.all -/
def c26 : AFunc := ⟨11, 0, [.inr (0, 18, true)],
 (.seq
 (.ops [⟨some 0, none, .alloc 78 [.nilFunc, .nilFunc, .nilFunc, .nilFunc, .nilFunc, .nilFunc, .nilFunc, .nilFunc, .nilFunc, .nilFunc, .nilFunc, .nilFunc, .nilFunc, .nilFunc, .nilFunc, .nilFunc, .nilFunc, .nilFunc]⟩])
 (.seq
 (.ops [⟨some 1, none, .build [.nilFunc, .nilFunc] [(0, 1, (.func 32)), (1, 1, (.func 34))]⟩,
 ⟨some 2, none, .build [.nilFunc, .nilFunc] [(0, 1, (.func 36)), (1, 1, (.func 38))]⟩,
 ⟨some 3, none, .build [.nilFunc, .nilFunc] [(0, 1, (.func 40)), (1, 1, (.func 42))]⟩,
 ⟨some 4, none, .build [.nilFunc, .nilFunc] [(0, 1, (.func 44)), (1, 1, (.func 46))]⟩,
 ⟨some 5, none, .build [.nilFunc, .nilFunc] [(0, 1, (.func 48)), (1, 1, (.func 50))]⟩,
 ⟨some 6, none, .build [.nilFunc, .nilFunc] [(0, 1, (.func 52)), (1, 1, (.func 54))]⟩,
 ⟨some 7, none, .build [.nilFunc, .nilFunc] [(0, 1, (.func 56)), (1, 1, (.func 58))]⟩,
 ⟨some 8, none, .build [.nilFunc, .nilFunc] [(0, 1, (.func 60)), (1, 1, (.func 62))]⟩,
 ⟨some 9, none, .build [.nilFunc, .nilFunc] [(0, 1, (.func 64)), (1, 1, (.func 66))]⟩,
 ⟨some 10, none, .build [.nilFunc, .nilFunc, .nilFunc, .nilFunc, .nilFunc, .nilFunc, .nilFunc, .nilFunc, .nilFunc, .nilFunc, .nilFunc, .nilFunc, .nilFunc, .nilFunc, .nilFunc, .nilFunc, .nilFunc, .nilFunc] [(0, 2, (.tmp 1)), (2, 2, (.tmp 2)), (4, 2, (.tmp 3)), (6, 2, (.tmp 4)), (8, 2, (.tmp 5)), (10, 2, (.tmp 6)), (12, 2, (.tmp 7)), (14, 2, (.tmp 8)), (16, 2, (.tmp 9))]⟩,
 ⟨none, none, .store 18 (.tmp 0) (.tmp 10)⟩])
 .ret))⟩
theorem t26 : T 26 = some c26 := by kernel_rfl

/-- plait/opt.all$1 -/
def c32 : AFunc := ⟨9, 1, [.inl 2, .inl 3],
 (.seq
 (.ops [⟨some 1, none, .box 46 38 (.tmp 0)⟩,
 ⟨some 2, none, .mov (.const (.string ⟨⟨[]⟩⟩))⟩,
 ⟨some 3, none, .mov (.const (.int .i64 (0)))⟩])
 (.seq
 (.ops [⟨some 4, none, .faddr 1 (.tmp 1)⟩,
 ⟨some 5, none, .loadN 8 (.tmp 4)⟩,
 ⟨some 6, none, .call 33 [(.tmp 5)]⟩,
 ⟨some 7, none, .ext (.tmp 6) 0⟩,
 ⟨some 8, none, .ext (.tmp 6) 1⟩,
 ⟨some 2, none, .mov (.tmp 7)⟩,
 ⟨some 3, none, .mov (.tmp 8)⟩])
 .ret))⟩
theorem t32 : T 32 = some c32 := by kernel_rfl

/-- plait/opt.all$3 -/
def c36 : AFunc := ⟨9, 1, [.inl 2, .inl 3],
 (.seq
 (.ops [⟨some 1, none, .box 46 38 (.tmp 0)⟩,
 ⟨some 2, none, .mov (.const (.string ⟨⟨[]⟩⟩))⟩,
 ⟨some 3, none, .mov (.const (.int .i64 (0)))⟩])
 (.seq
 (.ops [⟨some 4, none, .faddr 9 (.tmp 1)⟩,
 ⟨some 5, none, .loadN 6 (.tmp 4)⟩,
 ⟨some 6, none, .call 37 [(.tmp 5)]⟩,
 ⟨some 7, none, .ext (.tmp 6) 0⟩,
 ⟨some 8, none, .ext (.tmp 6) 1⟩,
 ⟨some 2, none, .mov (.tmp 7)⟩,
 ⟨some 3, none, .mov (.tmp 8)⟩])
 .ret))⟩
theorem t36 : T 36 = some c36 := by kernel_rfl

/-- plait/opt.all$5 -/
def c40 : AFunc := ⟨9, 1, [.inl 2, .inl 3],
 (.seq
 (.ops [⟨some 1, none, .box 46 38 (.tmp 0)⟩,
 ⟨some 2, none, .mov (.const (.string ⟨⟨[]⟩⟩))⟩,
 ⟨some 3, none, .mov (.const (.int .i64 (0)))⟩])
 (.seq
 (.ops [⟨some 4, none, .faddr 15 (.tmp 1)⟩,
 ⟨some 5, none, .loadN 11 (.tmp 4)⟩,
 ⟨some 6, none, .call 41 [(.tmp 5)]⟩,
 ⟨some 7, none, .ext (.tmp 6) 0⟩,
 ⟨some 8, none, .ext (.tmp 6) 1⟩,
 ⟨some 2, none, .mov (.tmp 7)⟩,
 ⟨some 3, none, .mov (.tmp 8)⟩])
 .ret))⟩
theorem t40 : T 40 = some c40 := by kernel_rfl

/-- plait/opt.all$7 -/
def c44 : AFunc := ⟨9, 1, [.inl 2, .inl 3],
 (.seq
 (.ops [⟨some 1, none, .box 46 38 (.tmp 0)⟩,
 ⟨some 2, none, .mov (.const (.string ⟨⟨[]⟩⟩))⟩,
 ⟨some 3, none, .mov (.const (.int .i64 (0)))⟩])
 (.seq
 (.ops [⟨some 4, none, .faddr 26 (.tmp 1)⟩,
 ⟨some 5, none, .loadN 6 (.tmp 4)⟩,
 ⟨some 6, none, .call 45 [(.tmp 5)]⟩,
 ⟨some 7, none, .ext (.tmp 6) 0⟩,
 ⟨some 8, none, .ext (.tmp 6) 1⟩,
 ⟨some 2, none, .mov (.tmp 7)⟩,
 ⟨some 3, none, .mov (.tmp 8)⟩])
 .ret))⟩
theorem t44 : T 44 = some c44 := by kernel_rfl

/-- plait/opt.all$9 -/
def c48 : AFunc := ⟨9, 1, [.inl 2, .inl 3],
 (.seq
 (.ops [⟨some 1, none, .box 46 38 (.tmp 0)⟩,
 ⟨some 2, none, .mov (.const (.string ⟨⟨[]⟩⟩))⟩,
 ⟨some 3, none, .mov (.const (.int .i64 (0)))⟩])
 (.seq
 (.ops [⟨some 4, none, .faddr 32 (.tmp 1)⟩,
 ⟨some 5, none, .loadN 1 (.tmp 4)⟩,
 ⟨some 6, none, .call 49 [(.tmp 5)]⟩,
 ⟨some 7, none, .ext (.tmp 6) 0⟩,
 ⟨some 8, none, .ext (.tmp 6) 1⟩,
 ⟨some 2, none, .mov (.tmp 7)⟩,
 ⟨some 3, none, .mov (.tmp 8)⟩])
 .ret))⟩
theorem t48 : T 48 = some c48 := by kernel_rfl

/-- plait/opt.all$11 -/
def c52 : AFunc := ⟨9, 1, [.inl 2, .inl 3],
 (.seq
 (.ops [⟨some 1, none, .box 46 38 (.tmp 0)⟩,
 ⟨some 2, none, .mov (.const (.string ⟨⟨[]⟩⟩))⟩,
 ⟨some 3, none, .mov (.const (.int .i64 (0)))⟩])
 (.seq
 (.ops [⟨some 4, none, .faddr 33 (.tmp 1)⟩,
 ⟨some 5, none, .loadN 1 (.tmp 4)⟩,
 ⟨some 6, none, .call 53 [(.tmp 5)]⟩,
 ⟨some 7, none, .ext (.tmp 6) 0⟩,
 ⟨some 8, none, .ext (.tmp 6) 1⟩,
 ⟨some 2, none, .mov (.tmp 7)⟩,
 ⟨some 3, none, .mov (.tmp 8)⟩])
 .ret))⟩
theorem t52 : T 52 = some c52 := by kernel_rfl

/-- plait/opt.all$13 -/
def c56 : AFunc := ⟨9, 1, [.inl 2, .inl 3],
 (.seq
 (.ops [⟨some 1, none, .box 46 38 (.tmp 0)⟩,
 ⟨some 2, none, .mov (.const (.string ⟨⟨[]⟩⟩))⟩,
 ⟨some 3, none, .mov (.const (.int .i64 (0)))⟩])
 (.seq
 (.ops [⟨some 4, none, .faddr 34 (.tmp 1)⟩,
 ⟨some 5, none, .loadN 1 (.tmp 4)⟩,
 ⟨some 6, none, .call 57 [(.tmp 5)]⟩,
 ⟨some 7, none, .ext (.tmp 6) 0⟩,
 ⟨some 8, none, .ext (.tmp 6) 1⟩,
 ⟨some 2, none, .mov (.tmp 7)⟩,
 ⟨some 3, none, .mov (.tmp 8)⟩])
 .ret))⟩
theorem t56 : T 56 = some c56 := by kernel_rfl

/-- plait/opt.all$15 -/
def c60 : AFunc := ⟨9, 1, [.inl 2, .inl 3],
 (.seq
 (.ops [⟨some 1, none, .box 46 38 (.tmp 0)⟩,
 ⟨some 2, none, .mov (.const (.string ⟨⟨[]⟩⟩))⟩,
 ⟨some 3, none, .mov (.const (.int .i64 (0)))⟩])
 (.seq
 (.ops [⟨some 4, none, .faddr 35 (.tmp 1)⟩,
 ⟨some 5, none, .loadN 1 (.tmp 4)⟩,
 ⟨some 6, none, .call 61 [(.tmp 5)]⟩,
 ⟨some 7, none, .ext (.tmp 6) 0⟩,
 ⟨some 8, none, .ext (.tmp 6) 1⟩,
 ⟨some 2, none, .mov (.tmp 7)⟩,
 ⟨some 3, none, .mov (.tmp 8)⟩])
 .ret))⟩
theorem t60 : T 60 = some c60 := by kernel_rfl

/-- plait/opt.all$17 -/
def c64 : AFunc := ⟨9, 1, [.inl 2, .inl 3],
 (.seq
 (.ops [⟨some 1, none, .box 46 38 (.tmp 0)⟩,
 ⟨some 2, none, .mov (.const (.string ⟨⟨[]⟩⟩))⟩,
 ⟨some 3, none, .mov (.const (.int .i64 (0)))⟩])
 (.seq
 (.ops [⟨some 4, none, .faddr 36 (.tmp 1)⟩,
 ⟨some 5, none, .loadN 2 (.tmp 4)⟩,
 ⟨some 6, none, .call 65 [(.tmp 5)]⟩,
 ⟨some 7, none, .ext (.tmp 6) 0⟩,
 ⟨some 8, none, .ext (.tmp 6) 1⟩,
 ⟨some 2, none, .mov (.tmp 7)⟩,
 ⟨some 3, none, .mov (.tmp 8)⟩])
 .ret))⟩
theorem t64 : T 64 = some c64 := by kernel_rfl

end Go.Proofs.YtigknpfjhegkgaaGreat

