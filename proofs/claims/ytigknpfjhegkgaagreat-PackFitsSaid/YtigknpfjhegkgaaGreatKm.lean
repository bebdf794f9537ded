/- The code of functions, as the framework reads it. -/
import Derived.Test.YtigknpfjhegkgaaGreatZo
import Derived.KernelRfl
namespace Go.Proofs.YtigknpfjhegkgaaGreat
open Go Go.AS
set_option maxRecDepth 100000

/-- plait/pack.Size -/
def c7 : AFunc := ⟨16, 1, [.inl 2],
 (.seq
 (.ops [⟨some 1, none, .box 46 38 (.tmp 0)⟩,
 ⟨some 2, none, .mov (.const (.int .i64 (0)))⟩])
 (.seq
 (.ops [⟨some 6, none, .loadN 38 (.tmp 1)⟩,
 ⟨some 7, none, .call 19 [(.tmp 6)]⟩,
 ⟨some 5, none, .mov (.tmp 7)⟩,
 ⟨some 8, none, .ext (.tmp 5) 0⟩,
 ⟨some 9, none, .ext (.tmp 5) 1⟩,
 ⟨some 3, none, .alloc 62 [.int .i64 (0), .string ⟨⟨[]⟩⟩]⟩,
 ⟨none, none, .store 2 (.tmp 3) (.tmp 8)⟩,
 ⟨some 4, none, .mov (.tmp 9)⟩])
 (.seq
 (.seq
 (.ops [⟨some 10, none, .mov (.tmp 4)⟩,
 ⟨some 11, none, .bin .neq (.tmp 10) (.const (.int .i64 (0)))⟩])
 (.cond (.tmp 11)
 (.seq
 (.ops [⟨some 2, none, .mov (.const (.int .i64 (0)))⟩])
 .ret)
 .skip))
 (.seq
 (.ops [⟨some 12, none, .faddr 1 (.tmp 3)⟩,
 ⟨some 13, none, .load1 (.tmp 12)⟩,
 ⟨some 14, none, .lenS (.tmp 13)⟩,
 ⟨some 15, none, .bin .add (.const (.int .i64 (2))) (.tmp 14)⟩,
 ⟨some 2, none, .mov (.tmp 15)⟩])
 .ret))))⟩
theorem t7 : T 7 = some c7 := by kernel_rfl

/-- plait/plaitref15.Size -/
def c8 : AFunc := ⟨16, 1, [.inl 2],
 (.seq
 (.ops [⟨some 1, none, .box 46 38 (.tmp 0)⟩,
 ⟨some 2, none, .mov (.const (.int .i64 (0)))⟩])
 (.seq
 (.ops [⟨some 6, none, .loadN 38 (.tmp 1)⟩,
 ⟨some 7, none, .call 20 [(.tmp 6)]⟩,
 ⟨some 5, none, .mov (.tmp 7)⟩,
 ⟨some 8, none, .ext (.tmp 5) 0⟩,
 ⟨some 9, none, .ext (.tmp 5) 1⟩,
 ⟨some 3, none, .alloc 62 [.int .i64 (0), .string ⟨⟨[]⟩⟩]⟩,
 ⟨none, none, .store 2 (.tmp 3) (.tmp 8)⟩,
 ⟨some 4, none, .mov (.tmp 9)⟩])
 (.seq
 (.seq
 (.ops [⟨some 10, none, .mov (.tmp 4)⟩,
 ⟨some 11, none, .bin .neq (.tmp 10) (.const (.int .i64 (0)))⟩])
 (.cond (.tmp 11)
 (.seq
 (.ops [⟨some 2, none, .mov (.const (.int .i64 (0)))⟩])
 .ret)
 .skip))
 (.seq
 (.ops [⟨some 12, none, .faddr 1 (.tmp 3)⟩,
 ⟨some 13, none, .load1 (.tmp 12)⟩,
 ⟨some 14, none, .lenS (.tmp 13)⟩,
 ⟨some 15, none, .bin .add (.const (.int .i64 (2))) (.tmp 14)⟩,
 ⟨some 2, none, .mov (.tmp 15)⟩])
 .ret))))⟩
theorem t8 : T 8 = some c8 := by kernel_rfl

/-- plait/pack.Rank -/
def c9 : AFunc := ⟨41, 1, [.inl 2],
 (.seq
 (.ops [⟨some 1, none, .box 46 38 (.tmp 0)⟩,
 ⟨some 2, none, .mov (.const (.int .i64 (0)))⟩])
 (.seq
 (.block 0
 (.seq
 (.ops [⟨some 6, none, .faddr 0 (.tmp 1)⟩,
 ⟨some 7, none, .load1 (.tmp 6)⟩,
 ⟨some 8, none, .bin .eql (.tmp 7) (.const (.int .i64 (2)))⟩,
 ⟨some 9, none, .mov (.tmp 8)⟩,
 ⟨some 10, some (9, false), .faddr 0 (.tmp 1)⟩,
 ⟨some 11, some (9, false), .load1 (.tmp 10)⟩,
 ⟨some 12, some (9, false), .bin .eql (.tmp 11) (.const (.int .i64 (0)))⟩,
 ⟨some 13, none, .pick (.tmp 9) (.const (.bool true)) (.tmp 12)⟩,
 ⟨some 5, none, .mov (.tmp 13)⟩])
 (.cond (.tmp 5)
 (.seq
 (.ops [⟨some 2, none, .mov (.const (.int .i64 (0)))⟩])
 .ret)
 (.seq
 (.ops [⟨some 15, none, .faddr 0 (.tmp 1)⟩,
 ⟨some 16, none, .load1 (.tmp 15)⟩,
 ⟨some 17, none, .bin .eql (.tmp 16) (.const (.int .i64 (3)))⟩,
 ⟨some 18, none, .mov (.tmp 17)⟩,
 ⟨some 19, some (18, true), .faddr 26 (.tmp 1)⟩,
 ⟨some 20, some (18, true), .faddr 0 (.tmp 19)⟩,
 ⟨some 21, some (18, true), .load1 (.tmp 20)⟩,
 ⟨some 22, some (18, true), .un .not (.tmp 21)⟩,
 ⟨some 23, none, .pick (.tmp 18) (.tmp 22) (.const (.bool false))⟩,
 ⟨some 14, none, .mov (.tmp 23)⟩])
 (.cond (.tmp 14)
 (.seq
 (.ops [⟨some 2, none, .mov (.const (.int .i64 (6)))⟩])
 .ret)
 .skip)))))
 (.seq
 (.ops [⟨some 24, none, .bslice 3 8 [.int .i64 (0)] [(0, 1, (.const (.int .i64 (1)))), (1, 1, (.const (.int .i64 (7)))), (2, 1, (.const (.int .i64 (6)))), (3, 1, (.const (.int .i64 (8)))), (4, 1, (.const (.int .i64 (3)))), (5, 1, (.const (.int .i64 (9)))), (6, 1, (.const (.int .i64 (4)))), (7, 1, (.const (.int .i64 (5))))]⟩,
 ⟨some 3, none, .mov (.tmp 24)⟩])
 (.seq
 (.seq
 (.ops [⟨some 25, none, .mov (.tmp 3)⟩,
 ⟨some 26, none, .faddr 0 (.tmp 1)⟩,
 ⟨some 27, none, .load1 (.tmp 26)⟩,
 ⟨some 28, none, .call 21 [(.tmp 25), (.tmp 27)]⟩,
 ⟨some 4, none, .mov (.tmp 28)⟩])
 (.seq
 (.ops [⟨some 29, none, .mov (.tmp 4)⟩,
 ⟨some 30, none, .bin .geq (.tmp 29) (.const (.int .i64 (0)))⟩,
 ⟨some 31, none, .mov (.tmp 30)⟩,
 ⟨some 32, some (31, true), .faddr 0 (.tmp 1)⟩,
 ⟨some 33, some (31, true), .load1 (.tmp 32)⟩,
 ⟨some 34, some (31, true), .bin .neq (.tmp 33) (.const (.int .i64 (9)))⟩,
 ⟨some 35, none, .pick (.tmp 31) (.tmp 34) (.const (.bool false))⟩])
 (.cond (.tmp 35)
 (.seq
 (.ops [⟨some 36, none, .mov (.tmp 4)⟩,
 ⟨some 37, none, .bin .add (.tmp 36) (.const (.int .i64 (1)))⟩,
 ⟨some 2, none, .mov (.tmp 37)⟩])
 .ret)
 .skip)))
 (.seq
 (.ops [⟨some 38, none, .mov (.tmp 3)⟩,
 ⟨some 39, none, .lenV (.tmp 38)⟩,
 ⟨some 40, none, .bin .add (.tmp 39) (.const (.int .i64 (1)))⟩,
 ⟨some 2, none, .mov (.tmp 40)⟩])
 .ret)))))⟩
theorem t9 : T 9 = some c9 := by kernel_rfl

/-- plait/plaitref15.Rank -/
def c10 : AFunc := ⟨25, 1, [.inl 2],
 (.seq
 (.ops [⟨some 1, none, .box 46 38 (.tmp 0)⟩,
 ⟨some 2, none, .mov (.const (.int .i64 (0)))⟩])
 (.seq
 (.seq
 (.ops [⟨some 3, none, .faddr 0 (.tmp 1)⟩,
 ⟨some 4, none, .load1 (.tmp 3)⟩])
 (.block 0
 (.seq
 (.seq
 (.ops [⟨some 6, none, .bin .eql (.tmp 4) (.const (.int .i64 (2)))⟩,
 ⟨some 5, none, .mov (.tmp 6)⟩])
 (.cond (.tmp 5)
 .skip
 (.ops [⟨some 7, none, .bin .eql (.tmp 4) (.const (.int .i64 (0)))⟩,
 ⟨some 5, none, .mov (.tmp 7)⟩])))
 (.cond (.tmp 5)
 (.seq
 (.ops [⟨some 2, none, .mov (.const (.int .i64 (0)))⟩])
 .ret)
 (.seq
 (.ops [⟨some 9, none, .bin .eql (.tmp 4) (.const (.int .i64 (1)))⟩,
 ⟨some 8, none, .mov (.tmp 9)⟩])
 (.cond (.tmp 8)
 (.seq
 (.ops [⟨some 2, none, .mov (.const (.int .i64 (1)))⟩])
 .ret)
 (.seq
 (.ops [⟨some 11, none, .bin .eql (.tmp 4) (.const (.int .i64 (7)))⟩,
 ⟨some 10, none, .mov (.tmp 11)⟩])
 (.cond (.tmp 10)
 (.seq
 (.ops [⟨some 2, none, .mov (.const (.int .i64 (2)))⟩])
 .ret)
 (.seq
 (.ops [⟨some 13, none, .bin .eql (.tmp 4) (.const (.int .i64 (6)))⟩,
 ⟨some 12, none, .mov (.tmp 13)⟩])
 (.cond (.tmp 12)
 (.seq
 (.ops [⟨some 2, none, .mov (.const (.int .i64 (3)))⟩])
 .ret)
 (.seq
 (.ops [⟨some 15, none, .bin .eql (.tmp 4) (.const (.int .i64 (8)))⟩,
 ⟨some 14, none, .mov (.tmp 15)⟩])
 (.cond (.tmp 14)
 (.seq
 (.ops [⟨some 2, none, .mov (.const (.int .i64 (4)))⟩])
 .ret)
 (.seq
 (.ops [⟨some 17, none, .bin .eql (.tmp 4) (.const (.int .i64 (3)))⟩,
 ⟨some 16, none, .mov (.tmp 17)⟩])
 (.cond (.tmp 16)
 (.seq
 (.seq
 (.ops [⟨some 18, none, .faddr 26 (.tmp 1)⟩,
 ⟨some 19, none, .faddr 0 (.tmp 18)⟩,
 ⟨some 20, none, .load1 (.tmp 19)⟩])
 (.cond (.tmp 20)
 (.seq
 (.ops [⟨some 2, none, .mov (.const (.int .i64 (5)))⟩])
 .ret)
 .skip))
 (.seq
 (.ops [⟨some 2, none, .mov (.const (.int .i64 (6)))⟩])
 .ret))
 (.seq
 (.ops [⟨some 22, none, .bin .eql (.tmp 4) (.const (.int .i64 (4)))⟩,
 ⟨some 21, none, .mov (.tmp 22)⟩])
 (.cond (.tmp 21)
 (.seq
 (.ops [⟨some 2, none, .mov (.const (.int .i64 (7)))⟩])
 .ret)
 (.seq
 (.ops [⟨some 24, none, .bin .eql (.tmp 4) (.const (.int .i64 (5)))⟩,
 ⟨some 23, none, .mov (.tmp 24)⟩])
 (.cond (.tmp 23)
 (.seq
 (.ops [⟨some 2, none, .mov (.const (.int .i64 (8)))⟩])
 .ret)
 .skip))))))))))))))))))
 (.seq
 (.ops [⟨some 2, none, .mov (.const (.int .i64 (9)))⟩])
 .ret)))⟩
theorem t10 : T 10 = some c10 := by kernel_rfl

/-- slices.Index[[]int,int] -/
def c21 : AFunc := ⟨19, 2, [.inl 4],
 (.seq
 (.ops [⟨some 4, none, .mov (.const (.int .i64 (0)))⟩])
 (.seq
 (.seq
 (.ops [⟨some 6, none, .mov (.tmp 0)⟩,
 ⟨some 7, none, .lenV (.tmp 6)⟩,
 ⟨some 8, none, .mov (.const (.int .i64 (0)))⟩])
 (.block 0
 (.loop
 (.seq
 (.ops [⟨some 9, none, .bin .lss (.tmp 8) (.tmp 7)⟩])
 (.seq
 (.cond (.tmp 9)
 .skip
 (.exit 0))
 (.seq
 (.block 1
 (.seq
 (.ops [⟨some 10, none, .mov (.tmp 8)⟩,
 ⟨some 5, none, .mov (.tmp 10)⟩])
 (.seq
 (.ops [⟨some 11, none, .mov (.tmp 1)⟩,
 ⟨some 12, none, .mov (.tmp 0)⟩,
 ⟨some 13, none, .mov (.tmp 5)⟩,
 ⟨some 14, none, .iaddrS 1 (.tmp 12) (.tmp 13)⟩,
 ⟨some 15, none, .load1 (.tmp 14)⟩,
 ⟨some 16, none, .bin .eql (.tmp 11) (.tmp 15)⟩])
 (.cond (.tmp 16)
 (.seq
 (.ops [⟨some 17, none, .mov (.tmp 5)⟩,
 ⟨some 4, none, .mov (.tmp 17)⟩])
 .ret)
 .skip))))
 (.ops [⟨some 18, none, .bin .add (.tmp 8) (.const (.int .i64 (1)))⟩,
 ⟨some 8, none, .mov (.tmp 18)⟩])))))))
 (.seq
 (.ops [⟨some 4, none, .mov (.const (.int .i64 (-1)))⟩])
 .ret)))⟩
theorem t21 : T 21 = some c21 := by kernel_rfl

/-- plait/pack.sorted[int] -/
def c22 : AFunc := ⟨12, 2, [.inl 4],
 (.seq
 (.ops [⟨some 3, none, .box 69 1 (.tmp 1)⟩,
 ⟨some 4, none, .mov (.const (.slice none 0 0))⟩])
 (.seq
 (.ops [⟨some 6, none, .mov (.tmp 0)⟩,
 ⟨some 7, none, .call 29 [(.tmp 6)]⟩,
 ⟨some 5, none, .mov (.tmp 7)⟩])
 (.seq
 (.ops [⟨some 8, none, .mov (.tmp 5)⟩,
 ⟨some 9, none, .mkF 31 [] [(.tmp 3)]⟩,
 ⟨some 10, none, .call 30 [(.tmp 8), (.tmp 9)]⟩])
 (.seq
 (.ops [⟨some 11, none, .mov (.tmp 5)⟩,
 ⟨some 4, none, .mov (.tmp 11)⟩])
 .ret))))⟩
theorem t22 : T 22 = some c22 := by kernel_rfl

/-- plait/pack.Pack$1 -/
def c23 : AFunc := ⟨9, 2, [.inl 3],
 (.seq
 (.ops [⟨some 3, none, .mov (.const (.int .i64 (0)))⟩])
 (.seq
 (.ops [⟨some 4, none, .load1 (.tmp 1)⟩,
 ⟨some 5, none, .mov (.tmp 0)⟩,
 ⟨some 6, none, .iaddrS 38 (.tmp 4) (.tmp 5)⟩,
 ⟨some 7, none, .loadN 38 (.tmp 6)⟩,
 ⟨some 8, none, .call 9 [(.tmp 7)]⟩,
 ⟨some 3, none, .mov (.tmp 8)⟩])
 .ret))⟩
theorem t23 : T 23 = some c23 := by kernel_rfl

/-- slices.Clone[[]int,int] -/
def c29 : AFunc := ⟨8, 1, [.inl 2],
 (.seq
 (.ops [⟨some 2, none, .mov (.const (.slice none 0 0))⟩])
 (.seq
 (.seq
 (.ops [⟨some 3, none, .mov (.tmp 0)⟩,
 ⟨some 4, none, .eq false true .slice (.tmp 3) (.const (.slice none 0 0))⟩])
 (.cond (.tmp 4)
 (.seq
 (.ops [⟨some 2, none, .mov (.const (.slice none 0 0))⟩])
 .ret)
 .skip))
 (.seq
 (.ops [⟨some 5, none, .bslice 3 0 [] []⟩,
 ⟨some 6, none, .mov (.tmp 0)⟩,
 ⟨some 7, none, .append 3 1 8 (.tmp 5) (.tmp 6)⟩,
 ⟨some 2, none, .mov (.tmp 7)⟩])
 .ret)))⟩
theorem t29 : T 29 = some c29 := by kernel_rfl

/-- slices.SortStableFunc[[]int,int] -/
def c30 : AFunc := ⟨9, 2, [],
 (.ops [⟨some 4, none, .mov (.tmp 0)⟩,
 ⟨some 5, none, .mov (.tmp 0)⟩,
 ⟨some 6, none, .lenV (.tmp 5)⟩,
 ⟨some 7, none, .mov (.tmp 1)⟩,
 ⟨some 8, none, .call 77 [(.tmp 4), (.tmp 6), (.tmp 7)]⟩])⟩
theorem t30 : T 30 = some c30 := by kernel_rfl

/-- plait/pack.sorted[int]$1 -/
def c31 : AFunc := ⟨13, 3, [.inl 5],
 (.seq
 (.ops [⟨some 5, none, .mov (.const (.int .i64 (0)))⟩])
 (.seq
 (.opsD [⟨some 6, none, .load1 (.tmp 2)⟩,
 ⟨some 7, none, .mov (.tmp 0)⟩,
 ⟨some 8, none, .callv (.tmp 6) [(.tmp 7)]⟩,
 ⟨some 9, none, .load1 (.tmp 2)⟩,
 ⟨some 10, none, .mov (.tmp 1)⟩,
 ⟨some 11, none, .callv (.tmp 9) [(.tmp 10)]⟩,
 ⟨some 12, none, .bin .sub (.tmp 8) (.tmp 11)⟩,
 ⟨some 5, none, .mov (.tmp 12)⟩] [(3, 2), (3, 3)])
 .ret))⟩
theorem t31 : T 31 = some c31 := by kernel_rfl

/-- slices.stableCmpFunc[int] -/
def c77 : AFunc := ⟨63, 3, [],
 (.seq
 (.ops [⟨some 6, none, .mov (.const (.int .i64 (20)))⟩])
 (.seq
 (.ops [⟨some 10, none, .mov (.tmp 6)⟩,
 ⟨some 7, none, .mov (.const (.int .i64 (0)))⟩,
 ⟨some 8, none, .mov (.tmp 10)⟩])
 (.seq
 (.block 0
 (.loop
 (.seq
 (.seq
 (.ops [⟨some 11, none, .mov (.tmp 8)⟩,
 ⟨some 12, none, .mov (.tmp 1)⟩,
 ⟨some 13, none, .bin .leq (.tmp 11) (.tmp 12)⟩])
 (.cond (.tmp 13)
 .skip
 (.exit 0)))
 (.block 1
 (.seq
 (.ops [⟨some 14, none, .mov (.tmp 0)⟩,
 ⟨some 15, none, .mov (.tmp 7)⟩,
 ⟨some 16, none, .mov (.tmp 8)⟩,
 ⟨some 17, none, .mov (.tmp 2)⟩,
 ⟨some 18, none, .call 126 [(.tmp 14), (.tmp 15), (.tmp 16), (.tmp 17)]⟩])
 (.seq
 (.ops [⟨some 19, none, .mov (.tmp 8)⟩,
 ⟨some 7, none, .mov (.tmp 19)⟩])
 (.ops [⟨some 20, none, .mov (.tmp 8)⟩,
 ⟨some 21, none, .mov (.tmp 6)⟩,
 ⟨some 22, none, .bin .add (.tmp 20) (.tmp 21)⟩,
 ⟨some 8, none, .mov (.tmp 22)⟩])))))))
 (.seq
 (.ops [⟨some 23, none, .mov (.tmp 0)⟩,
 ⟨some 24, none, .mov (.tmp 7)⟩,
 ⟨some 25, none, .mov (.tmp 1)⟩,
 ⟨some 26, none, .mov (.tmp 2)⟩,
 ⟨some 27, none, .call 126 [(.tmp 23), (.tmp 24), (.tmp 25), (.tmp 26)]⟩])
 (.block 2
 (.loop
 (.seq
 (.seq
 (.ops [⟨some 28, none, .mov (.tmp 6)⟩,
 ⟨some 29, none, .mov (.tmp 1)⟩,
 ⟨some 30, none, .bin .lss (.tmp 28) (.tmp 29)⟩])
 (.cond (.tmp 30)
 .skip
 (.exit 2)))
 (.block 3
 (.seq
 (.ops [⟨some 31, none, .mov (.tmp 6)⟩,
 ⟨some 32, none, .bin .mul (.const (.int .i64 (2))) (.tmp 31)⟩,
 ⟨some 7, none, .mov (.const (.int .i64 (0)))⟩,
 ⟨some 8, none, .mov (.tmp 32)⟩])
 (.seq
 (.block 4
 (.loop
 (.seq
 (.seq
 (.ops [⟨some 33, none, .mov (.tmp 8)⟩,
 ⟨some 34, none, .mov (.tmp 1)⟩,
 ⟨some 35, none, .bin .leq (.tmp 33) (.tmp 34)⟩])
 (.cond (.tmp 35)
 .skip
 (.exit 4)))
 (.block 5
 (.seq
 (.ops [⟨some 36, none, .mov (.tmp 0)⟩,
 ⟨some 37, none, .mov (.tmp 7)⟩,
 ⟨some 38, none, .mov (.tmp 7)⟩,
 ⟨some 39, none, .mov (.tmp 6)⟩,
 ⟨some 40, none, .bin .add (.tmp 38) (.tmp 39)⟩,
 ⟨some 41, none, .mov (.tmp 8)⟩,
 ⟨some 42, none, .mov (.tmp 2)⟩,
 ⟨some 43, none, .call 127 [(.tmp 36), (.tmp 37), (.tmp 40), (.tmp 41), (.tmp 42)]⟩])
 (.seq
 (.ops [⟨some 44, none, .mov (.tmp 8)⟩,
 ⟨some 7, none, .mov (.tmp 44)⟩])
 (.ops [⟨some 45, none, .mov (.tmp 8)⟩,
 ⟨some 46, none, .mov (.tmp 6)⟩,
 ⟨some 47, none, .bin .mul (.const (.int .i64 (2))) (.tmp 46)⟩,
 ⟨some 48, none, .bin .add (.tmp 45) (.tmp 47)⟩,
 ⟨some 8, none, .mov (.tmp 48)⟩])))))))
 (.seq
 (.seq
 (.ops [⟨some 49, none, .mov (.tmp 7)⟩,
 ⟨some 50, none, .mov (.tmp 6)⟩,
 ⟨some 51, none, .bin .add (.tmp 49) (.tmp 50)⟩,
 ⟨some 9, none, .mov (.tmp 51)⟩])
 (.seq
 (.ops [⟨some 52, none, .mov (.tmp 9)⟩,
 ⟨some 53, none, .mov (.tmp 1)⟩,
 ⟨some 54, none, .bin .lss (.tmp 52) (.tmp 53)⟩])
 (.cond (.tmp 54)
 (.ops [⟨some 55, none, .mov (.tmp 0)⟩,
 ⟨some 56, none, .mov (.tmp 7)⟩,
 ⟨some 57, none, .mov (.tmp 9)⟩,
 ⟨some 58, none, .mov (.tmp 1)⟩,
 ⟨some 59, none, .mov (.tmp 2)⟩,
 ⟨some 60, none, .call 127 [(.tmp 55), (.tmp 56), (.tmp 57), (.tmp 58), (.tmp 59)]⟩])
 .skip)))
 (.ops [⟨some 61, none, .mov (.tmp 6)⟩,
 ⟨some 62, none, .bin .mul (.tmp 61) (.const (.int .i64 (2)))⟩,
 ⟨some 6, none, .mov (.tmp 62)⟩]))))))))))))⟩
theorem t77 : T 77 = some c77 := by kernel_rfl

/-- slices.insertionSortCmpFunc[int] -/
def c126 : AFunc := ⟨53, 4, [],
 (.seq
 (.ops [⟨some 10, none, .mov (.tmp 1)⟩,
 ⟨some 11, none, .bin .add (.tmp 10) (.const (.int .i64 (1)))⟩,
 ⟨some 8, none, .mov (.tmp 11)⟩])
 (.block 0
 (.loop
 (.seq
 (.seq
 (.ops [⟨some 12, none, .mov (.tmp 8)⟩,
 ⟨some 13, none, .mov (.tmp 2)⟩,
 ⟨some 14, none, .bin .lss (.tmp 12) (.tmp 13)⟩])
 (.cond (.tmp 14)
 .skip
 (.exit 0)))
 (.seq
 (.block 1
 (.seq
 (.ops [⟨some 17, none, .mov (.tmp 8)⟩,
 ⟨some 9, none, .mov (.tmp 17)⟩])
 (.block 2
 (.loop
 (.seq
 (.seq
 (.opsD [⟨some 18, none, .mov (.tmp 9)⟩,
 ⟨some 19, none, .mov (.tmp 1)⟩,
 ⟨some 20, none, .bin .gtr (.tmp 18) (.tmp 19)⟩,
 ⟨some 21, none, .mov (.tmp 20)⟩,
 ⟨some 22, some (21, true), .mov (.tmp 3)⟩,
 ⟨some 23, some (21, true), .mov (.tmp 0)⟩,
 ⟨some 24, some (21, true), .mov (.tmp 9)⟩,
 ⟨some 25, some (21, true), .iaddrS 1 (.tmp 23) (.tmp 24)⟩,
 ⟨some 26, some (21, true), .load1 (.tmp 25)⟩,
 ⟨some 27, some (21, true), .mov (.tmp 0)⟩,
 ⟨some 28, some (21, true), .mov (.tmp 9)⟩,
 ⟨some 29, some (21, true), .bin .sub (.tmp 28) (.const (.int .i64 (1)))⟩,
 ⟨some 30, some (21, true), .iaddrS 1 (.tmp 27) (.tmp 29)⟩,
 ⟨some 31, some (21, true), .load1 (.tmp 30)⟩,
 ⟨some 32, some (21, true), .callv (.tmp 22) [(.tmp 26), (.tmp 31)]⟩,
 ⟨some 33, some (21, true), .bin .lss (.tmp 32) (.const (.int .i64 (0)))⟩,
 ⟨some 34, none, .pick (.tmp 21) (.tmp 33) (.const (.bool false))⟩] [])
 (.cond (.tmp 34)
 .skip
 (.exit 2)))
 (.seq
 (.block 3
 (.opsD [⟨some 37, none, .mov (.tmp 0)⟩,
 ⟨some 38, none, .mov (.tmp 9)⟩,
 ⟨some 39, none, .mov (.tmp 0)⟩,
 ⟨some 40, none, .mov (.tmp 9)⟩,
 ⟨some 41, none, .bin .sub (.tmp 40) (.const (.int .i64 (1)))⟩,
 ⟨some 42, none, .mov (.tmp 0)⟩,
 ⟨some 43, none, .mov (.tmp 9)⟩,
 ⟨some 44, none, .bin .sub (.tmp 43) (.const (.int .i64 (1)))⟩,
 ⟨some 45, none, .iaddrS 1 (.tmp 42) (.tmp 44)⟩,
 ⟨some 46, none, .load1 (.tmp 45)⟩,
 ⟨some 47, none, .mov (.tmp 0)⟩,
 ⟨some 48, none, .mov (.tmp 9)⟩,
 ⟨some 49, none, .iaddrS 1 (.tmp 47) (.tmp 48)⟩,
 ⟨some 50, none, .load1 (.tmp 49)⟩,
 ⟨some 51, none, .iaddrS 1 (.tmp 37) (.tmp 38)⟩,
 ⟨none, none, .store 1 (.tmp 51) (.tmp 46)⟩,
 ⟨some 52, none, .iaddrS 1 (.tmp 39) (.tmp 41)⟩,
 ⟨none, none, .store 1 (.tmp 52) (.tmp 50)⟩] []))
 (.ops [⟨some 35, none, .mov (.tmp 9)⟩,
 ⟨some 36, none, .bin .sub (.tmp 35) (.const (.int .i64 (1)))⟩,
 ⟨some 9, none, .mov (.tmp 36)⟩])))))))
 (.ops [⟨some 15, none, .mov (.tmp 8)⟩,
 ⟨some 16, none, .bin .add (.tmp 15) (.const (.int .i64 (1)))⟩,
 ⟨some 8, none, .mov (.tmp 16)⟩]))))))⟩
theorem t126 : T 126 = some c126 := by kernel_rfl

def c127u : ACode :=
 (.seq
 (.seq
 (.ops [⟨some 54, none, .mov (.tmp 1)⟩,
 ⟨some 13, none, .mov (.tmp 54)⟩])
 (.block 2
 (.loop
 (.seq
 (.seq
 (.ops [⟨some 55, none, .mov (.tmp 13)⟩,
 ⟨some 56, none, .mov (.tmp 10)⟩,
 ⟨some 57, none, .bin .sub (.tmp 56) (.const (.int .i64 (1)))⟩,
 ⟨some 58, none, .bin .lss (.tmp 55) (.tmp 57)⟩])
 (.cond (.tmp 58)
 .skip
 (.exit 2)))
 (.seq
 (.block 3
 (.opsD [⟨some 61, none, .mov (.tmp 0)⟩,
 ⟨some 62, none, .mov (.tmp 13)⟩,
 ⟨some 63, none, .mov (.tmp 0)⟩,
 ⟨some 64, none, .mov (.tmp 13)⟩,
 ⟨some 65, none, .bin .add (.tmp 64) (.const (.int .i64 (1)))⟩,
 ⟨some 66, none, .mov (.tmp 0)⟩,
 ⟨some 67, none, .mov (.tmp 13)⟩,
 ⟨some 68, none, .bin .add (.tmp 67) (.const (.int .i64 (1)))⟩,
 ⟨some 69, none, .iaddrS 1 (.tmp 66) (.tmp 68)⟩,
 ⟨some 70, none, .load1 (.tmp 69)⟩,
 ⟨some 71, none, .mov (.tmp 0)⟩,
 ⟨some 72, none, .mov (.tmp 13)⟩,
 ⟨some 73, none, .iaddrS 1 (.tmp 71) (.tmp 72)⟩,
 ⟨some 74, none, .load1 (.tmp 73)⟩,
 ⟨some 75, none, .iaddrS 1 (.tmp 61) (.tmp 62)⟩,
 ⟨none, none, .store 1 (.tmp 75) (.tmp 70)⟩,
 ⟨some 76, none, .iaddrS 1 (.tmp 63) (.tmp 65)⟩,
 ⟨none, none, .store 1 (.tmp 76) (.tmp 74)⟩] []))
 (.ops [⟨some 59, none, .mov (.tmp 13)⟩,
 ⟨some 60, none, .bin .add (.tmp 59) (.const (.int .i64 (1)))⟩,
 ⟨some 13, none, .mov (.tmp 60)⟩]))))))
 .ret)

def c127s : ACode :=
 (.seq
 (.ops [⟨some 29, none, .mov (.tmp 2)⟩,
 ⟨some 10, none, .mov (.tmp 29)⟩])
 (.seq
 (.ops [⟨some 30, none, .mov (.tmp 3)⟩,
 ⟨some 11, none, .mov (.tmp 30)⟩])
 (.seq
 (.block 0
 (.loop
 (.seq
 (.seq
 (.ops [⟨some 31, none, .mov (.tmp 10)⟩,
 ⟨some 32, none, .mov (.tmp 11)⟩,
 ⟨some 33, none, .bin .lss (.tmp 31) (.tmp 32)⟩])
 (.cond (.tmp 33)
 .skip
 (.exit 0)))
 (.block 1
 (.seq
 (.ops [⟨some 34, none, .mov (.tmp 10)⟩,
 ⟨some 35, none, .mov (.tmp 11)⟩,
 ⟨some 36, none, .bin .add (.tmp 34) (.tmp 35)⟩,
 ⟨some 37, none, .cvInt .u64 (.tmp 36)⟩,
 ⟨some 38, none, .bin .shr (.tmp 37) (.const (.int .u64 (1)))⟩,
 ⟨some 39, none, .cvInt .i64 (.tmp 38)⟩,
 ⟨some 12, none, .mov (.tmp 39)⟩])
 (.seq
 (.opsD [⟨some 40, none, .mov (.tmp 4)⟩,
 ⟨some 41, none, .mov (.tmp 0)⟩,
 ⟨some 42, none, .mov (.tmp 12)⟩,
 ⟨some 43, none, .iaddrS 1 (.tmp 41) (.tmp 42)⟩,
 ⟨some 44, none, .load1 (.tmp 43)⟩,
 ⟨some 45, none, .mov (.tmp 0)⟩,
 ⟨some 46, none, .mov (.tmp 1)⟩,
 ⟨some 47, none, .iaddrS 1 (.tmp 45) (.tmp 46)⟩,
 ⟨some 48, none, .load1 (.tmp 47)⟩,
 ⟨some 49, none, .callv (.tmp 40) [(.tmp 44), (.tmp 48)]⟩,
 ⟨some 50, none, .bin .lss (.tmp 49) (.const (.int .i64 (0)))⟩] [])
 (.cond (.tmp 50)
 (.ops [⟨some 51, none, .mov (.tmp 12)⟩,
 ⟨some 52, none, .bin .add (.tmp 51) (.const (.int .i64 (1)))⟩,
 ⟨some 10, none, .mov (.tmp 52)⟩])
 (.ops [⟨some 53, none, .mov (.tmp 12)⟩,
 ⟨some 11, none, .mov (.tmp 53)⟩]))))))))
 c127u)))

def c127v : ACode :=
 (.seq
 (.seq
 (.ops [⟨some 107, none, .mov (.tmp 2)⟩,
 ⟨some 17, none, .mov (.tmp 107)⟩])
 (.block 6
 (.loop
 (.seq
 (.seq
 (.ops [⟨some 108, none, .mov (.tmp 17)⟩,
 ⟨some 109, none, .mov (.tmp 14)⟩,
 ⟨some 110, none, .bin .gtr (.tmp 108) (.tmp 109)⟩])
 (.cond (.tmp 110)
 .skip
 (.exit 6)))
 (.seq
 (.block 7
 (.opsD [⟨some 113, none, .mov (.tmp 0)⟩,
 ⟨some 114, none, .mov (.tmp 17)⟩,
 ⟨some 115, none, .mov (.tmp 0)⟩,
 ⟨some 116, none, .mov (.tmp 17)⟩,
 ⟨some 117, none, .bin .sub (.tmp 116) (.const (.int .i64 (1)))⟩,
 ⟨some 118, none, .mov (.tmp 0)⟩,
 ⟨some 119, none, .mov (.tmp 17)⟩,
 ⟨some 120, none, .bin .sub (.tmp 119) (.const (.int .i64 (1)))⟩,
 ⟨some 121, none, .iaddrS 1 (.tmp 118) (.tmp 120)⟩,
 ⟨some 122, none, .load1 (.tmp 121)⟩,
 ⟨some 123, none, .mov (.tmp 0)⟩,
 ⟨some 124, none, .mov (.tmp 17)⟩,
 ⟨some 125, none, .iaddrS 1 (.tmp 123) (.tmp 124)⟩,
 ⟨some 126, none, .load1 (.tmp 125)⟩,
 ⟨some 127, none, .iaddrS 1 (.tmp 113) (.tmp 114)⟩,
 ⟨none, none, .store 1 (.tmp 127) (.tmp 122)⟩,
 ⟨some 128, none, .iaddrS 1 (.tmp 115) (.tmp 117)⟩,
 ⟨none, none, .store 1 (.tmp 128) (.tmp 126)⟩] []))
 (.ops [⟨some 111, none, .mov (.tmp 17)⟩,
 ⟨some 112, none, .bin .sub (.tmp 111) (.const (.int .i64 (1)))⟩,
 ⟨some 17, none, .mov (.tmp 112)⟩]))))))
 .ret)

def c127t : ACode :=
 (.seq
 (.ops [⟨some 81, none, .mov (.tmp 1)⟩,
 ⟨some 14, none, .mov (.tmp 81)⟩])
 (.seq
 (.ops [⟨some 82, none, .mov (.tmp 2)⟩,
 ⟨some 15, none, .mov (.tmp 82)⟩])
 (.seq
 (.block 4
 (.loop
 (.seq
 (.seq
 (.ops [⟨some 83, none, .mov (.tmp 14)⟩,
 ⟨some 84, none, .mov (.tmp 15)⟩,
 ⟨some 85, none, .bin .lss (.tmp 83) (.tmp 84)⟩])
 (.cond (.tmp 85)
 .skip
 (.exit 4)))
 (.block 5
 (.seq
 (.ops [⟨some 86, none, .mov (.tmp 14)⟩,
 ⟨some 87, none, .mov (.tmp 15)⟩,
 ⟨some 88, none, .bin .add (.tmp 86) (.tmp 87)⟩,
 ⟨some 89, none, .cvInt .u64 (.tmp 88)⟩,
 ⟨some 90, none, .bin .shr (.tmp 89) (.const (.int .u64 (1)))⟩,
 ⟨some 91, none, .cvInt .i64 (.tmp 90)⟩,
 ⟨some 16, none, .mov (.tmp 91)⟩])
 (.seq
 (.opsD [⟨some 92, none, .mov (.tmp 4)⟩,
 ⟨some 93, none, .mov (.tmp 0)⟩,
 ⟨some 94, none, .mov (.tmp 2)⟩,
 ⟨some 95, none, .iaddrS 1 (.tmp 93) (.tmp 94)⟩,
 ⟨some 96, none, .load1 (.tmp 95)⟩,
 ⟨some 97, none, .mov (.tmp 0)⟩,
 ⟨some 98, none, .mov (.tmp 16)⟩,
 ⟨some 99, none, .iaddrS 1 (.tmp 97) (.tmp 98)⟩,
 ⟨some 100, none, .load1 (.tmp 99)⟩,
 ⟨some 101, none, .callv (.tmp 92) [(.tmp 96), (.tmp 100)]⟩,
 ⟨some 102, none, .bin .lss (.tmp 101) (.const (.int .i64 (0)))⟩,
 ⟨some 103, none, .un .not (.tmp 102)⟩] [])
 (.cond (.tmp 103)
 (.ops [⟨some 104, none, .mov (.tmp 16)⟩,
 ⟨some 105, none, .bin .add (.tmp 104) (.const (.int .i64 (1)))⟩,
 ⟨some 14, none, .mov (.tmp 105)⟩])
 (.ops [⟨some 106, none, .mov (.tmp 16)⟩,
 ⟨some 15, none, .mov (.tmp 106)⟩]))))))))
 c127v)))

def c127l : ACode :=
 (.seq
 (.ops [⟨some 206, none, .mov (.tmp 18)⟩,
 ⟨some 207, none, .mov (.tmp 24)⟩,
 ⟨some 208, none, .bin .lss (.tmp 206) (.tmp 207)⟩,
 ⟨some 209, none, .mov (.tmp 208)⟩,
 ⟨some 210, some (209, true), .mov (.tmp 24)⟩,
 ⟨some 211, some (209, true), .mov (.tmp 3)⟩,
 ⟨some 212, some (209, true), .bin .lss (.tmp 210) (.tmp 211)⟩,
 ⟨some 213, none, .pick (.tmp 209) (.tmp 212) (.const (.bool false))⟩])
 (.cond (.tmp 213)
 (.ops [⟨some 214, none, .mov (.tmp 0)⟩,
 ⟨some 215, none, .mov (.tmp 18)⟩,
 ⟨some 216, none, .mov (.tmp 24)⟩,
 ⟨some 217, none, .mov (.tmp 3)⟩,
 ⟨some 218, none, .mov (.tmp 4)⟩,
 ⟨some 219, none, .call 127 [(.tmp 214), (.tmp 215), (.tmp 216), (.tmp 217), (.tmp 218)]⟩])
 .skip))

def c127k : ACode :=
 (.seq
 (.seq
 (.ops [⟨some 192, none, .mov (.tmp 1)⟩,
 ⟨some 193, none, .mov (.tmp 20)⟩,
 ⟨some 194, none, .bin .lss (.tmp 192) (.tmp 193)⟩,
 ⟨some 195, none, .mov (.tmp 194)⟩,
 ⟨some 196, some (195, true), .mov (.tmp 20)⟩,
 ⟨some 197, some (195, true), .mov (.tmp 18)⟩,
 ⟨some 198, some (195, true), .bin .lss (.tmp 196) (.tmp 197)⟩,
 ⟨some 199, none, .pick (.tmp 195) (.tmp 198) (.const (.bool false))⟩])
 (.cond (.tmp 199)
 (.ops [⟨some 200, none, .mov (.tmp 0)⟩,
 ⟨some 201, none, .mov (.tmp 1)⟩,
 ⟨some 202, none, .mov (.tmp 20)⟩,
 ⟨some 203, none, .mov (.tmp 18)⟩,
 ⟨some 204, none, .mov (.tmp 4)⟩,
 ⟨some 205, none, .call 127 [(.tmp 200), (.tmp 201), (.tmp 202), (.tmp 203), (.tmp 204)]⟩])
 .skip))
 c127l)

def c127e : ACode :=
 (.seq
 (.ops [⟨some 175, none, .mov (.tmp 19)⟩,
 ⟨some 176, none, .mov (.tmp 20)⟩,
 ⟨some 177, none, .bin .sub (.tmp 175) (.tmp 176)⟩,
 ⟨some 24, none, .mov (.tmp 177)⟩])
 (.seq
 (.seq
 (.ops [⟨some 178, none, .mov (.tmp 20)⟩,
 ⟨some 179, none, .mov (.tmp 2)⟩,
 ⟨some 180, none, .bin .lss (.tmp 178) (.tmp 179)⟩,
 ⟨some 181, none, .mov (.tmp 180)⟩,
 ⟨some 182, some (181, true), .mov (.tmp 2)⟩,
 ⟨some 183, some (181, true), .mov (.tmp 24)⟩,
 ⟨some 184, some (181, true), .bin .lss (.tmp 182) (.tmp 183)⟩,
 ⟨some 185, none, .pick (.tmp 181) (.tmp 184) (.const (.bool false))⟩])
 (.cond (.tmp 185)
 (.ops [⟨some 186, none, .mov (.tmp 0)⟩,
 ⟨some 187, none, .mov (.tmp 20)⟩,
 ⟨some 188, none, .mov (.tmp 2)⟩,
 ⟨some 189, none, .mov (.tmp 24)⟩,
 ⟨some 190, none, .mov (.tmp 4)⟩,
 ⟨some 191, none, .call 145 [(.tmp 186), (.tmp 187), (.tmp 188), (.tmp 189), (.tmp 190)]⟩])
 .skip))
 c127k))

def c127h : ACode :=
 (.seq
 (.ops [⟨some 147, none, .mov (.tmp 19)⟩,
 ⟨some 148, none, .bin .sub (.tmp 147) (.const (.int .i64 (1)))⟩,
 ⟨some 22, none, .mov (.tmp 148)⟩])
 (.seq
 (.block 8
 (.loop
 (.seq
 (.seq
 (.ops [⟨some 149, none, .mov (.tmp 20)⟩,
 ⟨some 150, none, .mov (.tmp 21)⟩,
 ⟨some 151, none, .bin .lss (.tmp 149) (.tmp 150)⟩])
 (.cond (.tmp 151)
 .skip
 (.exit 8)))
 (.block 9
 (.seq
 (.ops [⟨some 152, none, .mov (.tmp 20)⟩,
 ⟨some 153, none, .mov (.tmp 21)⟩,
 ⟨some 154, none, .bin .add (.tmp 152) (.tmp 153)⟩,
 ⟨some 155, none, .cvInt .u64 (.tmp 154)⟩,
 ⟨some 156, none, .bin .shr (.tmp 155) (.const (.int .u64 (1)))⟩,
 ⟨some 157, none, .cvInt .i64 (.tmp 156)⟩,
 ⟨some 23, none, .mov (.tmp 157)⟩])
 (.seq
 (.opsD [⟨some 158, none, .mov (.tmp 4)⟩,
 ⟨some 159, none, .mov (.tmp 0)⟩,
 ⟨some 160, none, .mov (.tmp 22)⟩,
 ⟨some 161, none, .mov (.tmp 23)⟩,
 ⟨some 162, none, .bin .sub (.tmp 160) (.tmp 161)⟩,
 ⟨some 163, none, .iaddrS 1 (.tmp 159) (.tmp 162)⟩,
 ⟨some 164, none, .load1 (.tmp 163)⟩,
 ⟨some 165, none, .mov (.tmp 0)⟩,
 ⟨some 166, none, .mov (.tmp 23)⟩,
 ⟨some 167, none, .iaddrS 1 (.tmp 165) (.tmp 166)⟩,
 ⟨some 168, none, .load1 (.tmp 167)⟩,
 ⟨some 169, none, .callv (.tmp 158) [(.tmp 164), (.tmp 168)]⟩,
 ⟨some 170, none, .bin .lss (.tmp 169) (.const (.int .i64 (0)))⟩,
 ⟨some 171, none, .un .not (.tmp 170)⟩] [])
 (.cond (.tmp 171)
 (.ops [⟨some 172, none, .mov (.tmp 23)⟩,
 ⟨some 173, none, .bin .add (.tmp 172) (.const (.int .i64 (1)))⟩,
 ⟨some 20, none, .mov (.tmp 173)⟩])
 (.ops [⟨some 174, none, .mov (.tmp 23)⟩,
 ⟨some 21, none, .mov (.tmp 174)⟩]))))))))
 c127e))

def c127g : ACode :=
 (.seq
 (.ops [⟨some 129, none, .mov (.tmp 1)⟩,
 ⟨some 130, none, .mov (.tmp 3)⟩,
 ⟨some 131, none, .bin .add (.tmp 129) (.tmp 130)⟩,
 ⟨some 132, none, .cvInt .u64 (.tmp 131)⟩,
 ⟨some 133, none, .bin .shr (.tmp 132) (.const (.int .u64 (1)))⟩,
 ⟨some 134, none, .cvInt .i64 (.tmp 133)⟩,
 ⟨some 18, none, .mov (.tmp 134)⟩])
 (.seq
 (.ops [⟨some 135, none, .mov (.tmp 18)⟩,
 ⟨some 136, none, .mov (.tmp 2)⟩,
 ⟨some 137, none, .bin .add (.tmp 135) (.tmp 136)⟩,
 ⟨some 19, none, .mov (.tmp 137)⟩])
 (.seq
 (.ops [⟨some 20, none, .mov (.const (.int .i64 (0)))⟩,
 ⟨some 21, none, .mov (.const (.int .i64 (0)))⟩])
 (.seq
 (.seq
 (.ops [⟨some 138, none, .mov (.tmp 2)⟩,
 ⟨some 139, none, .mov (.tmp 18)⟩,
 ⟨some 140, none, .bin .gtr (.tmp 138) (.tmp 139)⟩])
 (.cond (.tmp 140)
 (.seq
 (.ops [⟨some 141, none, .mov (.tmp 19)⟩,
 ⟨some 142, none, .mov (.tmp 3)⟩,
 ⟨some 143, none, .bin .sub (.tmp 141) (.tmp 142)⟩,
 ⟨some 20, none, .mov (.tmp 143)⟩])
 (.ops [⟨some 144, none, .mov (.tmp 18)⟩,
 ⟨some 21, none, .mov (.tmp 144)⟩]))
 (.seq
 (.ops [⟨some 145, none, .mov (.tmp 1)⟩,
 ⟨some 20, none, .mov (.tmp 145)⟩])
 (.ops [⟨some 146, none, .mov (.tmp 2)⟩,
 ⟨some 21, none, .mov (.tmp 146)⟩]))))
 c127h))))

/-- slices.symMergeCmpFunc[int] -/
def c127 : AFunc := ⟨220, 5, [],
 (.seq
 (.seq
 (.ops [⟨some 25, none, .mov (.tmp 2)⟩,
 ⟨some 26, none, .mov (.tmp 1)⟩,
 ⟨some 27, none, .bin .sub (.tmp 25) (.tmp 26)⟩,
 ⟨some 28, none, .bin .eql (.tmp 27) (.const (.int .i64 (1)))⟩])
 (.cond (.tmp 28)
 c127s
 .skip))
 (.seq
 (.seq
 (.ops [⟨some 77, none, .mov (.tmp 3)⟩,
 ⟨some 78, none, .mov (.tmp 2)⟩,
 ⟨some 79, none, .bin .sub (.tmp 77) (.tmp 78)⟩,
 ⟨some 80, none, .bin .eql (.tmp 79) (.const (.int .i64 (1)))⟩])
 (.cond (.tmp 80)
 c127t
 .skip))
 c127g))⟩
theorem t127 : T 127 = some c127 := by kernel_rfl

/-- slices.rotateCmpFunc[int] -/
def c145 : AFunc := ⟨58, 5, [],
 (.seq
 (.ops [⟨some 12, none, .mov (.tmp 2)⟩,
 ⟨some 13, none, .mov (.tmp 1)⟩,
 ⟨some 14, none, .bin .sub (.tmp 12) (.tmp 13)⟩,
 ⟨some 10, none, .mov (.tmp 14)⟩])
 (.seq
 (.ops [⟨some 15, none, .mov (.tmp 3)⟩,
 ⟨some 16, none, .mov (.tmp 2)⟩,
 ⟨some 17, none, .bin .sub (.tmp 15) (.tmp 16)⟩,
 ⟨some 11, none, .mov (.tmp 17)⟩])
 (.seq
 (.block 0
 (.loop
 (.seq
 (.seq
 (.ops [⟨some 18, none, .mov (.tmp 10)⟩,
 ⟨some 19, none, .mov (.tmp 11)⟩,
 ⟨some 20, none, .bin .neq (.tmp 18) (.tmp 19)⟩])
 (.cond (.tmp 20)
 .skip
 (.exit 0)))
 (.block 1
 (.seq
 (.ops [⟨some 21, none, .mov (.tmp 10)⟩,
 ⟨some 22, none, .mov (.tmp 11)⟩,
 ⟨some 23, none, .bin .gtr (.tmp 21) (.tmp 22)⟩])
 (.cond (.tmp 23)
 (.seq
 (.ops [⟨some 24, none, .mov (.tmp 0)⟩,
 ⟨some 25, none, .mov (.tmp 2)⟩,
 ⟨some 26, none, .mov (.tmp 10)⟩,
 ⟨some 27, none, .bin .sub (.tmp 25) (.tmp 26)⟩,
 ⟨some 28, none, .mov (.tmp 2)⟩,
 ⟨some 29, none, .mov (.tmp 11)⟩,
 ⟨some 30, none, .mov (.tmp 4)⟩,
 ⟨some 31, none, .call 153 [(.tmp 24), (.tmp 27), (.tmp 28), (.tmp 29), (.tmp 30)]⟩])
 (.ops [⟨some 32, none, .mov (.tmp 10)⟩,
 ⟨some 33, none, .mov (.tmp 11)⟩,
 ⟨some 34, none, .bin .sub (.tmp 32) (.tmp 33)⟩,
 ⟨some 10, none, .mov (.tmp 34)⟩]))
 (.seq
 (.ops [⟨some 35, none, .mov (.tmp 0)⟩,
 ⟨some 36, none, .mov (.tmp 2)⟩,
 ⟨some 37, none, .mov (.tmp 10)⟩,
 ⟨some 38, none, .bin .sub (.tmp 36) (.tmp 37)⟩,
 ⟨some 39, none, .mov (.tmp 2)⟩,
 ⟨some 40, none, .mov (.tmp 11)⟩,
 ⟨some 41, none, .bin .add (.tmp 39) (.tmp 40)⟩,
 ⟨some 42, none, .mov (.tmp 10)⟩,
 ⟨some 43, none, .bin .sub (.tmp 41) (.tmp 42)⟩,
 ⟨some 44, none, .mov (.tmp 10)⟩,
 ⟨some 45, none, .mov (.tmp 4)⟩,
 ⟨some 46, none, .call 153 [(.tmp 35), (.tmp 38), (.tmp 43), (.tmp 44), (.tmp 45)]⟩])
 (.ops [⟨some 47, none, .mov (.tmp 11)⟩,
 ⟨some 48, none, .mov (.tmp 10)⟩,
 ⟨some 49, none, .bin .sub (.tmp 47) (.tmp 48)⟩,
 ⟨some 11, none, .mov (.tmp 49)⟩]))))))))
 (.ops [⟨some 50, none, .mov (.tmp 0)⟩,
 ⟨some 51, none, .mov (.tmp 2)⟩,
 ⟨some 52, none, .mov (.tmp 10)⟩,
 ⟨some 53, none, .bin .sub (.tmp 51) (.tmp 52)⟩,
 ⟨some 54, none, .mov (.tmp 2)⟩,
 ⟨some 55, none, .mov (.tmp 10)⟩,
 ⟨some 56, none, .mov (.tmp 4)⟩,
 ⟨some 57, none, .call 153 [(.tmp 50), (.tmp 53), (.tmp 54), (.tmp 55), (.tmp 56)]⟩]))))⟩
theorem t145 : T 145 = some c145 := by kernel_rfl

/-- slices.swapRangeCmpFunc[int] -/
def c153 : AFunc := ⟨38, 5, [],
 (.seq
 (.ops [⟨some 10, none, .mov (.const (.int .i64 (0)))⟩])
 (.block 0
 (.loop
 (.seq
 (.seq
 (.ops [⟨some 11, none, .mov (.tmp 10)⟩,
 ⟨some 12, none, .mov (.tmp 3)⟩,
 ⟨some 13, none, .bin .lss (.tmp 11) (.tmp 12)⟩])
 (.cond (.tmp 13)
 .skip
 (.exit 0)))
 (.seq
 (.block 1
 (.opsD [⟨some 16, none, .mov (.tmp 0)⟩,
 ⟨some 17, none, .mov (.tmp 1)⟩,
 ⟨some 18, none, .mov (.tmp 10)⟩,
 ⟨some 19, none, .bin .add (.tmp 17) (.tmp 18)⟩,
 ⟨some 20, none, .mov (.tmp 0)⟩,
 ⟨some 21, none, .mov (.tmp 2)⟩,
 ⟨some 22, none, .mov (.tmp 10)⟩,
 ⟨some 23, none, .bin .add (.tmp 21) (.tmp 22)⟩,
 ⟨some 24, none, .mov (.tmp 0)⟩,
 ⟨some 25, none, .mov (.tmp 2)⟩,
 ⟨some 26, none, .mov (.tmp 10)⟩,
 ⟨some 27, none, .bin .add (.tmp 25) (.tmp 26)⟩,
 ⟨some 28, none, .iaddrS 1 (.tmp 24) (.tmp 27)⟩,
 ⟨some 29, none, .load1 (.tmp 28)⟩,
 ⟨some 30, none, .mov (.tmp 0)⟩,
 ⟨some 31, none, .mov (.tmp 1)⟩,
 ⟨some 32, none, .mov (.tmp 10)⟩,
 ⟨some 33, none, .bin .add (.tmp 31) (.tmp 32)⟩,
 ⟨some 34, none, .iaddrS 1 (.tmp 30) (.tmp 33)⟩,
 ⟨some 35, none, .load1 (.tmp 34)⟩,
 ⟨some 36, none, .iaddrS 1 (.tmp 16) (.tmp 19)⟩,
 ⟨none, none, .store 1 (.tmp 36) (.tmp 29)⟩,
 ⟨some 37, none, .iaddrS 1 (.tmp 20) (.tmp 23)⟩,
 ⟨none, none, .store 1 (.tmp 37) (.tmp 35)⟩] []))
 (.ops [⟨some 14, none, .mov (.tmp 10)⟩,
 ⟨some 15, none, .bin .add (.tmp 14) (.const (.int .i64 (1)))⟩,
 ⟨some 10, none, .mov (.tmp 15)⟩]))))))⟩
theorem t153 : T 153 = some c153 := by kernel_rfl

end Go.Proofs.YtigknpfjhegkgaaGreat

