/- The code of functions, as the framework reads it. -/
import Derived.Test.YtigknpfjhegkgaaGreatDoorZo
import Derived.KernelRfl
namespace Go.Proofs.YtigknpfjhegkgaaGreatDoor
open Go Go.AS
set_option maxRecDepth 100000

/-- plait/opt.Decode -/
def c12 : AFunc := ⟨18, 1, [.inr (2, 38, true), .inl 3],
 (.seq
 (.ops [⟨some 1, none, .box 23 2 (.tmp 0)⟩,
 ⟨some 2, none, .alloc 54 opZ⟩,
 ⟨some 3, none, .mov (.const (.int .i64 (0)))⟩])
 (.seq
 (.ops [⟨some 8, none, .loadN 2 (.tmp 1)⟩,
 ⟨some 9, none, .call 34 [(.tmp 8)]⟩,
 ⟨some 7, none, .mov (.tmp 9)⟩,
 ⟨some 10, none, .ext (.tmp 7) 0⟩,
 ⟨some 11, none, .ext (.tmp 7) 1⟩,
 ⟨some 4, none, .alloc 54 opZ⟩,
 ⟨none, none, .store 38 (.tmp 4) (.tmp 10)⟩,
 ⟨some 5, none, .mov (.tmp 11)⟩])
 (.seq
 (.ops [⟨some 6, none, .alloc 31 [.int .i64 (0)]⟩])
 (.seq
 (.seq
 (.ops [⟨some 12, none, .mov (.tmp 5)⟩,
 ⟨some 13, none, .mkI 97 (.tmp 6)⟩,
 ⟨some 14, none, .call 35 [(.tmp 12), (.tmp 13)]⟩])
 (.cond (.tmp 14)
 (.seq
 (.opsD [⟨some 15, none, .build opZ []⟩,
 ⟨some 16, none, .load1 (.tmp 6)⟩,
 ⟨none, none, .store 38 (.tmp 2) (.tmp 15)⟩,
 ⟨some 3, none, .mov (.tmp 16)⟩] [(1, 2), (1, 3)])
 .ret)
 .skip))
 (.seq
 (.ops [⟨some 17, none, .loadN 38 (.tmp 4)⟩,
 ⟨none, none, .store 38 (.tmp 2) (.tmp 17)⟩,
 ⟨some 3, none, .mov (.const (.int .i64 (0)))⟩])
 .ret)))))⟩
theorem t12 : T 12 = some c12 := by kernel_rfl

/-- plait/opt.read -/
def c34 : AFunc := ⟨46, 1, [.inr (2, 38, true), .inl 3],
 (.seq
 (.ops [⟨some 1, none, .box 23 2 (.tmp 0)⟩,
 ⟨some 2, none, .alloc 54 opZ⟩,
 ⟨some 3, none, .mov (.const (.nilIface))⟩])
 (.seq
 (.block 0
 (.seq
 (.ops [⟨some 7, none, .faddr 0 (.tmp 1)⟩,
 ⟨some 8, none, .load1 (.tmp 7)⟩,
 ⟨some 9, none, .bin .neq (.tmp 8) (.const (.int .i64 (30)))⟩,
 ⟨some 6, none, .mov (.tmp 9)⟩])
 (.cond (.tmp 6)
 (.seq
 (.ops [⟨some 10, none, .build opZ []⟩,
 ⟨some 11, none, .mkI 31 (.const (.int .i64 (7)))⟩,
 ⟨none, none, .store 38 (.tmp 2) (.tmp 10)⟩,
 ⟨some 3, none, .mov (.tmp 11)⟩])
 .ret)
 (.seq
 (.ops [⟨some 13, none, .faddr 1 (.tmp 1)⟩,
 ⟨some 14, none, .load1 (.tmp 13)⟩,
 ⟨some 15, none, .bin .eql (.tmp 14) (.const (.string ⟨⟨[]⟩⟩))⟩,
 ⟨some 12, none, .mov (.tmp 15)⟩])
 (.cond (.tmp 12)
 (.seq
 (.ops [⟨some 16, none, .build opZ []⟩,
 ⟨some 17, none, .mkI 31 (.const (.int .i64 (4)))⟩,
 ⟨none, none, .store 38 (.tmp 2) (.tmp 16)⟩,
 ⟨some 3, none, .mov (.tmp 17)⟩])
 .ret)
 (.seq
 (.ops [⟨some 19, none, .faddr 1 (.tmp 1)⟩,
 ⟨some 20, none, .load1 (.tmp 19)⟩,
 ⟨some 21, none, .idxS (.tmp 20) (.const (.int .i64 (0)))⟩,
 ⟨some 22, none, .bin .shr (.tmp 21) (.const (.int .u64 (4)))⟩,
 ⟨some 23, none, .bin .geq (.tmp 22) (.const (.int .u8 (9)))⟩,
 ⟨some 18, none, .mov (.tmp 23)⟩])
 (.cond (.tmp 18)
 (.seq
 (.ops [⟨some 24, none, .build opZ []⟩,
 ⟨some 25, none, .mkI 31 (.const (.int .i64 (7)))⟩,
 ⟨none, none, .store 38 (.tmp 2) (.tmp 24)⟩,
 ⟨some 3, none, .mov (.tmp 25)⟩])
 .ret)
 .skip)))))))
 (.seq
 (.ops [⟨some 26, none, .faddr 1 (.tmp 1)⟩,
 ⟨some 27, none, .load1 (.tmp 26)⟩,
 ⟨some 28, none, .idxS (.tmp 27) (.const (.int .i64 (0)))⟩,
 ⟨some 29, none, .bin .shr (.tmp 28) (.const (.int .u64 (4)))⟩,
 ⟨some 30, none, .cvInt .i64 (.tmp 29)⟩,
 ⟨some 31, none, .build opZ [(0, 1, (.tmp 30))]⟩,
 ⟨some 4, none, .alloc 54 opZ⟩,
 ⟨none, none, .store 38 (.tmp 4) (.tmp 31)⟩])
 (.seq
 (.seq
 (.opsD [⟨some 32, none, .call 50 []⟩,
 ⟨some 33, none, .faddr 0 (.tmp 4)⟩,
 ⟨some 34, none, .load1 (.tmp 33)⟩,
 ⟨some 35, none, .idxN 9 2 (.tmp 32) (.tmp 34)⟩,
 ⟨some 36, none, .fld1 1 (.tmp 35)⟩,
 ⟨some 37, none, .faddr 1 (.tmp 1)⟩,
 ⟨some 38, none, .load1 (.tmp 37)⟩,
 ⟨some 39, none, .callv (.tmp 36) [(.tmp 4), (.tmp 38)]⟩,
 ⟨some 5, none, .mov (.tmp 39)⟩] [(2, 0), (2, 1), (6, 0), (6, 1)])
 (.seq
 (.ops [⟨some 40, none, .mov (.tmp 5)⟩,
 ⟨some 41, none, .bin .neq (.tmp 40) (.const (.int .i64 (0)))⟩])
 (.cond (.tmp 41)
 (.seq
 (.ops [⟨some 42, none, .build opZ []⟩,
 ⟨some 43, none, .mov (.tmp 5)⟩,
 ⟨some 44, none, .mkI 31 (.tmp 43)⟩,
 ⟨none, none, .store 38 (.tmp 2) (.tmp 42)⟩,
 ⟨some 3, none, .mov (.tmp 44)⟩])
 .ret)
 .skip)))
 (.seq
 (.ops [⟨some 45, none, .loadN 38 (.tmp 4)⟩,
 ⟨none, none, .store 38 (.tmp 2) (.tmp 45)⟩,
 ⟨some 3, none, .mov (.const (.nilIface))⟩])
 .ret)))))⟩
theorem t34 : T 34 = some c34 := by kernel_rfl

/-- plait/opt.all$2 -/
def c74 : AFunc := ⟨14, 2, [.inl 4],
 (.seq
 (.ops [⟨some 4, none, .mov (.const (.int .i64 (0)))⟩])
 (.seq
 (.ops [⟨some 6, none, .mov (.tmp 0)⟩,
 ⟨some 7, none, .mov (.tmp 1)⟩,
 ⟨some 8, none, .call 75 [(.tmp 7)]⟩,
 ⟨some 5, none, .mov (.tmp 8)⟩,
 ⟨some 9, none, .ext (.tmp 5) 0⟩,
 ⟨some 10, none, .ext (.tmp 5) 1⟩,
 ⟨some 11, none, .nilchk (.tmp 6)⟩,
 ⟨some 12, none, .faddr 1 (.tmp 11)⟩,
 ⟨none, none, .store 8 (.tmp 12) (.tmp 9)⟩,
 ⟨some 4, none, .mov (.tmp 10)⟩])
 (.seq
 (.ops [⟨some 13, none, .mov (.tmp 4)⟩,
 ⟨some 4, none, .mov (.tmp 13)⟩])
 .ret)))⟩
theorem t74 : T 74 = some c74 := by kernel_rfl

/-- plait/opt.all$4 -/
def c78 : AFunc := ⟨14, 2, [.inl 4],
 (.seq
 (.ops [⟨some 4, none, .mov (.const (.int .i64 (0)))⟩])
 (.seq
 (.ops [⟨some 6, none, .mov (.tmp 0)⟩,
 ⟨some 7, none, .mov (.tmp 1)⟩,
 ⟨some 8, none, .call 79 [(.tmp 7)]⟩,
 ⟨some 5, none, .mov (.tmp 8)⟩,
 ⟨some 9, none, .ext (.tmp 5) 0⟩,
 ⟨some 10, none, .ext (.tmp 5) 1⟩,
 ⟨some 11, none, .nilchk (.tmp 6)⟩,
 ⟨some 12, none, .faddr 9 (.tmp 11)⟩,
 ⟨none, none, .store 6 (.tmp 12) (.tmp 9)⟩,
 ⟨some 4, none, .mov (.tmp 10)⟩])
 (.seq
 (.ops [⟨some 13, none, .mov (.tmp 4)⟩,
 ⟨some 4, none, .mov (.tmp 13)⟩])
 .ret)))⟩
theorem t78 : T 78 = some c78 := by kernel_rfl

/-- plait/opt.all$6 -/
def c82 : AFunc := ⟨14, 2, [.inl 4],
 (.seq
 (.ops [⟨some 4, none, .mov (.const (.int .i64 (0)))⟩])
 (.seq
 (.ops [⟨some 6, none, .mov (.tmp 0)⟩,
 ⟨some 7, none, .mov (.tmp 1)⟩,
 ⟨some 8, none, .call 83 [(.tmp 7)]⟩,
 ⟨some 5, none, .mov (.tmp 8)⟩,
 ⟨some 9, none, .ext (.tmp 5) 0⟩,
 ⟨some 10, none, .ext (.tmp 5) 1⟩,
 ⟨some 11, none, .nilchk (.tmp 6)⟩,
 ⟨some 12, none, .faddr 15 (.tmp 11)⟩,
 ⟨none, none, .store 11 (.tmp 12) (.tmp 9)⟩,
 ⟨some 4, none, .mov (.tmp 10)⟩])
 (.seq
 (.ops [⟨some 13, none, .mov (.tmp 4)⟩,
 ⟨some 4, none, .mov (.tmp 13)⟩])
 .ret)))⟩
theorem t82 : T 82 = some c82 := by kernel_rfl

/-- plait/opt.all$8 -/
def c86 : AFunc := ⟨14, 2, [.inl 4],
 (.seq
 (.ops [⟨some 4, none, .mov (.const (.int .i64 (0)))⟩])
 (.seq
 (.ops [⟨some 6, none, .mov (.tmp 0)⟩,
 ⟨some 7, none, .mov (.tmp 1)⟩,
 ⟨some 8, none, .call 87 [(.tmp 7)]⟩,
 ⟨some 5, none, .mov (.tmp 8)⟩,
 ⟨some 9, none, .ext (.tmp 5) 0⟩,
 ⟨some 10, none, .ext (.tmp 5) 1⟩,
 ⟨some 11, none, .nilchk (.tmp 6)⟩,
 ⟨some 12, none, .faddr 26 (.tmp 11)⟩,
 ⟨none, none, .store 6 (.tmp 12) (.tmp 9)⟩,
 ⟨some 4, none, .mov (.tmp 10)⟩])
 (.seq
 (.ops [⟨some 13, none, .mov (.tmp 4)⟩,
 ⟨some 4, none, .mov (.tmp 13)⟩])
 .ret)))⟩
theorem t86 : T 86 = some c86 := by kernel_rfl

/-- plait/opt.all$10 -/
def c90 : AFunc := ⟨14, 2, [.inl 4],
 (.seq
 (.ops [⟨some 4, none, .mov (.const (.int .i64 (0)))⟩])
 (.seq
 (.ops [⟨some 6, none, .mov (.tmp 0)⟩,
 ⟨some 7, none, .mov (.tmp 1)⟩,
 ⟨some 8, none, .call 91 [(.tmp 7)]⟩,
 ⟨some 5, none, .mov (.tmp 8)⟩,
 ⟨some 9, none, .ext (.tmp 5) 0⟩,
 ⟨some 10, none, .ext (.tmp 5) 1⟩,
 ⟨some 11, none, .nilchk (.tmp 6)⟩,
 ⟨some 12, none, .faddr 32 (.tmp 11)⟩,
 ⟨none, none, .store 1 (.tmp 12) (.tmp 9)⟩,
 ⟨some 4, none, .mov (.tmp 10)⟩])
 (.seq
 (.ops [⟨some 13, none, .mov (.tmp 4)⟩,
 ⟨some 4, none, .mov (.tmp 13)⟩])
 .ret)))⟩
theorem t90 : T 90 = some c90 := by kernel_rfl

/-- plait/opt.all$12 -/
def c94 : AFunc := ⟨14, 2, [.inl 4],
 (.seq
 (.ops [⟨some 4, none, .mov (.const (.int .i64 (0)))⟩])
 (.seq
 (.ops [⟨some 6, none, .mov (.tmp 0)⟩,
 ⟨some 7, none, .mov (.tmp 1)⟩,
 ⟨some 8, none, .call 95 [(.tmp 7)]⟩,
 ⟨some 5, none, .mov (.tmp 8)⟩,
 ⟨some 9, none, .ext (.tmp 5) 0⟩,
 ⟨some 10, none, .ext (.tmp 5) 1⟩,
 ⟨some 11, none, .nilchk (.tmp 6)⟩,
 ⟨some 12, none, .faddr 33 (.tmp 11)⟩,
 ⟨none, none, .store 1 (.tmp 12) (.tmp 9)⟩,
 ⟨some 4, none, .mov (.tmp 10)⟩])
 (.seq
 (.ops [⟨some 13, none, .mov (.tmp 4)⟩,
 ⟨some 4, none, .mov (.tmp 13)⟩])
 .ret)))⟩
theorem t94 : T 94 = some c94 := by kernel_rfl

/-- plait/opt.all$14 -/
def c98 : AFunc := ⟨14, 2, [.inl 4],
 (.seq
 (.ops [⟨some 4, none, .mov (.const (.int .i64 (0)))⟩])
 (.seq
 (.ops [⟨some 6, none, .mov (.tmp 0)⟩,
 ⟨some 7, none, .mov (.tmp 1)⟩,
 ⟨some 8, none, .call 99 [(.tmp 7)]⟩,
 ⟨some 5, none, .mov (.tmp 8)⟩,
 ⟨some 9, none, .ext (.tmp 5) 0⟩,
 ⟨some 10, none, .ext (.tmp 5) 1⟩,
 ⟨some 11, none, .nilchk (.tmp 6)⟩,
 ⟨some 12, none, .faddr 34 (.tmp 11)⟩,
 ⟨none, none, .store 1 (.tmp 12) (.tmp 9)⟩,
 ⟨some 4, none, .mov (.tmp 10)⟩])
 (.seq
 (.ops [⟨some 13, none, .mov (.tmp 4)⟩,
 ⟨some 4, none, .mov (.tmp 13)⟩])
 .ret)))⟩
theorem t98 : T 98 = some c98 := by kernel_rfl

/-- plait/opt.all$16 -/
def c102 : AFunc := ⟨14, 2, [.inl 4],
 (.seq
 (.ops [⟨some 4, none, .mov (.const (.int .i64 (0)))⟩])
 (.seq
 (.ops [⟨some 6, none, .mov (.tmp 0)⟩,
 ⟨some 7, none, .mov (.tmp 1)⟩,
 ⟨some 8, none, .call 103 [(.tmp 7)]⟩,
 ⟨some 5, none, .mov (.tmp 8)⟩,
 ⟨some 9, none, .ext (.tmp 5) 0⟩,
 ⟨some 10, none, .ext (.tmp 5) 1⟩,
 ⟨some 11, none, .nilchk (.tmp 6)⟩,
 ⟨some 12, none, .faddr 35 (.tmp 11)⟩,
 ⟨none, none, .store 1 (.tmp 12) (.tmp 9)⟩,
 ⟨some 4, none, .mov (.tmp 10)⟩])
 (.seq
 (.ops [⟨some 13, none, .mov (.tmp 4)⟩,
 ⟨some 4, none, .mov (.tmp 13)⟩])
 .ret)))⟩
theorem t102 : T 102 = some c102 := by kernel_rfl

/-- plait/opt.all$18 -/
def c106 : AFunc := ⟨14, 2, [.inl 4],
 (.seq
 (.ops [⟨some 4, none, .mov (.const (.int .i64 (0)))⟩])
 (.seq
 (.ops [⟨some 6, none, .mov (.tmp 0)⟩,
 ⟨some 7, none, .mov (.tmp 1)⟩,
 ⟨some 8, none, .call 107 [(.tmp 7)]⟩,
 ⟨some 5, none, .mov (.tmp 8)⟩,
 ⟨some 9, none, .ext (.tmp 5) 0⟩,
 ⟨some 10, none, .ext (.tmp 5) 1⟩,
 ⟨some 11, none, .nilchk (.tmp 6)⟩,
 ⟨some 12, none, .faddr 36 (.tmp 11)⟩,
 ⟨none, none, .store 2 (.tmp 12) (.tmp 9)⟩,
 ⟨some 4, none, .mov (.tmp 10)⟩])
 (.seq
 (.ops [⟨some 13, none, .mov (.tmp 4)⟩,
 ⟨some 4, none, .mov (.tmp 13)⟩])
 .ret)))⟩
theorem t106 : T 106 = some c106 := by kernel_rfl

end Go.Proofs.YtigknpfjhegkgaaGreatDoor

