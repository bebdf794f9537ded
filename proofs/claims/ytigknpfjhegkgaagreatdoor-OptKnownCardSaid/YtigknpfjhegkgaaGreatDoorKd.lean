/- The code of functions, as the framework reads it. -/
import Derived.Test.YtigknpfjhegkgaaGreatDoorZo
import Derived.KernelRfl
namespace Go.Proofs.YtigknpfjhegkgaaGreatDoor
open Go Go.AS
set_option maxRecDepth 100000
/-- Five options' zero cells. -/
def opZ5 : List Value := opZ ++ (opZ ++ (opZ ++ (opZ ++ opZ)))

/-- plait/plaitlaw14.OptLays -/
def c5 : AFunc := ⟨63, 2, [.inl 4],
 (.seq
 (.ops [⟨some 2, none, .box 54 38 (.tmp 0)⟩,
 ⟨some 3, none, .box 29 34 (.tmp 1)⟩,
 ⟨some 4, none, .mov (.const (.bool false))⟩])
 (.seq
 (.ops [⟨some 14, none, .loadN 38 (.tmp 2)⟩,
 ⟨some 15, none, .call 15 [(.tmp 14)]⟩,
 ⟨none, none, .store 38 (.tmp 2) (.tmp 15)⟩])
 (.seq
 (.ops [⟨some 16, none, .loadN 34 (.tmp 3)⟩,
 ⟨some 17, none, .call 11 [(.tmp 16)]⟩,
 ⟨some 5, none, .alloc 54 opZ⟩,
 ⟨none, none, .store 38 (.tmp 5) (.tmp 17)⟩])
 (.seq
 (.opsD [⟨some 18, none, .loadN 38 (.tmp 5)⟩,
 ⟨some 19, none, .loadN 38 (.tmp 2)⟩,
 ⟨some 6, none, .alloc 54 opZ⟩,
 ⟨some 7, none, .alloc 54 opZ⟩,
 ⟨none, none, .store 38 (.tmp 6) (.tmp 18)⟩,
 ⟨none, none, .store 38 (.tmp 7) (.tmp 19)⟩] [(1, 4), (1, 5)])
 (.seq
 (.ops [⟨some 20, none, .faddr 0 (.tmp 2)⟩,
 ⟨some 21, none, .load1 (.tmp 20)⟩,
 ⟨some 22, none, .faddr 0 (.tmp 6)⟩,
 ⟨none, none, .store 1 (.tmp 22) (.tmp 21)⟩])
 (.seq
 (.ops [⟨some 23, none, .faddr 0 (.tmp 5)⟩,
 ⟨some 24, none, .load1 (.tmp 23)⟩,
 ⟨some 25, none, .faddr 0 (.tmp 7)⟩,
 ⟨none, none, .store 1 (.tmp 25) (.tmp 24)⟩])
 (.seq
 (.seq
 (.opsD [⟨some 26, none, .loadN 38 (.tmp 2)⟩,
 ⟨some 27, none, .loadN 38 (.tmp 5)⟩,
 ⟨some 28, none, .loadN 38 (.tmp 6)⟩,
 ⟨some 29, none, .loadN 38 (.tmp 7)⟩,
 ⟨some 30, none, .loadN 38 (.tmp 7)⟩,
 ⟨some 31, none, .call 22 [(.tmp 30)]⟩,
 ⟨some 32, none, .build opZ5 [(0, 38, (.tmp 26)), (38, 38, (.tmp 27)), (76, 38, (.tmp 28)), (114, 38, (.tmp 29)), (152, 38, (.tmp 31))]⟩,
 ⟨some 33, none, .mov (.const (.int .i64 (0)))⟩] [(0, 5), (0, 6), (1, 5), (1, 6), (2, 5), (2, 6), (3, 5), (3, 6)])
 (.block 0
 (.loop
 (.seq
 (.ops [⟨some 34, none, .bin .lss (.tmp 33) (.const (.int .i64 (5)))⟩])
 (.seq
 (.cond (.tmp 34)
 .skip
 (.exit 0))
 (.seq
 (.block 1
 (.seq
 (.ops [⟨some 35, none, .idxN 5 38 (.tmp 32) (.tmp 33)⟩,
 ⟨some 9, none, .alloc 54 opZ⟩,
 ⟨none, none, .store 38 (.tmp 9) (.tmp 35)⟩])
 (.seq
 (.ops [⟨some 37, none, .loadN 38 (.tmp 9)⟩,
 ⟨some 38, none, .call 23 [(.tmp 37)]⟩,
 ⟨some 36, none, .mov (.tmp 38)⟩,
 ⟨some 39, none, .ext (.tmp 36) 0⟩,
 ⟨some 40, none, .ext (.tmp 36) 1⟩,
 ⟨some 10, none, .alloc 23 [.int .i64 (0), .string ⟨⟨[]⟩⟩]⟩,
 ⟨none, none, .store 2 (.tmp 10) (.tmp 39)⟩,
 ⟨some 11, none, .mov (.tmp 40)⟩])
 (.seq
 (.ops [⟨some 42, none, .loadN 38 (.tmp 9)⟩,
 ⟨some 43, none, .call 10 [(.tmp 42)]⟩,
 ⟨some 41, none, .mov (.tmp 43)⟩,
 ⟨some 44, none, .ext (.tmp 41) 0⟩,
 ⟨some 45, none, .ext (.tmp 41) 1⟩,
 ⟨some 12, none, .alloc 23 [.int .i64 (0), .string ⟨⟨[]⟩⟩]⟩,
 ⟨none, none, .store 2 (.tmp 12) (.tmp 44)⟩,
 ⟨some 13, none, .mov (.tmp 45)⟩])
 (.seq
 (.ops [⟨some 46, none, .loadN 2 (.tmp 10)⟩,
 ⟨some 47, none, .loadN 2 (.tmp 12)⟩,
 ⟨some 48, none, .eqF true [(0, .i), (1, .s)] (.tmp 46) (.tmp 47)⟩,
 ⟨some 49, none, .mov (.tmp 48)⟩,
 ⟨some 50, some (49, false), .mov (.tmp 11)⟩,
 ⟨some 51, some (49, false), .mov (.tmp 13)⟩,
 ⟨some 52, some (49, false), .bin .neq (.tmp 50) (.tmp 51)⟩,
 ⟨some 53, none, .pick (.tmp 49) (.const (.bool true)) (.tmp 52)⟩,
 ⟨some 54, none, .mov (.tmp 53)⟩,
 ⟨some 55, some (54, false), .loadN 38 (.tmp 9)⟩,
 ⟨some 56, some (54, false), .call 24 [(.tmp 55)]⟩,
 ⟨some 57, some (54, false), .mov (.tmp 13)⟩,
 ⟨some 58, some (54, false), .bin .eql (.tmp 57) (.const (.int .i64 (0)))⟩,
 ⟨some 59, some (54, false), .eq true false .bool (.tmp 56) (.tmp 58)⟩,
 ⟨some 60, none, .pick (.tmp 54) (.const (.bool true)) (.tmp 59)⟩])
 (.cond (.tmp 60)
 (.seq
 (.ops [⟨some 4, none, .mov (.const (.bool false))⟩])
 .ret)
 .skip))))))
 (.ops [⟨some 61, none, .bin .add (.tmp 33) (.const (.int .i64 (1)))⟩,
 ⟨some 33, none, .mov (.tmp 61)⟩])))))))
 (.seq
 (.ops [⟨some 62, none, .call 14 []⟩,
 ⟨some 4, none, .mov (.tmp 62)⟩])
 .ret))))))))⟩
theorem t5 : T 5 = some c5 := by kernel_rfl

/-- (plait/plaitref14.Draft).Opt -/
def c11 : AFunc := ⟨71, 1, [.inr (2, 38, true)],
 (.seq
 (.ops [⟨some 1, none, .box 29 34 (.tmp 0)⟩,
 ⟨some 2, none, .alloc 54 opZ⟩])
 (.seq
 (.ops [⟨some 4, none, .faddr 0 (.tmp 1)⟩,
 ⟨some 5, none, .load1 (.tmp 4)⟩,
 ⟨some 6, none, .bin .rem (.tmp 5) (.const (.int .u8 (9)))⟩,
 ⟨some 7, none, .cvInt .i64 (.tmp 6)⟩,
 ⟨some 8, none, .build opZ [(0, 1, (.tmp 7))]⟩,
 ⟨some 3, none, .alloc 54 opZ⟩,
 ⟨none, none, .store 38 (.tmp 3) (.tmp 8)⟩])
 (.seq
 (.seq
 (.ops [⟨some 9, none, .faddr 0 (.tmp 3)⟩,
 ⟨some 10, none, .load1 (.tmp 9)⟩])
 (.block 0
 (.seq
 (.ops [⟨some 21, none, .bin .eql (.tmp 10) (.const (.int .i64 (0)))⟩,
 ⟨some 20, none, .mov (.tmp 21)⟩])
 (.cond (.tmp 20)
 (.ops [⟨some 22, none, .loadN 34 (.tmp 1)⟩,
 ⟨some 23, none, .call 30 [(.tmp 22)]⟩,
 ⟨some 24, none, .faddr 1 (.tmp 3)⟩,
 ⟨none, none, .store 8 (.tmp 24) (.tmp 23)⟩])
 (.seq
 (.ops [⟨some 26, none, .bin .eql (.tmp 10) (.const (.int .i64 (1)))⟩,
 ⟨some 25, none, .mov (.tmp 26)⟩])
 (.cond (.tmp 25)
 (.ops [⟨some 27, none, .loadN 34 (.tmp 1)⟩,
 ⟨some 28, none, .call 31 [(.tmp 27)]⟩,
 ⟨some 29, none, .faddr 9 (.tmp 3)⟩,
 ⟨none, none, .store 6 (.tmp 29) (.tmp 28)⟩])
 (.seq
 (.ops [⟨some 31, none, .bin .eql (.tmp 10) (.const (.int .i64 (2)))⟩,
 ⟨some 30, none, .mov (.tmp 31)⟩])
 (.cond (.tmp 30)
 (.ops [⟨some 32, none, .loadN 34 (.tmp 1)⟩,
 ⟨some 33, none, .call 32 [(.tmp 32)]⟩,
 ⟨some 34, none, .faddr 15 (.tmp 3)⟩,
 ⟨none, none, .store 11 (.tmp 34) (.tmp 33)⟩])
 (.seq
 (.ops [⟨some 36, none, .bin .eql (.tmp 10) (.const (.int .i64 (3)))⟩,
 ⟨some 35, none, .mov (.tmp 36)⟩])
 (.cond (.tmp 35)
 (.ops [⟨some 37, none, .loadN 34 (.tmp 1)⟩,
 ⟨some 38, none, .call 33 [(.tmp 37)]⟩,
 ⟨some 39, none, .faddr 26 (.tmp 3)⟩,
 ⟨none, none, .store 6 (.tmp 39) (.tmp 38)⟩])
 (.seq
 (.ops [⟨some 41, none, .bin .eql (.tmp 10) (.const (.int .i64 (4)))⟩,
 ⟨some 40, none, .mov (.tmp 41)⟩])
 (.cond (.tmp 40)
 (.ops [⟨some 42, none, .faddr 10 (.tmp 1)⟩,
 ⟨some 43, none, .faddr 1 (.tmp 1)⟩,
 ⟨some 44, none, .load1 (.tmp 43)⟩,
 ⟨some 45, none, .bin .rem (.tmp 44) (.const (.int .u8 (24)))⟩,
 ⟨some 46, none, .bin .add (.const (.int .u8 (1))) (.tmp 45)⟩,
 ⟨some 47, none, .sliceA 24 1 (.tmp 42) none (some (.tmp 46)) none⟩,
 ⟨some 48, none, .cvB2S (.tmp 47)⟩,
 ⟨some 49, none, .build [.string ⟨⟨[]⟩⟩] [(0, 1, (.tmp 48))]⟩,
 ⟨some 50, none, .faddr 32 (.tmp 3)⟩,
 ⟨none, none, .store 1 (.tmp 50) (.tmp 49)⟩])
 (.seq
 (.ops [⟨some 52, none, .bin .eql (.tmp 10) (.const (.int .i64 (5)))⟩,
 ⟨some 51, none, .mov (.tmp 52)⟩])
 (.cond (.tmp 51)
 (.ops [⟨some 53, none, .faddr 3 (.tmp 1)⟩,
 ⟨some 54, none, .iaddrA 3 1 (.tmp 53) (.const (.int .i64 (0)))⟩,
 ⟨some 55, none, .load1 (.tmp 54)⟩,
 ⟨some 56, none, .build [.bool false] [(0, 1, (.tmp 55))]⟩,
 ⟨some 57, none, .faddr 33 (.tmp 3)⟩,
 ⟨none, none, .store 1 (.tmp 57) (.tmp 56)⟩])
 (.seq
 (.ops [⟨some 59, none, .bin .eql (.tmp 10) (.const (.int .i64 (6)))⟩,
 ⟨some 58, none, .mov (.tmp 59)⟩])
 (.cond (.tmp 58)
 (.ops [⟨some 60, none, .faddr 6 (.tmp 1)⟩,
 ⟨some 61, none, .load1 (.tmp 60)⟩,
 ⟨some 62, none, .build [.int .u64 (0)] [(0, 1, (.tmp 61))]⟩,
 ⟨some 63, none, .faddr 34 (.tmp 3)⟩,
 ⟨none, none, .store 1 (.tmp 63) (.tmp 62)⟩])
 (.seq
 (.ops [⟨some 65, none, .bin .eql (.tmp 10) (.const (.int .i64 (7)))⟩,
 ⟨some 64, none, .mov (.tmp 65)⟩])
 (.cond (.tmp 64)
 (.ops [⟨some 66, none, .faddr 6 (.tmp 1)⟩,
 ⟨some 67, none, .load1 (.tmp 66)⟩,
 ⟨some 68, none, .build [.int .u64 (0)] [(0, 1, (.tmp 67))]⟩,
 ⟨some 69, none, .faddr 35 (.tmp 3)⟩,
 ⟨none, none, .store 1 (.tmp 69) (.tmp 68)⟩])
 (.ops [⟨some 11, none, .faddr 2 (.tmp 1)⟩,
 ⟨some 12, none, .load1 (.tmp 11)⟩,
 ⟨some 13, none, .bin .rem (.tmp 12) (.const (.int .u8 (16)))⟩,
 ⟨some 14, none, .cvInt .i64 (.tmp 13)⟩,
 ⟨some 15, none, .faddr 1 (.tmp 1)⟩,
 ⟨some 16, none, .load1 (.tmp 15)⟩,
 ⟨some 17, none, .cvInt .i64 (.tmp 16)⟩,
 ⟨some 18, none, .build [.int .i64 (0), .int .i64 (0)] [(0, 1, (.tmp 14)), (1, 1, (.tmp 17))]⟩,
 ⟨some 19, none, .faddr 36 (.tmp 3)⟩,
 ⟨none, none, .store 2 (.tmp 19) (.tmp 18)⟩])))))))))))))))))))
 (.seq
 (.ops [⟨some 70, none, .loadN 38 (.tmp 3)⟩,
 ⟨none, none, .store 38 (.tmp 2) (.tmp 70)⟩])
 .ret))))⟩
theorem t11 : T 11 = some c11 := by kernel_rfl

/-- plait/plaitlaw14.short -/
def c15 : AFunc := ⟨48, 1, [.inr (2, 38, true)],
 (.seq
 (.ops [⟨some 1, none, .box 54 38 (.tmp 0)⟩,
 ⟨some 2, none, .alloc 54 opZ⟩])
 (.seq
 (.ops [⟨some 3, none, .faddr 9 (.tmp 1)⟩,
 ⟨some 4, none, .faddr 5 (.tmp 3)⟩,
 ⟨some 5, none, .load1 (.tmp 4)⟩,
 ⟨some 6, none, .faddr 9 (.tmp 1)⟩,
 ⟨some 7, none, .faddr 5 (.tmp 6)⟩,
 ⟨some 8, none, .load1 (.tmp 7)⟩,
 ⟨some 9, none, .lenS (.tmp 8)⟩,
 ⟨some 10, none, .min [(.tmp 9), (.const (.int .i64 (60)))]⟩,
 ⟨some 11, none, .sliceS (.tmp 5) none (some (.tmp 10))⟩,
 ⟨some 12, none, .faddr 9 (.tmp 1)⟩,
 ⟨some 13, none, .faddr 5 (.tmp 12)⟩,
 ⟨none, none, .store 1 (.tmp 13) (.tmp 11)⟩])
 (.seq
 (.ops [⟨some 14, none, .faddr 26 (.tmp 1)⟩,
 ⟨some 15, none, .faddr 2 (.tmp 14)⟩,
 ⟨some 16, none, .load1 (.tmp 15)⟩,
 ⟨some 17, none, .faddr 26 (.tmp 1)⟩,
 ⟨some 18, none, .faddr 2 (.tmp 17)⟩,
 ⟨some 19, none, .load1 (.tmp 18)⟩,
 ⟨some 20, none, .lenS (.tmp 19)⟩,
 ⟨some 21, none, .min [(.tmp 20), (.const (.int .i64 (60)))]⟩,
 ⟨some 22, none, .sliceS (.tmp 16) none (some (.tmp 21))⟩,
 ⟨some 23, none, .faddr 26 (.tmp 1)⟩,
 ⟨some 24, none, .faddr 2 (.tmp 23)⟩,
 ⟨none, none, .store 1 (.tmp 24) (.tmp 22)⟩])
 (.seq
 (.ops [⟨some 25, none, .faddr 26 (.tmp 1)⟩,
 ⟨some 26, none, .faddr 5 (.tmp 25)⟩,
 ⟨some 27, none, .load1 (.tmp 26)⟩,
 ⟨some 28, none, .faddr 26 (.tmp 1)⟩,
 ⟨some 29, none, .faddr 5 (.tmp 28)⟩,
 ⟨some 30, none, .load1 (.tmp 29)⟩,
 ⟨some 31, none, .lenS (.tmp 30)⟩,
 ⟨some 32, none, .min [(.tmp 31), (.const (.int .i64 (60)))]⟩,
 ⟨some 33, none, .sliceS (.tmp 27) none (some (.tmp 32))⟩,
 ⟨some 34, none, .faddr 26 (.tmp 1)⟩,
 ⟨some 35, none, .faddr 5 (.tmp 34)⟩,
 ⟨none, none, .store 1 (.tmp 35) (.tmp 33)⟩])
 (.seq
 (.ops [⟨some 36, none, .faddr 32 (.tmp 1)⟩,
 ⟨some 37, none, .faddr 0 (.tmp 36)⟩,
 ⟨some 38, none, .load1 (.tmp 37)⟩,
 ⟨some 39, none, .faddr 32 (.tmp 1)⟩,
 ⟨some 40, none, .faddr 0 (.tmp 39)⟩,
 ⟨some 41, none, .load1 (.tmp 40)⟩,
 ⟨some 42, none, .lenS (.tmp 41)⟩,
 ⟨some 43, none, .min [(.tmp 42), (.const (.int .i64 (60)))]⟩,
 ⟨some 44, none, .sliceS (.tmp 38) none (some (.tmp 43))⟩,
 ⟨some 45, none, .faddr 32 (.tmp 1)⟩,
 ⟨some 46, none, .faddr 0 (.tmp 45)⟩,
 ⟨none, none, .store 1 (.tmp 46) (.tmp 44)⟩])
 (.seq
 (.ops [⟨some 47, none, .loadN 38 (.tmp 1)⟩,
 ⟨none, none, .store 38 (.tmp 2) (.tmp 47)⟩])
 .ret))))))⟩
theorem t15 : T 15 = some c15 := by kernel_rfl

/-- (plait/plaitref14.Draft).capable -/
def c30 : AFunc := ⟨45, 1, [.inr (2, 8, true)],
 (.seq
 (.ops [⟨some 1, none, .box 29 34 (.tmp 0)⟩,
 ⟨some 2, none, .alloc 35 [.int .i64 (0), .int .i64 (0), .bool false, .bool false, .int .u64 (0), .int .u64 (0), .int .i64 (0), .int .u16 (0)]⟩])
 (.seq
 (.ops [⟨some 4, none, .faddr 1 (.tmp 1)⟩,
 ⟨some 5, none, .load1 (.tmp 4)⟩,
 ⟨some 6, none, .bin .rem (.tmp 5) (.const (.int .u8 (5)))⟩,
 ⟨some 7, none, .cvInt .i64 (.tmp 6)⟩,
 ⟨some 8, none, .faddr 2 (.tmp 1)⟩,
 ⟨some 9, none, .load1 (.tmp 8)⟩,
 ⟨some 10, none, .bin .rem (.tmp 9) (.const (.int .u8 (16)))⟩,
 ⟨some 11, none, .cvInt .i64 (.tmp 10)⟩,
 ⟨some 12, none, .faddr 3 (.tmp 1)⟩,
 ⟨some 13, none, .iaddrA 3 1 (.tmp 12) (.const (.int .i64 (0)))⟩,
 ⟨some 14, none, .load1 (.tmp 13)⟩,
 ⟨some 15, none, .faddr 3 (.tmp 1)⟩,
 ⟨some 16, none, .iaddrA 3 1 (.tmp 15) (.const (.int .i64 (1)))⟩,
 ⟨some 17, none, .load1 (.tmp 16)⟩,
 ⟨some 18, none, .build [.int .i64 (0), .int .i64 (0), .bool false, .bool false, .int .u64 (0), .int .u64 (0), .int .i64 (0), .int .u16 (0)] [(0, 1, (.tmp 7)), (1, 1, (.tmp 11)), (2, 1, (.tmp 14)), (3, 1, (.tmp 17))]⟩,
 ⟨some 3, none, .alloc 35 [.int .i64 (0), .int .i64 (0), .bool false, .bool false, .int .u64 (0), .int .u64 (0), .int .i64 (0), .int .u16 (0)]⟩,
 ⟨none, none, .store 8 (.tmp 3) (.tmp 18)⟩])
 (.seq
 (.seq
 (.ops [⟨some 19, none, .faddr 0 (.tmp 3)⟩,
 ⟨some 20, none, .load1 (.tmp 19)⟩,
 ⟨some 21, none, .bin .geq (.tmp 20) (.const (.int .i64 (1)))⟩])
 (.cond (.tmp 21)
 (.ops [⟨some 22, none, .faddr 6 (.tmp 1)⟩,
 ⟨some 23, none, .load1 (.tmp 22)⟩,
 ⟨some 24, none, .faddr 4 (.tmp 3)⟩,
 ⟨none, none, .store 1 (.tmp 24) (.tmp 23)⟩])
 .skip))
 (.seq
 (.seq
 (.ops [⟨some 25, none, .faddr 0 (.tmp 3)⟩,
 ⟨some 26, none, .load1 (.tmp 25)⟩,
 ⟨some 27, none, .bin .geq (.tmp 26) (.const (.int .i64 (2)))⟩])
 (.cond (.tmp 27)
 (.ops [⟨some 28, none, .faddr 7 (.tmp 1)⟩,
 ⟨some 29, none, .load1 (.tmp 28)⟩,
 ⟨some 30, none, .faddr 5 (.tmp 3)⟩,
 ⟨none, none, .store 1 (.tmp 30) (.tmp 29)⟩])
 .skip))
 (.seq
 (.seq
 (.ops [⟨some 31, none, .faddr 0 (.tmp 3)⟩,
 ⟨some 32, none, .load1 (.tmp 31)⟩,
 ⟨some 33, none, .bin .geq (.tmp 32) (.const (.int .i64 (3)))⟩])
 (.cond (.tmp 33)
 (.ops [⟨some 34, none, .faddr 8 (.tmp 1)⟩,
 ⟨some 35, none, .load1 (.tmp 34)⟩,
 ⟨some 36, none, .cvInt .i64 (.tmp 35)⟩,
 ⟨some 37, none, .faddr 6 (.tmp 3)⟩,
 ⟨none, none, .store 1 (.tmp 37) (.tmp 36)⟩])
 .skip))
 (.seq
 (.seq
 (.ops [⟨some 38, none, .faddr 0 (.tmp 3)⟩,
 ⟨some 39, none, .load1 (.tmp 38)⟩,
 ⟨some 40, none, .bin .eql (.tmp 39) (.const (.int .i64 (4)))⟩])
 (.cond (.tmp 40)
 (.ops [⟨some 41, none, .faddr 9 (.tmp 1)⟩,
 ⟨some 42, none, .load1 (.tmp 41)⟩,
 ⟨some 43, none, .faddr 7 (.tmp 3)⟩,
 ⟨none, none, .store 1 (.tmp 43) (.tmp 42)⟩])
 .skip))
 (.seq
 (.ops [⟨some 44, none, .loadN 8 (.tmp 3)⟩,
 ⟨none, none, .store 8 (.tmp 2) (.tmp 44)⟩])
 .ret)))))))⟩
theorem t30 : T 30 = some c30 := by kernel_rfl

/-- (plait/plaitref14.Draft).join -/
def c31 : AFunc := ⟨40, 1, [.inr (2, 6, true)],
 (.seq
 (.ops [⟨some 1, none, .box 29 34 (.tmp 0)⟩,
 ⟨some 2, none, .alloc 38 [.int .i64 (0), .bool false, .int .i64 (0), .int .u32 (0), .int .u32 (0), .string ⟨⟨[]⟩⟩]⟩])
 (.seq
 (.seq
 (.ops [⟨some 3, none, .faddr 1 (.tmp 1)⟩,
 ⟨some 4, none, .load1 (.tmp 3)⟩,
 ⟨some 5, none, .bin .rem (.tmp 4) (.const (.int .u8 (3)))⟩])
 (.block 0
 (.seq
 (.ops [⟨some 7, none, .bin .eql (.tmp 5) (.const (.int .u8 (0)))⟩,
 ⟨some 6, none, .mov (.tmp 7)⟩])
 (.cond (.tmp 6)
 (.seq
 (.ops [⟨some 8, none, .faddr 3 (.tmp 1)⟩,
 ⟨some 9, none, .iaddrA 3 1 (.tmp 8) (.const (.int .i64 (0)))⟩,
 ⟨some 10, none, .load1 (.tmp 9)⟩,
 ⟨some 11, none, .faddr 2 (.tmp 1)⟩,
 ⟨some 12, none, .load1 (.tmp 11)⟩,
 ⟨some 13, none, .cvInt .i64 (.tmp 12)⟩,
 ⟨some 14, none, .faddr 6 (.tmp 1)⟩,
 ⟨some 15, none, .load1 (.tmp 14)⟩,
 ⟨some 16, none, .cvInt .u32 (.tmp 15)⟩,
 ⟨some 17, none, .faddr 7 (.tmp 1)⟩,
 ⟨some 18, none, .load1 (.tmp 17)⟩,
 ⟨some 19, none, .cvInt .u32 (.tmp 18)⟩,
 ⟨some 20, none, .build [.int .i64 (0), .bool false, .int .i64 (0), .int .u32 (0), .int .u32 (0), .string ⟨⟨[]⟩⟩] [(0, 1, (.const (.int .i64 (0)))), (1, 1, (.tmp 10)), (2, 1, (.tmp 13)), (3, 1, (.tmp 16)), (4, 1, (.tmp 19))]⟩,
 ⟨none, none, .store 6 (.tmp 2) (.tmp 20)⟩])
 .ret)
 (.seq
 (.ops [⟨some 22, none, .bin .eql (.tmp 5) (.const (.int .u8 (1)))⟩,
 ⟨some 21, none, .mov (.tmp 22)⟩])
 (.cond (.tmp 21)
 (.seq
 (.opsD [⟨some 23, none, .faddr 3 (.tmp 1)⟩,
 ⟨some 24, none, .iaddrA 3 1 (.tmp 23) (.const (.int .i64 (0)))⟩,
 ⟨some 25, none, .load1 (.tmp 24)⟩,
 ⟨some 26, none, .faddr 2 (.tmp 1)⟩,
 ⟨some 27, none, .load1 (.tmp 26)⟩,
 ⟨some 28, none, .cvInt .i64 (.tmp 27)⟩,
 ⟨some 29, none, .faddr 7 (.tmp 1)⟩,
 ⟨some 30, none, .load1 (.tmp 29)⟩,
 ⟨some 31, none, .cvInt .u32 (.tmp 30)⟩,
 ⟨some 32, none, .faddr 10 (.tmp 1)⟩,
 ⟨some 33, none, .sliceA 24 1 (.tmp 32) none (some (.const (.int .i64 (8)))) none⟩,
 ⟨some 34, none, .cvB2S (.tmp 33)⟩,
 ⟨some 35, none, .build [.int .i64 (0), .bool false, .int .i64 (0), .int .u32 (0), .int .u32 (0), .string ⟨⟨[]⟩⟩] [(0, 1, (.const (.int .i64 (1)))), (1, 1, (.tmp 25)), (2, 1, (.tmp 28)), (4, 1, (.tmp 31)), (5, 1, (.tmp 34))]⟩,
 ⟨none, none, .store 6 (.tmp 2) (.tmp 35)⟩] [])
 .ret)
 .skip))))))
 (.seq
 (.ops [⟨some 36, none, .faddr 10 (.tmp 1)⟩,
 ⟨some 37, none, .sliceA 24 1 (.tmp 36) none (some (.const (.int .i64 (20)))) none⟩,
 ⟨some 38, none, .cvB2S (.tmp 37)⟩,
 ⟨some 39, none, .build [.int .i64 (0), .bool false, .int .i64 (0), .int .u32 (0), .int .u32 (0), .string ⟨⟨[]⟩⟩] [(0, 1, (.const (.int .i64 (2)))), (5, 1, (.tmp 38))]⟩,
 ⟨none, none, .store 6 (.tmp 2) (.tmp 39)⟩])
 .ret)))⟩
theorem t31 : T 31 = some c31 := by kernel_rfl

def c32t : ACode :=
 (.seq
 (.seq
 (.ops [⟨some 29, none, .faddr 4 (.tmp 3)⟩,
 ⟨some 30, none, .load1 (.tmp 29)⟩])
 (.cond (.tmp 30)
 (.seq
 (.opsD [⟨some 31, none, .faddr 3 (.tmp 1)⟩,
 ⟨some 32, none, .iaddrA 3 1 (.tmp 31) (.const (.int .i64 (1)))⟩,
 ⟨some 33, none, .load1 (.tmp 32)⟩,
 ⟨some 34, none, .faddr 3 (.tmp 1)⟩,
 ⟨some 35, none, .iaddrA 3 1 (.tmp 34) (.const (.int .i64 (2)))⟩,
 ⟨some 36, none, .load1 (.tmp 35)⟩,
 ⟨some 37, none, .faddr 2 (.tmp 1)⟩,
 ⟨some 38, none, .load1 (.tmp 37)⟩,
 ⟨some 39, none, .bin .rem (.tmp 38) (.const (.int .u8 (2)))⟩,
 ⟨some 40, none, .bin .eql (.tmp 39) (.const (.int .u8 (1)))⟩,
 ⟨some 41, none, .faddr 0 (.tmp 3)⟩,
 ⟨none, none, .store 1 (.tmp 41) (.tmp 33)⟩,
 ⟨some 42, none, .faddr 5 (.tmp 3)⟩,
 ⟨none, none, .store 1 (.tmp 42) (.tmp 36)⟩,
 ⟨some 43, none, .faddr 9 (.tmp 3)⟩,
 ⟨none, none, .store 1 (.tmp 43) (.tmp 40)⟩] [(5, 11), (5, 12), (7, 11), (7, 12), (7, 13), (7, 14)])
 (.seq
 (.opsD [⟨some 44, none, .faddr 7 (.tmp 1)⟩,
 ⟨some 45, none, .load1 (.tmp 44)⟩,
 ⟨some 46, none, .faddr 6 (.tmp 1)⟩,
 ⟨some 47, none, .load1 (.tmp 46)⟩,
 ⟨some 48, none, .bin .shr (.tmp 47) (.const (.int .u64 (32)))⟩,
 ⟨some 49, none, .cvInt .u32 (.tmp 48)⟩,
 ⟨some 50, none, .faddr 8 (.tmp 1)⟩,
 ⟨some 51, none, .load1 (.tmp 50)⟩,
 ⟨some 52, none, .cvInt .i64 (.tmp 51)⟩,
 ⟨some 53, none, .faddr 6 (.tmp 3)⟩,
 ⟨none, none, .store 1 (.tmp 53) (.tmp 45)⟩,
 ⟨some 54, none, .faddr 7 (.tmp 3)⟩,
 ⟨none, none, .store 1 (.tmp 54) (.tmp 49)⟩,
 ⟨some 55, none, .faddr 8 (.tmp 3)⟩,
 ⟨none, none, .store 1 (.tmp 55) (.tmp 52)⟩] [(3, 10), (3, 11), (7, 10), (7, 11), (7, 12), (7, 13)])
 (.seq
 (.seq
 (.ops [⟨some 56, none, .faddr 5 (.tmp 3)⟩,
 ⟨some 57, none, .load1 (.tmp 56)⟩,
 ⟨some 58, none, .un .not (.tmp 57)⟩])
 (.cond (.tmp 58)
 (.ops [⟨some 59, none, .faddr 7 (.tmp 1)⟩,
 ⟨some 60, none, .load1 (.tmp 59)⟩,
 ⟨some 61, none, .bin .rem (.tmp 60) (.const (.int .u64 (4294967296)))⟩,
 ⟨some 62, none, .faddr 6 (.tmp 3)⟩,
 ⟨none, none, .store 1 (.tmp 62) (.tmp 61)⟩])
 .skip))
 (.seq
 (.ops [⟨some 63, none, .faddr 9 (.tmp 3)⟩,
 ⟨some 64, none, .load1 (.tmp 63)⟩])
 (.cond (.tmp 64)
 (.ops [⟨some 65, none, .faddr 9 (.tmp 1)⟩,
 ⟨some 66, none, .load1 (.tmp 65)⟩,
 ⟨some 67, none, .faddr 10 (.tmp 3)⟩,
 ⟨none, none, .store 1 (.tmp 67) (.tmp 66)⟩])
 .skip)))))
 .skip))
 (.seq
 (.ops [⟨some 68, none, .loadN 11 (.tmp 3)⟩,
 ⟨none, none, .store 11 (.tmp 2) (.tmp 68)⟩])
 .ret))

/-- (plait/plaitref14.Draft).dss -/
def c32 : AFunc := ⟨69, 1, [.inr (2, 11, true)],
 (.seq
 (.ops [⟨some 1, none, .box 29 34 (.tmp 0)⟩,
 ⟨some 2, none, .alloc 40 [.bool false, .bool false, .bool false, .int .u64 (0), .bool false, .bool false, .int .u64 (0), .int .u32 (0), .int .i64 (0), .bool false, .int .u16 (0)]⟩])
 (.seq
 (.ops [⟨some 4, none, .faddr 1 (.tmp 1)⟩,
 ⟨some 5, none, .load1 (.tmp 4)⟩,
 ⟨some 6, none, .bin .rem (.tmp 5) (.const (.int .u8 (3)))⟩,
 ⟨some 7, none, .bin .neq (.tmp 6) (.const (.int .u8 (1)))⟩,
 ⟨some 8, none, .faddr 1 (.tmp 1)⟩,
 ⟨some 9, none, .load1 (.tmp 8)⟩,
 ⟨some 10, none, .bin .rem (.tmp 9) (.const (.int .u8 (3)))⟩,
 ⟨some 11, none, .bin .neq (.tmp 10) (.const (.int .u8 (0)))⟩,
 ⟨some 12, none, .build [.bool false, .bool false, .bool false, .int .u64 (0), .bool false, .bool false, .int .u64 (0), .int .u32 (0), .int .i64 (0), .bool false, .int .u16 (0)] [(1, 1, (.tmp 7)), (4, 1, (.tmp 11))]⟩,
 ⟨some 3, none, .alloc 40 [.bool false, .bool false, .bool false, .int .u64 (0), .bool false, .bool false, .int .u64 (0), .int .u32 (0), .int .i64 (0), .bool false, .int .u16 (0)]⟩,
 ⟨none, none, .store 11 (.tmp 3) (.tmp 12)⟩])
 (.seq
 (.seq
 (.ops [⟨some 13, none, .faddr 1 (.tmp 3)⟩,
 ⟨some 14, none, .load1 (.tmp 13)⟩])
 (.cond (.tmp 14)
 (.seq
 (.ops [⟨some 15, none, .faddr 3 (.tmp 1)⟩,
 ⟨some 16, none, .iaddrA 3 1 (.tmp 15) (.const (.int .i64 (0)))⟩,
 ⟨some 17, none, .load1 (.tmp 16)⟩,
 ⟨some 18, none, .faddr 2 (.tmp 3)⟩,
 ⟨none, none, .store 1 (.tmp 18) (.tmp 17)⟩])
 (.seq
 (.ops [⟨some 19, none, .faddr 6 (.tmp 1)⟩,
 ⟨some 20, none, .load1 (.tmp 19)⟩,
 ⟨some 21, none, .faddr 3 (.tmp 3)⟩,
 ⟨none, none, .store 1 (.tmp 21) (.tmp 20)⟩])
 (.seq
 (.ops [⟨some 22, none, .faddr 2 (.tmp 3)⟩,
 ⟨some 23, none, .load1 (.tmp 22)⟩,
 ⟨some 24, none, .un .not (.tmp 23)⟩])
 (.cond (.tmp 24)
 (.ops [⟨some 25, none, .faddr 6 (.tmp 1)⟩,
 ⟨some 26, none, .load1 (.tmp 25)⟩,
 ⟨some 27, none, .bin .rem (.tmp 26) (.const (.int .u64 (4294967296)))⟩,
 ⟨some 28, none, .faddr 3 (.tmp 3)⟩,
 ⟨none, none, .store 1 (.tmp 28) (.tmp 27)⟩])
 .skip))))
 .skip))
 c32t)))⟩
theorem t32 : T 32 = some c32 := by kernel_rfl

def c33t : ACode :=
 (.seq
 (.seq
 (.ops [⟨some 24, none, .faddr 3 (.tmp 3)⟩,
 ⟨some 25, none, .load1 (.tmp 24)⟩])
 (.cond (.tmp 25)
 (.ops [⟨some 26, none, .faddr 8 (.tmp 1)⟩,
 ⟨some 27, none, .load1 (.tmp 26)⟩,
 ⟨some 28, none, .cvInt .i64 (.tmp 27)⟩,
 ⟨some 29, none, .faddr 4 (.tmp 3)⟩,
 ⟨none, none, .store 1 (.tmp 29) (.tmp 28)⟩])
 .skip))
 (.seq
 (.seq
 (.ops [⟨some 30, none, .faddr 0 (.tmp 3)⟩,
 ⟨some 31, none, .load1 (.tmp 30)⟩,
 ⟨some 32, none, .un .not (.tmp 31)⟩])
 (.cond (.tmp 32)
 (.ops [⟨some 33, none, .faddr 10 (.tmp 1)⟩,
 ⟨some 34, none, .sliceA 24 1 (.tmp 33) (some (.const (.int .i64 (16)))) none none⟩,
 ⟨some 35, none, .cvB2S (.tmp 34)⟩,
 ⟨some 36, none, .faddr 5 (.tmp 3)⟩,
 ⟨none, none, .store 1 (.tmp 36) (.tmp 35)⟩])
 .skip))
 (.seq
 (.ops [⟨some 37, none, .loadN 6 (.tmp 3)⟩,
 ⟨none, none, .store 6 (.tmp 2) (.tmp 37)⟩])
 .ret)))

/-- (plait/plaitref14.Draft).add -/
def c33 : AFunc := ⟨38, 1, [.inr (2, 6, true)],
 (.seq
 (.ops [⟨some 1, none, .box 29 34 (.tmp 0)⟩,
 ⟨some 2, none, .alloc 42 [.bool false, .int .i64 (0), .string ⟨⟨[]⟩⟩, .bool false, .int .i64 (0), .string ⟨⟨[]⟩⟩]⟩])
 (.seq
 (.opsD [⟨some 4, none, .faddr 3 (.tmp 1)⟩,
 ⟨some 5, none, .iaddrA 3 1 (.tmp 4) (.const (.int .i64 (0)))⟩,
 ⟨some 6, none, .load1 (.tmp 5)⟩,
 ⟨some 7, none, .faddr 2 (.tmp 1)⟩,
 ⟨some 8, none, .load1 (.tmp 7)⟩,
 ⟨some 9, none, .cvInt .i64 (.tmp 8)⟩,
 ⟨some 10, none, .faddr 10 (.tmp 1)⟩,
 ⟨some 11, none, .sliceA 24 1 (.tmp 10) none (some (.const (.int .i64 (4)))) none⟩,
 ⟨some 12, none, .cvB2S (.tmp 11)⟩,
 ⟨some 13, none, .faddr 3 (.tmp 1)⟩,
 ⟨some 14, none, .iaddrA 3 1 (.tmp 13) (.const (.int .i64 (2)))⟩,
 ⟨some 15, none, .load1 (.tmp 14)⟩,
 ⟨some 16, none, .build [.bool false, .int .i64 (0), .string ⟨⟨[]⟩⟩, .bool false, .int .i64 (0), .string ⟨⟨[]⟩⟩] [(0, 1, (.tmp 6)), (1, 1, (.tmp 9)), (2, 1, (.tmp 12)), (3, 1, (.tmp 15))]⟩,
 ⟨some 3, none, .alloc 42 [.bool false, .int .i64 (0), .string ⟨⟨[]⟩⟩, .bool false, .int .i64 (0), .string ⟨⟨[]⟩⟩]⟩,
 ⟨none, none, .store 6 (.tmp 3) (.tmp 16)⟩] [])
 (.seq
 (.seq
 (.ops [⟨some 17, none, .faddr 3 (.tmp 1)⟩,
 ⟨some 18, none, .iaddrA 3 1 (.tmp 17) (.const (.int .i64 (1)))⟩,
 ⟨some 19, none, .load1 (.tmp 18)⟩])
 (.cond (.tmp 19)
 (.ops [⟨some 20, none, .faddr 10 (.tmp 1)⟩,
 ⟨some 21, none, .sliceA 24 1 (.tmp 20) none (some (.const (.int .i64 (16)))) none⟩,
 ⟨some 22, none, .cvB2S (.tmp 21)⟩,
 ⟨some 23, none, .faddr 2 (.tmp 3)⟩,
 ⟨none, none, .store 1 (.tmp 23) (.tmp 22)⟩])
 .skip))
 c33t)))⟩
theorem t33 : T 33 = some c33 := by kernel_rfl

end Go.Proofs.YtigknpfjhegkgaaGreatDoor

