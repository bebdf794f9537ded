/- The code of functions, as the framework reads it. -/
import Derived.Test.YtigknpfjhegkgaaGreatZo
import Derived.KernelRfl
namespace Go.Proofs.YtigknpfjhegkgaaGreat
open Go Go.AS
set_option maxRecDepth 100000

/-- plait/opt.Lay -/
def c17 : AFunc := ⟨32, 1, [.inl 2, .inl 3],
 (.seq
 (.ops [⟨some 2, none, .mov (.const (.string ⟨⟨[]⟩⟩))⟩,
 ⟨some 3, none, .mov (.const (.int .i64 (0)))⟩])
 (.seq
 (.ops [⟨some 4, none, .mov (.const (.slice none 0 0))⟩])
 (.seq
 (.seq
 (.ops [⟨some 9, none, .mov (.tmp 0)⟩,
 ⟨some 10, none, .lenV (.tmp 9)⟩,
 ⟨some 11, none, .mov (.const (.int .i64 (0)))⟩])
 (.block 0
 (.loop
 (.seq
 (.ops [⟨some 12, none, .bin .lss (.tmp 11) (.tmp 10)⟩])
 (.seq
 (.cond (.tmp 12)
 .skip
 (.exit 0))
 (.seq
 (.block 1
 (.seq
 (.ops [⟨some 13, none, .iaddrS 38 (.tmp 9) (.tmp 11)⟩,
 ⟨some 14, none, .loadN 38 (.tmp 13)⟩,
 ⟨some 6, none, .alloc 46 opZ⟩,
 ⟨none, none, .store 38 (.tmp 6) (.tmp 14)⟩])
 (.seq
 (.ops [⟨some 16, none, .loadN 38 (.tmp 6)⟩,
 ⟨some 17, none, .call 19 [(.tmp 16)]⟩,
 ⟨some 15, none, .mov (.tmp 17)⟩,
 ⟨some 18, none, .ext (.tmp 15) 0⟩,
 ⟨some 19, none, .ext (.tmp 15) 1⟩,
 ⟨some 7, none, .alloc 62 [.int .i64 (0), .string ⟨⟨[]⟩⟩]⟩,
 ⟨none, none, .store 2 (.tmp 7) (.tmp 18)⟩,
 ⟨some 8, none, .mov (.tmp 19)⟩])
 (.seq
 (.seq
 (.ops [⟨some 20, none, .mov (.tmp 8)⟩,
 ⟨some 21, none, .bin .neq (.tmp 20) (.const (.int .i64 (0)))⟩])
 (.cond (.tmp 21)
 (.seq
 (.ops [⟨some 22, none, .mov (.tmp 8)⟩,
 ⟨some 2, none, .mov (.const (.string ⟨⟨[]⟩⟩))⟩,
 ⟨some 3, none, .mov (.tmp 22)⟩])
 .ret)
 .skip))
 (.ops [⟨some 23, none, .mov (.tmp 4)⟩,
 ⟨some 24, none, .loadN 2 (.tmp 7)⟩,
 ⟨some 25, none, .bslice 62 1 [.int .i64 (0), .string ⟨⟨[]⟩⟩] [(0, 2, (.tmp 24))]⟩,
 ⟨some 26, none, .append 62 2 24 (.tmp 23) (.tmp 25)⟩,
 ⟨some 4, none, .mov (.tmp 26)⟩])))))
 (.ops [⟨some 27, none, .bin .add (.tmp 11) (.const (.int .i64 (1)))⟩,
 ⟨some 11, none, .mov (.tmp 27)⟩])))))))
 (.seq
 (.ops [⟨some 28, none, .mov (.tmp 4)⟩,
 ⟨some 29, none, .call 24 [(.tmp 28)]⟩,
 ⟨some 30, none, .ext (.tmp 29) 0⟩,
 ⟨some 31, none, .ext (.tmp 29) 1⟩,
 ⟨some 2, none, .mov (.tmp 30)⟩,
 ⟨some 3, none, .mov (.tmp 31)⟩])
 .ret))))⟩
theorem t17 : T 17 = some c17 := by kernel_rfl

/-- plait/area.Lay -/
def c24 : AFunc := ⟨54, 1, [.inl 2, .inl 3],
 (.seq
 (.ops [⟨some 2, none, .mov (.const (.string ⟨⟨[]⟩⟩))⟩,
 ⟨some 3, none, .mov (.const (.int .i64 (0)))⟩])
 (.seq
 (.ops [⟨some 4, none, .mov (.const (.slice none 0 0))⟩])
 (.seq
 (.seq
 (.ops [⟨some 7, none, .mov (.tmp 0)⟩,
 ⟨some 8, none, .lenV (.tmp 7)⟩,
 ⟨some 9, none, .mov (.const (.int .i64 (0)))⟩])
 (.block 0
 (.loop
 (.seq
 (.ops [⟨some 10, none, .bin .lss (.tmp 9) (.tmp 8)⟩])
 (.seq
 (.cond (.tmp 10)
 .skip
 (.exit 0))
 (.seq
 (.block 1
 (.seq
 (.ops [⟨some 11, none, .iaddrS 2 (.tmp 7) (.tmp 9)⟩,
 ⟨some 12, none, .loadN 2 (.tmp 11)⟩,
 ⟨some 6, none, .alloc 62 [.int .i64 (0), .string ⟨⟨[]⟩⟩]⟩,
 ⟨none, none, .store 2 (.tmp 6) (.tmp 12)⟩])
 (.seq
 (.seq
 (.ops [⟨some 13, none, .faddr 0 (.tmp 6)⟩,
 ⟨some 14, none, .load1 (.tmp 13)⟩,
 ⟨some 15, none, .bin .leq (.tmp 14) (.const (.int .i64 (1)))⟩,
 ⟨some 16, none, .mov (.tmp 15)⟩,
 ⟨some 17, some (16, false), .faddr 0 (.tmp 6)⟩,
 ⟨some 18, some (16, false), .load1 (.tmp 17)⟩,
 ⟨some 19, some (16, false), .bin .gtr (.tmp 18) (.const (.int .i64 (255)))⟩,
 ⟨some 20, none, .pick (.tmp 16) (.const (.bool true)) (.tmp 19)⟩,
 ⟨some 21, none, .mov (.tmp 20)⟩,
 ⟨some 22, some (21, false), .faddr 1 (.tmp 6)⟩,
 ⟨some 23, some (21, false), .load1 (.tmp 22)⟩,
 ⟨some 24, some (21, false), .lenS (.tmp 23)⟩,
 ⟨some 25, some (21, false), .bin .gtr (.tmp 24) (.const (.int .i64 (253)))⟩,
 ⟨some 26, none, .pick (.tmp 21) (.const (.bool true)) (.tmp 25)⟩])
 (.cond (.tmp 26)
 (.seq
 (.ops [⟨some 2, none, .mov (.const (.string ⟨⟨[]⟩⟩))⟩,
 ⟨some 3, none, .mov (.const (.int .i64 (2)))⟩])
 .ret)
 .skip))
 (.opsD [⟨some 27, none, .mov (.tmp 4)⟩,
 ⟨some 28, none, .faddr 0 (.tmp 6)⟩,
 ⟨some 29, none, .load1 (.tmp 28)⟩,
 ⟨some 30, none, .cvInt .u8 (.tmp 29)⟩,
 ⟨some 31, none, .faddr 1 (.tmp 6)⟩,
 ⟨some 32, none, .load1 (.tmp 31)⟩,
 ⟨some 33, none, .lenS (.tmp 32)⟩,
 ⟨some 34, none, .bin .add (.const (.int .i64 (2))) (.tmp 33)⟩,
 ⟨some 35, none, .cvInt .u8 (.tmp 34)⟩,
 ⟨some 36, none, .bslice 5 2 [.int .u8 (0)] [(0, 1, (.tmp 30)), (1, 1, (.tmp 35))]⟩,
 ⟨some 37, none, .append 5 1 1 (.tmp 27) (.tmp 36)⟩,
 ⟨some 38, none, .faddr 1 (.tmp 6)⟩,
 ⟨some 39, none, .load1 (.tmp 38)⟩,
 ⟨some 40, none, .append 5 1 1 (.tmp 37) (.tmp 39)⟩,
 ⟨some 4, none, .mov (.tmp 40)⟩] [(12, 10), (12, 11)]))))
 (.ops [⟨some 41, none, .bin .add (.tmp 9) (.const (.int .i64 (1)))⟩,
 ⟨some 9, none, .mov (.tmp 41)⟩])))))))
 (.seq
 (.seq
 (.ops [⟨some 42, none, .mov (.tmp 4)⟩,
 ⟨some 43, none, .lenV (.tmp 42)⟩,
 ⟨some 44, none, .bin .gtr (.tmp 43) (.const (.int .i64 (40)))⟩])
 (.cond (.tmp 44)
 (.seq
 (.ops [⟨some 2, none, .mov (.const (.string ⟨⟨[]⟩⟩))⟩,
 ⟨some 3, none, .mov (.const (.int .i64 (6)))⟩])
 .ret)
 .skip))
 (.seq
 (.block 2
 (.loop
 (.seq
 (.seq
 (.ops [⟨some 45, none, .mov (.tmp 4)⟩,
 ⟨some 46, none, .lenV (.tmp 45)⟩,
 ⟨some 47, none, .bin .rem (.tmp 46) (.const (.int .i64 (4)))⟩,
 ⟨some 48, none, .bin .neq (.tmp 47) (.const (.int .i64 (0)))⟩])
 (.cond (.tmp 48)
 .skip
 (.exit 2)))
 (.block 3
 (.ops [⟨some 49, none, .mov (.tmp 4)⟩,
 ⟨some 50, none, .bslice 5 1 [.int .u8 (0)] [(0, 1, (.const (.int .u8 (0))))]⟩,
 ⟨some 51, none, .append 5 1 1 (.tmp 49) (.tmp 50)⟩,
 ⟨some 4, none, .mov (.tmp 51)⟩])))))
 (.seq
 (.ops [⟨some 52, none, .mov (.tmp 4)⟩,
 ⟨some 53, none, .cvB2S (.tmp 52)⟩,
 ⟨some 2, none, .mov (.tmp 53)⟩,
 ⟨some 3, none, .mov (.const (.int .i64 (0)))⟩])
 .ret))))))⟩
theorem t24 : T 24 = some c24 := by kernel_rfl

end Go.Proofs.YtigknpfjhegkgaaGreat

