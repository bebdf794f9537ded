/- The code of functions, as the framework reads it. -/
import Derived.Test.YtigknpfjhegkgaaGreatZo
import Derived.KernelRfl
namespace Go.Proofs.YtigknpfjhegkgaaGreat
open Go Go.AS
set_option maxRecDepth 100000

def c33t : ACode :=
 (.seq
 (.ops [⟨some 17, none, .faddr 1 (.tmp 1)⟩,
 ⟨some 18, none, .load1 (.tmp 17)⟩,
 ⟨some 19, none, .bin .or (.const (.int .i64 (0))) (.tmp 18)⟩,
 ⟨some 20, none, .cvInt .u8 (.tmp 19)⟩,
 ⟨some 21, none, .call 79 [(.const (.string ⟨⟨[]⟩⟩)), (.tmp 20)]⟩,
 ⟨some 22, none, .mov (.tmp 4)⟩,
 ⟨some 23, none, .cvInt .u8 (.tmp 22)⟩,
 ⟨some 24, none, .call 79 [(.tmp 21), (.tmp 23)]⟩,
 ⟨some 5, none, .mov (.tmp 24)⟩])
 (.seq
 (.seq
 (.ops [⟨some 25, none, .faddr 0 (.tmp 1)⟩,
 ⟨some 26, none, .load1 (.tmp 25)⟩,
 ⟨some 27, none, .bin .geq (.tmp 26) (.const (.int .i64 (1)))⟩])
 (.cond (.tmp 27)
 (.ops [⟨some 28, none, .mov (.tmp 5)⟩,
 ⟨some 29, none, .faddr 4 (.tmp 1)⟩,
 ⟨some 30, none, .load1 (.tmp 29)⟩,
 ⟨some 31, none, .call 80 [(.tmp 28), (.tmp 30)]⟩,
 ⟨some 5, none, .mov (.tmp 31)⟩])
 .skip))
 (.seq
 (.seq
 (.ops [⟨some 32, none, .faddr 0 (.tmp 1)⟩,
 ⟨some 33, none, .load1 (.tmp 32)⟩,
 ⟨some 34, none, .bin .geq (.tmp 33) (.const (.int .i64 (2)))⟩])
 (.cond (.tmp 34)
 (.ops [⟨some 35, none, .mov (.tmp 5)⟩,
 ⟨some 36, none, .faddr 5 (.tmp 1)⟩,
 ⟨some 37, none, .load1 (.tmp 36)⟩,
 ⟨some 38, none, .call 80 [(.tmp 35), (.tmp 37)]⟩,
 ⟨some 5, none, .mov (.tmp 38)⟩])
 .skip))
 (.seq
 (.seq
 (.ops [⟨some 39, none, .faddr 0 (.tmp 1)⟩,
 ⟨some 40, none, .load1 (.tmp 39)⟩,
 ⟨some 41, none, .bin .geq (.tmp 40) (.const (.int .i64 (3)))⟩])
 (.cond (.tmp 41)
 (.ops [⟨some 42, none, .mov (.tmp 5)⟩,
 ⟨some 43, none, .faddr 6 (.tmp 1)⟩,
 ⟨some 44, none, .load1 (.tmp 43)⟩,
 ⟨some 45, none, .cvInt .u16 (.tmp 44)⟩,
 ⟨some 46, none, .call 81 [(.tmp 42), (.tmp 45)]⟩,
 ⟨some 5, none, .mov (.tmp 46)⟩])
 .skip))
 (.seq
 (.seq
 (.ops [⟨some 47, none, .faddr 0 (.tmp 1)⟩,
 ⟨some 48, none, .load1 (.tmp 47)⟩,
 ⟨some 49, none, .bin .eql (.tmp 48) (.const (.int .i64 (4)))⟩])
 (.cond (.tmp 49)
 (.ops [⟨some 50, none, .mov (.tmp 5)⟩,
 ⟨some 51, none, .faddr 7 (.tmp 1)⟩,
 ⟨some 52, none, .load1 (.tmp 51)⟩,
 ⟨some 53, none, .call 81 [(.tmp 50), (.tmp 52)]⟩,
 ⟨some 5, none, .mov (.tmp 53)⟩])
 .skip))
 (.seq
 (.ops [⟨some 54, none, .mov (.tmp 5)⟩,
 ⟨some 2, none, .mov (.tmp 54)⟩,
 ⟨some 3, none, .mov (.const (.int .i64 (0)))⟩])
 .ret))))))

/-- plait/capable.Encode -/
def c33 : AFunc := ⟨55, 1, [.inl 2, .inl 3],
 (.seq
 (.ops [⟨some 1, none, .box 27 8 (.tmp 0)⟩,
 ⟨some 2, none, .mov (.const (.string ⟨⟨[]⟩⟩))⟩,
 ⟨some 3, none, .mov (.const (.int .i64 (0)))⟩])
 (.seq
 (.seq
 (.ops [⟨some 6, none, .loadN 8 (.tmp 1)⟩,
 ⟨some 7, none, .call 78 [(.tmp 6)]⟩,
 ⟨some 8, none, .un .not (.tmp 7)⟩])
 (.cond (.tmp 8)
 (.seq
 (.ops [⟨some 2, none, .mov (.const (.string ⟨⟨[]⟩⟩))⟩,
 ⟨some 3, none, .mov (.const (.int .i64 (2)))⟩])
 .ret)
 .skip))
 (.seq
 (.ops [⟨some 4, none, .mov (.const (.int .i64 (1)))⟩])
 (.seq
 (.seq
 (.ops [⟨some 9, none, .faddr 2 (.tmp 1)⟩,
 ⟨some 10, none, .load1 (.tmp 9)⟩])
 (.cond (.tmp 10)
 (.ops [⟨some 11, none, .mov (.tmp 4)⟩,
 ⟨some 12, none, .bin .or (.tmp 11) (.const (.int .i64 (128)))⟩,
 ⟨some 4, none, .mov (.tmp 12)⟩])
 .skip))
 (.seq
 (.seq
 (.ops [⟨some 13, none, .faddr 3 (.tmp 1)⟩,
 ⟨some 14, none, .load1 (.tmp 13)⟩])
 (.cond (.tmp 14)
 (.ops [⟨some 15, none, .mov (.tmp 4)⟩,
 ⟨some 16, none, .bin .or (.tmp 15) (.const (.int .i64 (32)))⟩,
 ⟨some 4, none, .mov (.tmp 16)⟩])
 .skip))
 c33t)))))⟩
theorem t33 : T 33 = some c33 := by kernel_rfl

def c37t : ACode :=
 (.seq
 (.seq
 (.ops [⟨some 43, none, .loadN 6 (.tmp 7)⟩,
 ⟨some 44, none, .faddr 0 (.tmp 1)⟩,
 ⟨some 45, none, .load1 (.tmp 44)⟩,
 ⟨some 46, none, .build [.int .i64 (0), .bool false, .int .i64 (0), .int .u32 (0), .int .u32 (0), .string ⟨⟨[]⟩⟩] [(0, 1, (.tmp 45))]⟩,
 ⟨some 47, none, .eqF true [(0, .i), (1, .b), (2, .i), (3, .i), (4, .i), (5, .s)] (.tmp 43) (.tmp 46)⟩,
 ⟨some 48, none, .mov (.tmp 47)⟩,
 ⟨some 49, some (48, false), .mov (.tmp 8)⟩,
 ⟨some 50, some (48, false), .lenS (.tmp 49)⟩,
 ⟨some 51, some (48, false), .faddr 0 (.tmp 1)⟩,
 ⟨some 52, some (48, false), .load1 (.tmp 51)⟩,
 ⟨some 53, some (48, false), .call 89 [(.tmp 52)]⟩,
 ⟨some 54, some (48, false), .bin .neq (.tmp 50) (.tmp 53)⟩,
 ⟨some 55, none, .pick (.tmp 48) (.const (.bool true)) (.tmp 54)⟩])
 (.cond (.tmp 55)
 (.seq
 (.ops [⟨some 2, none, .mov (.const (.string ⟨⟨[]⟩⟩))⟩,
 ⟨some 3, none, .mov (.const (.int .i64 (2)))⟩])
 .ret)
 .skip))
 (.seq
 (.ops [⟨some 56, none, .mov (.tmp 8)⟩,
 ⟨some 2, none, .mov (.tmp 56)⟩,
 ⟨some 3, none, .mov (.const (.int .i64 (0)))⟩])
 .ret))

def c37s : ACode :=
 (.seq
 (.opsD [⟨some 27, none, .mov (.tmp 4)⟩,
 ⟨some 28, none, .call 79 [(.const (.string ⟨⟨[]⟩⟩)), (.tmp 27)]⟩,
 ⟨some 29, none, .faddr 2 (.tmp 1)⟩,
 ⟨some 30, none, .load1 (.tmp 29)⟩,
 ⟨some 31, none, .cvInt .u8 (.tmp 30)⟩,
 ⟨some 32, none, .call 79 [(.tmp 28), (.tmp 31)]⟩,
 ⟨some 5, none, .alloc 9 [.string ⟨⟨[]⟩⟩]⟩,
 ⟨none, none, .store 1 (.tmp 5) (.tmp 32)⟩] [(3, 1), (3, 2)])
 (.seq
 (.ops [⟨some 33, none, .mkF 90 [] [(.tmp 5)]⟩,
 ⟨some 34, none, .mkF 92 [] [(.tmp 5)]⟩,
 ⟨some 35, none, .mkF 93 [] [(.tmp 5)]⟩,
 ⟨some 36, none, .build [.nilFunc, .nilFunc, .nilFunc] [(0, 1, (.tmp 33)), (1, 1, (.tmp 34)), (2, 1, (.tmp 35))]⟩,
 ⟨some 6, none, .alloc 133 [.nilFunc, .nilFunc, .nilFunc]⟩,
 ⟨none, none, .store 3 (.tmp 6) (.tmp 36)⟩])
 (.seq
 (.ops [⟨some 37, none, .loadN 6 (.tmp 1)⟩,
 ⟨some 7, none, .alloc 30 [.int .i64 (0), .bool false, .int .i64 (0), .int .u32 (0), .int .u32 (0), .string ⟨⟨[]⟩⟩]⟩,
 ⟨none, none, .store 6 (.tmp 7) (.tmp 37)⟩])
 (.seq
 (.ops [⟨some 38, none, .faddr 0 (.tmp 1)⟩,
 ⟨some 39, none, .load1 (.tmp 38)⟩,
 ⟨some 40, none, .iaddrA 3 1 (.tmp 6) (.tmp 39)⟩,
 ⟨some 41, none, .load1 (.tmp 40)⟩,
 ⟨some 42, none, .callv (.tmp 41) [(.tmp 7)]⟩,
 ⟨some 8, none, .mov (.tmp 42)⟩])
 c37t))))

/-- plait/join.Encode -/
def c37 : AFunc := ⟨57, 1, [.inl 2, .inl 3],
 (.seq
 (.ops [⟨some 1, none, .box 30 6 (.tmp 0)⟩,
 ⟨some 2, none, .mov (.const (.string ⟨⟨[]⟩⟩))⟩,
 ⟨some 3, none, .mov (.const (.int .i64 (0)))⟩])
 (.seq
 (.seq
 (.ops [⟨some 9, none, .faddr 0 (.tmp 1)⟩,
 ⟨some 10, none, .load1 (.tmp 9)⟩,
 ⟨some 11, none, .call 89 [(.tmp 10)]⟩,
 ⟨some 12, none, .bin .eql (.tmp 11) (.const (.int .i64 (0)))⟩,
 ⟨some 13, none, .mov (.tmp 12)⟩,
 ⟨some 14, some (13, false), .faddr 2 (.tmp 1)⟩,
 ⟨some 15, some (13, false), .load1 (.tmp 14)⟩,
 ⟨some 16, some (13, false), .bin .lss (.tmp 15) (.const (.int .i64 (0)))⟩,
 ⟨some 17, none, .pick (.tmp 13) (.const (.bool true)) (.tmp 16)⟩,
 ⟨some 18, none, .mov (.tmp 17)⟩,
 ⟨some 19, some (18, false), .faddr 2 (.tmp 1)⟩,
 ⟨some 20, some (18, false), .load1 (.tmp 19)⟩,
 ⟨some 21, some (18, false), .bin .gtr (.tmp 20) (.const (.int .i64 (255)))⟩,
 ⟨some 22, none, .pick (.tmp 18) (.const (.bool true)) (.tmp 21)⟩])
 (.cond (.tmp 22)
 (.seq
 (.ops [⟨some 2, none, .mov (.const (.string ⟨⟨[]⟩⟩))⟩,
 ⟨some 3, none, .mov (.const (.int .i64 (2)))⟩])
 .ret)
 .skip))
 (.seq
 (.ops [⟨some 4, none, .mov (.const (.int .u8 (16)))⟩])
 (.seq
 (.seq
 (.ops [⟨some 23, none, .faddr 1 (.tmp 1)⟩,
 ⟨some 24, none, .load1 (.tmp 23)⟩])
 (.cond (.tmp 24)
 (.ops [⟨some 25, none, .mov (.tmp 4)⟩,
 ⟨some 26, none, .bin .or (.tmp 25) (.const (.int .u8 (1)))⟩,
 ⟨some 4, none, .mov (.tmp 26)⟩])
 .skip))
 c37s))))⟩
theorem t37 : T 37 = some c37 := by kernel_rfl

def c41v : ACode :=
 (.seq
 (.seq
 (.ops [⟨some 58, none, .faddr 9 (.tmp 1)⟩,
 ⟨some 59, none, .load1 (.tmp 58)⟩])
 (.cond (.tmp 59)
 (.ops [⟨some 60, none, .mov (.tmp 6)⟩,
 ⟨some 61, none, .faddr 10 (.tmp 1)⟩,
 ⟨some 62, none, .load1 (.tmp 61)⟩,
 ⟨some 63, none, .call 81 [(.tmp 60), (.tmp 62)]⟩,
 ⟨some 6, none, .mov (.tmp 63)⟩])
 .skip))
 (.seq
 (.ops [⟨some 64, none, .mov (.tmp 6)⟩,
 ⟨some 2, none, .mov (.tmp 64)⟩,
 ⟨some 3, none, .mov (.const (.int .i64 (0)))⟩])
 .ret))

def c41u : ACode :=
 (.seq
 (.seq
 (.ops [⟨some 43, none, .faddr 4 (.tmp 1)⟩,
 ⟨some 44, none, .load1 (.tmp 43)⟩])
 (.cond (.tmp 44)
 (.opsD [⟨some 45, none, .mov (.tmp 6)⟩,
 ⟨some 46, none, .faddr 6 (.tmp 1)⟩,
 ⟨some 47, none, .load1 (.tmp 46)⟩,
 ⟨some 48, none, .faddr 5 (.tmp 1)⟩,
 ⟨some 49, none, .load1 (.tmp 48)⟩,
 ⟨some 50, none, .call 98 [(.tmp 45), (.tmp 47), (.tmp 49)]⟩,
 ⟨some 51, none, .faddr 7 (.tmp 1)⟩,
 ⟨some 52, none, .load1 (.tmp 51)⟩,
 ⟨some 53, none, .call 91 [(.tmp 50), (.tmp 52)]⟩,
 ⟨some 54, none, .faddr 8 (.tmp 1)⟩,
 ⟨some 55, none, .load1 (.tmp 54)⟩,
 ⟨some 56, none, .cvInt .u16 (.tmp 55)⟩,
 ⟨some 57, none, .call 81 [(.tmp 53), (.tmp 56)]⟩,
 ⟨some 6, none, .mov (.tmp 57)⟩] [(7, 5), (7, 6), (10, 5), (10, 6), (10, 8), (10, 9)])
 .skip))
 c41v)

def c41t : ACode :=
 (.seq
 (.opsD [⟨some 31, none, .call 79 [(.const (.string ⟨⟨[]⟩⟩)), (.const (.int .u8 (32)))]⟩,
 ⟨some 32, none, .load1 (.tmp 4)⟩,
 ⟨some 33, none, .cvInt .u8 (.tmp 32)⟩,
 ⟨some 34, none, .call 79 [(.tmp 31), (.tmp 33)]⟩,
 ⟨some 6, none, .mov (.tmp 34)⟩] [(1, 0), (1, 1)])
 (.seq
 (.seq
 (.ops [⟨some 35, none, .faddr 1 (.tmp 1)⟩,
 ⟨some 36, none, .load1 (.tmp 35)⟩])
 (.cond (.tmp 36)
 (.ops [⟨some 37, none, .mov (.tmp 6)⟩,
 ⟨some 38, none, .faddr 3 (.tmp 1)⟩,
 ⟨some 39, none, .load1 (.tmp 38)⟩,
 ⟨some 40, none, .faddr 2 (.tmp 1)⟩,
 ⟨some 41, none, .load1 (.tmp 40)⟩,
 ⟨some 42, none, .call 98 [(.tmp 37), (.tmp 39), (.tmp 41)]⟩,
 ⟨some 6, none, .mov (.tmp 42)⟩])
 .skip))
 c41u))

/-- plait/dss.Encode -/
def c41 : AFunc := ⟨65, 1, [.inl 2, .inl 3],
 (.seq
 (.ops [⟨some 1, none, .box 32 11 (.tmp 0)⟩,
 ⟨some 2, none, .mov (.const (.string ⟨⟨[]⟩⟩))⟩,
 ⟨some 3, none, .mov (.const (.int .i64 (0)))⟩])
 (.seq
 (.seq
 (.ops [⟨some 7, none, .loadN 11 (.tmp 1)⟩,
 ⟨some 8, none, .call 96 [(.tmp 7)]⟩,
 ⟨some 9, none, .un .not (.tmp 8)⟩])
 (.cond (.tmp 9)
 (.seq
 (.ops [⟨some 2, none, .mov (.const (.string ⟨⟨[]⟩⟩))⟩,
 ⟨some 3, none, .mov (.const (.int .i64 (2)))⟩])
 .ret)
 .skip))
 (.seq
 (.ops [⟨some 4, none, .alloc 3 [.int .i64 (0)]⟩,
 ⟨none, none, .store 1 (.tmp 4) (.const (.int .i64 (0)))⟩])
 (.seq
 (.ops [⟨some 10, none, .mkF 97 [] [(.tmp 4)]⟩,
 ⟨some 5, none, .mov (.tmp 10)⟩])
 (.seq
 (.ops [⟨some 11, none, .mov (.tmp 5)⟩,
 ⟨some 12, none, .faddr 1 (.tmp 1)⟩,
 ⟨some 13, none, .load1 (.tmp 12)⟩,
 ⟨some 14, none, .callv (.tmp 11) [(.tmp 13), (.const (.int .i64 (1)))]⟩])
 (.seq
 (.ops [⟨some 15, none, .mov (.tmp 5)⟩,
 ⟨some 16, none, .faddr 2 (.tmp 1)⟩,
 ⟨some 17, none, .load1 (.tmp 16)⟩,
 ⟨some 18, none, .callv (.tmp 15) [(.tmp 17), (.const (.int .i64 (2)))]⟩])
 (.seq
 (.ops [⟨some 19, none, .mov (.tmp 5)⟩,
 ⟨some 20, none, .faddr 4 (.tmp 1)⟩,
 ⟨some 21, none, .load1 (.tmp 20)⟩,
 ⟨some 22, none, .callv (.tmp 19) [(.tmp 21), (.const (.int .i64 (4)))]⟩])
 (.seq
 (.ops [⟨some 23, none, .mov (.tmp 5)⟩,
 ⟨some 24, none, .faddr 5 (.tmp 1)⟩,
 ⟨some 25, none, .load1 (.tmp 24)⟩,
 ⟨some 26, none, .callv (.tmp 23) [(.tmp 25), (.const (.int .i64 (8)))]⟩])
 (.seq
 (.ops [⟨some 27, none, .mov (.tmp 5)⟩,
 ⟨some 28, none, .faddr 0 (.tmp 1)⟩,
 ⟨some 29, none, .load1 (.tmp 28)⟩,
 ⟨some 30, none, .callv (.tmp 27) [(.tmp 29), (.const (.int .i64 (16)))]⟩])
 c41t)))))))))⟩
theorem t41 : T 41 = some c41 := by kernel_rfl

def c45t : ACode :=
 (.seq
 (.opsD [⟨some 19, none, .mov (.tmp 4)⟩,
 ⟨some 20, none, .call 79 [(.const (.string ⟨⟨[]⟩⟩)), (.tmp 19)]⟩,
 ⟨some 21, none, .faddr 1 (.tmp 1)⟩,
 ⟨some 22, none, .load1 (.tmp 21)⟩,
 ⟨some 23, none, .cvInt .u8 (.tmp 22)⟩,
 ⟨some 24, none, .call 79 [(.const (.string ⟨⟨[]⟩⟩)), (.tmp 23)]⟩,
 ⟨some 25, none, .faddr 2 (.tmp 1)⟩,
 ⟨some 26, none, .load1 (.tmp 25)⟩,
 ⟨some 27, none, .mov (.tmp 5)⟩,
 ⟨some 28, none, .faddr 5 (.tmp 1)⟩,
 ⟨some 29, none, .load1 (.tmp 28)⟩,
 ⟨some 30, none, .bslice 9 5 [.string ⟨⟨[]⟩⟩] [(0, 1, (.tmp 20)), (1, 1, (.tmp 24)), (2, 1, (.tmp 26)), (3, 1, (.tmp 27)), (4, 1, (.tmp 29))]⟩,
 ⟨some 31, none, .call 104 [(.tmp 30)]⟩,
 ⟨some 2, none, .mov (.tmp 31)⟩,
 ⟨some 3, none, .mov (.const (.int .i64 (0)))⟩] [(3, 1), (3, 2), (7, 1), (7, 2), (7, 5), (7, 6), (10, 1), (10, 2), (10, 5), (10, 6)])
 .ret)

/-- plait/addr.EncodeAdd -/
def c45 : AFunc := ⟨32, 1, [.inl 2, .inl 3],
 (.seq
 (.ops [⟨some 1, none, .box 34 6 (.tmp 0)⟩,
 ⟨some 2, none, .mov (.const (.string ⟨⟨[]⟩⟩))⟩,
 ⟨some 3, none, .mov (.const (.int .i64 (0)))⟩])
 (.seq
 (.seq
 (.ops [⟨some 6, none, .loadN 6 (.tmp 1)⟩,
 ⟨some 7, none, .call 103 [(.tmp 6)]⟩,
 ⟨some 8, none, .un .not (.tmp 7)⟩])
 (.cond (.tmp 8)
 (.seq
 (.ops [⟨some 2, none, .mov (.const (.string ⟨⟨[]⟩⟩))⟩,
 ⟨some 3, none, .mov (.const (.int .i64 (2)))⟩])
 .ret)
 .skip))
 (.seq
 (.ops [⟨some 4, none, .mov (.const (.int .u8 (48)))⟩,
 ⟨some 5, none, .mov (.const (.string ⟨⟨[]⟩⟩))⟩])
 (.seq
 (.seq
 (.ops [⟨some 9, none, .faddr 0 (.tmp 1)⟩,
 ⟨some 10, none, .load1 (.tmp 9)⟩])
 (.cond (.tmp 10)
 (.ops [⟨some 11, none, .mov (.tmp 4)⟩,
 ⟨some 12, none, .bin .or (.tmp 11) (.const (.int .u8 (1)))⟩,
 ⟨some 4, none, .mov (.tmp 12)⟩])
 .skip))
 (.seq
 (.seq
 (.ops [⟨some 13, none, .faddr 3 (.tmp 1)⟩,
 ⟨some 14, none, .load1 (.tmp 13)⟩])
 (.cond (.tmp 14)
 (.ops [⟨some 15, none, .faddr 4 (.tmp 1)⟩,
 ⟨some 16, none, .load1 (.tmp 15)⟩,
 ⟨some 17, none, .cvInt .u16 (.tmp 16)⟩,
 ⟨some 18, none, .call 81 [(.const (.string ⟨⟨[]⟩⟩)), (.tmp 17)]⟩,
 ⟨some 5, none, .mov (.tmp 18)⟩])
 .skip))
 c45t)))))⟩
theorem t45 : T 45 = some c45 := by kernel_rfl

/-- plait/addr.EncodeRemove -/
def c49 : AFunc := ⟨19, 1, [.inl 2, .inl 3],
 (.seq
 (.ops [⟨some 1, none, .box 36 1 (.tmp 0)⟩,
 ⟨some 2, none, .mov (.const (.string ⟨⟨[]⟩⟩))⟩,
 ⟨some 3, none, .mov (.const (.int .i64 (0)))⟩])
 (.seq
 (.seq
 (.ops [⟨some 5, none, .faddr 0 (.tmp 1)⟩,
 ⟨some 6, none, .load1 (.tmp 5)⟩,
 ⟨some 7, none, .lenS (.tmp 6)⟩,
 ⟨some 4, none, .mov (.tmp 7)⟩])
 (.seq
 (.ops [⟨some 8, none, .mov (.tmp 4)⟩,
 ⟨some 9, none, .bin .eql (.tmp 8) (.const (.int .i64 (0)))⟩,
 ⟨some 10, none, .mov (.tmp 9)⟩,
 ⟨some 11, some (10, false), .mov (.tmp 4)⟩,
 ⟨some 12, some (10, false), .bin .gtr (.tmp 11) (.const (.int .i64 (37)))⟩,
 ⟨some 13, none, .pick (.tmp 10) (.const (.bool true)) (.tmp 12)⟩])
 (.cond (.tmp 13)
 (.seq
 (.ops [⟨some 2, none, .mov (.const (.string ⟨⟨[]⟩⟩))⟩,
 ⟨some 3, none, .mov (.const (.int .i64 (2)))⟩])
 .ret)
 .skip)))
 (.seq
 (.opsD [⟨some 14, none, .call 79 [(.const (.string ⟨⟨[]⟩⟩)), (.const (.int .u8 (64)))]⟩,
 ⟨some 15, none, .faddr 0 (.tmp 1)⟩,
 ⟨some 16, none, .load1 (.tmp 15)⟩,
 ⟨some 17, none, .bslice 9 2 [.string ⟨⟨[]⟩⟩] [(0, 1, (.tmp 14)), (1, 1, (.tmp 16))]⟩,
 ⟨some 18, none, .call 104 [(.tmp 17)]⟩,
 ⟨some 2, none, .mov (.tmp 18)⟩,
 ⟨some 3, none, .mov (.const (.int .i64 (0)))⟩] [(2, 0), (2, 1)])
 .ret)))⟩
theorem t49 : T 49 = some c49 := by kernel_rfl

/-- plait/ctrl.EncodePrio -/
def c53 : AFunc := ⟨11, 1, [.inl 2, .inl 3],
 (.seq
 (.ops [⟨some 1, none, .box 38 1 (.tmp 0)⟩,
 ⟨some 2, none, .mov (.const (.string ⟨⟨[]⟩⟩))⟩,
 ⟨some 3, none, .mov (.const (.int .i64 (0)))⟩])
 (.seq
 (.ops [⟨some 4, none, .mov (.const (.int .u8 (80)))⟩])
 (.seq
 (.seq
 (.ops [⟨some 5, none, .faddr 0 (.tmp 1)⟩,
 ⟨some 6, none, .load1 (.tmp 5)⟩])
 (.cond (.tmp 6)
 (.ops [⟨some 7, none, .mov (.tmp 4)⟩,
 ⟨some 8, none, .bin .or (.tmp 7) (.const (.int .u8 (1)))⟩,
 ⟨some 4, none, .mov (.tmp 8)⟩])
 .skip))
 (.seq
 (.ops [⟨some 9, none, .mov (.tmp 4)⟩,
 ⟨some 10, none, .call 79 [(.const (.string ⟨⟨[]⟩⟩)), (.tmp 9)]⟩,
 ⟨some 2, none, .mov (.tmp 10)⟩,
 ⟨some 3, none, .mov (.const (.int .i64 (0)))⟩])
 .ret))))⟩
theorem t53 : T 53 = some c53 := by kernel_rfl

/-- plait/ctrl.EncodeFail -/
def c57 : AFunc := ⟨8, 1, [.inl 2, .inl 3],
 (.seq
 (.ops [⟨some 1, none, .box 40 1 (.tmp 0)⟩,
 ⟨some 2, none, .mov (.const (.string ⟨⟨[]⟩⟩))⟩,
 ⟨some 3, none, .mov (.const (.int .i64 (0)))⟩])
 (.seq
 (.opsD [⟨some 4, none, .call 110 [(.const (.int .i64 (6)))]⟩,
 ⟨some 5, none, .faddr 0 (.tmp 1)⟩,
 ⟨some 6, none, .load1 (.tmp 5)⟩,
 ⟨some 7, none, .call 80 [(.tmp 4), (.tmp 6)]⟩,
 ⟨some 2, none, .mov (.tmp 7)⟩,
 ⟨some 3, none, .mov (.const (.int .i64 (0)))⟩] [(2, 0), (2, 1)])
 .ret))⟩
theorem t57 : T 57 = some c57 := by kernel_rfl

/-- plait/ctrl.EncodeFast -/
def c61 : AFunc := ⟨8, 1, [.inl 2, .inl 3],
 (.seq
 (.ops [⟨some 1, none, .box 42 1 (.tmp 0)⟩,
 ⟨some 2, none, .mov (.const (.string ⟨⟨[]⟩⟩))⟩,
 ⟨some 3, none, .mov (.const (.int .i64 (0)))⟩])
 (.seq
 (.opsD [⟨some 4, none, .call 110 [(.const (.int .i64 (7)))]⟩,
 ⟨some 5, none, .faddr 0 (.tmp 1)⟩,
 ⟨some 6, none, .load1 (.tmp 5)⟩,
 ⟨some 7, none, .call 80 [(.tmp 4), (.tmp 6)]⟩,
 ⟨some 2, none, .mov (.tmp 7)⟩,
 ⟨some 3, none, .mov (.const (.int .i64 (0)))⟩] [(2, 0), (2, 1)])
 .ret))⟩
theorem t61 : T 61 = some c61 := by kernel_rfl

/-- plait/ctrl.EncodeRst -/
def c65 : AFunc := ⟨23, 1, [.inl 2, .inl 3],
 (.seq
 (.ops [⟨some 1, none, .box 44 2 (.tmp 0)⟩,
 ⟨some 2, none, .mov (.const (.string ⟨⟨[]⟩⟩))⟩,
 ⟨some 3, none, .mov (.const (.int .i64 (0)))⟩])
 (.seq
 (.seq
 (.ops [⟨some 4, none, .faddr 0 (.tmp 1)⟩,
 ⟨some 5, none, .load1 (.tmp 4)⟩,
 ⟨some 6, none, .bin .shr (.tmp 5) (.const (.int .u64 (4)))⟩,
 ⟨some 7, none, .bin .neq (.tmp 6) (.const (.int .i64 (0)))⟩,
 ⟨some 8, none, .mov (.tmp 7)⟩,
 ⟨some 9, some (8, false), .faddr 1 (.tmp 1)⟩,
 ⟨some 10, some (8, false), .load1 (.tmp 9)⟩,
 ⟨some 11, some (8, false), .bin .shr (.tmp 10) (.const (.int .u64 (8)))⟩,
 ⟨some 12, some (8, false), .bin .neq (.tmp 11) (.const (.int .i64 (0)))⟩,
 ⟨some 13, none, .pick (.tmp 8) (.const (.bool true)) (.tmp 12)⟩])
 (.cond (.tmp 13)
 (.seq
 (.ops [⟨some 2, none, .mov (.const (.string ⟨⟨[]⟩⟩))⟩,
 ⟨some 3, none, .mov (.const (.int .i64 (2)))⟩])
 .ret)
 .skip))
 (.seq
 (.ops [⟨some 14, none, .faddr 0 (.tmp 1)⟩,
 ⟨some 15, none, .load1 (.tmp 14)⟩,
 ⟨some 16, none, .bin .shl (.tmp 15) (.const (.int .u64 (8)))⟩,
 ⟨some 17, none, .bin .or (.const (.int .i64 (32768))) (.tmp 16)⟩,
 ⟨some 18, none, .faddr 1 (.tmp 1)⟩,
 ⟨some 19, none, .load1 (.tmp 18)⟩,
 ⟨some 20, none, .bin .or (.tmp 17) (.tmp 19)⟩,
 ⟨some 21, none, .cvInt .u16 (.tmp 20)⟩,
 ⟨some 22, none, .call 81 [(.const (.string ⟨⟨[]⟩⟩)), (.tmp 21)]⟩,
 ⟨some 2, none, .mov (.tmp 22)⟩,
 ⟨some 3, none, .mov (.const (.int .i64 (0)))⟩])
 .ret)))⟩
theorem t65 : T 65 = some c65 := by kernel_rfl

/-- plait/capable.may -/
def c78 : AFunc := ⟨35, 1, [.inl 2],
 (.seq
 (.ops [⟨some 1, none, .box 27 8 (.tmp 0)⟩,
 ⟨some 2, none, .mov (.const (.bool false))⟩])
 (.seq
 (.ops [⟨some 3, none, .faddr 0 (.tmp 1)⟩,
 ⟨some 4, none, .load1 (.tmp 3)⟩,
 ⟨some 5, none, .bin .geq (.tmp 4) (.const (.int .i64 (0)))⟩,
 ⟨some 6, none, .mov (.tmp 5)⟩,
 ⟨some 7, some (6, true), .faddr 0 (.tmp 1)⟩,
 ⟨some 8, some (6, true), .load1 (.tmp 7)⟩,
 ⟨some 9, some (6, true), .bin .lss (.tmp 8) (.const (.int .i64 (5)))⟩,
 ⟨some 10, none, .pick (.tmp 6) (.tmp 9) (.const (.bool false))⟩,
 ⟨some 11, none, .mov (.tmp 10)⟩,
 ⟨some 12, some (11, true), .faddr 1 (.tmp 1)⟩,
 ⟨some 13, some (11, true), .load1 (.tmp 12)⟩,
 ⟨some 14, some (11, true), .bin .geq (.tmp 13) (.const (.int .i64 (0)))⟩,
 ⟨some 15, none, .pick (.tmp 11) (.tmp 14) (.const (.bool false))⟩,
 ⟨some 16, none, .mov (.tmp 15)⟩,
 ⟨some 17, some (16, true), .faddr 1 (.tmp 1)⟩,
 ⟨some 18, some (16, true), .load1 (.tmp 17)⟩,
 ⟨some 19, some (16, true), .bin .lss (.tmp 18) (.const (.int .i64 (16)))⟩,
 ⟨some 20, none, .pick (.tmp 16) (.tmp 19) (.const (.bool false))⟩,
 ⟨some 21, none, .mov (.tmp 20)⟩,
 ⟨some 22, some (21, true), .faddr 6 (.tmp 1)⟩,
 ⟨some 23, some (21, true), .load1 (.tmp 22)⟩,
 ⟨some 24, some (21, true), .bin .geq (.tmp 23) (.const (.int .i64 (0)))⟩,
 ⟨some 25, none, .pick (.tmp 21) (.tmp 24) (.const (.bool false))⟩,
 ⟨some 26, none, .mov (.tmp 25)⟩,
 ⟨some 27, some (26, true), .faddr 6 (.tmp 1)⟩,
 ⟨some 28, some (26, true), .load1 (.tmp 27)⟩,
 ⟨some 29, some (26, true), .bin .lss (.tmp 28) (.const (.int .i64 (65536)))⟩,
 ⟨some 30, none, .pick (.tmp 26) (.tmp 29) (.const (.bool false))⟩,
 ⟨some 31, none, .mov (.tmp 30)⟩,
 ⟨some 32, some (31, true), .loadN 8 (.tmp 1)⟩,
 ⟨some 33, some (31, true), .call 128 [(.tmp 32)]⟩,
 ⟨some 34, none, .pick (.tmp 31) (.tmp 33) (.const (.bool false))⟩,
 ⟨some 2, none, .mov (.tmp 34)⟩])
 .ret))⟩
theorem t78 : T 78 = some c78 := by kernel_rfl

/-- plait/cursor.Put8 -/
def c79 : AFunc := ⟨8, 2, [.inl 4],
 (.seq
 (.ops [⟨some 4, none, .mov (.const (.string ⟨⟨[]⟩⟩))⟩])
 (.seq
 (.ops [⟨some 5, none, .mov (.tmp 0)⟩,
 ⟨some 6, none, .mov (.tmp 1)⟩,
 ⟨some 7, none, .call 129 [(.tmp 5), (.tmp 6), (.const (.int .i64 (1)))]⟩,
 ⟨some 4, none, .mov (.tmp 7)⟩])
 .ret))⟩
theorem t79 : T 79 = some c79 := by kernel_rfl

/-- plait/cursor.Put64 -/
def c80 : AFunc := ⟨8, 2, [.inl 4],
 (.seq
 (.ops [⟨some 4, none, .mov (.const (.string ⟨⟨[]⟩⟩))⟩])
 (.seq
 (.ops [⟨some 5, none, .mov (.tmp 0)⟩,
 ⟨some 6, none, .mov (.tmp 1)⟩,
 ⟨some 7, none, .call 130 [(.tmp 5), (.tmp 6), (.const (.int .i64 (8)))]⟩,
 ⟨some 4, none, .mov (.tmp 7)⟩])
 .ret))⟩
theorem t80 : T 80 = some c80 := by kernel_rfl

/-- plait/cursor.Put16 -/
def c81 : AFunc := ⟨8, 2, [.inl 4],
 (.seq
 (.ops [⟨some 4, none, .mov (.const (.string ⟨⟨[]⟩⟩))⟩])
 (.seq
 (.ops [⟨some 5, none, .mov (.tmp 0)⟩,
 ⟨some 6, none, .mov (.tmp 1)⟩,
 ⟨some 7, none, .call 131 [(.tmp 5), (.tmp 6), (.const (.int .i64 (2)))]⟩,
 ⟨some 4, none, .mov (.tmp 7)⟩])
 .ret))⟩
theorem t81 : T 81 = some c81 := by kernel_rfl

/-- plait/cursor.Read -/
def c83 : AFunc := ⟨6, 1, [.inl 2],
 (.seq
 (.ops [⟨some 2, none, .mov (.const (.pointer none))⟩])
 (.seq
 (.ops [⟨some 3, none, .mov (.tmp 0)⟩,
 ⟨some 4, none, .build [.string ⟨⟨[]⟩⟩, .int .i64 (0), .bool false] [(0, 1, (.tmp 3))]⟩,
 ⟨some 5, none, .box 171 3 (.tmp 4)⟩,
 ⟨some 2, none, .mov (.tmp 5)⟩])
 .ret))⟩
theorem t83 : T 83 = some c83 := by kernel_rfl

/-- (*plait/cursor.Cursor).U64 -/
def c85 : AFunc := ⟨5, 1, [.inl 2],
 (.seq
 (.ops [⟨some 2, none, .mov (.const (.int .u64 (0)))⟩])
 (.seq
 (.ops [⟨some 3, none, .mov (.tmp 0)⟩,
 ⟨some 4, none, .call 132 [(.tmp 3), (.const (.int .i64 (8)))]⟩,
 ⟨some 2, none, .mov (.tmp 4)⟩])
 .ret))⟩
theorem t85 : T 85 = some c85 := by kernel_rfl

/-- (*plait/cursor.Cursor).U16 -/
def c87 : AFunc := ⟨5, 1, [.inl 2],
 (.seq
 (.ops [⟨some 2, none, .mov (.const (.int .u16 (0)))⟩])
 (.seq
 (.ops [⟨some 3, none, .mov (.tmp 0)⟩,
 ⟨some 4, none, .call 133 [(.tmp 3), (.const (.int .i64 (2)))]⟩,
 ⟨some 2, none, .mov (.tmp 4)⟩])
 .ret))⟩
theorem t87 : T 87 = some c87 := by kernel_rfl

/-- (*plait/cursor.Cursor).U8 -/
def c88 : AFunc := ⟨5, 1, [.inl 2],
 (.seq
 (.ops [⟨some 2, none, .mov (.const (.int .u8 (0)))⟩])
 (.seq
 (.ops [⟨some 3, none, .mov (.tmp 0)⟩,
 ⟨some 4, none, .call 134 [(.tmp 3), (.const (.int .i64 (1)))]⟩,
 ⟨some 2, none, .mov (.tmp 4)⟩])
 .ret))⟩
theorem t88 : T 88 = some c88 := by kernel_rfl

/-- plait/join.Bytes -/
def c89 : AFunc := ⟨10, 1, [.inl 2],
 (.seq
 (.ops [⟨some 2, none, .mov (.const (.int .i64 (0)))⟩])
 (.seq
 (.seq
 (.ops [⟨some 3, none, .mov (.tmp 0)⟩])
 (.block 0
 (.seq
 (.ops [⟨some 5, none, .bin .eql (.tmp 3) (.const (.int .i64 (0)))⟩,
 ⟨some 4, none, .mov (.tmp 5)⟩])
 (.cond (.tmp 4)
 (.seq
 (.ops [⟨some 2, none, .mov (.const (.int .i64 (10)))⟩])
 .ret)
 (.seq
 (.ops [⟨some 7, none, .bin .eql (.tmp 3) (.const (.int .i64 (1)))⟩,
 ⟨some 6, none, .mov (.tmp 7)⟩])
 (.cond (.tmp 6)
 (.seq
 (.ops [⟨some 2, none, .mov (.const (.int .i64 (14)))⟩])
 .ret)
 (.seq
 (.ops [⟨some 9, none, .bin .eql (.tmp 3) (.const (.int .i64 (2)))⟩,
 ⟨some 8, none, .mov (.tmp 9)⟩])
 (.cond (.tmp 8)
 (.seq
 (.ops [⟨some 2, none, .mov (.const (.int .i64 (22)))⟩])
 .ret)
 .skip))))))))
 (.seq
 (.ops [⟨some 2, none, .mov (.const (.int .i64 (0)))⟩])
 .ret)))⟩
theorem t89 : T 89 = some c89 := by kernel_rfl

/-- plait/join.Encode$1 -/
def c90 : AFunc := ⟨29, 2, [.inl 3],
 (.seq
 (.ops [⟨some 3, none, .mov (.const (.string ⟨⟨[]⟩⟩))⟩])
 (.seq
 (.opsD [⟨some 5, none, .load1 (.tmp 1)⟩,
 ⟨some 6, none, .mov (.tmp 0)⟩,
 ⟨some 7, none, .nilchk (.tmp 6)⟩,
 ⟨some 8, none, .faddr 3 (.tmp 7)⟩,
 ⟨some 9, none, .load1 (.tmp 8)⟩,
 ⟨some 10, none, .call 91 [(.tmp 5), (.tmp 9)]⟩,
 ⟨some 11, none, .mov (.tmp 0)⟩,
 ⟨some 12, none, .nilchk (.tmp 11)⟩,
 ⟨some 13, none, .faddr 4 (.tmp 12)⟩,
 ⟨some 14, none, .load1 (.tmp 13)⟩,
 ⟨some 15, none, .call 91 [(.tmp 10), (.tmp 14)]⟩,
 ⟨some 4, none, .mov (.tmp 15)⟩] [(9, 5), (9, 6)])
 (.seq
 (.ops [⟨some 16, none, .mov (.tmp 0)⟩,
 ⟨some 17, none, .mov (.tmp 0)⟩,
 ⟨some 18, none, .mov (.tmp 0)⟩,
 ⟨some 19, none, .mov (.tmp 0)⟩,
 ⟨some 20, none, .nilchk (.tmp 16)⟩,
 ⟨some 21, none, .faddr 1 (.tmp 20)⟩,
 ⟨none, none, .store 1 (.tmp 21) (.const (.bool false))⟩,
 ⟨some 22, none, .nilchk (.tmp 17)⟩,
 ⟨some 23, none, .faddr 2 (.tmp 22)⟩,
 ⟨none, none, .store 1 (.tmp 23) (.const (.int .i64 (0)))⟩,
 ⟨some 24, none, .nilchk (.tmp 18)⟩,
 ⟨some 25, none, .faddr 3 (.tmp 24)⟩,
 ⟨none, none, .store 1 (.tmp 25) (.const (.int .u32 (0)))⟩,
 ⟨some 26, none, .nilchk (.tmp 19)⟩,
 ⟨some 27, none, .faddr 4 (.tmp 26)⟩,
 ⟨none, none, .store 1 (.tmp 27) (.const (.int .u32 (0)))⟩])
 (.seq
 (.ops [⟨some 28, none, .mov (.tmp 4)⟩,
 ⟨some 3, none, .mov (.tmp 28)⟩])
 .ret))))⟩
theorem t90 : T 90 = some c90 := by kernel_rfl

/-- plait/cursor.Put32 -/
def c91 : AFunc := ⟨8, 2, [.inl 4],
 (.seq
 (.ops [⟨some 4, none, .mov (.const (.string ⟨⟨[]⟩⟩))⟩])
 (.seq
 (.ops [⟨some 5, none, .mov (.tmp 0)⟩,
 ⟨some 6, none, .mov (.tmp 1)⟩,
 ⟨some 7, none, .call 135 [(.tmp 5), (.tmp 6), (.const (.int .i64 (4)))]⟩,
 ⟨some 4, none, .mov (.tmp 7)⟩])
 .ret))⟩
theorem t91 : T 91 = some c91 := by kernel_rfl

/-- plait/join.Encode$2 -/
def c92 : AFunc := ⟨29, 2, [.inl 3],
 (.seq
 (.ops [⟨some 3, none, .mov (.const (.string ⟨⟨[]⟩⟩))⟩])
 (.seq
 (.opsD [⟨some 5, none, .load1 (.tmp 1)⟩,
 ⟨some 6, none, .mov (.tmp 0)⟩,
 ⟨some 7, none, .nilchk (.tmp 6)⟩,
 ⟨some 8, none, .faddr 5 (.tmp 7)⟩,
 ⟨some 9, none, .load1 (.tmp 8)⟩,
 ⟨some 10, none, .bin .add (.tmp 5) (.tmp 9)⟩,
 ⟨some 11, none, .mov (.tmp 0)⟩,
 ⟨some 12, none, .nilchk (.tmp 11)⟩,
 ⟨some 13, none, .faddr 4 (.tmp 12)⟩,
 ⟨some 14, none, .load1 (.tmp 13)⟩,
 ⟨some 15, none, .call 91 [(.tmp 10), (.tmp 14)]⟩,
 ⟨some 4, none, .mov (.tmp 15)⟩] [])
 (.seq
 (.ops [⟨some 16, none, .mov (.tmp 0)⟩,
 ⟨some 17, none, .mov (.tmp 0)⟩,
 ⟨some 18, none, .mov (.tmp 0)⟩,
 ⟨some 19, none, .mov (.tmp 0)⟩,
 ⟨some 20, none, .nilchk (.tmp 16)⟩,
 ⟨some 21, none, .faddr 1 (.tmp 20)⟩,
 ⟨none, none, .store 1 (.tmp 21) (.const (.bool false))⟩,
 ⟨some 22, none, .nilchk (.tmp 17)⟩,
 ⟨some 23, none, .faddr 2 (.tmp 22)⟩,
 ⟨none, none, .store 1 (.tmp 23) (.const (.int .i64 (0)))⟩,
 ⟨some 24, none, .nilchk (.tmp 18)⟩,
 ⟨some 25, none, .faddr 5 (.tmp 24)⟩,
 ⟨none, none, .store 1 (.tmp 25) (.const (.string ⟨⟨[]⟩⟩))⟩,
 ⟨some 26, none, .nilchk (.tmp 19)⟩,
 ⟨some 27, none, .faddr 4 (.tmp 26)⟩,
 ⟨none, none, .store 1 (.tmp 27) (.const (.int .u32 (0)))⟩])
 (.seq
 (.ops [⟨some 28, none, .mov (.tmp 4)⟩,
 ⟨some 3, none, .mov (.tmp 28)⟩])
 .ret))))⟩
theorem t92 : T 92 = some c92 := by kernel_rfl

/-- plait/join.Encode$3 -/
def c93 : AFunc := ⟨15, 2, [.inl 3],
 (.seq
 (.ops [⟨some 3, none, .mov (.const (.string ⟨⟨[]⟩⟩))⟩])
 (.seq
 (.opsD [⟨some 5, none, .load1 (.tmp 1)⟩,
 ⟨some 6, none, .mov (.tmp 0)⟩,
 ⟨some 7, none, .nilchk (.tmp 6)⟩,
 ⟨some 8, none, .faddr 5 (.tmp 7)⟩,
 ⟨some 9, none, .load1 (.tmp 8)⟩,
 ⟨some 10, none, .bin .add (.tmp 5) (.tmp 9)⟩,
 ⟨some 4, none, .mov (.tmp 10)⟩] [])
 (.seq
 (.ops [⟨some 11, none, .mov (.tmp 0)⟩,
 ⟨some 12, none, .nilchk (.tmp 11)⟩,
 ⟨some 13, none, .faddr 5 (.tmp 12)⟩,
 ⟨none, none, .store 1 (.tmp 13) (.const (.string ⟨⟨[]⟩⟩))⟩])
 (.seq
 (.ops [⟨some 14, none, .mov (.tmp 4)⟩,
 ⟨some 3, none, .mov (.tmp 14)⟩])
 .ret))))⟩
theorem t93 : T 93 = some c93 := by kernel_rfl

/-- (*plait/cursor.Cursor).U32 -/
def c94 : AFunc := ⟨5, 1, [.inl 2],
 (.seq
 (.ops [⟨some 2, none, .mov (.const (.int .u32 (0)))⟩])
 (.seq
 (.ops [⟨some 3, none, .mov (.tmp 0)⟩,
 ⟨some 4, none, .call 136 [(.tmp 3), (.const (.int .i64 (4)))]⟩,
 ⟨some 2, none, .mov (.tmp 4)⟩])
 .ret))⟩
theorem t94 : T 94 = some c94 := by kernel_rfl

/-- (*plait/cursor.Cursor).Take -/
def c95 : AFunc := ⟨10, 2, [.inr (4, 1, false)],
 (.seq
 (.ops [⟨some 4, none, .alloc 9 [.string ⟨⟨[]⟩⟩]⟩])
 (.seq
 (.ops [⟨some 5, none, .mov (.tmp 0)⟩,
 ⟨some 6, none, .mov (.tmp 1)⟩,
 ⟨some 7, none, .mkF 138 [] [(.tmp 4)]⟩,
 ⟨some 8, none, .call 137 [(.tmp 5), (.tmp 6), (.tmp 7)]⟩])
 (.seq
 (.ops [⟨some 9, none, .load1 (.tmp 4)⟩,
 ⟨none, none, .store 1 (.tmp 4) (.tmp 9)⟩])
 .ret)))⟩
theorem t95 : T 95 = some c95 := by kernel_rfl

def c96w : ACode :=
 (.seq
 (.ops [⟨some 82, none, .faddr 8 (.tmp 1)⟩,
 ⟨some 83, none, .load1 (.tmp 82)⟩,
 ⟨some 84, none, .bin .geq (.tmp 83) (.const (.int .i64 (0)))⟩,
 ⟨some 85, none, .mov (.tmp 84)⟩,
 ⟨some 86, some (85, true), .faddr 8 (.tmp 1)⟩,
 ⟨some 87, some (85, true), .load1 (.tmp 86)⟩,
 ⟨some 88, some (85, true), .bin .lss (.tmp 87) (.const (.int .i64 (65536)))⟩,
 ⟨some 89, none, .pick (.tmp 85) (.tmp 88) (.const (.bool false))⟩,
 ⟨some 2, none, .mov (.tmp 89)⟩])
 .ret)

def c96v : ACode :=
 (.seq
 (.seq
 (.ops [⟨some 64, none, .faddr 2 (.tmp 1)⟩,
 ⟨some 65, none, .load1 (.tmp 64)⟩,
 ⟨some 66, none, .un .not (.tmp 65)⟩,
 ⟨some 67, none, .mov (.tmp 66)⟩,
 ⟨some 68, some (67, true), .faddr 3 (.tmp 1)⟩,
 ⟨some 69, some (67, true), .load1 (.tmp 68)⟩,
 ⟨some 70, some (67, true), .bin .shr (.tmp 69) (.const (.int .u64 (32)))⟩,
 ⟨some 71, some (67, true), .bin .neq (.tmp 70) (.const (.int .u64 (0)))⟩,
 ⟨some 72, none, .pick (.tmp 67) (.tmp 71) (.const (.bool false))⟩,
 ⟨some 63, none, .mov (.tmp 72)⟩])
 (.cond (.tmp 63)
 .skip
 (.ops [⟨some 73, none, .faddr 5 (.tmp 1)⟩,
 ⟨some 74, none, .load1 (.tmp 73)⟩,
 ⟨some 75, none, .un .not (.tmp 74)⟩,
 ⟨some 76, none, .mov (.tmp 75)⟩,
 ⟨some 77, some (76, true), .faddr 6 (.tmp 1)⟩,
 ⟨some 78, some (76, true), .load1 (.tmp 77)⟩,
 ⟨some 79, some (76, true), .bin .shr (.tmp 78) (.const (.int .u64 (32)))⟩,
 ⟨some 80, some (76, true), .bin .neq (.tmp 79) (.const (.int .u64 (0)))⟩,
 ⟨some 81, none, .pick (.tmp 76) (.tmp 80) (.const (.bool false))⟩,
 ⟨some 63, none, .mov (.tmp 81)⟩])))
 (.cond (.tmp 63)
 (.seq
 (.ops [⟨some 2, none, .mov (.const (.bool false))⟩])
 .ret)
 .skip))

def c96u : ACode :=
 (.seq
 (.ops [⟨some 33, none, .faddr 4 (.tmp 1)⟩,
 ⟨some 34, none, .load1 (.tmp 33)⟩,
 ⟨some 35, none, .un .not (.tmp 34)⟩,
 ⟨some 36, none, .mov (.tmp 35)⟩,
 ⟨some 37, some (36, true), .faddr 0 (.tmp 1)⟩,
 ⟨some 38, some (36, true), .load1 (.tmp 37)⟩,
 ⟨some 39, some (36, true), .mov (.tmp 38)⟩,
 ⟨some 40, some (39, false), .faddr 5 (.tmp 1)⟩,
 ⟨some 41, some (39, false), .load1 (.tmp 40)⟩,
 ⟨some 42, some (36, true), .pick (.tmp 39) (.const (.bool true)) (.tmp 41)⟩,
 ⟨some 43, some (36, true), .mov (.tmp 42)⟩,
 ⟨some 44, some (43, false), .faddr 6 (.tmp 1)⟩,
 ⟨some 45, some (43, false), .load1 (.tmp 44)⟩,
 ⟨some 46, some (43, false), .bin .neq (.tmp 45) (.const (.int .u64 (0)))⟩,
 ⟨some 47, some (36, true), .pick (.tmp 43) (.const (.bool true)) (.tmp 46)⟩,
 ⟨some 48, some (36, true), .mov (.tmp 47)⟩,
 ⟨some 49, some (48, false), .faddr 7 (.tmp 1)⟩,
 ⟨some 50, some (48, false), .load1 (.tmp 49)⟩,
 ⟨some 51, some (48, false), .bin .neq (.tmp 50) (.const (.int .u32 (0)))⟩,
 ⟨some 52, some (36, true), .pick (.tmp 48) (.const (.bool true)) (.tmp 51)⟩,
 ⟨some 53, some (36, true), .mov (.tmp 52)⟩,
 ⟨some 54, some (53, false), .faddr 8 (.tmp 1)⟩,
 ⟨some 55, some (53, false), .load1 (.tmp 54)⟩,
 ⟨some 56, some (53, false), .bin .neq (.tmp 55) (.const (.int .i64 (0)))⟩,
 ⟨some 57, some (36, true), .pick (.tmp 53) (.const (.bool true)) (.tmp 56)⟩,
 ⟨some 58, some (36, true), .mov (.tmp 57)⟩,
 ⟨some 59, some (58, false), .faddr 9 (.tmp 1)⟩,
 ⟨some 60, some (58, false), .load1 (.tmp 59)⟩,
 ⟨some 61, some (36, true), .pick (.tmp 58) (.const (.bool true)) (.tmp 60)⟩,
 ⟨some 62, none, .pick (.tmp 36) (.tmp 61) (.const (.bool false))⟩,
 ⟨some 32, none, .mov (.tmp 62)⟩])
 (.cond (.tmp 32)
 (.seq
 (.ops [⟨some 2, none, .mov (.const (.bool false))⟩])
 .ret)
 c96v))

/-- plait/dss.may -/
def c96 : AFunc := ⟨90, 1, [.inl 2],
 (.seq
 (.ops [⟨some 1, none, .box 32 11 (.tmp 0)⟩,
 ⟨some 2, none, .mov (.const (.bool false))⟩])
 (.seq
 (.block 0
 (.seq
 (.seq
 (.ops [⟨some 4, none, .faddr 1 (.tmp 1)⟩,
 ⟨some 5, none, .load1 (.tmp 4)⟩,
 ⟨some 6, none, .un .not (.tmp 5)⟩,
 ⟨some 7, none, .mov (.tmp 6)⟩,
 ⟨some 8, some (7, true), .faddr 4 (.tmp 1)⟩,
 ⟨some 9, some (7, true), .load1 (.tmp 8)⟩,
 ⟨some 10, some (7, true), .un .not (.tmp 9)⟩,
 ⟨some 11, none, .pick (.tmp 7) (.tmp 10) (.const (.bool false))⟩,
 ⟨some 3, none, .mov (.tmp 11)⟩])
 (.cond (.tmp 3)
 .skip
 (.seq
 (.ops [⟨some 12, none, .faddr 1 (.tmp 1)⟩,
 ⟨some 13, none, .load1 (.tmp 12)⟩,
 ⟨some 14, none, .un .not (.tmp 13)⟩,
 ⟨some 15, none, .mov (.tmp 14)⟩,
 ⟨some 16, some (15, true), .faddr 2 (.tmp 1)⟩,
 ⟨some 17, some (15, true), .load1 (.tmp 16)⟩,
 ⟨some 18, some (15, true), .mov (.tmp 17)⟩,
 ⟨some 19, some (18, false), .faddr 3 (.tmp 1)⟩,
 ⟨some 20, some (18, false), .load1 (.tmp 19)⟩,
 ⟨some 21, some (18, false), .bin .neq (.tmp 20) (.const (.int .u64 (0)))⟩,
 ⟨some 22, some (15, true), .pick (.tmp 18) (.const (.bool true)) (.tmp 21)⟩,
 ⟨some 23, none, .pick (.tmp 15) (.tmp 22) (.const (.bool false))⟩,
 ⟨some 3, none, .mov (.tmp 23)⟩])
 (.cond (.tmp 3)
 .skip
 (.ops [⟨some 24, none, .faddr 9 (.tmp 1)⟩,
 ⟨some 25, none, .load1 (.tmp 24)⟩,
 ⟨some 26, none, .un .not (.tmp 25)⟩,
 ⟨some 27, none, .mov (.tmp 26)⟩,
 ⟨some 28, some (27, true), .faddr 10 (.tmp 1)⟩,
 ⟨some 29, some (27, true), .load1 (.tmp 28)⟩,
 ⟨some 30, some (27, true), .bin .neq (.tmp 29) (.const (.int .u16 (0)))⟩,
 ⟨some 31, none, .pick (.tmp 27) (.tmp 30) (.const (.bool false))⟩,
 ⟨some 3, none, .mov (.tmp 31)⟩])))))
 (.cond (.tmp 3)
 (.seq
 (.ops [⟨some 2, none, .mov (.const (.bool false))⟩])
 .ret)
 c96u)))
 c96w))⟩
theorem t96 : T 96 = some c96 := by kernel_rfl

/-- plait/dss.Encode$1 -/
def c97 : AFunc := ⟨9, 3, [],
 (.seq
 (.ops [⟨some 5, none, .mov (.tmp 0)⟩])
 (.cond (.tmp 5)
 (.ops [⟨some 6, none, .load1 (.tmp 2)⟩,
 ⟨some 7, none, .mov (.tmp 1)⟩,
 ⟨some 8, none, .bin .or (.tmp 6) (.tmp 7)⟩,
 ⟨none, none, .store 1 (.tmp 2) (.tmp 8)⟩])
 .skip))⟩
theorem t97 : T 97 = some c97 := by kernel_rfl

/-- plait/dss.number -/
def c98 : AFunc := ⟨15, 3, [.inl 6],
 (.seq
 (.ops [⟨some 6, none, .mov (.const (.string ⟨⟨[]⟩⟩))⟩])
 (.seq
 (.seq
 (.ops [⟨some 7, none, .mov (.tmp 2)⟩])
 (.cond (.tmp 7)
 (.seq
 (.ops [⟨some 8, none, .mov (.tmp 0)⟩,
 ⟨some 9, none, .mov (.tmp 1)⟩,
 ⟨some 10, none, .call 80 [(.tmp 8), (.tmp 9)]⟩,
 ⟨some 6, none, .mov (.tmp 10)⟩])
 .ret)
 .skip))
 (.seq
 (.ops [⟨some 11, none, .mov (.tmp 0)⟩,
 ⟨some 12, none, .mov (.tmp 1)⟩,
 ⟨some 13, none, .cvInt .u32 (.tmp 12)⟩,
 ⟨some 14, none, .call 91 [(.tmp 11), (.tmp 13)]⟩,
 ⟨some 6, none, .mov (.tmp 14)⟩])
 .ret)))⟩
theorem t98 : T 98 = some c98 := by kernel_rfl

/-- (*plait/cursor.Cursor).End -/
def c100 : AFunc := ⟨22, 1, [.inl 2],
 (.seq
 (.ops [⟨some 2, none, .mov (.const (.int .i64 (0)))⟩])
 (.seq
 (.block 0
 (.seq
 (.ops [⟨some 4, none, .mov (.tmp 0)⟩,
 ⟨some 5, none, .eq false true .ptr (.tmp 4) (.const (.pointer none))⟩,
 ⟨some 3, none, .mov (.tmp 5)⟩])
 (.cond (.tmp 3)
 (.seq
 (.ops [⟨some 2, none, .mov (.const (.int .i64 (1)))⟩])
 .ret)
 (.seq
 (.ops [⟨some 7, none, .mov (.tmp 0)⟩,
 ⟨some 8, none, .nilchk (.tmp 7)⟩,
 ⟨some 9, none, .faddr 2 (.tmp 8)⟩,
 ⟨some 10, none, .load1 (.tmp 9)⟩,
 ⟨some 6, none, .mov (.tmp 10)⟩])
 (.cond (.tmp 6)
 (.seq
 (.ops [⟨some 2, none, .mov (.const (.int .i64 (4)))⟩])
 .ret)
 (.seq
 (.opsD [⟨some 12, none, .mov (.tmp 0)⟩,
 ⟨some 13, none, .nilchk (.tmp 12)⟩,
 ⟨some 14, none, .faddr 1 (.tmp 13)⟩,
 ⟨some 15, none, .load1 (.tmp 14)⟩,
 ⟨some 16, none, .mov (.tmp 0)⟩,
 ⟨some 17, none, .nilchk (.tmp 16)⟩,
 ⟨some 18, none, .faddr 0 (.tmp 17)⟩,
 ⟨some 19, none, .load1 (.tmp 18)⟩,
 ⟨some 20, none, .lenS (.tmp 19)⟩,
 ⟨some 21, none, .bin .lss (.tmp 15) (.tmp 20)⟩,
 ⟨some 11, none, .mov (.tmp 21)⟩] [])
 (.cond (.tmp 11)
 (.seq
 (.ops [⟨some 2, none, .mov (.const (.int .i64 (5)))⟩])
 .ret)
 .skip)))))))
 (.seq
 (.ops [⟨some 2, none, .mov (.const (.int .i64 (0)))⟩])
 .ret)))⟩
theorem t100 : T 100 = some c100 := by kernel_rfl

/-- (*plait/cursor.Cursor).Left -/
def c102 : AFunc := ⟨21, 1, [.inl 2],
 (.seq
 (.ops [⟨some 2, none, .mov (.const (.int .i64 (0)))⟩])
 (.seq
 (.seq
 (.ops [⟨some 3, none, .mov (.tmp 0)⟩,
 ⟨some 4, none, .eq false true .ptr (.tmp 3) (.const (.pointer none))⟩,
 ⟨some 5, none, .mov (.tmp 4)⟩,
 ⟨some 6, some (5, false), .mov (.tmp 0)⟩,
 ⟨some 7, some (5, false), .nilchk (.tmp 6)⟩,
 ⟨some 8, some (5, false), .faddr 2 (.tmp 7)⟩,
 ⟨some 9, some (5, false), .load1 (.tmp 8)⟩,
 ⟨some 10, none, .pick (.tmp 5) (.const (.bool true)) (.tmp 9)⟩])
 (.cond (.tmp 10)
 (.seq
 (.ops [⟨some 2, none, .mov (.const (.int .i64 (0)))⟩])
 .ret)
 .skip))
 (.seq
 (.opsD [⟨some 11, none, .mov (.tmp 0)⟩,
 ⟨some 12, none, .nilchk (.tmp 11)⟩,
 ⟨some 13, none, .faddr 0 (.tmp 12)⟩,
 ⟨some 14, none, .load1 (.tmp 13)⟩,
 ⟨some 15, none, .lenS (.tmp 14)⟩,
 ⟨some 16, none, .mov (.tmp 0)⟩,
 ⟨some 17, none, .nilchk (.tmp 16)⟩,
 ⟨some 18, none, .faddr 1 (.tmp 17)⟩,
 ⟨some 19, none, .load1 (.tmp 18)⟩,
 ⟨some 20, none, .bin .sub (.tmp 15) (.tmp 19)⟩,
 ⟨some 2, none, .mov (.tmp 20)⟩] [])
 .ret)))⟩
theorem t102 : T 102 = some c102 := by kernel_rfl

def c103t : ACode :=
 (.seq
 (.ops [⟨some 16, none, .mov (.tmp 4)⟩,
 ⟨some 17, none, .mov (.tmp 16)⟩,
 ⟨some 18, some (17, true), .faddr 2 (.tmp 1)⟩,
 ⟨some 19, some (17, true), .load1 (.tmp 18)⟩,
 ⟨some 20, some (17, true), .lenS (.tmp 19)⟩,
 ⟨some 21, some (17, true), .bin .rem (.tmp 20) (.const (.int .i64 (4)))⟩,
 ⟨some 22, some (17, true), .bin .eql (.tmp 21) (.const (.int .i64 (0)))⟩,
 ⟨some 23, none, .pick (.tmp 17) (.tmp 22) (.const (.bool false))⟩,
 ⟨some 24, none, .mov (.tmp 23)⟩,
 ⟨some 25, some (24, true), .faddr 5 (.tmp 1)⟩,
 ⟨some 26, some (24, true), .load1 (.tmp 25)⟩,
 ⟨some 27, some (24, true), .lenS (.tmp 26)⟩,
 ⟨some 28, some (24, true), .mov (.tmp 5)⟩,
 ⟨some 29, some (24, true), .bin .eql (.tmp 27) (.tmp 28)⟩,
 ⟨some 30, none, .pick (.tmp 24) (.tmp 29) (.const (.bool false))⟩,
 ⟨some 31, none, .mov (.tmp 30)⟩,
 ⟨some 32, some (31, true), .faddr 1 (.tmp 1)⟩,
 ⟨some 33, some (31, true), .load1 (.tmp 32)⟩,
 ⟨some 34, some (31, true), .faddr 1 (.tmp 1)⟩,
 ⟨some 35, some (31, true), .load1 (.tmp 34)⟩,
 ⟨some 36, some (31, true), .bin .and (.tmp 35) (.const (.int .i64 (255)))⟩,
 ⟨some 37, some (31, true), .bin .eql (.tmp 33) (.tmp 36)⟩,
 ⟨some 38, none, .pick (.tmp 31) (.tmp 37) (.const (.bool false))⟩,
 ⟨some 39, none, .mov (.tmp 38)⟩,
 ⟨some 40, some (39, true), .faddr 4 (.tmp 1)⟩,
 ⟨some 41, some (39, true), .load1 (.tmp 40)⟩,
 ⟨some 42, some (39, true), .faddr 4 (.tmp 1)⟩,
 ⟨some 43, some (39, true), .load1 (.tmp 42)⟩,
 ⟨some 44, some (39, true), .bin .and (.tmp 43) (.const (.int .i64 (65535)))⟩,
 ⟨some 45, some (39, true), .bin .eql (.tmp 41) (.tmp 44)⟩,
 ⟨some 46, none, .pick (.tmp 39) (.tmp 45) (.const (.bool false))⟩,
 ⟨some 47, none, .mov (.tmp 46)⟩,
 ⟨some 48, some (47, true), .faddr 3 (.tmp 1)⟩,
 ⟨some 49, some (47, true), .load1 (.tmp 48)⟩,
 ⟨some 50, some (47, true), .mov (.tmp 49)⟩,
 ⟨some 51, some (50, false), .faddr 4 (.tmp 1)⟩,
 ⟨some 52, some (50, false), .load1 (.tmp 51)⟩,
 ⟨some 53, some (50, false), .bin .eql (.tmp 52) (.const (.int .i64 (0)))⟩,
 ⟨some 54, some (47, true), .pick (.tmp 50) (.const (.bool true)) (.tmp 53)⟩,
 ⟨some 55, none, .pick (.tmp 47) (.tmp 54) (.const (.bool false))⟩,
 ⟨some 2, none, .mov (.tmp 55)⟩])
 .ret)

/-- plait/addr.may -/
def c103 : AFunc := ⟨56, 1, [.inl 2],
 (.seq
 (.ops [⟨some 1, none, .box 34 6 (.tmp 0)⟩,
 ⟨some 2, none, .mov (.const (.bool false))⟩])
 (.seq
 (.opsD [⟨some 7, none, .call 106 []⟩,
 ⟨some 8, none, .faddr 2 (.tmp 1)⟩,
 ⟨some 9, none, .load1 (.tmp 8)⟩,
 ⟨some 10, none, .lenS (.tmp 9)⟩,
 ⟨some 11, none, .mapGet .i64 true (.agg ⟨[.int .i64 (0), .int .i64 (0)]⟩) (.tmp 7) (.tmp 10)⟩,
 ⟨some 6, none, .mov (.tmp 11)⟩,
 ⟨some 12, none, .ext (.tmp 6) 0⟩,
 ⟨some 13, none, .ext (.tmp 6) 1⟩,
 ⟨some 3, none, .alloc 149 [.int .i64 (0), .int .i64 (0)]⟩,
 ⟨none, none, .store 2 (.tmp 3) (.tmp 12)⟩,
 ⟨some 4, none, .mov (.tmp 13)⟩] [(2, 0), (2, 1)])
 (.seq
 (.ops [⟨some 5, none, .mov (.const (.int .i64 (8)))⟩])
 (.seq
 (.seq
 (.ops [⟨some 14, none, .faddr 0 (.tmp 1)⟩,
 ⟨some 15, none, .load1 (.tmp 14)⟩])
 (.cond (.tmp 15)
 (.ops [⟨some 5, none, .mov (.const (.int .i64 (0)))⟩])
 .skip))
 c103t))))⟩
theorem t103 : T 103 = some c103 := by kernel_rfl

/-- plait/addr.together -/
def c104 : AFunc := ⟨5, 1, [.inl 2],
 (.seq
 (.ops [⟨some 2, none, .mov (.const (.string ⟨⟨[]⟩⟩))⟩])
 (.seq
 (.ops [⟨some 3, none, .mov (.tmp 0)⟩,
 ⟨some 4, none, .call 139 [(.tmp 3), (.const (.string ⟨⟨[]⟩⟩))]⟩,
 ⟨some 2, none, .mov (.tmp 4)⟩])
 .ret))⟩
theorem t104 : T 104 = some c104 := by kernel_rfl

/-- plait/addr.shapes -/
def c106 : AFunc := ⟨7, 0, [.inl 0],
 (.seq
 (.ops [⟨some 0, none, .mov (.const (.map none))⟩])
 (.seq
 (.ops [⟨some 1, none, .mkMap none⟩,
 ⟨some 2, none, .build [.int .i64 (0), .int .i64 (0)] [(0, 1, (.const (.int .i64 (4))))]⟩,
 ⟨none, none, .mapPut .i64 (.tmp 1) (.const (.int .i64 (4))) (.tmp 2)⟩,
 ⟨some 3, none, .build [.int .i64 (0), .int .i64 (0)] [(0, 1, (.const (.int .i64 (4)))), (1, 1, (.const (.int .i64 (2))))]⟩,
 ⟨none, none, .mapPut .i64 (.tmp 1) (.const (.int .i64 (6))) (.tmp 3)⟩,
 ⟨some 4, none, .build [.int .i64 (0), .int .i64 (0)] [(0, 1, (.const (.int .i64 (16))))]⟩,
 ⟨none, none, .mapPut .i64 (.tmp 1) (.const (.int .i64 (16))) (.tmp 4)⟩,
 ⟨some 5, none, .build [.int .i64 (0), .int .i64 (0)] [(0, 1, (.const (.int .i64 (16)))), (1, 1, (.const (.int .i64 (2))))]⟩,
 ⟨none, none, .mapPut .i64 (.tmp 1) (.const (.int .i64 (18))) (.tmp 5)⟩,
 ⟨some 6, none, .mov (.tmp 1)⟩,
 ⟨some 0, none, .mov (.tmp 6)⟩])
 .ret))⟩
theorem t106 : T 106 = some c106 := by kernel_rfl

/-- plait/ctrl.front -/
def c110 : AFunc := ⟨7, 1, [.inl 2],
 (.seq
 (.ops [⟨some 2, none, .mov (.const (.string ⟨⟨[]⟩⟩))⟩])
 (.seq
 (.ops [⟨some 3, none, .mov (.tmp 0)⟩,
 ⟨some 4, none, .bin .shl (.tmp 3) (.const (.int .u64 (12)))⟩,
 ⟨some 5, none, .cvInt .u16 (.tmp 4)⟩,
 ⟨some 6, none, .call 81 [(.const (.string ⟨⟨[]⟩⟩)), (.tmp 5)]⟩,
 ⟨some 2, none, .mov (.tmp 6)⟩])
 .ret))⟩
theorem t110 : T 110 = some c110 := by kernel_rfl

/-- plait/capable.lacks -/
def c128 : AFunc := ⟨39, 1, [.inl 2],
 (.seq
 (.ops [⟨some 1, none, .box 27 8 (.tmp 0)⟩,
 ⟨some 2, none, .mov (.const (.bool false))⟩])
 (.seq
 (.ops [⟨some 3, none, .mov (.const (.bool true))⟩])
 (.seq
 (.seq
 (.ops [⟨some 4, none, .faddr 0 (.tmp 1)⟩,
 ⟨some 5, none, .load1 (.tmp 4)⟩])
 (.block 0
 (.seq
 (.block 4
 (.seq
 (.block 3
 (.seq
 (.block 2
 (.seq
 (.block 1
 (.seq
 (.seq
 (.seq
 (.ops [⟨some 7, none, .bin .eql (.tmp 5) (.const (.int .i64 (0)))⟩,
 ⟨some 6, none, .mov (.tmp 7)⟩])
 (.cond (.tmp 6)
 (.exit 1)
 .skip))
 (.seq
 (.seq
 (.ops [⟨some 9, none, .bin .eql (.tmp 5) (.const (.int .i64 (1)))⟩,
 ⟨some 8, none, .mov (.tmp 9)⟩])
 (.cond (.tmp 8)
 (.exit 2)
 .skip))
 (.seq
 (.seq
 (.ops [⟨some 11, none, .bin .eql (.tmp 5) (.const (.int .i64 (2)))⟩,
 ⟨some 10, none, .mov (.tmp 11)⟩])
 (.cond (.tmp 10)
 (.exit 3)
 .skip))
 (.seq
 (.ops [⟨some 13, none, .bin .eql (.tmp 5) (.const (.int .i64 (3)))⟩,
 ⟨some 12, none, .mov (.tmp 13)⟩])
 (.cond (.tmp 12)
 (.exit 4)
 .skip)))))
 (.exit 0)))
 (.ops [⟨some 14, none, .mov (.tmp 3)⟩,
 ⟨some 15, none, .mov (.tmp 14)⟩,
 ⟨some 16, some (15, true), .faddr 4 (.tmp 1)⟩,
 ⟨some 17, some (15, true), .load1 (.tmp 16)⟩,
 ⟨some 18, some (15, true), .bin .eql (.tmp 17) (.const (.int .u64 (0)))⟩,
 ⟨some 19, none, .pick (.tmp 15) (.tmp 18) (.const (.bool false))⟩,
 ⟨some 3, none, .mov (.tmp 19)⟩])))
 (.ops [⟨some 20, none, .mov (.tmp 3)⟩,
 ⟨some 21, none, .mov (.tmp 20)⟩,
 ⟨some 22, some (21, true), .faddr 5 (.tmp 1)⟩,
 ⟨some 23, some (21, true), .load1 (.tmp 22)⟩,
 ⟨some 24, some (21, true), .bin .eql (.tmp 23) (.const (.int .u64 (0)))⟩,
 ⟨some 25, none, .pick (.tmp 21) (.tmp 24) (.const (.bool false))⟩,
 ⟨some 3, none, .mov (.tmp 25)⟩])))
 (.ops [⟨some 26, none, .mov (.tmp 3)⟩,
 ⟨some 27, none, .mov (.tmp 26)⟩,
 ⟨some 28, some (27, true), .faddr 6 (.tmp 1)⟩,
 ⟨some 29, some (27, true), .load1 (.tmp 28)⟩,
 ⟨some 30, some (27, true), .bin .eql (.tmp 29) (.const (.int .i64 (0)))⟩,
 ⟨some 31, none, .pick (.tmp 27) (.tmp 30) (.const (.bool false))⟩,
 ⟨some 3, none, .mov (.tmp 31)⟩])))
 (.seq
 (.ops [⟨some 32, none, .mov (.tmp 3)⟩,
 ⟨some 33, none, .mov (.tmp 32)⟩,
 ⟨some 34, some (33, true), .faddr 7 (.tmp 1)⟩,
 ⟨some 35, some (33, true), .load1 (.tmp 34)⟩,
 ⟨some 36, some (33, true), .bin .eql (.tmp 35) (.const (.int .u16 (0)))⟩,
 ⟨some 37, none, .pick (.tmp 33) (.tmp 36) (.const (.bool false))⟩,
 ⟨some 3, none, .mov (.tmp 37)⟩])
 (.exit 0)))))
 (.seq
 (.ops [⟨some 38, none, .mov (.tmp 3)⟩,
 ⟨some 2, none, .mov (.tmp 38)⟩])
 .ret))))⟩
theorem t128 : T 128 = some c128 := by kernel_rfl

/-- plait/cursor.put[uint8] -/
def c129 : AFunc := ⟨29, 3, [.inl 6],
 (.seq
 (.ops [⟨some 6, none, .mov (.const (.string ⟨⟨[]⟩⟩))⟩])
 (.seq
 (.ops [⟨some 7, none, .alloc 184 [.int .u8 (0), .int .u8 (0), .int .u8 (0), .int .u8 (0), .int .u8 (0), .int .u8 (0), .int .u8 (0), .int .u8 (0)]⟩])
 (.seq
 (.ops [⟨some 10, none, .mov (.tmp 1)⟩,
 ⟨some 11, none, .cvInt .u64 (.tmp 10)⟩,
 ⟨some 8, none, .mov (.tmp 11)⟩])
 (.seq
 (.seq
 (.ops [⟨some 12, none, .mov (.const (.int .i64 (0)))⟩])
 (.block 0
 (.loop
 (.seq
 (.ops [⟨some 13, none, .bin .lss (.tmp 12) (.const (.int .i64 (8)))⟩])
 (.seq
 (.cond (.tmp 13)
 .skip
 (.exit 0))
 (.seq
 (.block 1
 (.seq
 (.ops [⟨some 14, none, .mov (.tmp 12)⟩,
 ⟨some 9, none, .mov (.tmp 14)⟩])
 (.seq
 (.ops [⟨some 15, none, .mov (.tmp 9)⟩,
 ⟨some 16, none, .bin .sub (.const (.int .i64 (7))) (.tmp 15)⟩,
 ⟨some 17, none, .mov (.tmp 8)⟩,
 ⟨some 18, none, .cvInt .u8 (.tmp 17)⟩,
 ⟨some 19, none, .iaddrA 8 1 (.tmp 7) (.tmp 16)⟩,
 ⟨none, none, .store 1 (.tmp 19) (.tmp 18)⟩])
 (.ops [⟨some 20, none, .mov (.tmp 8)⟩,
 ⟨some 21, none, .bin .shr (.tmp 20) (.const (.int .u64 (8)))⟩,
 ⟨some 8, none, .mov (.tmp 21)⟩]))))
 (.ops [⟨some 22, none, .bin .add (.tmp 12) (.const (.int .i64 (1)))⟩,
 ⟨some 12, none, .mov (.tmp 22)⟩])))))))
 (.seq
 (.ops [⟨some 23, none, .mov (.tmp 0)⟩,
 ⟨some 24, none, .mov (.tmp 2)⟩,
 ⟨some 25, none, .bin .sub (.const (.int .i64 (8))) (.tmp 24)⟩,
 ⟨some 26, none, .sliceA 8 1 (.tmp 7) (some (.tmp 25)) none none⟩,
 ⟨some 27, none, .cvB2S (.tmp 26)⟩,
 ⟨some 28, none, .bin .add (.tmp 23) (.tmp 27)⟩,
 ⟨some 6, none, .mov (.tmp 28)⟩])
 .ret)))))⟩
theorem t129 : T 129 = some c129 := by kernel_rfl

/-- plait/cursor.put[uint64] -/
def c130 : AFunc := ⟨28, 3, [.inl 6],
 (.seq
 (.ops [⟨some 6, none, .mov (.const (.string ⟨⟨[]⟩⟩))⟩])
 (.seq
 (.ops [⟨some 7, none, .alloc 184 [.int .u8 (0), .int .u8 (0), .int .u8 (0), .int .u8 (0), .int .u8 (0), .int .u8 (0), .int .u8 (0), .int .u8 (0)]⟩])
 (.seq
 (.ops [⟨some 10, none, .mov (.tmp 1)⟩,
 ⟨some 8, none, .mov (.tmp 10)⟩])
 (.seq
 (.seq
 (.ops [⟨some 11, none, .mov (.const (.int .i64 (0)))⟩])
 (.block 0
 (.loop
 (.seq
 (.ops [⟨some 12, none, .bin .lss (.tmp 11) (.const (.int .i64 (8)))⟩])
 (.seq
 (.cond (.tmp 12)
 .skip
 (.exit 0))
 (.seq
 (.block 1
 (.seq
 (.ops [⟨some 13, none, .mov (.tmp 11)⟩,
 ⟨some 9, none, .mov (.tmp 13)⟩])
 (.seq
 (.ops [⟨some 14, none, .mov (.tmp 9)⟩,
 ⟨some 15, none, .bin .sub (.const (.int .i64 (7))) (.tmp 14)⟩,
 ⟨some 16, none, .mov (.tmp 8)⟩,
 ⟨some 17, none, .cvInt .u8 (.tmp 16)⟩,
 ⟨some 18, none, .iaddrA 8 1 (.tmp 7) (.tmp 15)⟩,
 ⟨none, none, .store 1 (.tmp 18) (.tmp 17)⟩])
 (.ops [⟨some 19, none, .mov (.tmp 8)⟩,
 ⟨some 20, none, .bin .shr (.tmp 19) (.const (.int .u64 (8)))⟩,
 ⟨some 8, none, .mov (.tmp 20)⟩]))))
 (.ops [⟨some 21, none, .bin .add (.tmp 11) (.const (.int .i64 (1)))⟩,
 ⟨some 11, none, .mov (.tmp 21)⟩])))))))
 (.seq
 (.ops [⟨some 22, none, .mov (.tmp 0)⟩,
 ⟨some 23, none, .mov (.tmp 2)⟩,
 ⟨some 24, none, .bin .sub (.const (.int .i64 (8))) (.tmp 23)⟩,
 ⟨some 25, none, .sliceA 8 1 (.tmp 7) (some (.tmp 24)) none none⟩,
 ⟨some 26, none, .cvB2S (.tmp 25)⟩,
 ⟨some 27, none, .bin .add (.tmp 22) (.tmp 26)⟩,
 ⟨some 6, none, .mov (.tmp 27)⟩])
 .ret)))))⟩
theorem t130 : T 130 = some c130 := by kernel_rfl

/-- plait/cursor.put[uint16] -/
def c131 : AFunc := ⟨29, 3, [.inl 6],
 (.seq
 (.ops [⟨some 6, none, .mov (.const (.string ⟨⟨[]⟩⟩))⟩])
 (.seq
 (.ops [⟨some 7, none, .alloc 184 [.int .u8 (0), .int .u8 (0), .int .u8 (0), .int .u8 (0), .int .u8 (0), .int .u8 (0), .int .u8 (0), .int .u8 (0)]⟩])
 (.seq
 (.ops [⟨some 10, none, .mov (.tmp 1)⟩,
 ⟨some 11, none, .cvInt .u64 (.tmp 10)⟩,
 ⟨some 8, none, .mov (.tmp 11)⟩])
 (.seq
 (.seq
 (.ops [⟨some 12, none, .mov (.const (.int .i64 (0)))⟩])
 (.block 0
 (.loop
 (.seq
 (.ops [⟨some 13, none, .bin .lss (.tmp 12) (.const (.int .i64 (8)))⟩])
 (.seq
 (.cond (.tmp 13)
 .skip
 (.exit 0))
 (.seq
 (.block 1
 (.seq
 (.ops [⟨some 14, none, .mov (.tmp 12)⟩,
 ⟨some 9, none, .mov (.tmp 14)⟩])
 (.seq
 (.ops [⟨some 15, none, .mov (.tmp 9)⟩,
 ⟨some 16, none, .bin .sub (.const (.int .i64 (7))) (.tmp 15)⟩,
 ⟨some 17, none, .mov (.tmp 8)⟩,
 ⟨some 18, none, .cvInt .u8 (.tmp 17)⟩,
 ⟨some 19, none, .iaddrA 8 1 (.tmp 7) (.tmp 16)⟩,
 ⟨none, none, .store 1 (.tmp 19) (.tmp 18)⟩])
 (.ops [⟨some 20, none, .mov (.tmp 8)⟩,
 ⟨some 21, none, .bin .shr (.tmp 20) (.const (.int .u64 (8)))⟩,
 ⟨some 8, none, .mov (.tmp 21)⟩]))))
 (.ops [⟨some 22, none, .bin .add (.tmp 12) (.const (.int .i64 (1)))⟩,
 ⟨some 12, none, .mov (.tmp 22)⟩])))))))
 (.seq
 (.ops [⟨some 23, none, .mov (.tmp 0)⟩,
 ⟨some 24, none, .mov (.tmp 2)⟩,
 ⟨some 25, none, .bin .sub (.const (.int .i64 (8))) (.tmp 24)⟩,
 ⟨some 26, none, .sliceA 8 1 (.tmp 7) (some (.tmp 25)) none none⟩,
 ⟨some 27, none, .cvB2S (.tmp 26)⟩,
 ⟨some 28, none, .bin .add (.tmp 23) (.tmp 27)⟩,
 ⟨some 6, none, .mov (.tmp 28)⟩])
 .ret)))))⟩
theorem t131 : T 131 = some c131 := by kernel_rfl

/-- plait/cursor.number[uint64] -/
def c132 : AFunc := ⟨10, 2, [.inr (4, 1, false)],
 (.seq
 (.ops [⟨some 4, none, .alloc 24 [.int .u64 (0)]⟩])
 (.seq
 (.ops [⟨some 5, none, .mov (.tmp 0)⟩,
 ⟨some 6, none, .mov (.tmp 1)⟩,
 ⟨some 7, none, .mkF 146 [] [(.tmp 4)]⟩,
 ⟨some 8, none, .call 137 [(.tmp 5), (.tmp 6), (.tmp 7)]⟩])
 (.seq
 (.ops [⟨some 9, none, .load1 (.tmp 4)⟩,
 ⟨none, none, .store 1 (.tmp 4) (.tmp 9)⟩])
 .ret)))⟩
theorem t132 : T 132 = some c132 := by kernel_rfl

/-- plait/cursor.number[uint16] -/
def c133 : AFunc := ⟨10, 2, [.inr (4, 1, false)],
 (.seq
 (.ops [⟨some 4, none, .alloc 25 [.int .u16 (0)]⟩])
 (.seq
 (.ops [⟨some 5, none, .mov (.tmp 0)⟩,
 ⟨some 6, none, .mov (.tmp 1)⟩,
 ⟨some 7, none, .mkF 147 [] [(.tmp 4)]⟩,
 ⟨some 8, none, .call 137 [(.tmp 5), (.tmp 6), (.tmp 7)]⟩])
 (.seq
 (.ops [⟨some 9, none, .load1 (.tmp 4)⟩,
 ⟨none, none, .store 1 (.tmp 4) (.tmp 9)⟩])
 .ret)))⟩
theorem t133 : T 133 = some c133 := by kernel_rfl

/-- plait/cursor.number[uint8] -/
def c134 : AFunc := ⟨10, 2, [.inr (4, 1, false)],
 (.seq
 (.ops [⟨some 4, none, .alloc 5 [.int .u8 (0)]⟩])
 (.seq
 (.ops [⟨some 5, none, .mov (.tmp 0)⟩,
 ⟨some 6, none, .mov (.tmp 1)⟩,
 ⟨some 7, none, .mkF 148 [] [(.tmp 4)]⟩,
 ⟨some 8, none, .call 137 [(.tmp 5), (.tmp 6), (.tmp 7)]⟩])
 (.seq
 (.ops [⟨some 9, none, .load1 (.tmp 4)⟩,
 ⟨none, none, .store 1 (.tmp 4) (.tmp 9)⟩])
 .ret)))⟩
theorem t134 : T 134 = some c134 := by kernel_rfl

/-- plait/cursor.put[uint32] -/
def c135 : AFunc := ⟨29, 3, [.inl 6],
 (.seq
 (.ops [⟨some 6, none, .mov (.const (.string ⟨⟨[]⟩⟩))⟩])
 (.seq
 (.ops [⟨some 7, none, .alloc 184 [.int .u8 (0), .int .u8 (0), .int .u8 (0), .int .u8 (0), .int .u8 (0), .int .u8 (0), .int .u8 (0), .int .u8 (0)]⟩])
 (.seq
 (.ops [⟨some 10, none, .mov (.tmp 1)⟩,
 ⟨some 11, none, .cvInt .u64 (.tmp 10)⟩,
 ⟨some 8, none, .mov (.tmp 11)⟩])
 (.seq
 (.seq
 (.ops [⟨some 12, none, .mov (.const (.int .i64 (0)))⟩])
 (.block 0
 (.loop
 (.seq
 (.ops [⟨some 13, none, .bin .lss (.tmp 12) (.const (.int .i64 (8)))⟩])
 (.seq
 (.cond (.tmp 13)
 .skip
 (.exit 0))
 (.seq
 (.block 1
 (.seq
 (.ops [⟨some 14, none, .mov (.tmp 12)⟩,
 ⟨some 9, none, .mov (.tmp 14)⟩])
 (.seq
 (.ops [⟨some 15, none, .mov (.tmp 9)⟩,
 ⟨some 16, none, .bin .sub (.const (.int .i64 (7))) (.tmp 15)⟩,
 ⟨some 17, none, .mov (.tmp 8)⟩,
 ⟨some 18, none, .cvInt .u8 (.tmp 17)⟩,
 ⟨some 19, none, .iaddrA 8 1 (.tmp 7) (.tmp 16)⟩,
 ⟨none, none, .store 1 (.tmp 19) (.tmp 18)⟩])
 (.ops [⟨some 20, none, .mov (.tmp 8)⟩,
 ⟨some 21, none, .bin .shr (.tmp 20) (.const (.int .u64 (8)))⟩,
 ⟨some 8, none, .mov (.tmp 21)⟩]))))
 (.ops [⟨some 22, none, .bin .add (.tmp 12) (.const (.int .i64 (1)))⟩,
 ⟨some 12, none, .mov (.tmp 22)⟩])))))))
 (.seq
 (.ops [⟨some 23, none, .mov (.tmp 0)⟩,
 ⟨some 24, none, .mov (.tmp 2)⟩,
 ⟨some 25, none, .bin .sub (.const (.int .i64 (8))) (.tmp 24)⟩,
 ⟨some 26, none, .sliceA 8 1 (.tmp 7) (some (.tmp 25)) none none⟩,
 ⟨some 27, none, .cvB2S (.tmp 26)⟩,
 ⟨some 28, none, .bin .add (.tmp 23) (.tmp 27)⟩,
 ⟨some 6, none, .mov (.tmp 28)⟩])
 .ret)))))⟩
theorem t135 : T 135 = some c135 := by kernel_rfl

/-- plait/cursor.number[uint32] -/
def c136 : AFunc := ⟨10, 2, [.inr (4, 1, false)],
 (.seq
 (.ops [⟨some 4, none, .alloc 28 [.int .u32 (0)]⟩])
 (.seq
 (.ops [⟨some 5, none, .mov (.tmp 0)⟩,
 ⟨some 6, none, .mov (.tmp 1)⟩,
 ⟨some 7, none, .mkF 149 [] [(.tmp 4)]⟩,
 ⟨some 8, none, .call 137 [(.tmp 5), (.tmp 6), (.tmp 7)]⟩])
 (.seq
 (.ops [⟨some 9, none, .load1 (.tmp 4)⟩,
 ⟨none, none, .store 1 (.tmp 4) (.tmp 9)⟩])
 .ret)))⟩
theorem t136 : T 136 = some c136 := by kernel_rfl

/-- (*plait/cursor.Cursor).pass -/
def c137 : AFunc := ⟨60, 3, [],
 (.block 0
 (.seq
 (.ops [⟨some 32, none, .mov (.tmp 0)⟩,
 ⟨some 33, none, .eq false true .ptr (.tmp 32) (.const (.pointer none))⟩,
 ⟨some 34, none, .mov (.tmp 33)⟩,
 ⟨some 35, some (34, false), .mov (.tmp 0)⟩,
 ⟨some 36, some (34, false), .nilchk (.tmp 35)⟩,
 ⟨some 37, some (34, false), .faddr 2 (.tmp 36)⟩,
 ⟨some 38, some (34, false), .load1 (.tmp 37)⟩,
 ⟨some 39, none, .pick (.tmp 34) (.const (.bool true)) (.tmp 38)⟩,
 ⟨some 31, none, .mov (.tmp 39)⟩])
 (.cond (.tmp 31)
 .skip
 (.seq
 (.opsD [⟨some 41, none, .mov (.tmp 1)⟩,
 ⟨some 42, none, .bin .lss (.tmp 41) (.const (.int .i64 (0)))⟩,
 ⟨some 43, none, .mov (.tmp 42)⟩,
 ⟨some 44, some (43, false), .mov (.tmp 1)⟩,
 ⟨some 45, some (43, false), .mov (.tmp 0)⟩,
 ⟨some 46, some (43, false), .nilchk (.tmp 45)⟩,
 ⟨some 47, some (43, false), .faddr 0 (.tmp 46)⟩,
 ⟨some 48, some (43, false), .load1 (.tmp 47)⟩,
 ⟨some 49, some (43, false), .lenS (.tmp 48)⟩,
 ⟨some 50, some (43, false), .mov (.tmp 0)⟩,
 ⟨some 51, some (43, false), .nilchk (.tmp 50)⟩,
 ⟨some 52, some (43, false), .faddr 1 (.tmp 51)⟩,
 ⟨some 53, some (43, false), .load1 (.tmp 52)⟩,
 ⟨some 54, some (43, false), .bin .sub (.tmp 49) (.tmp 53)⟩,
 ⟨some 55, some (43, false), .bin .gtr (.tmp 44) (.tmp 54)⟩,
 ⟨some 56, none, .pick (.tmp 43) (.const (.bool true)) (.tmp 55)⟩,
 ⟨some 40, none, .mov (.tmp 56)⟩] [])
 (.cond (.tmp 40)
 (.ops [⟨some 57, none, .mov (.tmp 0)⟩,
 ⟨some 58, none, .nilchk (.tmp 57)⟩,
 ⟨some 59, none, .faddr 2 (.tmp 58)⟩,
 ⟨none, none, .store 1 (.tmp 59) (.const (.bool true))⟩])
 (.seq
 (.ops [⟨some 6, none, .mov (.tmp 0)⟩,
 ⟨some 7, none, .nilchk (.tmp 6)⟩,
 ⟨some 8, none, .faddr 1 (.tmp 7)⟩,
 ⟨some 9, none, .load1 (.tmp 8)⟩,
 ⟨some 10, none, .mov (.tmp 1)⟩,
 ⟨some 11, none, .bin .add (.tmp 9) (.tmp 10)⟩,
 ⟨some 12, none, .nilchk (.tmp 6)⟩,
 ⟨some 13, none, .faddr 1 (.tmp 12)⟩,
 ⟨none, none, .store 1 (.tmp 13) (.tmp 11)⟩])
 (.opsD [⟨some 14, none, .mov (.tmp 2)⟩,
 ⟨some 15, none, .mov (.tmp 0)⟩,
 ⟨some 16, none, .nilchk (.tmp 15)⟩,
 ⟨some 17, none, .faddr 0 (.tmp 16)⟩,
 ⟨some 18, none, .load1 (.tmp 17)⟩,
 ⟨some 19, none, .mov (.tmp 0)⟩,
 ⟨some 20, none, .nilchk (.tmp 19)⟩,
 ⟨some 21, none, .faddr 1 (.tmp 20)⟩,
 ⟨some 22, none, .load1 (.tmp 21)⟩,
 ⟨some 23, none, .mov (.tmp 1)⟩,
 ⟨some 24, none, .bin .sub (.tmp 22) (.tmp 23)⟩,
 ⟨some 25, none, .mov (.tmp 0)⟩,
 ⟨some 26, none, .nilchk (.tmp 25)⟩,
 ⟨some 27, none, .faddr 1 (.tmp 26)⟩,
 ⟨some 28, none, .load1 (.tmp 27)⟩,
 ⟨some 29, none, .sliceS (.tmp 18) (some (.tmp 24)) (some (.tmp 28))⟩,
 ⟨some 30, none, .callv (.tmp 14) [(.tmp 29)]⟩] [])))))))⟩
theorem t137 : T 137 = some c137 := by kernel_rfl

/-- (*plait/cursor.Cursor).Take$1 -/
def c138 : AFunc := ⟨4, 2, [],
 (.ops [⟨some 3, none, .mov (.tmp 0)⟩,
 ⟨none, none, .store 1 (.tmp 1) (.tmp 3)⟩])⟩
theorem t138 : T 138 = some c138 := by kernel_rfl

/-- plait/cursor.number[uint64]$1 -/
def c146 : AFunc := ⟨20, 2, [],
 (.seq
 (.ops [⟨some 3, none, .mov (.const (.int .u64 (0)))⟩])
 (.seq
 (.seq
 (.ops [⟨some 6, none, .mov (.tmp 0)⟩,
 ⟨some 7, none, .cvS2B 5 (.tmp 6)⟩,
 ⟨some 8, none, .lenV (.tmp 7)⟩,
 ⟨some 9, none, .mov (.const (.int .i64 (0)))⟩])
 (.block 0
 (.loop
 (.seq
 (.ops [⟨some 10, none, .bin .lss (.tmp 9) (.tmp 8)⟩])
 (.seq
 (.cond (.tmp 10)
 .skip
 (.exit 0))
 (.seq
 (.block 1
 (.seq
 (.ops [⟨some 11, none, .iaddrS 1 (.tmp 7) (.tmp 9)⟩,
 ⟨some 12, none, .load1 (.tmp 11)⟩,
 ⟨some 5, none, .mov (.tmp 12)⟩])
 (.ops [⟨some 13, none, .mov (.tmp 3)⟩,
 ⟨some 14, none, .bin .shl (.tmp 13) (.const (.int .u64 (8)))⟩,
 ⟨some 15, none, .mov (.tmp 5)⟩,
 ⟨some 16, none, .cvInt .u64 (.tmp 15)⟩,
 ⟨some 17, none, .bin .or (.tmp 14) (.tmp 16)⟩,
 ⟨some 3, none, .mov (.tmp 17)⟩])))
 (.ops [⟨some 18, none, .bin .add (.tmp 9) (.const (.int .i64 (1)))⟩,
 ⟨some 9, none, .mov (.tmp 18)⟩])))))))
 (.ops [⟨some 19, none, .mov (.tmp 3)⟩,
 ⟨none, none, .store 1 (.tmp 1) (.tmp 19)⟩])))⟩
theorem t146 : T 146 = some c146 := by kernel_rfl

/-- plait/cursor.number[uint16]$1 -/
def c147 : AFunc := ⟨21, 2, [],
 (.seq
 (.ops [⟨some 3, none, .mov (.const (.int .u64 (0)))⟩])
 (.seq
 (.seq
 (.ops [⟨some 6, none, .mov (.tmp 0)⟩,
 ⟨some 7, none, .cvS2B 5 (.tmp 6)⟩,
 ⟨some 8, none, .lenV (.tmp 7)⟩,
 ⟨some 9, none, .mov (.const (.int .i64 (0)))⟩])
 (.block 0
 (.loop
 (.seq
 (.ops [⟨some 10, none, .bin .lss (.tmp 9) (.tmp 8)⟩])
 (.seq
 (.cond (.tmp 10)
 .skip
 (.exit 0))
 (.seq
 (.block 1
 (.seq
 (.ops [⟨some 11, none, .iaddrS 1 (.tmp 7) (.tmp 9)⟩,
 ⟨some 12, none, .load1 (.tmp 11)⟩,
 ⟨some 5, none, .mov (.tmp 12)⟩])
 (.ops [⟨some 13, none, .mov (.tmp 3)⟩,
 ⟨some 14, none, .bin .shl (.tmp 13) (.const (.int .u64 (8)))⟩,
 ⟨some 15, none, .mov (.tmp 5)⟩,
 ⟨some 16, none, .cvInt .u64 (.tmp 15)⟩,
 ⟨some 17, none, .bin .or (.tmp 14) (.tmp 16)⟩,
 ⟨some 3, none, .mov (.tmp 17)⟩])))
 (.ops [⟨some 18, none, .bin .add (.tmp 9) (.const (.int .i64 (1)))⟩,
 ⟨some 9, none, .mov (.tmp 18)⟩])))))))
 (.ops [⟨some 19, none, .mov (.tmp 3)⟩,
 ⟨some 20, none, .cvInt .u16 (.tmp 19)⟩,
 ⟨none, none, .store 1 (.tmp 1) (.tmp 20)⟩])))⟩
theorem t147 : T 147 = some c147 := by kernel_rfl

/-- plait/cursor.number[uint8]$1 -/
def c148 : AFunc := ⟨21, 2, [],
 (.seq
 (.ops [⟨some 3, none, .mov (.const (.int .u64 (0)))⟩])
 (.seq
 (.seq
 (.ops [⟨some 6, none, .mov (.tmp 0)⟩,
 ⟨some 7, none, .cvS2B 5 (.tmp 6)⟩,
 ⟨some 8, none, .lenV (.tmp 7)⟩,
 ⟨some 9, none, .mov (.const (.int .i64 (0)))⟩])
 (.block 0
 (.loop
 (.seq
 (.ops [⟨some 10, none, .bin .lss (.tmp 9) (.tmp 8)⟩])
 (.seq
 (.cond (.tmp 10)
 .skip
 (.exit 0))
 (.seq
 (.block 1
 (.seq
 (.ops [⟨some 11, none, .iaddrS 1 (.tmp 7) (.tmp 9)⟩,
 ⟨some 12, none, .load1 (.tmp 11)⟩,
 ⟨some 5, none, .mov (.tmp 12)⟩])
 (.ops [⟨some 13, none, .mov (.tmp 3)⟩,
 ⟨some 14, none, .bin .shl (.tmp 13) (.const (.int .u64 (8)))⟩,
 ⟨some 15, none, .mov (.tmp 5)⟩,
 ⟨some 16, none, .cvInt .u64 (.tmp 15)⟩,
 ⟨some 17, none, .bin .or (.tmp 14) (.tmp 16)⟩,
 ⟨some 3, none, .mov (.tmp 17)⟩])))
 (.ops [⟨some 18, none, .bin .add (.tmp 9) (.const (.int .i64 (1)))⟩,
 ⟨some 9, none, .mov (.tmp 18)⟩])))))))
 (.ops [⟨some 19, none, .mov (.tmp 3)⟩,
 ⟨some 20, none, .cvInt .u8 (.tmp 19)⟩,
 ⟨none, none, .store 1 (.tmp 1) (.tmp 20)⟩])))⟩
theorem t148 : T 148 = some c148 := by kernel_rfl

/-- plait/cursor.number[uint32]$1 -/
def c149 : AFunc := ⟨21, 2, [],
 (.seq
 (.ops [⟨some 3, none, .mov (.const (.int .u64 (0)))⟩])
 (.seq
 (.seq
 (.ops [⟨some 6, none, .mov (.tmp 0)⟩,
 ⟨some 7, none, .cvS2B 5 (.tmp 6)⟩,
 ⟨some 8, none, .lenV (.tmp 7)⟩,
 ⟨some 9, none, .mov (.const (.int .i64 (0)))⟩])
 (.block 0
 (.loop
 (.seq
 (.ops [⟨some 10, none, .bin .lss (.tmp 9) (.tmp 8)⟩])
 (.seq
 (.cond (.tmp 10)
 .skip
 (.exit 0))
 (.seq
 (.block 1
 (.seq
 (.ops [⟨some 11, none, .iaddrS 1 (.tmp 7) (.tmp 9)⟩,
 ⟨some 12, none, .load1 (.tmp 11)⟩,
 ⟨some 5, none, .mov (.tmp 12)⟩])
 (.ops [⟨some 13, none, .mov (.tmp 3)⟩,
 ⟨some 14, none, .bin .shl (.tmp 13) (.const (.int .u64 (8)))⟩,
 ⟨some 15, none, .mov (.tmp 5)⟩,
 ⟨some 16, none, .cvInt .u64 (.tmp 15)⟩,
 ⟨some 17, none, .bin .or (.tmp 14) (.tmp 16)⟩,
 ⟨some 3, none, .mov (.tmp 17)⟩])))
 (.ops [⟨some 18, none, .bin .add (.tmp 9) (.const (.int .i64 (1)))⟩,
 ⟨some 9, none, .mov (.tmp 18)⟩])))))))
 (.ops [⟨some 19, none, .mov (.tmp 3)⟩,
 ⟨some 20, none, .cvInt .u32 (.tmp 19)⟩,
 ⟨none, none, .store 1 (.tmp 1) (.tmp 20)⟩])))⟩
theorem t149 : T 149 = some c149 := by kernel_rfl

end Go.Proofs.YtigknpfjhegkgaaGreat

