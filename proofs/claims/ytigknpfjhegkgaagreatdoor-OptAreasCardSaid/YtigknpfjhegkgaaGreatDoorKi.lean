/- A text of this claim. -/
import Derived.Test.YtigknpfjhegkgaaGreatDoorZo
import Derived.KernelRfl
namespace Go.Proofs.YtigknpfjhegkgaaGreatDoor
open Go Go.AS
set_option maxRecDepth 100000
def c13:AFunc:=⟨108,1,[.inr (2,38,true),.inl 3],
 (.seq (.ops [⟨some 1,none,.box 23 2 (.tmp 0)⟩,⟨some 2,none,.alloc 54 opZ⟩,⟨some 3,none,.mov (.const (.int .i64 0))⟩]) (.seq (.seq (.ops [⟨some 6,none,.faddr 0 (.tmp 1)⟩,⟨some 7,none,.load1 (.tmp 6)⟩,⟨some 8,none,.bin .neq (.tmp 7) (.const (.int .i64 30))⟩]) (.cond (.tmp 8) (.seq (.ops [⟨some 9,none,.build opZ []⟩,⟨none,none,.store 38 (.tmp 2) (.tmp 9)⟩,⟨some 3,none,.mov (.const (.int .i64 7))⟩])
 .ret)
 .skip)) (.seq (.seq (.ops [⟨some 10,none,.faddr 1 (.tmp 1)⟩,⟨some 11,none,.load1 (.tmp 10)⟩,⟨some 12,none,.bin .eql (.tmp 11) (.const (.string ⟨⟨[]⟩⟩))⟩]) (.cond (.tmp 12) (.seq (.ops [⟨some 13,none,.build opZ []⟩,⟨none,none,.store 38 (.tmp 2) (.tmp 13)⟩,⟨some 3,none,.mov (.const (.int .i64 4))⟩])
 .ret)
 .skip)) (.seq (.ops [⟨some 14,none,.faddr 1 (.tmp 1)⟩,⟨some 15,none,.load1 (.tmp 14)⟩,⟨some 16,none,.idxS (.tmp 15) (.const (.int .i64 0))⟩,⟨some 17,none,.bin .quo (.tmp 16) (.const (.int .u8 16))⟩,⟨some 18,none,.cvInt .i64 (.tmp 17)⟩,⟨some 19,none,.build opZ [(0,1,(.tmp 18))]⟩,⟨some 4,none,.alloc 54 opZ⟩,⟨none,none,.store 38 (.tmp 4) (.tmp 19)⟩]) (.seq (.ops [⟨some 5,none,.mov (.const (.int .i64 7))⟩]) (.seq (.seq (.ops [⟨some 20,none,.faddr 0 (.tmp 4)⟩,⟨some 21,none,.load1 (.tmp 20)⟩])
 (.block 0 (.seq (.ops [⟨some 23,none,.bin .eql (.tmp 21) (.const (.int .i64 0))⟩,⟨some 22,none,.mov (.tmp 23)⟩]) (.cond (.tmp 22) (.ops [⟨some 25,none,.faddr 1 (.tmp 1)⟩,⟨some 26,none,.load1 (.tmp 25)⟩,⟨some 27,none,.call 36 [(.tmp 26)]⟩,⟨some 24,none,.mov (.tmp 27)⟩,⟨some 28,none,.ext (.tmp 24) 0⟩,⟨some 29,none,.ext (.tmp 24) 1⟩,⟨some 30,none,.faddr 1 (.tmp 4)⟩,⟨none,none,.store 8 (.tmp 30) (.tmp 28)⟩,⟨some 5,none,.mov (.tmp 29)⟩]) (.seq
 (.ops [⟨some 32,none,.bin .eql (.tmp 21) (.const (.int .i64 1))⟩,⟨some 31,none,.mov (.tmp 32)⟩]) (.cond (.tmp 31) (.ops [⟨some 34,none,.faddr 1 (.tmp 1)⟩,⟨some 35,none,.load1 (.tmp 34)⟩,⟨some 36,none,.call 37 [(.tmp 35)]⟩,⟨some 33,none,.mov (.tmp 36)⟩,⟨some 37,none,.ext (.tmp 33) 0⟩,⟨some 38,none,.ext (.tmp 33) 1⟩,⟨some 39,none,.faddr 9 (.tmp 4)⟩,⟨none,none,.store 6 (.tmp 39) (.tmp 37)⟩,⟨some 5,none,.mov (.tmp 38)⟩]) (.seq (.ops [⟨some 41,none,.bin .eql (.tmp 21) (.const (.int .i64 2))⟩,
 ⟨some 40,none,.mov (.tmp 41)⟩]) (.cond (.tmp 40) (.ops [⟨some 43,none,.faddr 1 (.tmp 1)⟩,⟨some 44,none,.load1 (.tmp 43)⟩,⟨some 45,none,.call 38 [(.tmp 44)]⟩,⟨some 42,none,.mov (.tmp 45)⟩,⟨some 46,none,.ext (.tmp 42) 0⟩,⟨some 47,none,.ext (.tmp 42) 1⟩,⟨some 48,none,.faddr 15 (.tmp 4)⟩,⟨none,none,.store 11 (.tmp 48) (.tmp 46)⟩,⟨some 5,none,.mov (.tmp 47)⟩]) (.seq (.ops [⟨some 50,none,.bin .eql (.tmp 21) (.const (.int .i64 3))⟩,⟨some 49,none,.mov (.tmp 50)⟩]) (.cond (.tmp 49)
 (.ops [⟨some 52,none,.faddr 1 (.tmp 1)⟩,⟨some 53,none,.load1 (.tmp 52)⟩,⟨some 54,none,.call 39 [(.tmp 53)]⟩,⟨some 51,none,.mov (.tmp 54)⟩,⟨some 55,none,.ext (.tmp 51) 0⟩,⟨some 56,none,.ext (.tmp 51) 1⟩,⟨some 57,none,.faddr 26 (.tmp 4)⟩,⟨none,none,.store 6 (.tmp 57) (.tmp 55)⟩,⟨some 5,none,.mov (.tmp 56)⟩]) (.seq (.ops [⟨some 59,none,.bin .eql (.tmp 21) (.const (.int .i64 4))⟩,⟨some 58,none,.mov (.tmp 59)⟩]) (.cond (.tmp 58) (.ops [⟨some 61,none,.faddr 1 (.tmp 1)⟩,
 ⟨some 62,none,.load1 (.tmp 61)⟩,⟨some 63,none,.call 40 [(.tmp 62)]⟩,⟨some 60,none,.mov (.tmp 63)⟩,⟨some 64,none,.ext (.tmp 60) 0⟩,⟨some 65,none,.ext (.tmp 60) 1⟩,⟨some 66,none,.faddr 32 (.tmp 4)⟩,⟨none,none,.store 1 (.tmp 66) (.tmp 64)⟩,⟨some 5,none,.mov (.tmp 65)⟩]) (.seq (.ops [⟨some 68,none,.bin .eql (.tmp 21) (.const (.int .i64 5))⟩,⟨some 67,none,.mov (.tmp 68)⟩]) (.cond (.tmp 67) (.ops [⟨some 70,none,.faddr 1 (.tmp 1)⟩,⟨some 71,none,.load1 (.tmp 70)⟩,⟨some 72,none,.call 41 [(.tmp 71)]⟩,
 ⟨some 69,none,.mov (.tmp 72)⟩,⟨some 73,none,.ext (.tmp 69) 0⟩,⟨some 74,none,.ext (.tmp 69) 1⟩,⟨some 75,none,.faddr 33 (.tmp 4)⟩,⟨none,none,.store 1 (.tmp 75) (.tmp 73)⟩,⟨some 5,none,.mov (.tmp 74)⟩]) (.seq (.ops [⟨some 77,none,.bin .eql (.tmp 21) (.const (.int .i64 6))⟩,⟨some 76,none,.mov (.tmp 77)⟩]) (.cond (.tmp 76) (.ops [⟨some 79,none,.faddr 1 (.tmp 1)⟩,⟨some 80,none,.load1 (.tmp 79)⟩,⟨some 81,none,.call 42 [(.tmp 80)]⟩,⟨some 78,none,.mov (.tmp 81)⟩,⟨some 82,none,.ext (.tmp 78) 0⟩,
 ⟨some 83,none,.ext (.tmp 78) 1⟩,⟨some 84,none,.faddr 34 (.tmp 4)⟩,⟨none,none,.store 1 (.tmp 84) (.tmp 82)⟩,⟨some 5,none,.mov (.tmp 83)⟩]) (.seq (.ops [⟨some 86,none,.bin .eql (.tmp 21) (.const (.int .i64 7))⟩,⟨some 85,none,.mov (.tmp 86)⟩]) (.cond (.tmp 85) (.ops [⟨some 88,none,.faddr 1 (.tmp 1)⟩,⟨some 89,none,.load1 (.tmp 88)⟩,⟨some 90,none,.call 43 [(.tmp 89)]⟩,⟨some 87,none,.mov (.tmp 90)⟩,⟨some 91,none,.ext (.tmp 87) 0⟩,⟨some 92,none,.ext (.tmp 87) 1⟩,⟨some 93,none,.faddr 35 (.tmp 4)⟩,
 ⟨none,none,.store 1 (.tmp 93) (.tmp 91)⟩,⟨some 5,none,.mov (.tmp 92)⟩]) (.seq (.ops [⟨some 95,none,.bin .eql (.tmp 21) (.const (.int .i64 8))⟩,⟨some 94,none,.mov (.tmp 95)⟩]) (.cond (.tmp 94) (.ops [⟨some 97,none,.faddr 1 (.tmp 1)⟩,⟨some 98,none,.load1 (.tmp 97)⟩,⟨some 99,none,.call 44 [(.tmp 98)]⟩,⟨some 96,none,.mov (.tmp 99)⟩,⟨some 100,none,.ext (.tmp 96) 0⟩,⟨some 101,none,.ext (.tmp 96) 1⟩,⟨some 102,none,.faddr 36 (.tmp 4)⟩,⟨none,none,.store 2 (.tmp 102) (.tmp 100)⟩,
 ⟨some 5,none,.mov (.tmp 101)⟩])
 .skip)))))))))))))))))))) (.seq (.seq (.ops [⟨some 103,none,.mov (.tmp 5)⟩,⟨some 104,none,.bin .neq (.tmp 103) (.const (.int .i64 0))⟩]) (.cond (.tmp 104) (.seq (.ops [⟨some 105,none,.build opZ []⟩,⟨some 106,none,.mov (.tmp 5)⟩,⟨none,none,.store 38 (.tmp 2) (.tmp 105)⟩,⟨some 3,none,.mov (.tmp 106)⟩])
 .ret)
 .skip)) (.seq (.ops [⟨some 107,none,.loadN 38 (.tmp 4)⟩,⟨none,none,.store 38 (.tmp 2) (.tmp 107)⟩,⟨some 3,none,.mov (.const (.int .i64 0))⟩])
 .ret))))))))⟩
theorem t13:T 13=some c13:=by kernel_rfl
def c36:AFunc:=⟨67,1,[.inr (2,8,true),.inl 3],
 (.seq (.ops [⟨some 2,none,.alloc 35 [.int .i64 0,.int .i64 0,.bool false,.bool false,.int .u64 0,.int .u64 0,.int .i64 0,.int .u16 0]⟩,⟨some 3,none,.mov (.const (.int .i64 0))⟩]) (.seq (.seq (.ops [⟨some 7,none,.mov (.tmp 0)⟩,⟨some 8,none,.bin .eql (.tmp 7) (.const (.string ⟨⟨[]⟩⟩))⟩]) (.cond (.tmp 8) (.seq (.ops [⟨some 9,none,.build [.int .i64 0,.int .i64 0,.bool false,.bool false,.int .u64 0,.int .u64 0,.int .i64 0,.int .u16 0] []⟩,⟨none,none,.store 8 (.tmp 2) (.tmp 9)⟩,
 ⟨some 3,none,.mov (.const (.int .i64 4))⟩])
 .ret)
 .skip)) (.seq (.seq (.ops [⟨some 10,none,.mov (.tmp 0)⟩,⟨some 11,none,.idxS (.tmp 10) (.const (.int .i64 0))⟩,⟨some 12,none,.bin .quo (.tmp 11) (.const (.int .u8 16))⟩,⟨some 13,none,.bin .neq (.tmp 12) (.const (.int .u8 0))⟩]) (.cond (.tmp 13) (.seq (.ops [⟨some 14,none,.build [.int .i64 0,.int .i64 0,.bool false,.bool false,.int .u64 0,.int .u64 0,.int .i64 0,.int .u16 0] []⟩,⟨none,none,.store 8 (.tmp 2) (.tmp 14)⟩,⟨some 3,none,.mov (.const (.int .i64 7))⟩])
 .ret)
 .skip)) (.seq (.ops [⟨some 4,none,.mov (.const (.int .i64 (-1)))⟩]) (.seq (.seq (.ops [⟨some 5,none,.mov (.const (.int .i64 0))⟩]) (.block 0 (.loop (.seq (.seq (.ops [⟨some 15,none,.mov (.tmp 5)⟩,⟨some 16,none,.bin .lss (.tmp 15) (.const (.int .i64 5))⟩]) (.cond (.tmp 16)
 .skip (.exit 0))) (.seq (.block 1 (.seq (.ops [⟨some 19,none,.mov (.tmp 0)⟩,⟨some 20,none,.lenS (.tmp 19)⟩,⟨some 21,none,.mov (.tmp 5)⟩,⟨some 22,none,.call 64 [(.tmp 21)]⟩,⟨some 23,none,.bin .eql (.tmp 20) (.tmp 22)⟩]) (.cond (.tmp 23) (.ops [⟨some 24,none,.mov (.tmp 5)⟩,⟨some 4,none,.mov (.tmp 24)⟩])
 .skip))) (.ops [⟨some 17,none,.mov (.tmp 5)⟩,⟨some 18,none,.bin .add (.tmp 17) (.const (.int .i64 1))⟩,⟨some 5,none,.mov (.tmp 18)⟩])))))) (.seq (.seq (.ops [⟨some 25,none,.mov (.tmp 4)⟩,⟨some 26,none,.bin .lss (.tmp 25) (.const (.int .i64 0))⟩]) (.cond (.tmp 26) (.seq (.ops [⟨some 27,none,.build [.int .i64 0,.int .i64 0,.bool false,.bool false,.int .u64 0,.int .u64 0,.int .i64 0,.int .u16 0] []⟩,⟨none,none,.store 8 (.tmp 2) (.tmp 27)⟩,⟨some 3,none,.mov (.const (.int .i64 5))⟩])
 .ret)
 .skip)) (.seq (.seq (.ops [⟨some 28,none,.mov (.tmp 0)⟩,⟨some 29,none,.idxS (.tmp 28) (.const (.int .i64 1))⟩,⟨some 30,none,.bin .rem (.tmp 29) (.const (.int .u8 2))⟩,⟨some 31,none,.bin .eql (.tmp 30) (.const (.int .u8 0))⟩]) (.cond (.tmp 31) (.seq (.ops [⟨some 32,none,.build [.int .i64 0,.int .i64 0,.bool false,.bool false,.int .u64 0,.int .u64 0,.int .i64 0,.int .u16 0] []⟩,⟨none,none,.store 8 (.tmp 2) (.tmp 32)⟩,⟨some 3,none,.mov (.const (.int .i64 2))⟩])
 .ret)
 .skip)) (.seq (.ops [⟨some 33,none,.mov (.tmp 0)⟩,⟨some 34,none,.mov (.tmp 0)⟩,⟨some 35,none,.lenS (.tmp 34)⟩,⟨some 36,none,.bin .sub (.const (.int .i64 22)) (.tmp 35)⟩,⟨some 37,none,.mkS 5 1 1 [.int .u8 0] (.tmp 36) (.tmp 36)⟩,⟨some 38,none,.cvB2S (.tmp 37)⟩,⟨some 39,none,.bin .add (.tmp 33) (.tmp 38)⟩,⟨some 6,none,.mov (.tmp 39)⟩]) (.seq (.opsD [⟨some 40,none,.mov (.tmp 4)⟩,⟨some 41,none,.mov (.tmp 0)⟩,⟨some 42,none,.idxS (.tmp 41) (.const (.int .i64 0))⟩,
 ⟨some 43,none,.cvInt .i64 (.tmp 42)⟩,⟨some 44,none,.mov (.tmp 0)⟩,⟨some 45,none,.idxS (.tmp 44) (.const (.int .i64 1))⟩,⟨some 46,none,.bin .geq (.tmp 45) (.const (.int .u8 128))⟩,⟨some 47,none,.mov (.tmp 0)⟩,⟨some 48,none,.idxS (.tmp 47) (.const (.int .i64 1))⟩,⟨some 49,none,.bin .quo (.tmp 48) (.const (.int .u8 32))⟩,⟨some 50,none,.bin .rem (.tmp 49) (.const (.int .u8 2))⟩,⟨some 51,none,.bin .eql (.tmp 50) (.const (.int .u8 1))⟩,⟨some 52,none,.mov (.tmp 6)⟩,
 ⟨some 53,none,.sliceS (.tmp 52) (some (.const (.int .i64 2))) (some (.const (.int .i64 10)))⟩,⟨some 54,none,.call 65 [(.tmp 53)]⟩,⟨some 55,none,.mov (.tmp 6)⟩,⟨some 56,none,.sliceS (.tmp 55) (some (.const (.int .i64 10))) (some (.const (.int .i64 18)))⟩,⟨some 57,none,.call 65 [(.tmp 56)]⟩,⟨some 58,none,.mov (.tmp 6)⟩,⟨some 59,none,.sliceS (.tmp 58) (some (.const (.int .i64 18))) (some (.const (.int .i64 20)))⟩,⟨some 60,none,.call 65 [(.tmp 59)]⟩,⟨some 61,none,.cvInt .i64 (.tmp 60)⟩,
 ⟨some 62,none,.mov (.tmp 6)⟩,⟨some 63,none,.sliceS (.tmp 62) (some (.const (.int .i64 20))) (some (.const (.int .i64 22)))⟩,⟨some 64,none,.call 65 [(.tmp 63)]⟩,⟨some 65,none,.cvInt .u16 (.tmp 64)⟩,⟨some 66,none,.build [.int .i64 0,.int .i64 0,.bool false,.bool false,.int .u64 0,.int .u64 0,.int .i64 0,.int .u16 0] [(0,1,(.tmp 40)),(1,1,(.tmp 43)),(2,1,(.tmp 46)),(3,1,(.tmp 51)),(4,1,(.tmp 54)),(5,1,(.tmp 57)),(6,1,(.tmp 61)),(7,1,(.tmp 65))]⟩,⟨none,none,.store 8 (.tmp 2) (.tmp 66)⟩,
 ⟨some 3,none,.mov (.const (.int .i64 0))⟩] [])
 .ret)))))))))⟩
theorem t36:T 36=some c36:=by kernel_rfl
def c37:AFunc:=⟨61,1,[.inr (2,6,true),.inl 3],
 (.seq (.ops [⟨some 2,none,.alloc 38 [.int .i64 0,.bool false,.int .i64 0,.int .u32 0,.int .u32 0,.string ⟨⟨[]⟩⟩]⟩,⟨some 3,none,.mov (.const (.int .i64 0))⟩]) (.seq (.seq (.ops [⟨some 9,none,.mov (.tmp 0)⟩,⟨some 10,none,.bin .eql (.tmp 9) (.const (.string ⟨⟨[]⟩⟩))⟩]) (.cond (.tmp 10) (.seq (.ops [⟨some 11,none,.build [.int .i64 0,.bool false,.int .i64 0,.int .u32 0,.int .u32 0,.string ⟨⟨[]⟩⟩] []⟩,⟨none,none,.store 6 (.tmp 2) (.tmp 11)⟩,⟨some 3,none,.mov (.const (.int .i64 4))⟩])
 .ret)
 .skip)) (.seq (.seq (.ops [⟨some 12,none,.mov (.tmp 0)⟩,⟨some 13,none,.idxS (.tmp 12) (.const (.int .i64 0))⟩,⟨some 14,none,.bin .quo (.tmp 13) (.const (.int .u8 16))⟩,⟨some 15,none,.bin .neq (.tmp 14) (.const (.int .u8 1))⟩]) (.cond (.tmp 15) (.seq (.ops [⟨some 16,none,.build [.int .i64 0,.bool false,.int .i64 0,.int .u32 0,.int .u32 0,.string ⟨⟨[]⟩⟩] []⟩,⟨none,none,.store 6 (.tmp 2) (.tmp 16)⟩,⟨some 3,none,.mov (.const (.int .i64 7))⟩])
 .ret)
 .skip)) (.seq (.ops [⟨some 17,none,.mov (.tmp 0)⟩,⟨some 18,none,.build [.string ⟨⟨[]⟩⟩,.int .i64 0,.bool false] [(0,1,(.tmp 17))]⟩,⟨some 19,none,.box 152 3 (.tmp 18)⟩,⟨some 4,none,.mov (.tmp 19)⟩]) (.seq (.ops [⟨some 20,none,.mov (.tmp 4)⟩,⟨some 21,none,.call 66 [(.tmp 20),(.const (.int .i64 1))]⟩]) (.seq (.ops [⟨some 22,none,.mov (.tmp 0)⟩,⟨some 23,none,.idxS (.tmp 22) (.const (.int .i64 0))⟩,⟨some 24,none,.bin .rem (.tmp 23) (.const (.int .u8 2))⟩,
 ⟨some 25,none,.bin .eql (.tmp 24) (.const (.int .u8 1))⟩,⟨some 5,none,.mov (.tmp 25)⟩]) (.seq (.seq (.ops [⟨some 26,none,.mov (.tmp 0)⟩,⟨some 27,none,.lenS (.tmp 26)⟩]) (.block 0 (.seq (.ops [⟨some 29,none,.bin .eql (.tmp 27) (.const (.int .i64 10))⟩,⟨some 28,none,.mov (.tmp 29)⟩]) (.cond (.tmp 28) (.seq (.ops [⟨some 30,none,.mov (.tmp 4)⟩,⟨some 31,none,.call 67 [(.tmp 30),(.const (.int .i64 1))]⟩,⟨some 6,none,.mov (.tmp 31)⟩,⟨some 7,none,.mov (.const (.int .u32 0))⟩,
 ⟨some 8,none,.mov (.const (.int .u32 0))⟩]) (.seq (.ops [⟨some 32,none,.mov (.tmp 4)⟩,⟨some 33,none,.call 67 [(.tmp 32),(.const (.int .i64 4))]⟩,⟨some 34,none,.cvInt .u32 (.tmp 33)⟩,⟨some 7,none,.mov (.tmp 34)⟩]) (.seq (.ops [⟨some 35,none,.mov (.tmp 4)⟩,⟨some 36,none,.call 67 [(.tmp 35),(.const (.int .i64 4))]⟩,⟨some 37,none,.cvInt .u32 (.tmp 36)⟩,⟨some 8,none,.mov (.tmp 37)⟩]) (.seq (.ops [⟨some 38,none,.mov (.tmp 5)⟩,⟨some 39,none,.mov (.tmp 6)⟩,⟨some 40,none,.cvInt .i64 (.tmp 39)⟩,
 ⟨some 41,none,.mov (.tmp 7)⟩,⟨some 42,none,.mov (.tmp 8)⟩,⟨some 43,none,.build [.int .i64 0,.bool false,.int .i64 0,.int .u32 0,.int .u32 0,.string ⟨⟨[]⟩⟩] [(0,1,(.const (.int .i64 0))),(1,1,(.tmp 38)),(2,1,(.tmp 40)),(3,1,(.tmp 41)),(4,1,(.tmp 42))]⟩,⟨none,none,.store 6 (.tmp 2) (.tmp 43)⟩,⟨some 3,none,.mov (.const (.int .i64 0))⟩])
 .ret)))) (.seq (.ops [⟨some 45,none,.bin .eql (.tmp 27) (.const (.int .i64 14))⟩,⟨some 44,none,.mov (.tmp 45)⟩]) (.cond (.tmp 44) (.seq (.opsD [⟨some 46,none,.mov (.tmp 5)⟩,⟨some 47,none,.mov (.tmp 0)⟩,⟨some 48,none,.idxS (.tmp 47) (.const (.int .i64 1))⟩,⟨some 49,none,.cvInt .i64 (.tmp 48)⟩,⟨some 50,none,.mov (.tmp 0)⟩,⟨some 51,none,.sliceS (.tmp 50) (some (.const (.int .i64 2))) (some (.const (.int .i64 10)))⟩,⟨some 52,none,.mov (.tmp 0)⟩,⟨some 53,none,.call 68 [(.tmp 52)]⟩,
 ⟨some 54,none,.build [.int .i64 0,.bool false,.int .i64 0,.int .u32 0,.int .u32 0,.string ⟨⟨[]⟩⟩] [(0,1,(.const (.int .i64 1))),(1,1,(.tmp 46)),(2,1,(.tmp 49)),(5,1,(.tmp 51)),(4,1,(.tmp 53))]⟩,⟨none,none,.store 6 (.tmp 2) (.tmp 54)⟩,⟨some 3,none,.mov (.const (.int .i64 0))⟩] [])
 .ret) (.seq (.ops [⟨some 56,none,.bin .eql (.tmp 27) (.const (.int .i64 22))⟩,⟨some 55,none,.mov (.tmp 56)⟩]) (.cond (.tmp 55) (.seq (.ops [⟨some 57,none,.mov (.tmp 0)⟩,⟨some 58,none,.sliceS (.tmp 57) (some (.const (.int .i64 2))) none⟩,⟨some 59,none,.build [.int .i64 0,.bool false,.int .i64 0,.int .u32 0,.int .u32 0,.string ⟨⟨[]⟩⟩] [(0,1,(.const (.int .i64 2))),(5,1,(.tmp 58))]⟩,⟨none,none,.store 6 (.tmp 2) (.tmp 59)⟩,⟨some 3,none,.mov (.const (.int .i64 0))⟩])
 .ret)
 .skip)))))))) (.seq (.ops [⟨some 60,none,.build [.int .i64 0,.bool false,.int .i64 0,.int .u32 0,.int .u32 0,.string ⟨⟨[]⟩⟩] []⟩,⟨none,none,.store 6 (.tmp 2) (.tmp 60)⟩,⟨some 3,none,.mov (.const (.int .i64 5))⟩])
 .ret))))))))⟩
theorem t37:T 37=some c37:=by kernel_rfl
def c38d:ACode :=
 (.seq (.seq (.ops [⟨some 145,none,.faddr 9 (.tmp 5)⟩,⟨some 146,none,.load1 (.tmp 145)⟩]) (.cond (.tmp 146) (.ops [⟨some 147,none,.mov (.tmp 0)⟩,⟨some 148,none,.mov (.tmp 6)⟩,⟨some 149,none,.mov (.tmp 6)⟩,⟨some 150,none,.bin .add (.tmp 149) (.const (.int .i64 2))⟩,⟨some 151,none,.sliceS (.tmp 147) (some (.tmp 148)) (some (.tmp 150))⟩,⟨some 152,none,.call 65 [(.tmp 151)]⟩,⟨some 153,none,.cvInt .u16 (.tmp 152)⟩,⟨some 154,none,.faddr 10 (.tmp 5)⟩,⟨none,none,.store 1 (.tmp 154) (.tmp 153)⟩])
 .skip)) (.seq (.ops [⟨some 155,none,.loadN 11 (.tmp 5)⟩,⟨none,none,.store 11 (.tmp 2) (.tmp 155)⟩,⟨some 3,none,.mov (.const (.int .i64 0))⟩])
 .ret))
def c38e:ACode :=
 (.seq (.seq (.ops [⟨some 111,none,.faddr 4 (.tmp 5)⟩,⟨some 112,none,.load1 (.tmp 111)⟩]) (.cond (.tmp 112) (.seq (.ops [⟨some 113,none,.mov (.tmp 0)⟩,⟨some 114,none,.mov (.tmp 7)⟩,⟨some 115,none,.mov (.tmp 7)⟩,⟨some 116,none,.faddr 5 (.tmp 5)⟩,⟨some 117,none,.load1 (.tmp 116)⟩,⟨some 118,none,.call 69 [(.tmp 117)]⟩,⟨some 119,none,.bin .add (.tmp 115) (.tmp 118)⟩,⟨some 120,none,.sliceS (.tmp 113) (some (.tmp 114)) (some (.tmp 119))⟩,⟨some 121,none,.call 65 [(.tmp 120)]⟩,
 ⟨some 122,none,.faddr 6 (.tmp 5)⟩,⟨none,none,.store 1 (.tmp 122) (.tmp 121)⟩]) (.seq (.ops [⟨some 123,none,.mov (.tmp 7)⟩,⟨some 124,none,.faddr 5 (.tmp 5)⟩,⟨some 125,none,.load1 (.tmp 124)⟩,⟨some 126,none,.call 69 [(.tmp 125)]⟩,⟨some 127,none,.bin .add (.tmp 123) (.tmp 126)⟩,⟨some 7,none,.mov (.tmp 127)⟩]) (.seq (.ops [⟨some 128,none,.mov (.tmp 0)⟩,⟨some 129,none,.mov (.tmp 7)⟩,⟨some 130,none,.mov (.tmp 7)⟩,⟨some 131,none,.bin .add (.tmp 130) (.const (.int .i64 4))⟩,
 ⟨some 132,none,.sliceS (.tmp 128) (some (.tmp 129)) (some (.tmp 131))⟩,⟨some 133,none,.call 65 [(.tmp 132)]⟩,⟨some 134,none,.cvInt .u32 (.tmp 133)⟩,⟨some 135,none,.faddr 7 (.tmp 5)⟩,⟨none,none,.store 1 (.tmp 135) (.tmp 134)⟩]) (.ops [⟨some 136,none,.mov (.tmp 0)⟩,⟨some 137,none,.mov (.tmp 7)⟩,⟨some 138,none,.bin .add (.tmp 137) (.const (.int .i64 4))⟩,⟨some 139,none,.mov (.tmp 7)⟩,⟨some 140,none,.bin .add (.tmp 139) (.const (.int .i64 6))⟩,
 ⟨some 141,none,.sliceS (.tmp 136) (some (.tmp 138)) (some (.tmp 140))⟩,⟨some 142,none,.call 65 [(.tmp 141)]⟩,⟨some 143,none,.cvInt .i64 (.tmp 142)⟩,⟨some 144,none,.faddr 8 (.tmp 5)⟩,⟨none,none,.store 1 (.tmp 144) (.tmp 143)⟩]))))
 .skip))
 c38d)
def c38c:ACode :=
 (.seq (.ops [⟨some 7,none,.mov (.const (.int .i64 2))⟩]) (.seq (.seq (.ops [⟨some 94,none,.faddr 1 (.tmp 5)⟩,⟨some 95,none,.load1 (.tmp 94)⟩]) (.cond (.tmp 95) (.seq (.ops [⟨some 96,none,.mov (.tmp 0)⟩,⟨some 97,none,.mov (.tmp 7)⟩,⟨some 98,none,.mov (.tmp 7)⟩,⟨some 99,none,.faddr 2 (.tmp 5)⟩,⟨some 100,none,.load1 (.tmp 99)⟩,⟨some 101,none,.call 69 [(.tmp 100)]⟩,⟨some 102,none,.bin .add (.tmp 98) (.tmp 101)⟩,⟨some 103,none,.sliceS (.tmp 96) (some (.tmp 97)) (some (.tmp 102))⟩,
 ⟨some 104,none,.call 65 [(.tmp 103)]⟩,⟨some 105,none,.faddr 3 (.tmp 5)⟩,⟨none,none,.store 1 (.tmp 105) (.tmp 104)⟩]) (.ops [⟨some 106,none,.mov (.tmp 7)⟩,⟨some 107,none,.faddr 2 (.tmp 5)⟩,⟨some 108,none,.load1 (.tmp 107)⟩,⟨some 109,none,.call 69 [(.tmp 108)]⟩,⟨some 110,none,.bin .add (.tmp 106) (.tmp 109)⟩,⟨some 7,none,.mov (.tmp 110)⟩]))
 .skip))
 c38e))
def c38b:ACode :=
 (.seq (.seq (.ops [⟨some 69,none,.mov (.tmp 0)⟩,⟨some 70,none,.lenS (.tmp 69)⟩,⟨some 71,none,.mov (.tmp 6)⟩,⟨some 72,none,.bin .lss (.tmp 70) (.tmp 71)⟩]) (.cond (.tmp 72) (.seq (.ops [⟨some 73,none,.build [.bool false,.bool false,.bool false,.int .u64 0,.bool false,.bool false,.int .u64 0,.int .u32 0,.int .i64 0,.bool false,.int .u16 0] []⟩,⟨none,none,.store 11 (.tmp 2) (.tmp 73)⟩,⟨some 3,none,.mov (.const (.int .i64 4))⟩])
 .ret)
 .skip)) (.seq (.ops [⟨some 74,none,.faddr 4 (.tmp 5)⟩,⟨some 75,none,.load1 (.tmp 74)⟩,⟨some 76,none,.mov (.tmp 75)⟩,⟨some 77,some (76,true),.mov (.tmp 0)⟩,⟨some 78,some (76,true),.lenS (.tmp 77)⟩,⟨some 79,some (76,true),.mov (.tmp 6)⟩,⟨some 80,some (76,true),.bin .add (.tmp 79) (.const (.int .i64 2))⟩,⟨some 81,some (76,true),.bin .eql (.tmp 78) (.tmp 80)⟩,⟨some 82,none,.pick (.tmp 76) (.tmp 81) (.const (.bool false))⟩,⟨some 83,none,.faddr 9 (.tmp 5)⟩,⟨none,none,.store 1 (.tmp 83) (.tmp 82)⟩])
 (.seq (.seq (.ops [⟨some 84,none,.mov (.tmp 0)⟩,⟨some 85,none,.lenS (.tmp 84)⟩,⟨some 86,none,.mov (.tmp 6)⟩,⟨some 87,none,.bin .gtr (.tmp 85) (.tmp 86)⟩,⟨some 88,none,.mov (.tmp 87)⟩,⟨some 89,some (88,true),.faddr 9 (.tmp 5)⟩,⟨some 90,some (88,true),.load1 (.tmp 89)⟩,⟨some 91,some (88,true),.un .not (.tmp 90)⟩,⟨some 92,none,.pick (.tmp 88) (.tmp 91) (.const (.bool false))⟩]) (.cond (.tmp 92) (.seq
 (.ops [⟨some 93,none,.build [.bool false,.bool false,.bool false,.int .u64 0,.bool false,.bool false,.int .u64 0,.int .u32 0,.int .i64 0,.bool false,.int .u16 0] []⟩,⟨none,none,.store 11 (.tmp 2) (.tmp 93)⟩,⟨some 3,none,.mov (.const (.int .i64 5))⟩])
 .ret)
 .skip))
 c38c)))
def c38f:ACode :=
 (.seq (.seq (.ops [⟨some 51,none,.faddr 4 (.tmp 5)⟩,⟨some 52,none,.load1 (.tmp 51)⟩]) (.cond (.tmp 52) (.seq (.ops [⟨some 53,none,.mov (.tmp 4)⟩,⟨some 54,none,.bin .quo (.tmp 53) (.const (.int .u8 8))⟩,⟨some 55,none,.bin .rem (.tmp 54) (.const (.int .u8 2))⟩,⟨some 56,none,.bin .eql (.tmp 55) (.const (.int .u8 1))⟩,⟨some 57,none,.faddr 5 (.tmp 5)⟩,⟨none,none,.store 1 (.tmp 57) (.tmp 56)⟩]) (.seq (.ops [⟨some 58,none,.mov (.tmp 4)⟩,⟨some 59,none,.bin .quo (.tmp 58) (.const (.int .u8 16))⟩,
 ⟨some 60,none,.bin .rem (.tmp 59) (.const (.int .u8 2))⟩,⟨some 61,none,.bin .eql (.tmp 60) (.const (.int .u8 1))⟩,⟨some 62,none,.faddr 0 (.tmp 5)⟩,⟨none,none,.store 1 (.tmp 62) (.tmp 61)⟩]) (.ops [⟨some 63,none,.mov (.tmp 6)⟩,⟨some 64,none,.faddr 5 (.tmp 5)⟩,⟨some 65,none,.load1 (.tmp 64)⟩,⟨some 66,none,.call 69 [(.tmp 65)]⟩,⟨some 67,none,.bin .add (.tmp 63) (.tmp 66)⟩,⟨some 68,none,.bin .add (.tmp 67) (.const (.int .i64 6))⟩,⟨some 6,none,.mov (.tmp 68)⟩])))
 .skip))
 c38b)
def c38a:ACode :=
 (.seq (.ops [⟨some 6,none,.mov (.const (.int .i64 2))⟩]) (.seq (.seq (.ops [⟨some 39,none,.faddr 1 (.tmp 5)⟩,⟨some 40,none,.load1 (.tmp 39)⟩]) (.cond (.tmp 40) (.seq (.ops [⟨some 41,none,.mov (.tmp 4)⟩,⟨some 42,none,.bin .quo (.tmp 41) (.const (.int .u8 2))⟩,⟨some 43,none,.bin .rem (.tmp 42) (.const (.int .u8 2))⟩,⟨some 44,none,.bin .eql (.tmp 43) (.const (.int .u8 1))⟩,⟨some 45,none,.faddr 2 (.tmp 5)⟩,⟨none,none,.store 1 (.tmp 45) (.tmp 44)⟩]) (.ops [⟨some 46,none,.mov (.tmp 6)⟩,
 ⟨some 47,none,.faddr 2 (.tmp 5)⟩,⟨some 48,none,.load1 (.tmp 47)⟩,⟨some 49,none,.call 69 [(.tmp 48)]⟩,⟨some 50,none,.bin .add (.tmp 46) (.tmp 49)⟩,⟨some 6,none,.mov (.tmp 50)⟩]))
 .skip))
 c38f))
def c38:AFunc:=⟨156,1,[.inr (2,11,true),.inl 3],
 (.seq (.ops [⟨some 2,none,.alloc 40 [.bool false,.bool false,.bool false,.int .u64 0,.bool false,.bool false,.int .u64 0,.int .u32 0,.int .i64 0,.bool false,.int .u16 0]⟩,⟨some 3,none,.mov (.const (.int .i64 0))⟩]) (.seq (.seq (.ops [⟨some 8,none,.mov (.tmp 0)⟩,⟨some 9,none,.bin .eql (.tmp 8) (.const (.string ⟨⟨[]⟩⟩))⟩]) (.cond (.tmp 9) (.seq
 (.ops [⟨some 10,none,.build [.bool false,.bool false,.bool false,.int .u64 0,.bool false,.bool false,.int .u64 0,.int .u32 0,.int .i64 0,.bool false,.int .u16 0] []⟩,⟨none,none,.store 11 (.tmp 2) (.tmp 10)⟩,⟨some 3,none,.mov (.const (.int .i64 4))⟩])
 .ret)
 .skip)) (.seq (.seq (.ops [⟨some 11,none,.mov (.tmp 0)⟩,⟨some 12,none,.idxS (.tmp 11) (.const (.int .i64 0))⟩,⟨some 13,none,.bin .quo (.tmp 12) (.const (.int .u8 16))⟩,⟨some 14,none,.bin .neq (.tmp 13) (.const (.int .u8 2))⟩]) (.cond (.tmp 14) (.seq (.ops [⟨some 15,none,.build [.bool false,.bool false,.bool false,.int .u64 0,.bool false,.bool false,.int .u64 0,.int .u32 0,.int .i64 0,.bool false,.int .u16 0] []⟩,⟨none,none,.store 11 (.tmp 2) (.tmp 15)⟩,
 ⟨some 3,none,.mov (.const (.int .i64 7))⟩])
 .ret)
 .skip)) (.seq (.seq (.ops [⟨some 16,none,.mov (.tmp 0)⟩,⟨some 17,none,.lenS (.tmp 16)⟩,⟨some 18,none,.bin .lss (.tmp 17) (.const (.int .i64 2))⟩]) (.cond (.tmp 18) (.seq (.ops [⟨some 19,none,.build [.bool false,.bool false,.bool false,.int .u64 0,.bool false,.bool false,.int .u64 0,.int .u32 0,.int .i64 0,.bool false,.int .u16 0] []⟩,⟨none,none,.store 11 (.tmp 2) (.tmp 19)⟩,⟨some 3,none,.mov (.const (.int .i64 4))⟩])
 .ret)
 .skip)) (.seq (.ops [⟨some 20,none,.mov (.tmp 0)⟩,⟨some 21,none,.idxS (.tmp 20) (.const (.int .i64 1))⟩,⟨some 4,none,.mov (.tmp 21)⟩]) (.seq (.ops [⟨some 22,none,.mov (.tmp 4)⟩,⟨some 23,none,.bin .rem (.tmp 22) (.const (.int .u8 2))⟩,⟨some 24,none,.bin .eql (.tmp 23) (.const (.int .u8 1))⟩,⟨some 25,none,.mov (.tmp 4)⟩,⟨some 26,none,.bin .quo (.tmp 25) (.const (.int .u8 4))⟩,⟨some 27,none,.bin .rem (.tmp 26) (.const (.int .u8 2))⟩,⟨some 28,none,.bin .eql (.tmp 27) (.const (.int .u8 1))⟩,
 ⟨some 29,none,.build [.bool false,.bool false,.bool false,.int .u64 0,.bool false,.bool false,.int .u64 0,.int .u32 0,.int .i64 0,.bool false,.int .u16 0] [(1,1,(.tmp 24)),(4,1,(.tmp 28))]⟩,⟨some 5,none,.alloc 40 [.bool false,.bool false,.bool false,.int .u64 0,.bool false,.bool false,.int .u64 0,.int .u32 0,.int .i64 0,.bool false,.int .u16 0]⟩,⟨none,none,.store 11 (.tmp 5) (.tmp 29)⟩]) (.seq (.seq (.ops [⟨some 30,none,.faddr 1 (.tmp 5)⟩,⟨some 31,none,.load1 (.tmp 30)⟩,
 ⟨some 32,none,.un .not (.tmp 31)⟩,⟨some 33,none,.mov (.tmp 32)⟩,⟨some 34,some (33,true),.faddr 4 (.tmp 5)⟩,⟨some 35,some (33,true),.load1 (.tmp 34)⟩,⟨some 36,some (33,true),.un .not (.tmp 35)⟩,⟨some 37,none,.pick (.tmp 33) (.tmp 36) (.const (.bool false))⟩]) (.cond (.tmp 37) (.seq (.ops [⟨some 38,none,.build [.bool false,.bool false,.bool false,.int .u64 0,.bool false,.bool false,.int .u64 0,.int .u32 0,.int .i64 0,.bool false,.int .u16 0] []⟩,⟨none,none,.store 11 (.tmp 2) (.tmp 38)⟩,
 ⟨some 3,none,.mov (.const (.int .i64 5))⟩])
 .ret)
 .skip))
 c38a)))))))⟩
theorem t38:T 38=some c38:=by kernel_rfl
def c39g:ACode :=
 (.seq (.seq (.ops [⟨some 31,none,.mov (.tmp 0)⟩,⟨some 32,none,.lenS (.tmp 31)⟩,⟨some 33,none,.mov (.tmp 6)⟩,⟨some 34,none,.bin .add (.const (.int .i64 2)) (.tmp 33)⟩,⟨some 35,none,.mov (.tmp 7)⟩,⟨some 36,none,.bin .add (.tmp 34) (.tmp 35)⟩,⟨some 37,none,.mov (.tmp 5)⟩,⟨some 38,none,.bin .add (.tmp 36) (.tmp 37)⟩,⟨some 39,none,.bin .neq (.tmp 32) (.tmp 38)⟩]) (.cond (.tmp 39) (.exit 3)
 .skip)) (.seq (.ops [⟨some 40,none,.mov (.tmp 0)⟩,⟨some 41,none,.mov (.tmp 6)⟩,⟨some 42,none,.bin .add (.const (.int .i64 2)) (.tmp 41)⟩,⟨some 43,none,.build [.string ⟨⟨[]⟩⟩,.int .i64 0,.bool false] [(0,1,(.tmp 40)),(1,1,(.tmp 42))]⟩,⟨some 44,none,.box 152 3 (.tmp 43)⟩,⟨some 8,none,.mov (.tmp 44)⟩]) (.seq (.ops [⟨some 45,none,.mov (.tmp 8)⟩,⟨some 46,none,.mov (.tmp 7)⟩,⟨some 47,none,.call 67 [(.tmp 45),(.tmp 46)]⟩,⟨some 9,none,.mov (.tmp 47)⟩]) (.seq (.opsD [⟨some 48,none,.mov (.tmp 4)⟩,
 ⟨some 49,none,.mov (.tmp 0)⟩,⟨some 50,none,.idxS (.tmp 49) (.const (.int .i64 1))⟩,⟨some 51,none,.cvInt .i64 (.tmp 50)⟩,⟨some 52,none,.mov (.tmp 0)⟩,⟨some 53,none,.mov (.tmp 6)⟩,⟨some 54,none,.bin .add (.const (.int .i64 2)) (.tmp 53)⟩,⟨some 55,none,.sliceS (.tmp 52) (some (.const (.int .i64 2))) (some (.tmp 54))⟩,⟨some 56,none,.mov (.tmp 7)⟩,⟨some 57,none,.bin .eql (.tmp 56) (.const (.int .i64 2))⟩,⟨some 58,none,.mov (.tmp 9)⟩,⟨some 59,none,.cvInt .i64 (.tmp 58)⟩,⟨some 60,none,.mov (.tmp 0)⟩,
 ⟨some 61,none,.mov (.tmp 6)⟩,⟨some 62,none,.bin .add (.const (.int .i64 2)) (.tmp 61)⟩,⟨some 63,none,.mov (.tmp 7)⟩,⟨some 64,none,.bin .add (.tmp 62) (.tmp 63)⟩,⟨some 65,none,.sliceS (.tmp 60) (some (.tmp 64)) none⟩,⟨some 66,none,.build [.bool false,.int .i64 0,.string ⟨⟨[]⟩⟩,.bool false,.int .i64 0,.string ⟨⟨[]⟩⟩] [(0,1,(.tmp 48)),(1,1,(.tmp 51)),(2,1,(.tmp 55)),(3,1,(.tmp 57)),(4,1,(.tmp 59)),(5,1,(.tmp 65))]⟩,⟨none,none,.store 6 (.tmp 2) (.tmp 66)⟩,
 ⟨some 3,none,.mov (.const (.int .i64 0))⟩] [])
 .ret))))
def c39i:ACode :=
 (.seq (.ops [⟨some 7,none,.mov (.const (.int .i64 0))⟩]) (.block 2 (.loop (.seq (.seq (.ops [⟨some 27,none,.mov (.tmp 7)⟩,⟨some 28,none,.bin .leq (.tmp 27) (.const (.int .i64 2))⟩]) (.cond (.tmp 28)
 .skip (.exit 2))) (.seq (.block 3
 c39g) (.ops [⟨some 29,none,.mov (.tmp 7)⟩,⟨some 30,none,.bin .add (.tmp 29) (.const (.int .i64 2))⟩,⟨some 7,none,.mov (.tmp 30)⟩]))))))
def c39o:ACode :=
 (.seq (.seq (.ops [⟨some 6,none,.mov (.const (.int .i64 4))⟩]) (.block 0 (.loop (.seq (.seq (.ops [⟨some 23,none,.mov (.tmp 6)⟩,⟨some 24,none,.bin .leq (.tmp 23) (.const (.int .i64 16))⟩]) (.cond (.tmp 24)
 .skip (.exit 0))) (.seq (.block 1
 c39i) (.ops [⟨some 25,none,.mov (.tmp 6)⟩,⟨some 26,none,.bin .add (.tmp 25) (.const (.int .i64 12))⟩,⟨some 6,none,.mov (.tmp 26)⟩])))))) (.seq (.ops [⟨some 67,none,.build [.bool false,.int .i64 0,.string ⟨⟨[]⟩⟩,.bool false,.int .i64 0,.string ⟨⟨[]⟩⟩] []⟩,⟨none,none,.store 6 (.tmp 2) (.tmp 67)⟩,⟨some 3,none,.mov (.const (.int .i64 5))⟩])
 .ret))
def c39:AFunc:=⟨68,1,[.inr (2,6,true),.inl 3],
 (.seq (.ops [⟨some 2,none,.alloc 42 [.bool false,.int .i64 0,.string ⟨⟨[]⟩⟩,.bool false,.int .i64 0,.string ⟨⟨[]⟩⟩]⟩,⟨some 3,none,.mov (.const (.int .i64 0))⟩]) (.seq (.seq (.ops [⟨some 10,none,.mov (.tmp 0)⟩,⟨some 11,none,.bin .eql (.tmp 10) (.const (.string ⟨⟨[]⟩⟩))⟩]) (.cond (.tmp 11) (.seq (.ops [⟨some 12,none,.build [.bool false,.int .i64 0,.string ⟨⟨[]⟩⟩,.bool false,.int .i64 0,.string ⟨⟨[]⟩⟩] []⟩,⟨none,none,.store 6 (.tmp 2) (.tmp 12)⟩,⟨some 3,none,.mov (.const (.int .i64 4))⟩])
 .ret)
 .skip)) (.seq (.seq (.ops [⟨some 13,none,.mov (.tmp 0)⟩,⟨some 14,none,.idxS (.tmp 13) (.const (.int .i64 0))⟩,⟨some 15,none,.bin .quo (.tmp 14) (.const (.int .u8 16))⟩,⟨some 16,none,.bin .neq (.tmp 15) (.const (.int .u8 3))⟩]) (.cond (.tmp 16) (.seq (.ops [⟨some 17,none,.build [.bool false,.int .i64 0,.string ⟨⟨[]⟩⟩,.bool false,.int .i64 0,.string ⟨⟨[]⟩⟩] []⟩,⟨none,none,.store 6 (.tmp 2) (.tmp 17)⟩,⟨some 3,none,.mov (.const (.int .i64 7))⟩])
 .ret)
 .skip)) (.seq (.ops [⟨some 18,none,.mov (.tmp 0)⟩,⟨some 19,none,.idxS (.tmp 18) (.const (.int .i64 0))⟩,⟨some 20,none,.bin .rem (.tmp 19) (.const (.int .u8 2))⟩,⟨some 21,none,.bin .eql (.tmp 20) (.const (.int .u8 1))⟩,⟨some 4,none,.mov (.tmp 21)⟩]) (.seq (.ops [⟨some 5,none,.mov (.const (.int .i64 8))⟩]) (.seq (.seq (.ops [⟨some 22,none,.mov (.tmp 4)⟩]) (.cond (.tmp 22) (.ops [⟨some 5,none,.mov (.const (.int .i64 0))⟩])
 .skip))
 c39o))))))⟩
theorem t39:T 39=some c39:=by kernel_rfl
def c40:AFunc:=⟨24,1,[.inr (2,1,true),.inl 3],
 (.seq (.ops [⟨some 2,none,.alloc 44 [.string ⟨⟨[]⟩⟩]⟩,⟨some 3,none,.mov (.const (.int .i64 0))⟩]) (.seq (.seq (.ops [⟨some 4,none,.mov (.tmp 0)⟩,⟨some 5,none,.bin .eql (.tmp 4) (.const (.string ⟨⟨[]⟩⟩))⟩]) (.cond (.tmp 5) (.seq (.ops [⟨some 6,none,.build [.string ⟨⟨[]⟩⟩] []⟩,⟨none,none,.store 1 (.tmp 2) (.tmp 6)⟩,⟨some 3,none,.mov (.const (.int .i64 4))⟩])
 .ret)
 .skip)) (.seq (.seq (.ops [⟨some 7,none,.mov (.tmp 0)⟩,⟨some 8,none,.idxS (.tmp 7) (.const (.int .i64 0))⟩,⟨some 9,none,.bin .quo (.tmp 8) (.const (.int .u8 16))⟩,⟨some 10,none,.bin .neq (.tmp 9) (.const (.int .u8 4))⟩]) (.cond (.tmp 10) (.seq (.ops [⟨some 11,none,.build [.string ⟨⟨[]⟩⟩] []⟩,⟨none,none,.store 1 (.tmp 2) (.tmp 11)⟩,⟨some 3,none,.mov (.const (.int .i64 7))⟩])
 .ret)
 .skip)) (.seq (.seq (.ops [⟨some 12,none,.mov (.tmp 0)⟩,⟨some 13,none,.lenS (.tmp 12)⟩,⟨some 14,none,.bin .lss (.tmp 13) (.const (.int .i64 2))⟩,⟨some 15,none,.mov (.tmp 14)⟩,⟨some 16,some (15,false),.mov (.tmp 0)⟩,⟨some 17,some (15,false),.lenS (.tmp 16)⟩,⟨some 18,some (15,false),.bin .gtr (.tmp 17) (.const (.int .i64 38))⟩,⟨some 19,none,.pick (.tmp 15) (.const (.bool true)) (.tmp 18)⟩]) (.cond (.tmp 19) (.seq (.ops [⟨some 20,none,.build [.string ⟨⟨[]⟩⟩] []⟩,
 ⟨none,none,.store 1 (.tmp 2) (.tmp 20)⟩,⟨some 3,none,.mov (.const (.int .i64 5))⟩])
 .ret)
 .skip)) (.seq (.ops [⟨some 21,none,.mov (.tmp 0)⟩,⟨some 22,none,.sliceS (.tmp 21) (some (.const (.int .i64 1))) none⟩,⟨some 23,none,.build [.string ⟨⟨[]⟩⟩] [(0,1,(.tmp 22))]⟩,⟨none,none,.store 1 (.tmp 2) (.tmp 23)⟩,⟨some 3,none,.mov (.const (.int .i64 0))⟩])
 .ret)))))⟩
theorem t40:T 40=some c40:=by kernel_rfl
def c41:AFunc:=⟨17,1,[.inr (2,1,true),.inl 3],
 (.seq (.ops [⟨some 2,none,.alloc 46 [.bool false]⟩,⟨some 3,none,.mov (.const (.int .i64 0))⟩]) (.seq (.ops [⟨some 5,none,.mov (.tmp 0)⟩,⟨some 6,none,.call 70 [(.tmp 5),(.const (.int .i64 5)),(.const (.int .i64 1))]⟩,⟨some 4,none,.mov (.tmp 6)⟩]) (.seq (.ops [⟨some 7,none,.mov (.tmp 4)⟩,⟨some 8,none,.bin .eql (.tmp 7) (.const (.int .i64 0))⟩,⟨some 9,none,.mov (.tmp 8)⟩,⟨some 10,some (9,true),.mov (.tmp 0)⟩,⟨some 11,some (9,true),.idxS (.tmp 10) (.const (.int .i64 0))⟩,
 ⟨some 12,some (9,true),.bin .rem (.tmp 11) (.const (.int .u8 2))⟩,⟨some 13,some (9,true),.bin .eql (.tmp 12) (.const (.int .u8 1))⟩,⟨some 14,none,.pick (.tmp 9) (.tmp 13) (.const (.bool false))⟩,⟨some 15,none,.build [.bool false] [(0,1,(.tmp 14))]⟩,⟨some 16,none,.mov (.tmp 4)⟩,⟨none,none,.store 1 (.tmp 2) (.tmp 15)⟩,⟨some 3,none,.mov (.tmp 16)⟩])
 .ret)))⟩
theorem t41:T 41=some c41:=by kernel_rfl
def c42:AFunc:=⟨15,1,[.inr (2,1,true),.inl 3],
 (.seq (.ops [⟨some 2,none,.alloc 48 [.int .u64 0]⟩,⟨some 3,none,.mov (.const (.int .i64 0))⟩]) (.seq (.ops [⟨some 5,none,.mov (.tmp 0)⟩,⟨some 6,none,.call 70 [(.tmp 5),(.const (.int .i64 6)),(.const (.int .i64 10))]⟩,⟨some 4,none,.mov (.tmp 6)⟩]) (.seq (.seq (.ops [⟨some 7,none,.mov (.tmp 4)⟩,⟨some 8,none,.bin .neq (.tmp 7) (.const (.int .i64 0))⟩]) (.cond (.tmp 8) (.seq (.ops [⟨some 9,none,.build [.int .u64 0] []⟩,⟨some 10,none,.mov (.tmp 4)⟩,⟨none,none,.store 1 (.tmp 2) (.tmp 9)⟩,
 ⟨some 3,none,.mov (.tmp 10)⟩])
 .ret)
 .skip)) (.seq (.ops [⟨some 11,none,.mov (.tmp 0)⟩,⟨some 12,none,.sliceS (.tmp 11) (some (.const (.int .i64 2))) none⟩,⟨some 13,none,.call 65 [(.tmp 12)]⟩,⟨some 14,none,.build [.int .u64 0] [(0,1,(.tmp 13))]⟩,⟨none,none,.store 1 (.tmp 2) (.tmp 14)⟩,⟨some 3,none,.mov (.const (.int .i64 0))⟩])
 .ret))))⟩
theorem t42:T 42=some c42:=by kernel_rfl
def c43:AFunc:=⟨15,1,[.inr (2,1,true),.inl 3],
 (.seq (.ops [⟨some 2,none,.alloc 50 [.int .u64 0]⟩,⟨some 3,none,.mov (.const (.int .i64 0))⟩]) (.seq (.ops [⟨some 5,none,.mov (.tmp 0)⟩,⟨some 6,none,.call 70 [(.tmp 5),(.const (.int .i64 7)),(.const (.int .i64 10))]⟩,⟨some 4,none,.mov (.tmp 6)⟩]) (.seq (.seq (.ops [⟨some 7,none,.mov (.tmp 4)⟩,⟨some 8,none,.bin .neq (.tmp 7) (.const (.int .i64 0))⟩]) (.cond (.tmp 8) (.seq (.ops [⟨some 9,none,.build [.int .u64 0] []⟩,⟨some 10,none,.mov (.tmp 4)⟩,⟨none,none,.store 1 (.tmp 2) (.tmp 9)⟩,
 ⟨some 3,none,.mov (.tmp 10)⟩])
 .ret)
 .skip)) (.seq (.ops [⟨some 11,none,.mov (.tmp 0)⟩,⟨some 12,none,.sliceS (.tmp 11) (some (.const (.int .i64 2))) none⟩,⟨some 13,none,.call 65 [(.tmp 12)]⟩,⟨some 14,none,.build [.int .u64 0] [(0,1,(.tmp 13))]⟩,⟨none,none,.store 1 (.tmp 2) (.tmp 14)⟩,⟨some 3,none,.mov (.const (.int .i64 0))⟩])
 .ret))))⟩
theorem t43:T 43=some c43:=by kernel_rfl
def c44:AFunc:=⟨19,1,[.inr (2,2,true),.inl 3],
 (.seq (.ops [⟨some 2,none,.alloc 52 [.int .i64 0,.int .i64 0]⟩,⟨some 3,none,.mov (.const (.int .i64 0))⟩]) (.seq (.ops [⟨some 5,none,.mov (.tmp 0)⟩,⟨some 6,none,.call 70 [(.tmp 5),(.const (.int .i64 8)),(.const (.int .i64 2))]⟩,⟨some 4,none,.mov (.tmp 6)⟩]) (.seq (.seq (.ops [⟨some 7,none,.mov (.tmp 4)⟩,⟨some 8,none,.bin .neq (.tmp 7) (.const (.int .i64 0))⟩]) (.cond (.tmp 8) (.seq (.ops [⟨some 9,none,.build [.int .i64 0,.int .i64 0] []⟩,⟨some 10,none,.mov (.tmp 4)⟩,
 ⟨none,none,.store 2 (.tmp 2) (.tmp 9)⟩,⟨some 3,none,.mov (.tmp 10)⟩])
 .ret)
 .skip)) (.seq (.opsD [⟨some 11,none,.mov (.tmp 0)⟩,⟨some 12,none,.idxS (.tmp 11) (.const (.int .i64 0))⟩,⟨some 13,none,.cvInt .i64 (.tmp 12)⟩,⟨some 14,none,.bin .rem (.tmp 13) (.const (.int .i64 16))⟩,⟨some 15,none,.mov (.tmp 0)⟩,⟨some 16,none,.idxS (.tmp 15) (.const (.int .i64 1))⟩,⟨some 17,none,.cvInt .i64 (.tmp 16)⟩,⟨some 18,none,.build [.int .i64 0,.int .i64 0] [(0,1,(.tmp 14)),(1,1,(.tmp 17))]⟩,⟨none,none,.store 2 (.tmp 2) (.tmp 18)⟩,⟨some 3,none,.mov (.const (.int .i64 0))⟩] [])
 .ret))))⟩
theorem t44:T 44=some c44:=by kernel_rfl
def c65:AFunc:=⟨19,1,[.inl 2],
 (.seq (.ops [⟨some 2,none,.mov (.const (.int .u64 0))⟩]) (.seq (.ops [⟨some 3,none,.mov (.const (.int .u64 0))⟩]) (.seq (.seq (.ops [⟨some 4,none,.mov (.const (.int .i64 0))⟩]) (.block 0 (.loop (.seq (.seq (.ops [⟨some 5,none,.mov (.tmp 4)⟩,⟨some 6,none,.mov (.tmp 0)⟩,⟨some 7,none,.lenS (.tmp 6)⟩,⟨some 8,none,.bin .lss (.tmp 5) (.tmp 7)⟩]) (.cond (.tmp 8)
 .skip (.exit 0))) (.seq (.block 1 (.ops [⟨some 11,none,.mov (.tmp 3)⟩,⟨some 12,none,.bin .mul (.tmp 11) (.const (.int .u64 256))⟩,⟨some 13,none,.mov (.tmp 0)⟩,⟨some 14,none,.mov (.tmp 4)⟩,⟨some 15,none,.idxS (.tmp 13) (.tmp 14)⟩,⟨some 16,none,.cvInt .u64 (.tmp 15)⟩,⟨some 17,none,.bin .add (.tmp 12) (.tmp 16)⟩,⟨some 3,none,.mov (.tmp 17)⟩])) (.ops [⟨some 9,none,.mov (.tmp 4)⟩,⟨some 10,none,.bin .add (.tmp 9) (.const (.int .i64 1))⟩,⟨some 4,none,.mov (.tmp 10)⟩])))))) (.seq
 (.ops [⟨some 18,none,.mov (.tmp 3)⟩,⟨some 2,none,.mov (.tmp 18)⟩])
 .ret))))⟩
theorem t65:T 65=some c65:=by kernel_rfl
def c66:AFunc:=⟨54,2,[.inl 4],
 (.seq (.ops [⟨some 4,none,.mov (.const (.string ⟨⟨[]⟩⟩))⟩]) (.seq (.seq (.opsD [⟨some 5,none,.mov (.tmp 0)⟩,⟨some 6,none,.nilchk (.tmp 5)⟩,⟨some 7,none,.faddr 2 (.tmp 6)⟩,⟨some 8,none,.load1 (.tmp 7)⟩,⟨some 9,none,.mov (.tmp 8)⟩,⟨some 10,some (9,false),.mov (.tmp 1)⟩,⟨some 11,some (9,false),.bin .lss (.tmp 10) (.const (.int .i64 0))⟩,⟨some 12,none,.pick (.tmp 9) (.const (.bool true)) (.tmp 11)⟩,⟨some 13,none,.mov (.tmp 12)⟩,⟨some 14,some (13,false),.mov (.tmp 1)⟩,
 ⟨some 15,some (13,false),.mov (.tmp 0)⟩,⟨some 16,some (13,false),.nilchk (.tmp 15)⟩,⟨some 17,some (13,false),.faddr 0 (.tmp 16)⟩,⟨some 18,some (13,false),.load1 (.tmp 17)⟩,⟨some 19,some (13,false),.lenS (.tmp 18)⟩,⟨some 20,some (13,false),.mov (.tmp 0)⟩,⟨some 21,some (13,false),.nilchk (.tmp 20)⟩,⟨some 22,some (13,false),.faddr 1 (.tmp 21)⟩,⟨some 23,some (13,false),.load1 (.tmp 22)⟩,⟨some 24,some (13,false),.bin .sub (.tmp 19) (.tmp 23)⟩,⟨some 25,some (13,false),.bin .gtr (.tmp 14) (.tmp 24)⟩,
 ⟨some 26,none,.pick (.tmp 13) (.const (.bool true)) (.tmp 25)⟩] []) (.cond (.tmp 26) (.seq (.ops [⟨some 27,none,.mov (.tmp 0)⟩,⟨some 28,none,.nilchk (.tmp 27)⟩,⟨some 29,none,.faddr 2 (.tmp 28)⟩,⟨none,none,.store 1 (.tmp 29) (.const (.bool true))⟩]) (.seq (.ops [⟨some 4,none,.mov (.const (.string ⟨⟨[]⟩⟩))⟩])
 .ret))
 .skip)) (.seq (.ops [⟨some 30,none,.mov (.tmp 0)⟩,⟨some 31,none,.mov (.tmp 0)⟩,⟨some 32,none,.nilchk (.tmp 31)⟩,⟨some 33,none,.faddr 1 (.tmp 32)⟩,⟨some 34,none,.load1 (.tmp 33)⟩,⟨some 35,none,.mov (.tmp 1)⟩,⟨some 36,none,.bin .add (.tmp 34) (.tmp 35)⟩,⟨some 37,none,.nilchk (.tmp 30)⟩,⟨some 38,none,.faddr 1 (.tmp 37)⟩,⟨none,none,.store 1 (.tmp 38) (.tmp 36)⟩]) (.seq (.opsD [⟨some 39,none,.mov (.tmp 0)⟩,⟨some 40,none,.nilchk (.tmp 39)⟩,⟨some 41,none,.faddr 0 (.tmp 40)⟩,
 ⟨some 42,none,.load1 (.tmp 41)⟩,⟨some 43,none,.mov (.tmp 0)⟩,⟨some 44,none,.nilchk (.tmp 43)⟩,⟨some 45,none,.faddr 1 (.tmp 44)⟩,⟨some 46,none,.load1 (.tmp 45)⟩,⟨some 47,none,.mov (.tmp 1)⟩,⟨some 48,none,.bin .sub (.tmp 46) (.tmp 47)⟩,⟨some 49,none,.mov (.tmp 0)⟩,⟨some 50,none,.nilchk (.tmp 49)⟩,⟨some 51,none,.faddr 1 (.tmp 50)⟩,⟨some 52,none,.load1 (.tmp 51)⟩,⟨some 53,none,.sliceS (.tmp 42) (some (.tmp 48)) (some (.tmp 52))⟩,⟨some 4,none,.mov (.tmp 53)⟩] [])
 .ret))))⟩
theorem t66:T 66=some c66:=by kernel_rfl
def c67:AFunc:=⟨25,2,[.inl 4],
 (.seq (.ops [⟨some 4,none,.mov (.const (.int .u64 0))⟩]) (.seq (.ops [⟨some 8,none,.mov (.tmp 0)⟩,⟨some 9,none,.mov (.tmp 1)⟩,⟨some 10,none,.call 66 [(.tmp 8),(.tmp 9)]⟩,⟨some 5,none,.mov (.tmp 10)⟩]) (.seq (.ops [⟨some 6,none,.mov (.const (.int .u64 0))⟩]) (.seq (.seq (.ops [⟨some 7,none,.mov (.const (.int .i64 0))⟩]) (.block 0 (.loop (.seq (.seq (.ops [⟨some 11,none,.mov (.tmp 7)⟩,⟨some 12,none,.mov (.tmp 5)⟩,⟨some 13,none,.lenS (.tmp 12)⟩,⟨some 14,none,.bin .lss (.tmp 11) (.tmp 13)⟩])
 (.cond (.tmp 14)
 .skip (.exit 0))) (.seq (.block 1 (.ops [⟨some 17,none,.mov (.tmp 6)⟩,⟨some 18,none,.bin .mul (.tmp 17) (.const (.int .u64 256))⟩,⟨some 19,none,.mov (.tmp 5)⟩,⟨some 20,none,.mov (.tmp 7)⟩,⟨some 21,none,.idxS (.tmp 19) (.tmp 20)⟩,⟨some 22,none,.cvInt .u64 (.tmp 21)⟩,⟨some 23,none,.bin .add (.tmp 18) (.tmp 22)⟩,⟨some 6,none,.mov (.tmp 23)⟩])) (.ops [⟨some 15,none,.mov (.tmp 7)⟩,⟨some 16,none,.bin .add (.tmp 15) (.const (.int .i64 1))⟩,⟨some 7,none,.mov (.tmp 16)⟩])))))) (.seq
 (.ops [⟨some 24,none,.mov (.tmp 6)⟩,⟨some 4,none,.mov (.tmp 24)⟩])
 .ret)))))⟩
theorem t67:T 67=some c67:=by kernel_rfl
def c68:AFunc:=⟨13,1,[.inl 2],
 (.seq (.ops [⟨some 2,none,.mov (.const (.int .u32 0))⟩]) (.seq (.ops [⟨some 4,none,.mov (.tmp 0)⟩,⟨some 5,none,.mov (.tmp 0)⟩,⟨some 6,none,.lenS (.tmp 5)⟩,⟨some 7,none,.bin .sub (.tmp 6) (.const (.int .i64 4))⟩,⟨some 8,none,.build [.string ⟨⟨[]⟩⟩,.int .i64 0,.bool false] [(0,1,(.tmp 4)),(1,1,(.tmp 7))]⟩,⟨some 9,none,.box 152 3 (.tmp 8)⟩,⟨some 3,none,.mov (.tmp 9)⟩]) (.seq (.ops [⟨some 10,none,.mov (.tmp 3)⟩,⟨some 11,none,.call 67 [(.tmp 10),(.const (.int .i64 4))]⟩,
 ⟨some 12,none,.cvInt .u32 (.tmp 11)⟩,⟨some 2,none,.mov (.tmp 12)⟩])
 .ret)))⟩
theorem t68:T 68=some c68:=by kernel_rfl
def c70:AFunc:=⟨23,3,[.inl 6],
 (.seq (.ops [⟨some 6,none,.mov (.const (.int .i64 0))⟩]) (.seq (.seq (.ops [⟨some 7,none,.mov (.tmp 0)⟩,⟨some 8,none,.bin .eql (.tmp 7) (.const (.string ⟨⟨[]⟩⟩))⟩]) (.cond (.tmp 8) (.seq (.ops [⟨some 6,none,.mov (.const (.int .i64 4))⟩])
 .ret)
 .skip)) (.seq (.seq (.ops [⟨some 9,none,.mov (.tmp 0)⟩,⟨some 10,none,.idxS (.tmp 9) (.const (.int .i64 0))⟩,⟨some 11,none,.cvInt .i64 (.tmp 10)⟩,⟨some 12,none,.bin .quo (.tmp 11) (.const (.int .i64 16))⟩,⟨some 13,none,.mov (.tmp 1)⟩,⟨some 14,none,.bin .neq (.tmp 12) (.tmp 13)⟩]) (.cond (.tmp 14) (.seq (.ops [⟨some 6,none,.mov (.const (.int .i64 7))⟩])
 .ret)
 .skip)) (.seq (.seq (.ops [⟨some 15,none,.mov (.tmp 0)⟩,⟨some 16,none,.lenS (.tmp 15)⟩,⟨some 17,none,.mov (.tmp 2)⟩,⟨some 18,none,.bin .lss (.tmp 16) (.tmp 17)⟩]) (.cond (.tmp 18) (.seq (.ops [⟨some 6,none,.mov (.const (.int .i64 4))⟩])
 .ret)
 .skip)) (.seq (.seq (.ops [⟨some 19,none,.mov (.tmp 0)⟩,⟨some 20,none,.lenS (.tmp 19)⟩,⟨some 21,none,.mov (.tmp 2)⟩,⟨some 22,none,.bin .gtr (.tmp 20) (.tmp 21)⟩]) (.cond (.tmp 22) (.seq (.ops [⟨some 6,none,.mov (.const (.int .i64 5))⟩])
 .ret)
 .skip)) (.seq (.ops [⟨some 6,none,.mov (.const (.int .i64 0))⟩])
 .ret))))))⟩
theorem t70:T 70=some c70:=by kernel_rfl
end Go.Proofs.YtigknpfjhegkgaaGreatDoor
