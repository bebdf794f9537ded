/- A text of this claim. -/
import Derived.Test.YtigknpfjhegkgaaGreatDoorZo
import Derived.KernelRfl
namespace Go.Proofs.YtigknpfjhegkgaaGreatDoor
open Go Go.AS
set_option maxRecDepth 100000
def c3l:ACode :=
 (.seq (.seq (.opsD [⟨some 51,none,.loadN 2 (.tmp 3)⟩,⟨some 52,none,.faddr 1 (.tmp 3)⟩,⟨some 53,none,.load1 (.tmp 52)⟩,⟨some 54,none,.build [.int .i64 0,.string ⟨⟨[]⟩⟩] [(0,1,(.const (.int .i64 30))),(1,1,(.tmp 53))]⟩,⟨some 55,none,.loadN 2 (.tmp 7)⟩,⟨some 56,none,.mov (.tmp 9)⟩,⟨some 57,none,.cvB2S (.tmp 56)⟩,⟨some 58,none,.build [.int .i64 0,.string ⟨⟨[]⟩⟩] [(0,1,(.const (.int .i64 30))),(1,1,(.tmp 57))]⟩,⟨some 59,none,.faddr 1 (.tmp 7)⟩,⟨some 60,none,.load1 (.tmp 59)⟩,
 ⟨some 61,none,.iaddrA 2 1 (.tmp 5) (.const (.int .i64 0))⟩,⟨some 62,none,.load1 (.tmp 61)⟩,⟨some 63,none,.cvInt .i64 (.tmp 62)⟩,⟨some 64,none,.faddr 1 (.tmp 7)⟩,⟨some 65,none,.load1 (.tmp 64)⟩,⟨some 66,none,.lenS (.tmp 65)⟩,⟨some 67,none,.bin .rem (.tmp 63) (.tmp 66)⟩,⟨some 68,none,.sliceS (.tmp 60) none (some (.tmp 67))⟩,⟨some 69,none,.build [.int .i64 0,.string ⟨⟨[]⟩⟩] [(0,1,(.const (.int .i64 30))),(1,1,(.tmp 68))]⟩,⟨some 70,none,.faddr 0 (.tmp 3)⟩,⟨some 71,none,.load1 (.tmp 70)⟩,
 ⟨some 72,none,.faddr 1 (.tmp 7)⟩,⟨some 73,none,.load1 (.tmp 72)⟩,⟨some 74,none,.build [.int .i64 0,.string ⟨⟨[]⟩⟩] [(0,1,(.tmp 71)),(1,1,(.tmp 73))]⟩,⟨some 75,none,.build [.int .i64 0,.string ⟨⟨[]⟩⟩,.int .i64 0,.string ⟨⟨[]⟩⟩,.int .i64 0,.string ⟨⟨[]⟩⟩,.int .i64 0,.string ⟨⟨[]⟩⟩,.int .i64 0,.string ⟨⟨[]⟩⟩,.int .i64 0,.string ⟨⟨[]⟩⟩] [(0,2,(.tmp 51)),(2,2,(.tmp 54)),(4,2,(.tmp 55)),(6,2,(.tmp 58)),(8,2,(.tmp 69)),(10,2,(.tmp 74))]⟩,⟨some 76,none,.mov (.const (.int .i64 0))⟩] []) (.block 0 (.loop
 (.seq (.ops [⟨some 77,none,.bin .lss (.tmp 76) (.const (.int .i64 6))⟩]) (.seq (.cond (.tmp 77)
 .skip (.exit 0)) (.seq (.block 1 (.seq (.ops [⟨some 78,none,.idxN 6 2 (.tmp 75) (.tmp 76)⟩,⟨some 11,none,.alloc 23 [.int .i64 0,.string ⟨⟨[]⟩⟩]⟩,⟨none,none,.store 2 (.tmp 11) (.tmp 78)⟩]) (.seq (.ops [⟨some 80,none,.loadN 2 (.tmp 11)⟩,⟨some 81,none,.call 12 [(.tmp 80)]⟩,⟨some 79,none,.mov (.tmp 81)⟩,⟨some 82,none,.ext (.tmp 79) 0⟩,⟨some 83,none,.ext (.tmp 79) 1⟩,⟨some 12,none,.alloc 54 opZ⟩,⟨none,none,.store 38 (.tmp 12) (.tmp 82)⟩,⟨some 13,none,.mov (.tmp 83)⟩]) (.seq
 (.ops [⟨some 85,none,.loadN 2 (.tmp 11)⟩,⟨some 86,none,.call 13 [(.tmp 85)]⟩,⟨some 84,none,.mov (.tmp 86)⟩,⟨some 87,none,.ext (.tmp 84) 0⟩,⟨some 88,none,.ext (.tmp 84) 1⟩,⟨some 14,none,.alloc 54 opZ⟩,⟨none,none,.store 38 (.tmp 14) (.tmp 87)⟩,⟨some 15,none,.mov (.tmp 88)⟩]) (.seq (.ops [⟨some 89,none,.loadN 38 (.tmp 12)⟩,⟨some 90,none,.loadN 38 (.tmp 14)⟩,⟨some 91,none,.eqF true opL (.tmp 89) (.tmp 90)⟩,⟨some 92,none,.mov (.tmp 91)⟩,⟨some 93,some (92,false),.mov (.tmp 13)⟩,
 ⟨some 94,some (92,false),.mov (.tmp 15)⟩,⟨some 95,some (92,false),.bin .neq (.tmp 93) (.tmp 94)⟩,⟨some 96,none,.pick (.tmp 92) (.const (.bool true)) (.tmp 95)⟩]) (.cond (.tmp 96) (.seq (.ops [⟨some 6,none,.mov (.const (.bool false))⟩])
 .ret)
 .skip)))))) (.ops [⟨some 97,none,.bin .add (.tmp 76) (.const (.int .i64 1))⟩,⟨some 76,none,.mov (.tmp 97)⟩]))))))) (.seq (.ops [⟨some 98,none,.call 14 []⟩,⟨some 6,none,.mov (.tmp 98)⟩])
 .ret))
def c3:AFunc:=⟨99,3,[.inl 6],
 (.seq (.ops [⟨some 3,none,.box 23 2 (.tmp 0)⟩,⟨some 4,none,.box 29 34 (.tmp 1)⟩,⟨some 5,none,.box 30 2 (.tmp 2)⟩,⟨some 6,none,.mov (.const (.bool false))⟩]) (.seq (.ops [⟨some 16,none,.faddr 1 (.tmp 3)⟩,⟨some 17,none,.load1 (.tmp 16)⟩,⟨some 18,none,.faddr 1 (.tmp 3)⟩,⟨some 19,none,.load1 (.tmp 18)⟩,⟨some 20,none,.lenS (.tmp 19)⟩,⟨some 21,none,.min [(.tmp 20),(.const (.int .i64 60))]⟩,⟨some 22,none,.sliceS (.tmp 17) none (some (.tmp 21))⟩,⟨some 23,none,.faddr 1 (.tmp 3)⟩,
 ⟨none,none,.store 1 (.tmp 23) (.tmp 22)⟩]) (.seq (.ops [⟨some 25,none,.loadN 34 (.tmp 4)⟩,⟨some 26,none,.call 11 [(.tmp 25)]⟩,⟨some 27,none,.call 10 [(.tmp 26)]⟩,⟨some 24,none,.mov (.tmp 27)⟩,⟨some 28,none,.ext (.tmp 24) 0⟩,⟨some 29,none,.ext (.tmp 24) 1⟩,⟨some 7,none,.alloc 23 [.int .i64 0,.string ⟨⟨[]⟩⟩]⟩,⟨none,none,.store 2 (.tmp 7) (.tmp 28)⟩,⟨some 8,none,.mov (.tmp 29)⟩]) (.seq (.seq (.ops [⟨some 30,none,.mov (.tmp 8)⟩,⟨some 31,none,.bin .neq (.tmp 30) (.const (.int .i64 0))⟩,
 ⟨some 32,none,.mov (.tmp 31)⟩,⟨some 33,some (32,false),.faddr 1 (.tmp 7)⟩,⟨some 34,some (32,false),.load1 (.tmp 33)⟩,⟨some 35,some (32,false),.lenS (.tmp 34)⟩,⟨some 36,some (32,false),.bin .eql (.tmp 35) (.const (.int .i64 0))⟩,⟨some 37,none,.pick (.tmp 32) (.const (.bool true)) (.tmp 36)⟩]) (.cond (.tmp 37) (.seq (.ops [⟨some 6,none,.mov (.const (.bool false))⟩])
 .ret)
 .skip)) (.seq (.ops [⟨some 38,none,.faddr 1 (.tmp 7)⟩,⟨some 39,none,.load1 (.tmp 38)⟩,⟨some 40,none,.cvS2B 5 (.tmp 39)⟩,⟨some 9,none,.mov (.tmp 40)⟩]) (.seq (.opsD [⟨some 41,none,.mov (.tmp 9)⟩,⟨some 42,none,.iaddrA 2 1 (.tmp 5) (.const (.int .i64 0))⟩,⟨some 43,none,.load1 (.tmp 42)⟩,⟨some 44,none,.cvInt .i64 (.tmp 43)⟩,⟨some 45,none,.mov (.tmp 9)⟩,⟨some 46,none,.lenV (.tmp 45)⟩,⟨some 47,none,.bin .rem (.tmp 44) (.tmp 46)⟩,⟨some 48,none,.iaddrA 2 1 (.tmp 5) (.const (.int .i64 1))⟩,
 ⟨some 49,none,.load1 (.tmp 48)⟩,⟨some 50,none,.iaddrS 1 (.tmp 41) (.tmp 47)⟩,⟨none,none,.store 1 (.tmp 50) (.tmp 49)⟩] [])
 c3l))))))⟩
theorem t3:T 3=some c3:=by kernel_rfl
def c4t:ACode :=
 (.seq (.seq (.opsD [⟨some 131,none,.mov (.tmp 0)⟩,⟨some 132,none,.mov (.tmp 0)⟩,⟨some 133,none,.mov (.tmp 0)⟩,⟨some 134,none,.lenS (.tmp 133)⟩,⟨some 135,none,.bin .quo (.tmp 134) (.const (.int .i64 4))⟩,⟨some 136,none,.bin .mul (.tmp 135) (.const (.int .i64 4))⟩,⟨some 137,none,.sliceS (.tmp 132) none (some (.tmp 136))⟩,⟨some 138,none,.mov (.tmp 17)⟩,⟨some 139,none,.mov (.tmp 19)⟩,⟨some 140,none,.cvB2S (.tmp 139)⟩,⟨some 141,none,.mov (.tmp 20)⟩,
 ⟨some 142,none,.build [.string ⟨⟨[]⟩⟩,.string ⟨⟨[]⟩⟩,.string ⟨⟨[]⟩⟩,.string ⟨⟨[]⟩⟩,.string ⟨⟨[]⟩⟩] [(0,1,(.tmp 131)),(1,1,(.tmp 137)),(2,1,(.tmp 138)),(3,1,(.tmp 140)),(4,1,(.tmp 141))]⟩,⟨some 143,none,.mov (.const (.int .i64 0))⟩] []) (.block 6 (.loop (.seq (.ops [⟨some 144,none,.bin .lss (.tmp 143) (.const (.int .i64 5))⟩]) (.seq (.cond (.tmp 144)
 .skip (.exit 6)) (.seq (.block 7 (.seq (.ops [⟨some 145,none,.idx1 5 1 (.tmp 142) (.tmp 143)⟩,⟨some 23,none,.mov (.tmp 145)⟩]) (.seq (.ops [⟨some 147,none,.mov (.tmp 23)⟩,⟨some 148,none,.call 19 [(.tmp 147)]⟩,⟨some 146,none,.mov (.tmp 148)⟩,⟨some 149,none,.ext (.tmp 146) 0⟩,⟨some 150,none,.ext (.tmp 146) 1⟩,⟨some 24,none,.mov (.tmp 149)⟩,⟨some 25,none,.mov (.tmp 150)⟩]) (.seq (.ops [⟨some 152,none,.mov (.tmp 23)⟩,⟨some 153,none,.call 20 [(.tmp 152)]⟩,⟨some 151,none,.mov (.tmp 153)⟩,
 ⟨some 154,none,.ext (.tmp 151) 0⟩,⟨some 155,none,.ext (.tmp 151) 1⟩,⟨some 26,none,.mov (.tmp 154)⟩,⟨some 27,none,.mov (.tmp 155)⟩]) (.seq (.ops [⟨some 156,none,.mov (.tmp 25)⟩,⟨some 157,none,.mov (.tmp 27)⟩,⟨some 158,none,.bin .neq (.tmp 156) (.tmp 157)⟩,⟨some 159,none,.mov (.tmp 158)⟩,⟨some 160,some (159,false),.mov (.tmp 24)⟩,⟨some 161,some (159,false),.mov (.tmp 26)⟩,⟨some 162,some (159,false),.call 21 [(.tmp 160),(.tmp 161)]⟩,⟨some 163,some (159,false),.un .not (.tmp 162)⟩,
 ⟨some 164,none,.pick (.tmp 159) (.const (.bool true)) (.tmp 163)⟩]) (.cond (.tmp 164) (.seq (.ops [⟨some 8,none,.mov (.const (.bool false))⟩])
 .ret)
 .skip)))))) (.ops [⟨some 165,none,.bin .add (.tmp 143) (.const (.int .i64 1))⟩,⟨some 143,none,.mov (.tmp 165)⟩]))))))) (.seq (.ops [⟨some 166,none,.call 14 []⟩,⟨some 8,none,.mov (.tmp 166)⟩])
 .ret))
def c4s:ACode :=
 (.seq (.opsD [⟨some 116,none,.iaddrA 2 1 (.tmp 7) (.const (.int .i64 1))⟩,⟨some 117,none,.load1 (.tmp 116)⟩,⟨some 118,none,.cvInt .i64 (.tmp 117)⟩,⟨some 119,none,.bin .rem (.tmp 118) (.const (.int .i64 254))⟩,⟨some 120,none,.bin .add (.const (.int .i64 2)) (.tmp 119)⟩,⟨some 121,none,.mov (.tmp 0)⟩,⟨some 122,none,.mov (.tmp 0)⟩,⟨some 123,none,.lenS (.tmp 122)⟩,⟨some 124,none,.min [(.tmp 123),(.const (.int .i64 10))]⟩,⟨some 125,none,.sliceS (.tmp 121) none (some (.tmp 124))⟩,
 ⟨some 126,none,.build [.int .i64 0,.string ⟨⟨[]⟩⟩] [(0,1,(.tmp 120)),(1,1,(.tmp 125))]⟩,⟨some 127,none,.bslice 23 1 [.int .i64 0,.string ⟨⟨[]⟩⟩] [(0,2,(.tmp 126))]⟩,⟨some 128,none,.call 18 [(.tmp 127)]⟩,⟨some 115,none,.mov (.tmp 128)⟩,⟨some 129,none,.ext (.tmp 115) 0⟩,⟨some 130,none,.ext (.tmp 115) 1⟩,⟨some 20,none,.mov (.tmp 129)⟩,⟨some 21,none,.mov (.tmp 130)⟩] [])
 c4t)
def c4r:ACode :=
 (.seq (.ops [⟨some 100,none,.mov (.tmp 17)⟩,⟨some 101,none,.cvS2B 5 (.tmp 100)⟩,⟨some 19,none,.mov (.tmp 101)⟩]) (.seq (.seq (.ops [⟨some 102,none,.mov (.tmp 19)⟩,⟨some 103,none,.lenV (.tmp 102)⟩,⟨some 104,none,.bin .gtr (.tmp 103) (.const (.int .i64 0))⟩]) (.cond (.tmp 104) (.opsD [⟨some 105,none,.mov (.tmp 19)⟩,⟨some 106,none,.iaddrA 2 1 (.tmp 7) (.const (.int .i64 0))⟩,⟨some 107,none,.load1 (.tmp 106)⟩,⟨some 108,none,.cvInt .i64 (.tmp 107)⟩,⟨some 109,none,.mov (.tmp 19)⟩,
 ⟨some 110,none,.lenV (.tmp 109)⟩,⟨some 111,none,.bin .rem (.tmp 108) (.tmp 110)⟩,⟨some 112,none,.iaddrA 2 1 (.tmp 7) (.const (.int .i64 1))⟩,⟨some 113,none,.load1 (.tmp 112)⟩,⟨some 114,none,.iaddrS 1 (.tmp 105) (.tmp 111)⟩,⟨none,none,.store 1 (.tmp 114) (.tmp 113)⟩] [])
 .skip))
 c4s))
def c4q:ACode :=
 (.seq (.ops [⟨some 17,none,.mov (.const (.string ⟨⟨[]⟩⟩))⟩]) (.seq (.seq (.ops [⟨some 83,none,.mov (.tmp 9)⟩,⟨some 84,none,.lenV (.tmp 83)⟩,⟨some 18,none,.mov (.tmp 84)⟩]) (.block 4 (.loop (.seq (.seq (.ops [⟨some 85,none,.mov (.tmp 18)⟩,⟨some 86,none,.bin .geq (.tmp 85) (.const (.int .i64 0))⟩,⟨some 87,none,.mov (.tmp 86)⟩,⟨some 88,some (87,true),.mov (.tmp 17)⟩,⟨some 89,some (87,true),.bin .eql (.tmp 88) (.const (.string ⟨⟨[]⟩⟩))⟩,
 ⟨some 90,none,.pick (.tmp 87) (.tmp 89) (.const (.bool false))⟩]) (.cond (.tmp 90)
 .skip (.exit 4))) (.seq (.block 5 (.ops [⟨some 94,none,.mov (.tmp 9)⟩,⟨some 95,none,.mov (.tmp 18)⟩,⟨some 96,none,.sliceV 38 (.tmp 94) none (some (.tmp 95)) none⟩,⟨some 97,none,.call 17 [(.tmp 96)]⟩,⟨some 93,none,.mov (.tmp 97)⟩,⟨some 98,none,.ext (.tmp 93) 0⟩,⟨some 99,none,.ext (.tmp 93) 1⟩,⟨some 17,none,.mov (.tmp 98)⟩])) (.ops [⟨some 91,none,.mov (.tmp 18)⟩,⟨some 92,none,.bin .sub (.tmp 91) (.const (.int .i64 1))⟩,⟨some 18,none,.mov (.tmp 92)⟩]))))))
 c4r))
def c4p:ACode :=
 (.seq (.seq (.opsD [⟨some 53,none,.mov (.tmp 9)⟩,⟨some 54,none,.bslice 54 0 [] []⟩,⟨some 55,none,.mov (.tmp 9)⟩,⟨some 56,none,.append 54 38 288 (.tmp 54) (.tmp 55)⟩,⟨some 57,none,.loadN 38 (.tmp 6)⟩,⟨some 58,none,.bslice 54 1 opZ [(0,38,(.tmp 57))]⟩,⟨some 59,none,.append 54 38 288 (.tmp 56) (.tmp 58)⟩,⟨some 60,none,.build [.slice none 0 0,.slice none 0 0] [(0,1,(.tmp 53)),(1,1,(.tmp 59))]⟩,⟨some 61,none,.mov (.const (.int .i64 0))⟩] [(4,3),(4,4)]) (.block 2 (.loop (.seq
 (.ops [⟨some 62,none,.bin .lss (.tmp 61) (.const (.int .i64 2))⟩]) (.seq (.cond (.tmp 62)
 .skip (.exit 2)) (.seq (.block 3 (.seq (.ops [⟨some 63,none,.idx1 2 1 (.tmp 60) (.tmp 61)⟩,⟨some 12,none,.mov (.tmp 63)⟩]) (.seq (.ops [⟨some 65,none,.mov (.tmp 12)⟩,⟨some 66,none,.call 16 [(.tmp 65)]⟩,⟨some 64,none,.mov (.tmp 66)⟩,⟨some 67,none,.ext (.tmp 64) 0⟩,⟨some 68,none,.ext (.tmp 64) 1⟩,⟨some 13,none,.mov (.tmp 67)⟩,⟨some 14,none,.mov (.tmp 68)⟩]) (.seq (.ops [⟨some 70,none,.mov (.tmp 12)⟩,⟨some 71,none,.call 17 [(.tmp 70)]⟩,⟨some 69,none,.mov (.tmp 71)⟩,
 ⟨some 72,none,.ext (.tmp 69) 0⟩,⟨some 73,none,.ext (.tmp 69) 1⟩,⟨some 15,none,.mov (.tmp 72)⟩,⟨some 16,none,.mov (.tmp 73)⟩]) (.seq (.ops [⟨some 74,none,.mov (.tmp 13)⟩,⟨some 75,none,.mov (.tmp 15)⟩,⟨some 76,none,.bin .neq (.tmp 74) (.tmp 75)⟩,⟨some 77,none,.mov (.tmp 76)⟩,⟨some 78,some (77,false),.mov (.tmp 14)⟩,⟨some 79,some (77,false),.mov (.tmp 16)⟩,⟨some 80,some (77,false),.bin .neq (.tmp 78) (.tmp 79)⟩,⟨some 81,none,.pick (.tmp 77) (.const (.bool true)) (.tmp 80)⟩]) (.cond (.tmp 81) (.seq
 (.ops [⟨some 8,none,.mov (.const (.bool false))⟩])
 .ret)
 .skip)))))) (.ops [⟨some 82,none,.bin .add (.tmp 61) (.const (.int .i64 1))⟩,⟨some 61,none,.mov (.tmp 82)⟩])))))))
 c4q)
def c4l:ACode :=
 (.seq (.ops [⟨some 10,none,.mov (.const (.int .i64 0))⟩]) (.block 0 (.loop (.seq (.seq (.ops [⟨some 35,none,.mov (.tmp 10)⟩,⟨some 36,none,.mov (.tmp 1)⟩,⟨some 37,none,.lenV (.tmp 36)⟩,⟨some 38,none,.bin .lss (.tmp 35) (.tmp 37)⟩,⟨some 39,none,.mov (.tmp 38)⟩,⟨some 40,some (39,true),.mov (.tmp 10)⟩,⟨some 41,some (39,true),.bin .lss (.tmp 40) (.const (.int .i64 8))⟩,⟨some 42,none,.pick (.tmp 39) (.tmp 41) (.const (.bool false))⟩]) (.cond (.tmp 42)
 .skip (.exit 0))) (.seq (.block 1 (.ops [⟨some 45,none,.mov (.tmp 9)⟩,⟨some 46,none,.mov (.tmp 1)⟩,⟨some 47,none,.mov (.tmp 10)⟩,⟨some 48,none,.iaddrS 34 (.tmp 46) (.tmp 47)⟩,⟨some 49,none,.loadN 34 (.tmp 48)⟩,⟨some 50,none,.call 11 [(.tmp 49)]⟩,⟨some 51,none,.bslice 54 1 opZ [(0,38,(.tmp 50))]⟩,⟨some 52,none,.append 54 38 288 (.tmp 45) (.tmp 51)⟩,⟨some 9,none,.mov (.tmp 52)⟩])) (.ops [⟨some 43,none,.mov (.tmp 10)⟩,⟨some 44,none,.bin .add (.tmp 43) (.const (.int .i64 1))⟩,
 ⟨some 10,none,.mov (.tmp 44)⟩]))))))
def c4:AFunc:=⟨167,4,[.inl 8],
 (.seq (.ops [⟨some 6,none,.box 54 38 (.tmp 2)⟩,⟨some 7,none,.box 30 2 (.tmp 3)⟩,⟨some 8,none,.mov (.const (.bool false))⟩]) (.seq (.opsD [⟨some 28,none,.mov (.tmp 0)⟩,⟨some 29,none,.mov (.tmp 0)⟩,⟨some 30,none,.lenS (.tmp 29)⟩,⟨some 31,none,.min [(.tmp 30),(.const (.int .i64 60))]⟩,⟨some 32,none,.sliceS (.tmp 28) none (some (.tmp 31))⟩,⟨some 33,none,.loadN 38 (.tmp 6)⟩,⟨some 34,none,.call 15 [(.tmp 33)]⟩,⟨some 0,none,.mov (.tmp 32)⟩,⟨none,none,.store 38 (.tmp 6) (.tmp 34)⟩] []) (.seq
 (.ops [⟨some 9,none,.mov (.const (.slice none 0 0))⟩]) (.seq
 c4l
 c4p))))⟩
theorem t4:T 4=some c4:=by kernel_rfl
def c17:AFunc:=⟨33,1,[.inl 2,.inl 3],
 (.seq (.ops [⟨some 2,none,.mov (.const (.string ⟨⟨[]⟩⟩))⟩,⟨some 3,none,.mov (.const (.int .i64 0))⟩]) (.seq (.ops [⟨some 4,none,.mov (.const (.slice none 0 0))⟩]) (.seq (.seq (.ops [⟨some 5,none,.mov (.const (.int .i64 0))⟩]) (.block 0 (.loop (.seq (.seq (.ops [⟨some 8,none,.mov (.tmp 5)⟩,⟨some 9,none,.mov (.tmp 0)⟩,⟨some 10,none,.lenV (.tmp 9)⟩,⟨some 11,none,.bin .lss (.tmp 8) (.tmp 10)⟩]) (.cond (.tmp 11)
 .skip (.exit 0))) (.seq (.block 1 (.seq (.ops [⟨some 15,none,.mov (.tmp 0)⟩,⟨some 16,none,.mov (.tmp 5)⟩,⟨some 17,none,.iaddrS 38 (.tmp 15) (.tmp 16)⟩,⟨some 18,none,.loadN 38 (.tmp 17)⟩,⟨some 19,none,.call 10 [(.tmp 18)]⟩,⟨some 14,none,.mov (.tmp 19)⟩,⟨some 20,none,.ext (.tmp 14) 0⟩,⟨some 21,none,.ext (.tmp 14) 1⟩,⟨some 6,none,.alloc 23 [.int .i64 0,.string ⟨⟨[]⟩⟩]⟩,⟨none,none,.store 2 (.tmp 6) (.tmp 20)⟩,⟨some 7,none,.mov (.tmp 21)⟩]) (.seq (.seq (.ops [⟨some 22,none,.mov (.tmp 7)⟩,
 ⟨some 23,none,.bin .neq (.tmp 22) (.const (.int .i64 0))⟩]) (.cond (.tmp 23) (.seq (.ops [⟨some 24,none,.mov (.tmp 7)⟩,⟨some 2,none,.mov (.const (.string ⟨⟨[]⟩⟩))⟩,⟨some 3,none,.mov (.tmp 24)⟩])
 .ret)
 .skip)) (.ops [⟨some 25,none,.mov (.tmp 4)⟩,⟨some 26,none,.loadN 2 (.tmp 6)⟩,⟨some 27,none,.bslice 23 1 [.int .i64 0,.string ⟨⟨[]⟩⟩] [(0,2,(.tmp 26))]⟩,⟨some 28,none,.append 23 2 24 (.tmp 25) (.tmp 27)⟩,⟨some 4,none,.mov (.tmp 28)⟩])))) (.ops [⟨some 12,none,.mov (.tmp 5)⟩,⟨some 13,none,.bin .add (.tmp 12) (.const (.int .i64 1))⟩,⟨some 5,none,.mov (.tmp 13)⟩])))))) (.seq (.ops [⟨some 29,none,.mov (.tmp 4)⟩,⟨some 30,none,.call 18 [(.tmp 29)]⟩,⟨some 31,none,.ext (.tmp 30) 0⟩,
 ⟨some 32,none,.ext (.tmp 30) 1⟩,⟨some 2,none,.mov (.tmp 31)⟩,⟨some 3,none,.mov (.tmp 32)⟩])
 .ret))))⟩
theorem t17:T 17=some c17:=by kernel_rfl
def c18:AFunc:=⟨52,1,[.inl 2,.inl 3],
 (.seq (.ops [⟨some 2,none,.mov (.const (.string ⟨⟨[]⟩⟩))⟩,⟨some 3,none,.mov (.const (.int .i64 0))⟩]) (.seq (.ops [⟨some 4,none,.mov (.const (.string ⟨⟨[]⟩⟩))⟩]) (.seq (.seq (.ops [⟨some 5,none,.mov (.const (.int .i64 0))⟩]) (.block 0 (.loop (.seq (.seq (.ops [⟨some 6,none,.mov (.tmp 5)⟩,⟨some 7,none,.mov (.tmp 0)⟩,⟨some 8,none,.lenV (.tmp 7)⟩,⟨some 9,none,.bin .lss (.tmp 6) (.tmp 8)⟩]) (.cond (.tmp 9)
 .skip (.exit 0))) (.seq (.block 1 (.seq (.seq (.ops [⟨some 12,none,.mov (.tmp 0)⟩,⟨some 13,none,.mov (.tmp 5)⟩,⟨some 14,none,.iaddrS 2 (.tmp 12) (.tmp 13)⟩,⟨some 15,none,.loadN 2 (.tmp 14)⟩,⟨some 16,none,.call 46 [(.tmp 15)]⟩,⟨some 17,none,.un .not (.tmp 16)⟩]) (.cond (.tmp 17) (.seq (.ops [⟨some 2,none,.mov (.const (.string ⟨⟨[]⟩⟩))⟩,⟨some 3,none,.mov (.const (.int .i64 2))⟩])
 .ret)
 .skip)) (.opsD [⟨some 18,none,.mov (.tmp 4)⟩,⟨some 19,none,.mov (.tmp 0)⟩,⟨some 20,none,.mov (.tmp 5)⟩,⟨some 21,none,.iaddrS 2 (.tmp 19) (.tmp 20)⟩,⟨some 22,none,.faddr 0 (.tmp 21)⟩,⟨some 23,none,.load1 (.tmp 22)⟩,⟨some 24,none,.cvInt .u8 (.tmp 23)⟩,⟨some 25,none,.mov (.tmp 0)⟩,⟨some 26,none,.mov (.tmp 5)⟩,⟨some 27,none,.iaddrS 2 (.tmp 25) (.tmp 26)⟩,⟨some 28,none,.faddr 1 (.tmp 27)⟩,⟨some 29,none,.load1 (.tmp 28)⟩,⟨some 30,none,.lenS (.tmp 29)⟩,
 ⟨some 31,none,.bin .add (.tmp 30) (.const (.int .i64 2))⟩,⟨some 32,none,.cvInt .u8 (.tmp 31)⟩,⟨some 33,none,.bslice 5 2 [.int .u8 0] [(0,1,(.tmp 24)),(1,1,(.tmp 32))]⟩,⟨some 34,none,.cvB2S (.tmp 33)⟩,⟨some 35,none,.bin .add (.tmp 18) (.tmp 34)⟩,⟨some 36,none,.mov (.tmp 0)⟩,⟨some 37,none,.mov (.tmp 5)⟩,⟨some 38,none,.iaddrS 2 (.tmp 36) (.tmp 37)⟩,⟨some 39,none,.faddr 1 (.tmp 38)⟩,⟨some 40,none,.load1 (.tmp 39)⟩,⟨some 41,none,.bin .add (.tmp 35) (.tmp 40)⟩,⟨some 4,none,.mov (.tmp 41)⟩] [])))
 (.ops [⟨some 10,none,.mov (.tmp 5)⟩,⟨some 11,none,.bin .add (.tmp 10) (.const (.int .i64 1))⟩,⟨some 5,none,.mov (.tmp 11)⟩])))))) (.seq (.seq (.ops [⟨some 42,none,.mov (.tmp 4)⟩,⟨some 43,none,.lenS (.tmp 42)⟩,⟨some 44,none,.bin .gtr (.tmp 43) (.const (.int .i64 40))⟩]) (.cond (.tmp 44) (.seq (.ops [⟨some 2,none,.mov (.const (.string ⟨⟨[]⟩⟩))⟩,⟨some 3,none,.mov (.const (.int .i64 6))⟩])
 .ret)
 .skip)) (.seq (.block 2 (.loop (.seq (.seq (.ops [⟨some 45,none,.mov (.tmp 4)⟩,⟨some 46,none,.lenS (.tmp 45)⟩,⟨some 47,none,.bin .rem (.tmp 46) (.const (.int .i64 4))⟩,⟨some 48,none,.bin .neq (.tmp 47) (.const (.int .i64 0))⟩]) (.cond (.tmp 48)
 .skip (.exit 2))) (.block 3 (.ops [⟨some 49,none,.mov (.tmp 4)⟩,⟨some 50,none,.bin .add (.tmp 49) (.const (.string ⟨⟨[0]⟩⟩))⟩,⟨some 4,none,.mov (.tmp 50)⟩]))))) (.seq (.ops [⟨some 51,none,.mov (.tmp 4)⟩,⟨some 2,none,.mov (.tmp 51)⟩,⟨some 3,none,.mov (.const (.int .i64 0))⟩])
 .ret))))))⟩
theorem t18:T 18=some c18:=by kernel_rfl
def c20:AFunc:=⟨46,1,[.inl 2,.inl 3],
 (.seq (.ops [⟨some 2,none,.mov (.const (.slice none 0 0))⟩,⟨some 3,none,.mov (.const (.int .i64 0))⟩]) (.seq (.ops [⟨some 11,none,.mov (.tmp 0)⟩,⟨some 12,none,.call 48 [(.tmp 11)]⟩,⟨some 10,none,.mov (.tmp 12)⟩,⟨some 13,none,.ext (.tmp 10) 0⟩,⟨some 14,none,.ext (.tmp 10) 1⟩,⟨some 4,none,.mov (.tmp 13)⟩,⟨some 5,none,.mov (.tmp 14)⟩]) (.seq (.seq (.ops [⟨some 15,none,.mov (.tmp 5)⟩,⟨some 16,none,.bin .neq (.tmp 15) (.const (.int .i64 0))⟩]) (.cond (.tmp 16) (.seq
 (.ops [⟨some 17,none,.mov (.tmp 5)⟩,⟨some 2,none,.mov (.const (.slice none 0 0))⟩,⟨some 3,none,.mov (.tmp 17)⟩])
 .ret)
 .skip)) (.seq (.ops [⟨some 6,none,.mov (.const (.slice none 0 0))⟩]) (.seq (.seq (.ops [⟨some 7,none,.mov (.const (.int .i64 0))⟩]) (.block 0 (.loop (.seq (.seq (.ops [⟨some 18,none,.mov (.tmp 7)⟩,⟨some 19,none,.mov (.tmp 4)⟩,⟨some 20,none,.lenV (.tmp 19)⟩,⟨some 21,none,.bin .lss (.tmp 18) (.tmp 20)⟩]) (.cond (.tmp 21)
 .skip (.exit 0))) (.seq (.block 1 (.seq (.ops [⟨some 25,none,.mov (.tmp 4)⟩,⟨some 26,none,.mov (.tmp 7)⟩,⟨some 27,none,.iaddrS 2 (.tmp 25) (.tmp 26)⟩,⟨some 28,none,.loadN 2 (.tmp 27)⟩,⟨some 29,none,.call 13 [(.tmp 28)]⟩,⟨some 24,none,.mov (.tmp 29)⟩,⟨some 30,none,.ext (.tmp 24) 0⟩,⟨some 31,none,.ext (.tmp 24) 1⟩,⟨some 8,none,.alloc 54 opZ⟩,⟨none,none,.store 38 (.tmp 8) (.tmp 30)⟩,⟨some 9,none,.mov (.tmp 31)⟩]) (.seq (.seq (.ops [⟨some 32,none,.mov (.tmp 9)⟩,
 ⟨some 33,none,.bin .neq (.tmp 32) (.const (.int .i64 0))⟩,⟨some 34,none,.mov (.tmp 33)⟩,⟨some 35,some (34,true),.mov (.tmp 9)⟩,⟨some 36,some (34,true),.bin .neq (.tmp 35) (.const (.int .i64 7))⟩,⟨some 37,none,.pick (.tmp 34) (.tmp 36) (.const (.bool false))⟩]) (.cond (.tmp 37) (.seq (.ops [⟨some 38,none,.mov (.tmp 9)⟩,⟨some 2,none,.mov (.const (.slice none 0 0))⟩,⟨some 3,none,.mov (.tmp 38)⟩])
 .ret)
 .skip)) (.seq (.ops [⟨some 39,none,.mov (.tmp 9)⟩,⟨some 40,none,.bin .eql (.tmp 39) (.const (.int .i64 0))⟩]) (.cond (.tmp 40) (.ops [⟨some 41,none,.mov (.tmp 6)⟩,⟨some 42,none,.loadN 38 (.tmp 8)⟩,⟨some 43,none,.bslice 54 1 opZ [(0,38,(.tmp 42))]⟩,⟨some 44,none,.append 54 38 288 (.tmp 41) (.tmp 43)⟩,⟨some 6,none,.mov (.tmp 44)⟩])
 .skip))))) (.ops [⟨some 22,none,.mov (.tmp 7)⟩,⟨some 23,none,.bin .add (.tmp 22) (.const (.int .i64 1))⟩,⟨some 7,none,.mov (.tmp 23)⟩])))))) (.seq (.ops [⟨some 45,none,.mov (.tmp 6)⟩,⟨some 2,none,.mov (.tmp 45)⟩,⟨some 3,none,.mov (.const (.int .i64 0))⟩])
 .ret))))))⟩
theorem t20:T 20=some c20:=by kernel_rfl
def c46:AFunc:=⟨17,1,[.inl 2],
 (.seq (.ops [⟨some 1,none,.box 23 2 (.tmp 0)⟩,⟨some 2,none,.mov (.const (.bool false))⟩]) (.seq (.ops [⟨some 3,none,.faddr 0 (.tmp 1)⟩,⟨some 4,none,.load1 (.tmp 3)⟩,⟨some 5,none,.bin .geq (.tmp 4) (.const (.int .i64 2))⟩,⟨some 6,none,.mov (.tmp 5)⟩,⟨some 7,some (6,true),.faddr 0 (.tmp 1)⟩,⟨some 8,some (6,true),.load1 (.tmp 7)⟩,⟨some 9,some (6,true),.bin .leq (.tmp 8) (.const (.int .i64 255))⟩,⟨some 10,none,.pick (.tmp 6) (.tmp 9) (.const (.bool false))⟩,⟨some 11,none,.mov (.tmp 10)⟩,
 ⟨some 12,some (11,true),.faddr 1 (.tmp 1)⟩,⟨some 13,some (11,true),.load1 (.tmp 12)⟩,⟨some 14,some (11,true),.lenS (.tmp 13)⟩,⟨some 15,some (11,true),.bin .leq (.tmp 14) (.const (.int .i64 253))⟩,⟨some 16,none,.pick (.tmp 11) (.tmp 15) (.const (.bool false))⟩,⟨some 2,none,.mov (.tmp 16)⟩])
 .ret))⟩
theorem t46:T 46=some c46:=by kernel_rfl
def c48:AFunc:=⟨51,1,[.inl 2,.inl 3],
 (.seq (.ops [⟨some 2,none,.mov (.const (.slice none 0 0))⟩,⟨some 3,none,.mov (.const (.int .i64 0))⟩]) (.seq (.seq (.ops [⟨some 6,none,.mov (.tmp 0)⟩,⟨some 7,none,.lenS (.tmp 6)⟩,⟨some 8,none,.bin .gtr (.tmp 7) (.const (.int .i64 40))⟩]) (.cond (.tmp 8) (.seq (.ops [⟨some 2,none,.mov (.const (.slice none 0 0))⟩,⟨some 3,none,.mov (.const (.int .i64 6))⟩])
 .ret)
 .skip)) (.seq (.seq (.ops [⟨some 9,none,.mov (.tmp 0)⟩,⟨some 10,none,.lenS (.tmp 9)⟩,⟨some 11,none,.bin .rem (.tmp 10) (.const (.int .i64 4))⟩,⟨some 12,none,.bin .neq (.tmp 11) (.const (.int .i64 0))⟩]) (.cond (.tmp 12) (.seq (.ops [⟨some 2,none,.mov (.const (.slice none 0 0))⟩,⟨some 3,none,.mov (.const (.int .i64 5))⟩])
 .ret)
 .skip)) (.seq (.ops [⟨some 4,none,.mov (.const (.slice none 0 0))⟩]) (.seq (.block 0 (.loop (.seq (.seq (.ops [⟨some 13,none,.mov (.tmp 0)⟩,⟨some 14,none,.bin .neq (.tmp 13) (.const (.string ⟨⟨[]⟩⟩))⟩,⟨some 15,none,.mov (.tmp 14)⟩,⟨some 16,some (15,true),.mov (.tmp 0)⟩,⟨some 17,some (15,true),.idxS (.tmp 16) (.const (.int .i64 0))⟩,⟨some 18,some (15,true),.bin .neq (.tmp 17) (.const (.int .u8 0))⟩,⟨some 19,none,.pick (.tmp 15) (.tmp 18) (.const (.bool false))⟩]) (.cond (.tmp 19)
 .skip (.exit 0))) (.block 1 (.seq (.seq (.ops [⟨some 20,none,.mov (.tmp 0)⟩,⟨some 21,none,.idxS (.tmp 20) (.const (.int .i64 0))⟩,⟨some 22,none,.bin .eql (.tmp 21) (.const (.int .u8 1))⟩]) (.cond (.tmp 22) (.seq (.ops [⟨some 23,none,.mov (.tmp 0)⟩,⟨some 24,none,.sliceS (.tmp 23) (some (.const (.int .i64 1))) none⟩,⟨some 0,none,.mov (.tmp 24)⟩]) (.exit 1))
 .skip)) (.seq (.seq (.ops [⟨some 25,none,.mov (.tmp 0)⟩,⟨some 26,none,.lenS (.tmp 25)⟩,⟨some 27,none,.bin .lss (.tmp 26) (.const (.int .i64 2))⟩]) (.cond (.tmp 27) (.seq (.ops [⟨some 2,none,.mov (.const (.slice none 0 0))⟩,⟨some 3,none,.mov (.const (.int .i64 4))⟩])
 .ret)
 .skip)) (.seq (.ops [⟨some 28,none,.mov (.tmp 0)⟩,⟨some 29,none,.idxS (.tmp 28) (.const (.int .i64 1))⟩,⟨some 30,none,.cvInt .i64 (.tmp 29)⟩,⟨some 5,none,.mov (.tmp 30)⟩]) (.seq (.seq (.ops [⟨some 31,none,.mov (.tmp 5)⟩,⟨some 32,none,.bin .lss (.tmp 31) (.const (.int .i64 2))⟩]) (.cond (.tmp 32) (.seq (.ops [⟨some 2,none,.mov (.const (.slice none 0 0))⟩,⟨some 3,none,.mov (.const (.int .i64 5))⟩])
 .ret)
 .skip)) (.seq (.seq (.ops [⟨some 33,none,.mov (.tmp 5)⟩,⟨some 34,none,.mov (.tmp 0)⟩,⟨some 35,none,.lenS (.tmp 34)⟩,⟨some 36,none,.bin .gtr (.tmp 33) (.tmp 35)⟩]) (.cond (.tmp 36) (.seq (.ops [⟨some 2,none,.mov (.const (.slice none 0 0))⟩,⟨some 3,none,.mov (.const (.int .i64 4))⟩])
 .ret)
 .skip)) (.seq (.opsD [⟨some 37,none,.mov (.tmp 4)⟩,⟨some 38,none,.mov (.tmp 0)⟩,⟨some 39,none,.idxS (.tmp 38) (.const (.int .i64 0))⟩,⟨some 40,none,.cvInt .i64 (.tmp 39)⟩,⟨some 41,none,.mov (.tmp 0)⟩,⟨some 42,none,.mov (.tmp 5)⟩,⟨some 43,none,.sliceS (.tmp 41) (some (.const (.int .i64 2))) (some (.tmp 42))⟩,⟨some 44,none,.build [.int .i64 0,.string ⟨⟨[]⟩⟩] [(0,1,(.tmp 40)),(1,1,(.tmp 43))]⟩,⟨some 45,none,.bslice 23 1 [.int .i64 0,.string ⟨⟨[]⟩⟩] [(0,2,(.tmp 44))]⟩,
 ⟨some 46,none,.append 23 2 24 (.tmp 37) (.tmp 45)⟩,⟨some 4,none,.mov (.tmp 46)⟩] []) (.ops [⟨some 47,none,.mov (.tmp 0)⟩,⟨some 48,none,.mov (.tmp 5)⟩,⟨some 49,none,.sliceS (.tmp 47) (some (.tmp 48)) none⟩,⟨some 0,none,.mov (.tmp 49)⟩]))))))))))) (.seq (.ops [⟨some 50,none,.mov (.tmp 4)⟩,⟨some 2,none,.mov (.tmp 50)⟩,⟨some 3,none,.mov (.const (.int .i64 0))⟩])
 .ret))))))⟩
theorem t48:T 48=some c48:=by kernel_rfl
end Go.Proofs.YtigknpfjhegkgaaGreatDoor
