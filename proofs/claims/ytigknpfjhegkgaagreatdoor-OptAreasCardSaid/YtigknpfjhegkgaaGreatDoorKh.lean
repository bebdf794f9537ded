/- A text of this claim. -/
import Derived.Test.YtigknpfjhegkgaaGreatDoorZo
import Derived.KernelRfl
namespace Go.Proofs.YtigknpfjhegkgaaGreatDoor
open Go Go.AS
set_option maxRecDepth 100000
def c16:AFunc:=⟨32,1,[.inl 2,.inl 3],
 (.seq (.ops [⟨some 2,none,.mov (.const (.string ⟨⟨[]⟩⟩))⟩,⟨some 3,none,.mov (.const (.int .i64 0))⟩]) (.seq (.ops [⟨some 4,none,.mov (.const (.slice none 0 0))⟩]) (.seq (.seq (.ops [⟨some 9,none,.mov (.tmp 0)⟩,⟨some 10,none,.lenV (.tmp 9)⟩,⟨some 11,none,.mov (.const (.int .i64 0))⟩]) (.block 0 (.loop (.seq (.ops [⟨some 12,none,.bin .lss (.tmp 11) (.tmp 10)⟩]) (.seq (.cond (.tmp 12)
 .skip (.exit 0)) (.seq (.block 1 (.seq (.ops [⟨some 13,none,.iaddrS 38 (.tmp 9) (.tmp 11)⟩,⟨some 14,none,.loadN 38 (.tmp 13)⟩,⟨some 6,none,.alloc 54 opZ⟩,⟨none,none,.store 38 (.tmp 6) (.tmp 14)⟩]) (.seq (.ops [⟨some 16,none,.loadN 38 (.tmp 6)⟩,⟨some 17,none,.call 23 [(.tmp 16)]⟩,⟨some 15,none,.mov (.tmp 17)⟩,⟨some 18,none,.ext (.tmp 15) 0⟩,⟨some 19,none,.ext (.tmp 15) 1⟩,⟨some 7,none,.alloc 23 [.int .i64 0,.string ⟨⟨[]⟩⟩]⟩,⟨none,none,.store 2 (.tmp 7) (.tmp 18)⟩,⟨some 8,none,.mov (.tmp 19)⟩])
 (.seq (.seq (.ops [⟨some 20,none,.mov (.tmp 8)⟩,⟨some 21,none,.bin .neq (.tmp 20) (.const (.int .i64 0))⟩]) (.cond (.tmp 21) (.seq (.ops [⟨some 22,none,.mov (.tmp 8)⟩,⟨some 2,none,.mov (.const (.string ⟨⟨[]⟩⟩))⟩,⟨some 3,none,.mov (.tmp 22)⟩])
 .ret)
 .skip)) (.ops [⟨some 23,none,.mov (.tmp 4)⟩,⟨some 24,none,.loadN 2 (.tmp 7)⟩,⟨some 25,none,.bslice 23 1 [.int .i64 0,.string ⟨⟨[]⟩⟩] [(0,2,(.tmp 24))]⟩,⟨some 26,none,.append 23 2 24 (.tmp 23) (.tmp 25)⟩,⟨some 4,none,.mov (.tmp 26)⟩]))))) (.ops [⟨some 27,none,.bin .add (.tmp 11) (.const (.int .i64 1))⟩,⟨some 11,none,.mov (.tmp 27)⟩]))))))) (.seq (.ops [⟨some 28,none,.mov (.tmp 4)⟩,⟨some 29,none,.call 26 [(.tmp 28)]⟩,⟨some 30,none,.ext (.tmp 29) 0⟩,⟨some 31,none,.ext (.tmp 29) 1⟩,
 ⟨some 2,none,.mov (.tmp 30)⟩,⟨some 3,none,.mov (.tmp 31)⟩])
 .ret))))⟩
theorem t16:T 16=some c16:=by kernel_rfl
def c19:AFunc:=⟨49,1,[.inl 2,.inl 3],
 (.seq (.ops [⟨some 2,none,.mov (.const (.slice none 0 0))⟩,⟨some 3,none,.mov (.const (.int .i64 0))⟩]) (.seq (.ops [⟨some 11,none,.mov (.tmp 0)⟩,⟨some 12,none,.call 47 [(.tmp 11)]⟩,⟨some 10,none,.mov (.tmp 12)⟩,⟨some 13,none,.ext (.tmp 10) 0⟩,⟨some 14,none,.ext (.tmp 10) 1⟩,⟨some 4,none,.mov (.tmp 13)⟩,⟨some 3,none,.mov (.tmp 14)⟩]) (.seq (.seq (.ops [⟨some 15,none,.mov (.tmp 3)⟩,⟨some 16,none,.bin .neq (.tmp 15) (.const (.int .i64 0))⟩]) (.cond (.tmp 16) (.seq
 (.ops [⟨some 17,none,.mov (.tmp 3)⟩,⟨some 2,none,.mov (.const (.slice none 0 0))⟩,⟨some 3,none,.mov (.tmp 17)⟩])
 .ret)
 .skip)) (.seq (.ops [⟨some 5,none,.alloc 31 [.int .i64 0]⟩]) (.seq
 .skip (.seq (.seq (.ops [⟨some 18,none,.mov (.tmp 4)⟩,⟨some 19,none,.lenV (.tmp 18)⟩,⟨some 20,none,.mov (.const (.int .i64 0))⟩]) (.block 0 (.loop (.seq (.ops [⟨some 21,none,.bin .lss (.tmp 20) (.tmp 19)⟩]) (.seq (.cond (.tmp 21)
 .skip (.exit 0)) (.seq (.block 1 (.seq (.ops [⟨some 22,none,.iaddrS 2 (.tmp 18) (.tmp 20)⟩,⟨some 23,none,.loadN 2 (.tmp 22)⟩,⟨some 7,none,.alloc 23 [.int .i64 0,.string ⟨⟨[]⟩⟩]⟩,⟨none,none,.store 2 (.tmp 7) (.tmp 23)⟩]) (.seq (.ops [⟨some 25,none,.loadN 2 (.tmp 7)⟩,⟨some 26,none,.call 34 [(.tmp 25)]⟩,⟨some 24,none,.mov (.tmp 26)⟩,⟨some 27,none,.ext (.tmp 24) 0⟩,⟨some 28,none,.ext (.tmp 24) 1⟩,⟨some 8,none,.alloc 54 opZ⟩,⟨none,none,.store 38 (.tmp 8) (.tmp 27)⟩,⟨some 9,none,.mov (.tmp 28)⟩])
 (.block 2 (.seq (.ops [⟨some 30,none,.mov (.tmp 9)⟩,⟨some 31,none,.eq false true .iface (.tmp 30) (.const (.nilIface))⟩,⟨some 29,none,.mov (.tmp 31)⟩]) (.cond (.tmp 29) (.ops [⟨some 32,none,.mov (.tmp 2)⟩,⟨some 33,none,.loadN 38 (.tmp 8)⟩,⟨some 34,none,.bslice 54 1 opZ [(0,38,(.tmp 33))]⟩,⟨some 35,none,.append 54 38 288 (.tmp 32) (.tmp 34)⟩,⟨some 2,none,.mov (.tmp 35)⟩]) (.seq (.ops [⟨some 37,none,.mov (.tmp 9)⟩,⟨some 38,none,.mkI 97 (.tmp 5)⟩,⟨some 39,none,.call 35 [(.tmp 37),(.tmp 38)]⟩,
 ⟨some 40,none,.mov (.tmp 39)⟩,⟨some 41,some (40,true),.load1 (.tmp 5)⟩,⟨some 42,some (40,true),.bin .neq (.tmp 41) (.const (.int .i64 7))⟩,⟨some 43,none,.pick (.tmp 40) (.tmp 42) (.const (.bool false))⟩,⟨some 36,none,.mov (.tmp 43)⟩]) (.cond (.tmp 36) (.exit 0) (.ops [⟨none,none,.store 1 (.tmp 5) (.const (.int .i64 0))⟩]))))))))) (.ops [⟨some 44,none,.bin .add (.tmp 20) (.const (.int .i64 1))⟩,⟨some 20,none,.mov (.tmp 44)⟩]))))))) (.seq (.seq (.ops [⟨some 45,none,.load1 (.tmp 5)⟩,
 ⟨some 46,none,.bin .neq (.tmp 45) (.const (.int .i64 0))⟩]) (.cond (.tmp 46) (.seq (.opsD [⟨some 47,none,.load1 (.tmp 5)⟩,⟨some 2,none,.mov (.const (.slice none 0 0))⟩,⟨some 3,none,.mov (.tmp 47)⟩] [])
 .ret)
 .skip)) (.seq (.ops [⟨some 48,none,.mov (.tmp 2)⟩,⟨some 2,none,.mov (.tmp 48)⟩,⟨some 3,none,.mov (.const (.int .i64 0))⟩])
 .ret))))))))⟩
theorem t19:T 19=some c19:=by kernel_rfl
def c21:AFunc:=⟨26,2,[.inl 4],
 (.seq (.ops [⟨some 4,none,.mov (.const (.bool false))⟩]) (.seq (.seq (.ops [⟨some 6,none,.mov (.tmp 0)⟩,⟨some 7,none,.lenV (.tmp 6)⟩,⟨some 8,none,.mov (.tmp 1)⟩,⟨some 9,none,.lenV (.tmp 8)⟩,⟨some 10,none,.bin .neq (.tmp 7) (.tmp 9)⟩]) (.cond (.tmp 10) (.seq (.ops [⟨some 4,none,.mov (.const (.bool false))⟩])
 .ret)
 .skip)) (.seq (.seq (.ops [⟨some 5,none,.mov (.const (.int .i64 0))⟩]) (.block 0 (.loop (.seq (.seq (.ops [⟨some 11,none,.mov (.tmp 5)⟩,⟨some 12,none,.mov (.tmp 0)⟩,⟨some 13,none,.lenV (.tmp 12)⟩,⟨some 14,none,.bin .lss (.tmp 11) (.tmp 13)⟩]) (.cond (.tmp 14)
 .skip (.exit 0))) (.seq (.block 1 (.seq (.opsD [⟨some 17,none,.mov (.tmp 0)⟩,⟨some 18,none,.mov (.tmp 5)⟩,⟨some 19,none,.iaddrS 38 (.tmp 17) (.tmp 18)⟩,⟨some 20,none,.loadN 38 (.tmp 19)⟩,⟨some 21,none,.mov (.tmp 1)⟩,⟨some 22,none,.mov (.tmp 5)⟩,⟨some 23,none,.iaddrS 38 (.tmp 21) (.tmp 22)⟩,⟨some 24,none,.loadN 38 (.tmp 23)⟩,⟨some 25,none,.eqF true opL (.tmp 20) (.tmp 24)⟩] []) (.cond (.tmp 25) (.seq (.ops [⟨some 4,none,.mov (.const (.bool false))⟩])
 .ret)
 .skip))) (.ops [⟨some 15,none,.mov (.tmp 5)⟩,⟨some 16,none,.bin .add (.tmp 15) (.const (.int .i64 1))⟩,⟨some 5,none,.mov (.tmp 16)⟩])))))) (.seq (.ops [⟨some 4,none,.mov (.const (.bool true))⟩])
 .ret))))⟩
theorem t21:T 21=some c21:=by kernel_rfl
def c26:AFunc:=⟨54,1,[.inl 2,.inl 3],
 (.seq (.ops [⟨some 2,none,.mov (.const (.string ⟨⟨[]⟩⟩))⟩,⟨some 3,none,.mov (.const (.int .i64 0))⟩]) (.seq (.ops [⟨some 4,none,.mov (.const (.slice none 0 0))⟩]) (.seq (.seq (.ops [⟨some 7,none,.mov (.tmp 0)⟩,⟨some 8,none,.lenV (.tmp 7)⟩,⟨some 9,none,.mov (.const (.int .i64 0))⟩]) (.block 0 (.loop (.seq (.ops [⟨some 10,none,.bin .lss (.tmp 9) (.tmp 8)⟩]) (.seq (.cond (.tmp 10)
 .skip (.exit 0)) (.seq (.block 1 (.seq (.ops [⟨some 11,none,.iaddrS 2 (.tmp 7) (.tmp 9)⟩,⟨some 12,none,.loadN 2 (.tmp 11)⟩,⟨some 6,none,.alloc 23 [.int .i64 0,.string ⟨⟨[]⟩⟩]⟩,⟨none,none,.store 2 (.tmp 6) (.tmp 12)⟩]) (.seq (.seq (.ops [⟨some 13,none,.faddr 0 (.tmp 6)⟩,⟨some 14,none,.load1 (.tmp 13)⟩,⟨some 15,none,.bin .leq (.tmp 14) (.const (.int .i64 1))⟩,⟨some 16,none,.mov (.tmp 15)⟩,⟨some 17,some (16,false),.faddr 0 (.tmp 6)⟩,⟨some 18,some (16,false),.load1 (.tmp 17)⟩,
 ⟨some 19,some (16,false),.bin .gtr (.tmp 18) (.const (.int .i64 255))⟩,⟨some 20,none,.pick (.tmp 16) (.const (.bool true)) (.tmp 19)⟩,⟨some 21,none,.mov (.tmp 20)⟩,⟨some 22,some (21,false),.faddr 1 (.tmp 6)⟩,⟨some 23,some (21,false),.load1 (.tmp 22)⟩,⟨some 24,some (21,false),.lenS (.tmp 23)⟩,⟨some 25,some (21,false),.bin .gtr (.tmp 24) (.const (.int .i64 253))⟩,⟨some 26,none,.pick (.tmp 21) (.const (.bool true)) (.tmp 25)⟩]) (.cond (.tmp 26) (.seq
 (.ops [⟨some 2,none,.mov (.const (.string ⟨⟨[]⟩⟩))⟩,⟨some 3,none,.mov (.const (.int .i64 2))⟩])
 .ret)
 .skip)) (.opsD [⟨some 27,none,.mov (.tmp 4)⟩,⟨some 28,none,.faddr 0 (.tmp 6)⟩,⟨some 29,none,.load1 (.tmp 28)⟩,⟨some 30,none,.cvInt .u8 (.tmp 29)⟩,⟨some 31,none,.faddr 1 (.tmp 6)⟩,⟨some 32,none,.load1 (.tmp 31)⟩,⟨some 33,none,.lenS (.tmp 32)⟩,⟨some 34,none,.bin .add (.const (.int .i64 2)) (.tmp 33)⟩,⟨some 35,none,.cvInt .u8 (.tmp 34)⟩,⟨some 36,none,.bslice 5 2 [.int .u8 0] [(0,1,(.tmp 30)),(1,1,(.tmp 35))]⟩,⟨some 37,none,.append 5 1 1 (.tmp 27) (.tmp 36)⟩,⟨some 38,none,.faddr 1 (.tmp 6)⟩,
 ⟨some 39,none,.load1 (.tmp 38)⟩,⟨some 40,none,.append 5 1 1 (.tmp 37) (.tmp 39)⟩,⟨some 4,none,.mov (.tmp 40)⟩] [(12,10),(12,11)])))) (.ops [⟨some 41,none,.bin .add (.tmp 9) (.const (.int .i64 1))⟩,⟨some 9,none,.mov (.tmp 41)⟩]))))))) (.seq (.seq (.ops [⟨some 42,none,.mov (.tmp 4)⟩,⟨some 43,none,.lenV (.tmp 42)⟩,⟨some 44,none,.bin .gtr (.tmp 43) (.const (.int .i64 40))⟩]) (.cond (.tmp 44) (.seq (.ops [⟨some 2,none,.mov (.const (.string ⟨⟨[]⟩⟩))⟩,⟨some 3,none,.mov (.const (.int .i64 6))⟩])
 .ret)
 .skip)) (.seq (.block 2 (.loop (.seq (.seq (.ops [⟨some 45,none,.mov (.tmp 4)⟩,⟨some 46,none,.lenV (.tmp 45)⟩,⟨some 47,none,.bin .rem (.tmp 46) (.const (.int .i64 4))⟩,⟨some 48,none,.bin .neq (.tmp 47) (.const (.int .i64 0))⟩]) (.cond (.tmp 48)
 .skip (.exit 2))) (.block 3 (.ops [⟨some 49,none,.mov (.tmp 4)⟩,⟨some 50,none,.bslice 5 1 [.int .u8 0] [(0,1,(.const (.int .u8 0)))]⟩,⟨some 51,none,.append 5 1 1 (.tmp 49) (.tmp 50)⟩,⟨some 4,none,.mov (.tmp 51)⟩]))))) (.seq (.ops [⟨some 52,none,.mov (.tmp 4)⟩,⟨some 53,none,.cvB2S (.tmp 52)⟩,⟨some 2,none,.mov (.tmp 53)⟩,⟨some 3,none,.mov (.const (.int .i64 0))⟩])
 .ret))))))⟩
theorem t26:T 26=some c26:=by kernel_rfl
def c47:AFunc:=⟨42,1,[.inr (2,1,false),.inr (3,1,false)],
 (.seq (.ops [⟨some 2,none,.alloc 69 [.slice none 0 0]⟩,⟨some 3,none,.alloc 31 [.int .i64 0]⟩]) (.seq (.block 0 (.seq (.ops [⟨some 7,none,.mov (.tmp 0)⟩,⟨some 8,none,.lenS (.tmp 7)⟩,⟨some 9,none,.bin .gtr (.tmp 8) (.const (.int .i64 40))⟩,⟨some 6,none,.mov (.tmp 9)⟩]) (.cond (.tmp 6) (.seq (.ops [⟨none,none,.store 1 (.tmp 2) (.const (.slice none 0 0))⟩,⟨none,none,.store 1 (.tmp 3) (.const (.int .i64 6))⟩])
 .ret) (.seq (.ops [⟨some 11,none,.mov (.tmp 0)⟩,⟨some 12,none,.lenS (.tmp 11)⟩,⟨some 13,none,.bin .rem (.tmp 12) (.const (.int .i64 4))⟩,⟨some 14,none,.bin .neq (.tmp 13) (.const (.int .i64 0))⟩,⟨some 10,none,.mov (.tmp 14)⟩]) (.cond (.tmp 10) (.seq (.ops [⟨none,none,.store 1 (.tmp 2) (.const (.slice none 0 0))⟩,⟨none,none,.store 1 (.tmp 3) (.const (.int .i64 5))⟩])
 .ret)
 .skip))))) (.seq (.seq (.ops [⟨some 15,none,.mov (.tmp 0)⟩,⟨some 16,none,.call 71 [(.tmp 15)]⟩]) (.block 1 (.rangeFunc (.tmp 16) [17] (.ops [⟨some 4,none,.alloc 162 [.int .i64 0,.int .i64 0,.string ⟨⟨[]⟩⟩]⟩,⟨none,none,.store 3 (.tmp 4) (.tmp 17)⟩]) (.block 2 (.seq (.seq (.ops [⟨some 18,none,.faddr 0 (.tmp 4)⟩,⟨some 19,none,.load1 (.tmp 18)⟩,⟨some 20,none,.faddr 1 (.tmp 4)⟩,⟨some 21,none,.load1 (.tmp 20)⟩,
 ⟨some 22,none,.build [.int .i64 0,.int .i64 0,.string ⟨⟨[]⟩⟩] [(0,1,(.tmp 19)),(1,1,(.tmp 21)),(2,1,(.const (.string ⟨⟨[]⟩⟩)))]⟩,⟨some 5,none,.alloc 162 [.int .i64 0,.int .i64 0,.string ⟨⟨[]⟩⟩]⟩,⟨none,none,.store 3 (.tmp 5) (.tmp 22)⟩]) (.seq (.ops [⟨some 23,none,.loadN 3 (.tmp 4)⟩,⟨some 24,none,.loadN 3 (.tmp 5)⟩,⟨some 25,none,.eqF false [(0,.i),(1,.i),(2,.s)] (.tmp 23) (.tmp 24)⟩,⟨some 26,none,.mov (.tmp 25)⟩,⟨some 27,some (26,true),.faddr 1 (.tmp 4)⟩,
 ⟨some 28,some (26,true),.load1 (.tmp 27)⟩,⟨some 29,some (26,true),.bin .neq (.tmp 28) (.const (.int .i64 0))⟩,⟨some 30,none,.pick (.tmp 26) (.tmp 29) (.const (.bool false))⟩]) (.cond (.tmp 30) (.seq (.opsD [⟨some 31,none,.faddr 1 (.tmp 4)⟩,⟨some 32,none,.load1 (.tmp 31)⟩,⟨none,none,.store 1 (.tmp 2) (.const (.slice none 0 0))⟩,⟨none,none,.store 1 (.tmp 3) (.tmp 32)⟩] [(1,2),(1,3)])
 .ret)
 .skip))) (.ops [⟨some 33,none,.load1 (.tmp 2)⟩,⟨some 34,none,.faddr 0 (.tmp 4)⟩,⟨some 35,none,.load1 (.tmp 34)⟩,⟨some 36,none,.faddr 2 (.tmp 4)⟩,⟨some 37,none,.load1 (.tmp 36)⟩,⟨some 38,none,.build [.int .i64 0,.string ⟨⟨[]⟩⟩] [(0,1,(.tmp 35)),(1,1,(.tmp 37))]⟩,⟨some 39,none,.bslice 23 1 [.int .i64 0,.string ⟨⟨[]⟩⟩] [(0,2,(.tmp 38))]⟩,⟨some 40,none,.append 23 2 24 (.tmp 33) (.tmp 39)⟩,⟨none,none,.store 1 (.tmp 2) (.tmp 40)⟩])))))) (.seq (.ops [⟨some 41,none,.load1 (.tmp 2)⟩,
 ⟨none,none,.store 1 (.tmp 2) (.tmp 41)⟩,⟨none,none,.store 1 (.tmp 3) (.const (.int .i64 0))⟩])
 .ret))))⟩
theorem t47:T 47=some c47:=by kernel_rfl
def c71:AFunc:=⟨4,1,[.inl 2],
 (.seq (.ops [⟨some 1,none,.box 9 1 (.tmp 0)⟩,⟨some 2,none,.mov (.const (.nilFunc))⟩]) (.seq (.ops [⟨some 3,none,.mkF 118 [] [(.tmp 1)]⟩,⟨some 2,none,.mov (.tmp 3)⟩])
 .ret))⟩
theorem t71:T 71=some c71:=by kernel_rfl
def c118:AFunc:=⟨75,2,[],
 (.seq
 .skip (.seq (.ops [⟨some 3,none,.mov (.const (.int .i64 0))⟩]) (.block 0 (.loop (.seq (.seq (.ops [⟨some 6,none,.mov (.tmp 3)⟩,⟨some 7,none,.load1 (.tmp 1)⟩,⟨some 8,none,.lenS (.tmp 7)⟩,⟨some 9,none,.bin .lss (.tmp 6) (.tmp 8)⟩]) (.cond (.tmp 9)
 .skip (.exit 0))) (.block 1 (.seq (.seq (.ops [⟨some 10,none,.load1 (.tmp 1)⟩,⟨some 11,none,.mov (.tmp 3)⟩,⟨some 12,none,.idxS (.tmp 10) (.tmp 11)⟩]) (.block 2 (.seq (.ops [⟨some 14,none,.bin .eql (.tmp 12) (.const (.int .u8 0))⟩,⟨some 13,none,.mov (.tmp 14)⟩]) (.cond (.tmp 13) (.exit 0) (.seq (.ops [⟨some 16,none,.bin .eql (.tmp 12) (.const (.int .u8 1))⟩,⟨some 15,none,.mov (.tmp 16)⟩]) (.cond (.tmp 15) (.seq (.ops [⟨some 17,none,.mov (.tmp 3)⟩,
 ⟨some 18,none,.bin .add (.tmp 17) (.const (.int .i64 1))⟩,⟨some 3,none,.mov (.tmp 18)⟩]) (.exit 1))
 .skip)))))) (.seq (.ops [⟨some 19,none,.load1 (.tmp 1)⟩,⟨some 20,none,.mov (.tmp 3)⟩,⟨some 21,none,.idxS (.tmp 19) (.tmp 20)⟩,⟨some 22,none,.cvInt .i64 (.tmp 21)⟩,⟨some 23,none,.build [.int .i64 0,.int .i64 0,.string ⟨⟨[]⟩⟩] [(0,1,(.tmp 22))]⟩,⟨some 4,none,.alloc 162 [.int .i64 0,.int .i64 0,.string ⟨⟨[]⟩⟩]⟩,⟨none,none,.store 3 (.tmp 4) (.tmp 23)⟩]) (.seq (.ops [⟨some 5,none,.mov (.const (.int .i64 0))⟩]) (.seq (.block 3 (.seq (.ops [⟨some 38,none,.mov (.tmp 3)⟩,
 ⟨some 39,none,.bin .add (.tmp 38) (.const (.int .i64 1))⟩,⟨some 40,none,.load1 (.tmp 1)⟩,⟨some 41,none,.lenS (.tmp 40)⟩,⟨some 42,none,.bin .eql (.tmp 39) (.tmp 41)⟩,⟨some 37,none,.mov (.tmp 42)⟩]) (.cond (.tmp 37) (.ops [⟨some 43,none,.faddr 1 (.tmp 4)⟩,⟨none,none,.store 1 (.tmp 43) (.const (.int .i64 4))⟩]) (.seq (.ops [⟨some 45,none,.load1 (.tmp 1)⟩,⟨some 46,none,.mov (.tmp 3)⟩,⟨some 47,none,.bin .add (.tmp 46) (.const (.int .i64 1))⟩,⟨some 48,none,.idxS (.tmp 45) (.tmp 47)⟩,
 ⟨some 49,none,.bin .lss (.tmp 48) (.const (.int .u8 2))⟩,⟨some 44,none,.mov (.tmp 49)⟩]) (.cond (.tmp 44) (.ops [⟨some 50,none,.faddr 1 (.tmp 4)⟩,⟨none,none,.store 1 (.tmp 50) (.const (.int .i64 5))⟩]) (.seq (.opsD [⟨some 52,none,.load1 (.tmp 1)⟩,⟨some 53,none,.mov (.tmp 3)⟩,⟨some 54,none,.bin .add (.tmp 53) (.const (.int .i64 1))⟩,⟨some 55,none,.idxS (.tmp 52) (.tmp 54)⟩,⟨some 56,none,.cvInt .i64 (.tmp 55)⟩,⟨some 57,none,.load1 (.tmp 1)⟩,⟨some 58,none,.lenS (.tmp 57)⟩,
 ⟨some 59,none,.mov (.tmp 3)⟩,⟨some 60,none,.bin .sub (.tmp 58) (.tmp 59)⟩,⟨some 61,none,.bin .gtr (.tmp 56) (.tmp 60)⟩,⟨some 51,none,.mov (.tmp 61)⟩] []) (.cond (.tmp 51) (.ops [⟨some 62,none,.faddr 1 (.tmp 4)⟩,⟨none,none,.store 1 (.tmp 62) (.const (.int .i64 4))⟩]) (.seq (.ops [⟨some 24,none,.load1 (.tmp 1)⟩,⟨some 25,none,.mov (.tmp 3)⟩,⟨some 26,none,.bin .add (.tmp 25) (.const (.int .i64 1))⟩,⟨some 27,none,.idxS (.tmp 24) (.tmp 26)⟩,⟨some 28,none,.cvInt .i64 (.tmp 27)⟩,
 ⟨some 5,none,.mov (.tmp 28)⟩]) (.ops [⟨some 29,none,.load1 (.tmp 1)⟩,⟨some 30,none,.mov (.tmp 3)⟩,⟨some 31,none,.bin .add (.tmp 30) (.const (.int .i64 2))⟩,⟨some 32,none,.mov (.tmp 3)⟩,⟨some 33,none,.mov (.tmp 5)⟩,⟨some 34,none,.bin .add (.tmp 32) (.tmp 33)⟩,⟨some 35,none,.sliceS (.tmp 29) (some (.tmp 31)) (some (.tmp 34))⟩,⟨some 36,none,.faddr 2 (.tmp 4)⟩,⟨none,none,.store 1 (.tmp 36) (.tmp 35)⟩]))))))))) (.seq (.seq (.ops [⟨some 63,none,.mov (.tmp 0)⟩,⟨some 64,none,.loadN 3 (.tmp 4)⟩,
 ⟨some 65,none,.callv (.tmp 63) [(.tmp 64)]⟩,⟨some 66,none,.un .not (.tmp 65)⟩,⟨some 67,none,.mov (.tmp 66)⟩,⟨some 68,some (67,false),.faddr 1 (.tmp 4)⟩,⟨some 69,some (67,false),.load1 (.tmp 68)⟩,⟨some 70,some (67,false),.bin .neq (.tmp 69) (.const (.int .i64 0))⟩,⟨some 71,none,.pick (.tmp 67) (.const (.bool true)) (.tmp 70)⟩]) (.cond (.tmp 71) (.exit 0)
 .skip)) (.ops [⟨some 72,none,.mov (.tmp 3)⟩,⟨some 73,none,.mov (.tmp 5)⟩,⟨some 74,none,.bin .add (.tmp 72) (.tmp 73)⟩,⟨some 3,none,.mov (.tmp 74)⟩]))))))))))))⟩
theorem t118:T 118=some c118:=by kernel_rfl
end Go.Proofs.YtigknpfjhegkgaaGreatDoor
