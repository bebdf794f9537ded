/- The code of functions, as the framework reads it. -/
import Derived.Test.YtidgbapgedegbaaTab
import Derived.KernelRfl
namespace Go.Proofs.Ytidgbapgedegbaa
open Go Go.AS
set_option maxRecDepth 100000

/-- plait/inlet.New -/
def c27 : AFunc := ⟨33, 3, [.inl 6],
 (.seq
  (.ops [⟨some 6, none, .mov (.const (.pointer none))⟩])
  (.seq
   (.ops [⟨some 12, none, .mov (.tmp 0)⟩,
     ⟨some 13, none, .call 71 [(.tmp 12)]⟩,
     ⟨some 11, none, .mov (.tmp 13)⟩,
     ⟨some 14, none, .ext (.tmp 11) 0⟩,
     ⟨some 15, none, .ext (.tmp 11) 1⟩,
     ⟨some 7, none, .mov (.tmp 14)⟩,
     ⟨some 8, none, .mov (.tmp 15)⟩])
   (.seq
    (.ops [⟨some 17, none, .mov (.tmp 0)⟩,
      ⟨some 18, none, .call 72 [(.tmp 17)]⟩,
      ⟨some 16, none, .mov (.tmp 18)⟩,
      ⟨some 19, none, .ext (.tmp 16) 0⟩,
      ⟨some 20, none, .ext (.tmp 16) 1⟩,
      ⟨some 9, none, .mov (.tmp 19)⟩,
      ⟨some 10, none, .mov (.tmp 20)⟩])
    (.seq
     (.seq
      (.ops [⟨some 21, none, .mov (.tmp 8)⟩,
        ⟨some 22, none, .bin .neq (.tmp 21) (.const (.int .i64 (0)))⟩,
        ⟨some 23, none, .mov (.tmp 22)⟩,
        ⟨some 24, some (23, false), .mov (.tmp 10)⟩,
        ⟨some 25, some (23, false), .bin .neq (.tmp 24) (.const (.int .i64 (0)))⟩,
        ⟨some 26, none, .pick (.tmp 23) (.const (.bool true)) (.tmp 25)⟩])
      (.cond (.tmp 26)
       (.seq
        (.ops [⟨some 6, none, .mov (.const (.pointer none))⟩])
        .ret)
       .skip))
     (.seq
      (.ops [⟨some 27, none, .mov (.tmp 7)⟩,
        ⟨some 28, none, .mov (.tmp 9)⟩,
        ⟨some 29, none, .mov (.tmp 1)⟩,
        ⟨some 30, none, .mov (.tmp 2)⟩,
        ⟨some 31, none, .build [.pointer none, .pointer none, .bool false, .int .u64 (0)] [(0, 1, (.tmp 27)), (1, 1, (.tmp 28)), (2, 1, (.tmp 29)), (3, 1, (.tmp 30))]⟩,
        ⟨some 32, none, .box 132 4 (.tmp 31)⟩,
        ⟨some 6, none, .mov (.tmp 32)⟩])
      .ret)))))⟩
theorem t27 : T 27 = some c27 := by kernel_rfl

/-- (*plait/inlet.In).Put -/
def c31 : AFunc := ⟨16, 3, [.inl 6],
 (.seq
  (.ops [⟨some 6, none, .mov (.const (.int .i64 (0)))⟩])
  (.seq
   (.seq
    (.ops [⟨some 7, none, .mov (.tmp 0)⟩,
      ⟨some 8, none, .eq false true .ptr (.tmp 7) (.const (.pointer none))⟩])
    (.cond (.tmp 8)
     (.seq
      (.ops [⟨some 6, none, .mov (.const (.int .i64 (0)))⟩])
      .ret)
     .skip))
   (.seq
    (.ops [⟨some 9, none, .mov (.tmp 0)⟩,
      ⟨some 10, none, .nilchk (.tmp 9)⟩,
      ⟨some 11, none, .faddr 0 (.tmp 10)⟩,
      ⟨some 12, none, .load1 (.tmp 11)⟩,
      ⟨some 13, none, .mov (.tmp 1)⟩,
      ⟨some 14, none, .mov (.tmp 2)⟩,
      ⟨some 15, none, .call 84 [(.tmp 12), (.tmp 13), (.tmp 14)]⟩,
      ⟨some 6, none, .mov (.tmp 15)⟩])
    .ret)))⟩
theorem t31 : T 31 = some c31 := by kernel_rfl

/-- (*plait/inlet.In).Map -/
def c32 : AFunc := ⟨15, 2, [.inl 4],
 (.seq
  (.ops [⟨some 3, none, .box 58 4 (.tmp 1)⟩,
    ⟨some 4, none, .mov (.const (.bool false))⟩])
  (.seq
   (.opsD [⟨some 5, none, .mov (.tmp 0)⟩,
     ⟨some 6, none, .eq true true .ptr (.tmp 5) (.const (.pointer none))⟩,
     ⟨some 7, none, .mov (.tmp 6)⟩,
     ⟨some 8, some (7, true), .mov (.tmp 0)⟩,
     ⟨some 9, some (7, true), .nilchk (.tmp 8)⟩,
     ⟨some 10, some (7, true), .faddr 1 (.tmp 9)⟩,
     ⟨some 11, some (7, true), .load1 (.tmp 10)⟩,
     ⟨some 12, some (7, true), .loadN 4 (.tmp 3)⟩,
     ⟨some 13, some (7, true), .call 85 [(.tmp 11), (.tmp 12)]⟩,
     ⟨some 14, none, .pick (.tmp 7) (.tmp 13) (.const (.bool false))⟩,
     ⟨some 4, none, .mov (.tmp 14)⟩] [])
   .ret))⟩
theorem t32 : T 32 = some c32 := by kernel_rfl

/-- (*plait/inlet.In).Raw -/
def c34 : AFunc := ⟨35, 2, [.inl 4],
 (.seq
  (.ops [⟨some 4, none, .mov (.const (.string ⟨⟨[]⟩⟩))⟩])
  (.seq
   (.seq
    (.ops [⟨some 8, none, .mov (.tmp 0)⟩,
      ⟨some 9, none, .eq false true .ptr (.tmp 8) (.const (.pointer none))⟩,
      ⟨some 10, none, .mov (.tmp 9)⟩,
      ⟨some 11, some (10, false), .mov (.tmp 1)⟩,
      ⟨some 12, some (10, false), .bin .lss (.tmp 11) (.const (.int .i64 (1)))⟩,
      ⟨some 13, none, .pick (.tmp 10) (.const (.bool true)) (.tmp 12)⟩])
    (.cond (.tmp 13)
     (.seq
      (.ops [⟨some 4, none, .mov (.const (.string ⟨⟨[]⟩⟩))⟩])
      .ret)
     .skip))
   (.seq
    (.ops [⟨some 14, none, .mov (.tmp 0)⟩,
      ⟨some 15, none, .call 35 [(.tmp 14)]⟩,
      ⟨some 5, none, .mov (.tmp 15)⟩])
    (.seq
     (.opsD [⟨some 17, none, .mov (.tmp 0)⟩,
       ⟨some 18, none, .nilchk (.tmp 17)⟩,
       ⟨some 19, none, .faddr 0 (.tmp 18)⟩,
       ⟨some 20, none, .load1 (.tmp 19)⟩,
       ⟨some 21, none, .mov (.tmp 5)⟩,
       ⟨some 22, none, .mov (.tmp 1)⟩,
       ⟨some 23, none, .mov (.tmp 0)⟩,
       ⟨some 24, none, .nilchk (.tmp 23)⟩,
       ⟨some 25, none, .faddr 0 (.tmp 24)⟩,
       ⟨some 26, none, .load1 (.tmp 25)⟩,
       ⟨some 27, none, .call 87 [(.tmp 26)]⟩,
       ⟨some 28, none, .mov (.tmp 5)⟩,
       ⟨some 29, none, .bin .sub (.tmp 27) (.tmp 28)⟩,
       ⟨some 30, none, .min [(.tmp 22), (.tmp 29)]⟩,
       ⟨some 31, none, .call 86 [(.tmp 20), (.tmp 21), (.tmp 30)]⟩,
       ⟨some 16, none, .mov (.tmp 31)⟩,
       ⟨some 32, none, .ext (.tmp 16) 0⟩,
       ⟨some 33, none, .ext (.tmp 16) 1⟩,
       ⟨some 6, none, .mov (.tmp 32)⟩,
       ⟨some 7, none, .mov (.tmp 33)⟩] [(3, 10), (3, 11)])
     (.seq
      (.ops [⟨some 34, none, .mov (.tmp 6)⟩,
        ⟨some 4, none, .mov (.tmp 34)⟩])
      .ret)))))⟩
theorem t34 : T 34 = some c34 := by kernel_rfl

/-- (*plait/inlet.In).N -/
def c35 : AFunc := ⟨10, 1, [.inl 2],
 (.seq
  (.ops [⟨some 2, none, .mov (.const (.int .i64 (0)))⟩])
  (.seq
   (.seq
    (.ops [⟨some 3, none, .mov (.tmp 0)⟩,
      ⟨some 4, none, .eq false true .ptr (.tmp 3) (.const (.pointer none))⟩])
    (.cond (.tmp 4)
     (.seq
      (.ops [⟨some 2, none, .mov (.const (.int .i64 (0)))⟩])
      .ret)
     .skip))
   (.seq
    (.ops [⟨some 5, none, .mov (.tmp 0)⟩,
      ⟨some 6, none, .nilchk (.tmp 5)⟩,
      ⟨some 7, none, .faddr 0 (.tmp 6)⟩,
      ⟨some 8, none, .load1 (.tmp 7)⟩,
      ⟨some 9, none, .call 88 [(.tmp 8)]⟩,
      ⟨some 2, none, .mov (.tmp 9)⟩])
    .ret)))⟩
theorem t35 : T 35 = some c35 := by kernel_rfl

/-- (*plait/inlet.In).Skip -/
def c38 : AFunc := ⟨19, 2, [],
 (.seq
  (.seq
   (.ops [⟨some 4, none, .mov (.tmp 0)⟩,
     ⟨some 5, none, .eq false true .ptr (.tmp 4) (.const (.pointer none))⟩])
   (.cond (.tmp 5)
    .ret
    .skip))
  (.seq
   (.ops [⟨some 6, none, .mov (.tmp 0)⟩,
     ⟨some 7, none, .nilchk (.tmp 6)⟩,
     ⟨some 8, none, .faddr 0 (.tmp 7)⟩,
     ⟨some 9, none, .load1 (.tmp 8)⟩,
     ⟨some 10, none, .mov (.tmp 1)⟩,
     ⟨some 11, none, .call 89 [(.tmp 9), (.tmp 10)]⟩])
   (.opsD [⟨some 12, none, .mov (.tmp 0)⟩,
     ⟨some 13, none, .nilchk (.tmp 12)⟩,
     ⟨some 14, none, .faddr 1 (.tmp 13)⟩,
     ⟨some 15, none, .load1 (.tmp 14)⟩,
     ⟨some 16, none, .mov (.tmp 0)⟩,
     ⟨some 17, none, .call 35 [(.tmp 16)]⟩,
     ⟨some 18, none, .call 90 [(.tmp 15), (.tmp 17)]⟩] [(3, 5), (3, 6)])))⟩
theorem t38 : T 38 = some c38 := by kernel_rfl

/-- (*plait/inlet.In).Next -/
def c81 : AFunc := ⟨72, 1, [.inl 2, .inr (3, 4, true), .inr (4, 1, false)],
 (.seq
  (.ops [⟨some 1, none, .box 52 1 (.tmp 0)⟩,
    ⟨some 2, none, .mov (.const (.int .i64 (0)))⟩,
    ⟨some 3, none, .alloc 58 [.int .i64 (0), .int .i64 (0), .int .i64 (0), .int .u16 (0)]⟩,
    ⟨some 4, none, .alloc 9 [.string ⟨⟨[]⟩⟩]⟩])
  (.seq
   (.seq
    (.ops [⟨some 10, none, .load1 (.tmp 1)⟩,
      ⟨some 11, none, .eq false true .ptr (.tmp 10) (.const (.pointer none))⟩])
    (.cond (.tmp 11)
     (.seq
      (.opsD [⟨some 12, none, .loadN 4 (.tmp 3)⟩,
        ⟨some 2, none, .mov (.const (.int .i64 (0)))⟩,
        ⟨none, none, .store 4 (.tmp 3) (.tmp 12)⟩,
        ⟨none, none, .store 1 (.tmp 4) (.const (.string ⟨⟨[]⟩⟩))⟩] [])
      .ret)
     .skip))
   (.seq
    (.ops [⟨some 13, none, .load1 (.tmp 1)⟩,
      ⟨some 14, none, .call 35 [(.tmp 13)]⟩,
      ⟨some 5, none, .mov (.tmp 14)⟩])
    (.seq
     (.ops [⟨some 16, none, .load1 (.tmp 1)⟩,
       ⟨some 17, none, .nilchk (.tmp 16)⟩,
       ⟨some 18, none, .faddr 1 (.tmp 17)⟩,
       ⟨some 19, none, .load1 (.tmp 18)⟩,
       ⟨some 20, none, .mov (.tmp 5)⟩,
       ⟨some 21, none, .call 119 [(.tmp 19), (.tmp 20)]⟩,
       ⟨some 15, none, .mov (.tmp 21)⟩,
       ⟨some 22, none, .ext (.tmp 15) 0⟩,
       ⟨some 23, none, .ext (.tmp 15) 1⟩,
       ⟨none, none, .store 4 (.tmp 3) (.tmp 22)⟩,
       ⟨some 6, none, .mov (.tmp 23)⟩])
     (.seq
      (.ops [⟨some 24, none, .load1 (.tmp 1)⟩,
        ⟨some 25, none, .nilchk (.tmp 24)⟩,
        ⟨some 26, none, .faddr 0 (.tmp 25)⟩,
        ⟨some 27, none, .load1 (.tmp 26)⟩,
        ⟨some 28, none, .mkF 86 [(.tmp 27)] []⟩,
        ⟨some 7, none, .mov (.tmp 28)⟩])
      (.seq
       (.ops [⟨some 30, none, .mov (.tmp 7)⟩,
         ⟨some 31, none, .mov (.tmp 5)⟩,
         ⟨some 32, none, .faddr 2 (.tmp 3)⟩,
         ⟨some 33, none, .load1 (.tmp 32)⟩,
         ⟨some 34, none, .callv (.tmp 30) [(.tmp 31), (.tmp 33)]⟩,
         ⟨some 29, none, .mov (.tmp 34)⟩,
         ⟨some 35, none, .ext (.tmp 29) 0⟩,
         ⟨some 36, none, .ext (.tmp 29) 1⟩,
         ⟨none, none, .store 1 (.tmp 4) (.tmp 35)⟩,
         ⟨some 8, none, .mov (.tmp 36)⟩])
       (.seq
        (.ops [⟨some 37, none, .mkF 120 [] [(.tmp 1), (.tmp 3), (.tmp 4)]⟩,
          ⟨some 9, none, .mov (.tmp 37)⟩])
        (.seq
         (.block 0
          (.seq
           (.ops [⟨some 39, none, .mov (.tmp 6)⟩,
             ⟨some 40, none, .un .not (.tmp 39)⟩,
             ⟨some 41, none, .mov (.tmp 40)⟩,
             ⟨some 42, some (41, true), .load1 (.tmp 1)⟩,
             ⟨some 43, some (41, true), .nilchk (.tmp 42)⟩,
             ⟨some 44, some (41, true), .faddr 0 (.tmp 43)⟩,
             ⟨some 45, some (41, true), .load1 (.tmp 44)⟩,
             ⟨some 46, some (41, true), .mov (.tmp 5)⟩,
             ⟨some 47, some (41, true), .call 122 [(.tmp 45), (.tmp 46)]⟩,
             ⟨some 48, none, .pick (.tmp 41) (.tmp 47) (.const (.bool false))⟩,
             ⟨some 38, none, .mov (.tmp 48)⟩])
           (.cond (.tmp 38)
            (.seq
             (.ops [⟨some 49, none, .build [.int .i64 (0), .int .i64 (0), .int .i64 (0), .int .u16 (0)] []⟩,
               ⟨some 2, none, .mov (.const (.int .i64 (3)))⟩,
               ⟨none, none, .store 4 (.tmp 3) (.tmp 49)⟩,
               ⟨none, none, .store 1 (.tmp 4) (.const (.string ⟨⟨[]⟩⟩))⟩])
             .ret)
            (.seq
             (.ops [⟨some 51, none, .mov (.tmp 6)⟩,
               ⟨some 52, none, .un .not (.tmp 51)⟩,
               ⟨some 53, none, .mov (.tmp 52)⟩,
               ⟨some 54, some (53, false), .mov (.tmp 8)⟩,
               ⟨some 55, some (53, false), .un .not (.tmp 54)⟩,
               ⟨some 56, none, .pick (.tmp 53) (.const (.bool true)) (.tmp 55)⟩,
               ⟨some 50, none, .mov (.tmp 56)⟩])
             (.cond (.tmp 50)
              (.seq
               (.ops [⟨some 57, none, .build [.int .i64 (0), .int .i64 (0), .int .i64 (0), .int .u16 (0)] []⟩,
                 ⟨some 2, none, .mov (.const (.int .i64 (0)))⟩,
                 ⟨none, none, .store 4 (.tmp 3) (.tmp 57)⟩,
                 ⟨none, none, .store 1 (.tmp 4) (.const (.string ⟨⟨[]⟩⟩))⟩])
               .ret)
              (.seq
               (.ops [⟨some 59, none, .load1 (.tmp 1)⟩,
                 ⟨some 60, none, .nilchk (.tmp 59)⟩,
                 ⟨some 61, none, .faddr 2 (.tmp 60)⟩,
                 ⟨some 62, none, .load1 (.tmp 61)⟩,
                 ⟨some 63, none, .mov (.tmp 62)⟩,
                 ⟨some 64, some (63, true), .mov (.tmp 9)⟩,
                 ⟨some 65, some (63, true), .callv (.tmp 64) []⟩,
                 ⟨some 66, some (63, true), .un .not (.tmp 65)⟩,
                 ⟨some 67, none, .pick (.tmp 63) (.tmp 66) (.const (.bool false))⟩,
                 ⟨some 58, none, .mov (.tmp 67)⟩])
               (.cond (.tmp 58)
                (.seq
                 (.opsD [⟨some 68, none, .loadN 4 (.tmp 3)⟩,
                   ⟨some 69, none, .load1 (.tmp 4)⟩,
                   ⟨some 2, none, .mov (.const (.int .i64 (2)))⟩,
                   ⟨none, none, .store 4 (.tmp 3) (.tmp 68)⟩,
                   ⟨none, none, .store 1 (.tmp 4) (.tmp 69)⟩] [(1, 3), (1, 4)])
                 .ret)
                .skip)))))))
         (.seq
          (.opsD [⟨some 70, none, .loadN 4 (.tmp 3)⟩,
            ⟨some 71, none, .load1 (.tmp 4)⟩,
            ⟨some 2, none, .mov (.const (.int .i64 (1)))⟩,
            ⟨none, none, .store 4 (.tmp 3) (.tmp 70)⟩,
            ⟨none, none, .store 1 (.tmp 4) (.tmp 71)⟩] [(1, 3), (1, 4)])
          .ret)))))))))⟩
theorem t81 : T 81 = some c81 := by kernel_rfl

/-- (*plait/inlet.In).Next$1 -/
def c120 : AFunc := ⟨23, 3, [.inl 3],
 (.seq
  (.ops [⟨some 3, none, .mov (.const (.bool false))⟩])
  (.seq
   (.opsD [⟨some 4, none, .load1 (.tmp 0)⟩,
     ⟨some 5, none, .nilchk (.tmp 4)⟩,
     ⟨some 6, none, .faddr 3 (.tmp 5)⟩,
     ⟨some 7, none, .load1 (.tmp 6)⟩,
     ⟨some 8, none, .bin .add (.tmp 7) (.const (.int .u64 (1)))⟩,
     ⟨some 9, none, .faddr 1 (.tmp 1)⟩,
     ⟨some 10, none, .load1 (.tmp 9)⟩,
     ⟨some 11, none, .cvInt .u64 (.tmp 10)⟩,
     ⟨some 12, none, .bin .add (.tmp 8) (.tmp 11)⟩,
     ⟨some 13, none, .faddr 0 (.tmp 1)⟩,
     ⟨some 14, none, .load1 (.tmp 13)⟩,
     ⟨some 15, none, .bin .add (.const (.int .i64 (1))) (.tmp 14)⟩,
     ⟨some 16, none, .cvInt .u32 (.tmp 15)⟩,
     ⟨some 17, none, .faddr 2 (.tmp 1)⟩,
     ⟨some 18, none, .load1 (.tmp 17)⟩,
     ⟨some 19, none, .load1 (.tmp 2)⟩,
     ⟨some 20, none, .faddr 3 (.tmp 1)⟩,
     ⟨some 21, none, .load1 (.tmp 20)⟩,
     ⟨some 22, none, .call 121 [(.tmp 12), (.tmp 16), (.tmp 18), (.tmp 19), (.tmp 21)]⟩,
     ⟨some 3, none, .mov (.tmp 22)⟩] [])
   .ret))⟩
theorem t120 : T 120 = some c120 := by kernel_rfl

/-- plait/plaitlaw20.next -/
def c33 : AFunc := ⟨31, 4, [.inl 8],
 (.seq
  (.ops [⟨some 6, none, .box 58 4 (.tmp 2)⟩,
    ⟨some 8, none, .mov (.const (.bool false))⟩])
  (.seq
   (.ops [⟨some 13, none, .mov (.tmp 0)⟩,
     ⟨some 14, none, .call 81 [(.tmp 13)]⟩,
     ⟨some 12, none, .mov (.tmp 14)⟩,
     ⟨some 15, none, .ext (.tmp 12) 0⟩,
     ⟨some 16, none, .ext (.tmp 12) 1⟩,
     ⟨some 17, none, .ext (.tmp 12) 2⟩,
     ⟨some 10, none, .alloc 58 [.int .i64 (0), .int .i64 (0), .int .i64 (0), .int .u16 (0)]⟩,
     ⟨some 9, none, .mov (.tmp 15)⟩,
     ⟨none, none, .store 4 (.tmp 10) (.tmp 16)⟩,
     ⟨some 11, none, .mov (.tmp 17)⟩])
   (.seq
    (.ops [⟨some 18, none, .mov (.tmp 9)⟩,
      ⟨some 19, none, .mov (.tmp 1)⟩,
      ⟨some 20, none, .bin .eql (.tmp 18) (.tmp 19)⟩,
      ⟨some 21, none, .mov (.tmp 20)⟩,
      ⟨some 22, some (21, true), .loadN 4 (.tmp 10)⟩,
      ⟨some 23, some (21, true), .loadN 4 (.tmp 6)⟩,
      ⟨some 24, some (21, true), .eqF false [(0, .i), (1, .i), (2, .i), (3, .i)] (.tmp 22) (.tmp 23)⟩,
      ⟨some 25, none, .pick (.tmp 21) (.tmp 24) (.const (.bool false))⟩,
      ⟨some 26, none, .mov (.tmp 25)⟩,
      ⟨some 27, some (26, true), .mov (.tmp 11)⟩,
      ⟨some 28, some (26, true), .mov (.tmp 3)⟩,
      ⟨some 29, some (26, true), .bin .eql (.tmp 27) (.tmp 28)⟩,
      ⟨some 30, none, .pick (.tmp 26) (.tmp 29) (.const (.bool false))⟩,
      ⟨some 8, none, .mov (.tmp 30)⟩])
    .ret)))⟩
theorem t33 : T 33 = some c33 := by kernel_rfl

end Go.Proofs.Ytidgbapgedegbaa

