/- The code of functions, as the framework reads it. -/
import Derived.Test.YtidgbapgedegbaaTab
import Derived.KernelRfl
namespace Go.Proofs.Ytidgbapgedegbaa
open Go Go.AS
set_option maxRecDepth 100000

/-- plait/plaitlaw20.InletFirst -/
def c8 : AFunc := ⟨125, 3, [.inl 6],
 (.seq
  (.ops [⟨some 6, none, .mov (.const (.bool false))⟩])
  (.seq
   (.seq
    (.ops [⟨some 13, none, .call 29 []⟩,
      ⟨some 14, none, .un .not (.tmp 13)⟩])
    (.cond (.tmp 14)
     (.seq
      (.ops [⟨some 6, none, .mov (.const (.bool false))⟩])
      .ret)
     .skip))
   (.seq
    (.ops [⟨some 15, none, .mov (.tmp 0)⟩,
      ⟨some 16, none, .bin .add (.tmp 15) (.const (.string ⟨⟨[97]⟩⟩))⟩,
      ⟨some 17, none, .mov (.tmp 0)⟩,
      ⟨some 18, none, .lenS (.tmp 17)⟩,
      ⟨some 19, none, .bin .add (.tmp 18) (.const (.int .i64 (1)))⟩,
      ⟨some 20, none, .min [(.tmp 19), (.const (.int .i64 (40)))]⟩,
      ⟨some 21, none, .sliceS (.tmp 16) none (some (.tmp 20))⟩,
      ⟨some 0, none, .mov (.tmp 21)⟩])
    (.seq
     (.ops [⟨some 22, none, .mov (.tmp 1)⟩,
       ⟨some 23, none, .mov (.tmp 1)⟩,
       ⟨some 24, none, .lenS (.tmp 23)⟩,
       ⟨some 25, none, .min [(.tmp 24), (.const (.int .i64 (40)))]⟩,
       ⟨some 26, none, .sliceS (.tmp 22) none (some (.tmp 25))⟩,
       ⟨some 1, none, .mov (.tmp 26)⟩])
     (.seq
      (.ops [⟨some 27, none, .call 27 [(.const (.int .i64 (100))), (.const (.bool false)), (.const (.int .u64 (0)))]⟩,
        ⟨some 7, none, .mov (.tmp 27)⟩])
      (.seq
       (.seq
        (.ops [⟨some 28, none, .mov (.tmp 7)⟩,
          ⟨some 29, none, .eq false true .ptr (.tmp 28) (.const (.pointer none))⟩,
          ⟨some 30, none, .mov (.tmp 29)⟩,
          ⟨some 31, some (30, false), .mov (.tmp 7)⟩,
          ⟨some 32, some (30, false), .mov (.tmp 0)⟩,
          ⟨some 33, some (30, false), .call 31 [(.tmp 31), (.const (.int .i64 (0))), (.tmp 32)]⟩,
          ⟨some 34, some (30, false), .mov (.tmp 0)⟩,
          ⟨some 35, some (30, false), .lenS (.tmp 34)⟩,
          ⟨some 36, some (30, false), .bin .neq (.tmp 33) (.tmp 35)⟩,
          ⟨some 37, none, .pick (.tmp 30) (.const (.bool true)) (.tmp 36)⟩])
        (.cond (.tmp 37)
         (.seq
          (.ops [⟨some 6, none, .mov (.const (.bool false))⟩])
          .ret)
         .skip))
       (.seq
        (.ops [⟨some 38, none, .mov (.tmp 2)⟩,
          ⟨some 39, none, .cvInt .i64 (.tmp 38)⟩,
          ⟨some 40, none, .mov (.tmp 0)⟩,
          ⟨some 41, none, .lenS (.tmp 40)⟩,
          ⟨some 42, none, .bin .add (.tmp 41) (.const (.int .i64 (1)))⟩,
          ⟨some 43, none, .bin .rem (.tmp 39) (.tmp 42)⟩,
          ⟨some 8, none, .mov (.tmp 43)⟩])
        (.seq
         (.ops [⟨some 44, none, .mov (.tmp 8)⟩,
           ⟨some 45, none, .mov (.tmp 1)⟩,
           ⟨some 46, none, .lenS (.tmp 45)⟩,
           ⟨some 47, none, .bin .add (.tmp 44) (.tmp 46)⟩,
           ⟨some 48, none, .mov (.tmp 0)⟩,
           ⟨some 49, none, .lenS (.tmp 48)⟩,
           ⟨some 50, none, .bin .sub (.tmp 47) (.tmp 49)⟩,
           ⟨some 51, none, .max [(.const (.int .i64 (0))), (.tmp 50)]⟩,
           ⟨some 9, none, .mov (.tmp 51)⟩])
         (.seq
          (.seq
           (.ops [⟨some 52, none, .mov (.tmp 7)⟩,
             ⟨some 53, none, .mov (.tmp 8)⟩,
             ⟨some 54, none, .mov (.tmp 1)⟩,
             ⟨some 55, none, .call 31 [(.tmp 52), (.tmp 53), (.tmp 54)]⟩,
             ⟨some 56, none, .mov (.tmp 9)⟩,
             ⟨some 57, none, .bin .neq (.tmp 55) (.tmp 56)⟩,
             ⟨some 58, none, .mov (.tmp 57)⟩,
             ⟨some 59, some (58, false), .mov (.tmp 7)⟩,
             ⟨some 60, some (58, false), .mov (.tmp 0)⟩,
             ⟨some 61, some (58, false), .call 31 [(.tmp 59), (.const (.int .i64 (0))), (.tmp 60)]⟩,
             ⟨some 62, some (58, false), .bin .neq (.tmp 61) (.const (.int .i64 (0)))⟩,
             ⟨some 63, none, .pick (.tmp 58) (.const (.bool true)) (.tmp 62)⟩])
           (.cond (.tmp 63)
            (.seq
             (.ops [⟨some 6, none, .mov (.const (.bool false))⟩])
             .ret)
            .skip))
          (.seq
           (.ops [⟨some 64, none, .mov (.tmp 0)⟩,
             ⟨some 65, none, .mov (.tmp 1)⟩,
             ⟨some 66, none, .mov (.tmp 1)⟩,
             ⟨some 67, none, .lenS (.tmp 66)⟩,
             ⟨some 68, none, .mov (.tmp 9)⟩,
             ⟨some 69, none, .bin .sub (.tmp 67) (.tmp 68)⟩,
             ⟨some 70, none, .sliceS (.tmp 65) (some (.tmp 69)) none⟩,
             ⟨some 71, none, .bin .add (.tmp 64) (.tmp 70)⟩,
             ⟨some 10, none, .mov (.tmp 71)⟩])
           (.seq
            (.ops [⟨some 72, none, .mov (.tmp 0)⟩,
              ⟨some 73, none, .lenS (.tmp 72)⟩,
              ⟨some 74, none, .build [.int .i64 (0), .int .i64 (0), .int .i64 (0), .int .u16 (0)] [(1, 1, (.const (.int .i64 (5)))), (2, 1, (.tmp 73))]⟩,
              ⟨some 11, none, .alloc 58 [.int .i64 (0), .int .i64 (0), .int .i64 (0), .int .u16 (0)]⟩,
              ⟨none, none, .store 4 (.tmp 11) (.tmp 74)⟩])
            (.seq
             (.ops [⟨some 75, none, .mov (.tmp 7)⟩,
               ⟨some 76, none, .loadN 4 (.tmp 11)⟩,
               ⟨some 77, none, .call 32 [(.tmp 75), (.tmp 76)]⟩,
               ⟨some 78, none, .mov (.tmp 77)⟩,
               ⟨some 79, some (78, true), .mov (.tmp 7)⟩,
               ⟨some 80, some (78, true), .build [.int .i64 (0), .int .i64 (0), .int .i64 (0), .int .u16 (0)] [(1, 1, (.const (.int .i64 (9)))), (2, 1, (.const (.int .i64 (1))))]⟩,
               ⟨some 81, some (78, true), .call 32 [(.tmp 79), (.tmp 80)]⟩,
               ⟨some 82, some (78, true), .un .not (.tmp 81)⟩,
               ⟨some 83, none, .pick (.tmp 78) (.tmp 82) (.const (.bool false))⟩,
               ⟨some 12, none, .mov (.tmp 83)⟩])
             (.seq
              (.opsD [⟨some 84, none, .mov (.tmp 12)⟩,
                ⟨some 85, none, .mov (.tmp 84)⟩,
                ⟨some 86, some (85, true), .mov (.tmp 7)⟩,
                ⟨some 87, some (85, true), .loadN 4 (.tmp 11)⟩,
                ⟨some 88, some (85, true), .mov (.tmp 0)⟩,
                ⟨some 89, some (85, true), .call 33 [(.tmp 86), (.const (.int .i64 (1))), (.tmp 87), (.tmp 88)]⟩,
                ⟨some 90, none, .pick (.tmp 85) (.tmp 89) (.const (.bool false))⟩,
                ⟨some 91, none, .mov (.tmp 90)⟩,
                ⟨some 92, some (91, true), .mov (.tmp 7)⟩,
                ⟨some 93, some (91, true), .loadN 4 (.tmp 11)⟩,
                ⟨some 94, some (91, true), .mov (.tmp 0)⟩,
                ⟨some 95, some (91, true), .call 33 [(.tmp 92), (.const (.int .i64 (1))), (.tmp 93), (.tmp 94)]⟩,
                ⟨some 96, none, .pick (.tmp 91) (.tmp 95) (.const (.bool false))⟩,
                ⟨some 97, none, .mov (.tmp 96)⟩,
                ⟨some 98, some (97, true), .mov (.tmp 7)⟩,
                ⟨some 99, some (97, true), .call 34 [(.tmp 98), (.const (.int .i64 (100)))]⟩,
                ⟨some 100, some (97, true), .mov (.tmp 10)⟩,
                ⟨some 101, some (97, true), .bin .eql (.tmp 99) (.tmp 100)⟩,
                ⟨some 102, none, .pick (.tmp 97) (.tmp 101) (.const (.bool false))⟩,
                ⟨some 103, none, .mov (.tmp 102)⟩,
                ⟨some 104, some (103, true), .mov (.tmp 7)⟩,
                ⟨some 105, some (103, true), .call 35 [(.tmp 104)]⟩,
                ⟨some 106, some (103, true), .bin .eql (.tmp 105) (.const (.int .i64 (0)))⟩,
                ⟨some 107, none, .pick (.tmp 103) (.tmp 106) (.const (.bool false))⟩,
                ⟨some 108, none, .mov (.tmp 107)⟩,
                ⟨some 109, some (108, true), .mov (.tmp 7)⟩,
                ⟨some 110, some (108, true), .call 34 [(.tmp 109), (.const (.int .i64 (1)))]⟩,
                ⟨some 111, some (108, true), .mov (.tmp 10)⟩,
                ⟨some 112, some (108, true), .sliceS (.tmp 111) none (some (.const (.int .i64 (1))))⟩,
                ⟨some 113, some (108, true), .bin .eql (.tmp 110) (.tmp 112)⟩,
                ⟨some 114, none, .pick (.tmp 108) (.tmp 113) (.const (.bool false))⟩,
                ⟨some 115, none, .mov (.tmp 114)⟩,
                ⟨some 116, some (115, true), .mov (.tmp 7)⟩,
                ⟨some 117, some (115, true), .call 34 [(.tmp 116), (.const (.int .i64 (0)))]⟩,
                ⟨some 118, some (115, true), .bin .eql (.tmp 117) (.const (.string ⟨⟨[]⟩⟩))⟩,
                ⟨some 119, none, .pick (.tmp 115) (.tmp 118) (.const (.bool false))⟩,
                ⟨some 120, none, .mov (.tmp 119)⟩,
                ⟨some 121, some (120, true), .mov (.tmp 7)⟩,
                ⟨some 122, some (120, true), .call 34 [(.tmp 121), (.const (.int .i64 (-4)))]⟩,
                ⟨some 123, some (120, true), .bin .eql (.tmp 122) (.const (.string ⟨⟨[]⟩⟩))⟩,
                ⟨some 124, none, .pick (.tmp 120) (.tmp 123) (.const (.bool false))⟩,
                ⟨some 6, none, .mov (.tmp 124)⟩] [])
              .ret)))))))))))))⟩
theorem t8 : T 8 = some c8 := by kernel_rfl

end Go.Proofs.Ytidgbapgedegbaa

