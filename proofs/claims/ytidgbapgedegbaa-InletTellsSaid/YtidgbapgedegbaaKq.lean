/- The code of functions, as the framework reads it. -/
import Derived.Test.YtidgbapgedegbaaTab
import Derived.KernelRfl
namespace Go.Proofs.Ytidgbapgedegbaa
open Go Go.AS
set_option maxRecDepth 100000

def d9n : ACode :=
 (.seq
                     (.opsD [⟨some 104, none, .mov (.tmp 9)⟩,
                       ⟨some 105, none, .mov (.tmp 7)⟩,
                       ⟨some 106, none, .mov (.tmp 13)⟩,
                       ⟨some 107, none, .iaddrS 4 (.tmp 105) (.tmp 106)⟩,
                       ⟨some 108, none, .faddr 0 (.tmp 107)⟩,
                       ⟨some 109, none, .load1 (.tmp 108)⟩,
                       ⟨some 110, none, .mov (.tmp 14)⟩,
                       ⟨some 111, none, .bin .add (.tmp 109) (.tmp 110)⟩,
                       ⟨some 112, none, .mov (.tmp 8)⟩,
                       ⟨some 113, none, .mov (.tmp 13)⟩,
                       ⟨some 114, none, .iaddrS 1 (.tmp 112) (.tmp 113)⟩,
                       ⟨some 115, none, .load1 (.tmp 114)⟩,
                       ⟨some 116, none, .mov (.tmp 14)⟩,
                       ⟨some 117, none, .mov (.tmp 15)⟩,
                       ⟨some 118, none, .sliceS (.tmp 115) (some (.tmp 116)) (some (.tmp 117))⟩,
                       ⟨some 119, none, .call 31 [(.tmp 104), (.tmp 111), (.tmp 118)]⟩] [])
                     (.ops [⟨some 121, none, .mov (.tmp 9)⟩,
                       ⟨some 122, none, .mov (.tmp 7)⟩,
                       ⟨some 123, none, .mov (.tmp 8)⟩,
                       ⟨some 124, none, .mov (.tmp 10)⟩,
                       ⟨some 125, none, .call 37 [(.tmp 121), (.tmp 122), (.tmp 123), (.tmp 124)]⟩,
                       ⟨some 120, none, .mov (.tmp 125)⟩,
                       ⟨some 126, none, .ext (.tmp 120) 0⟩,
                       ⟨some 127, none, .ext (.tmp 120) 1⟩,
                       ⟨some 10, none, .mov (.tmp 126)⟩,
                       ⟨some 11, none, .mov (.tmp 127)⟩]))

def d9m : ACode :=
 (.seq
                    (.ops [⟨some 98, none, .mov (.tmp 9)⟩,
                      ⟨some 99, none, .mov (.tmp 7)⟩,
                      ⟨some 100, none, .mov (.tmp 13)⟩,
                      ⟨some 101, none, .iaddrS 4 (.tmp 99) (.tmp 100)⟩,
                      ⟨some 102, none, .loadN 4 (.tmp 101)⟩,
                      ⟨some 103, none, .call 32 [(.tmp 98), (.tmp 102)]⟩])
                    d9n)

/-- plait/plaitlaw20.InletTakes -/
def d9 : AFunc := ⟨148, 3, [.inl 6],
 (.seq
  (.ops [⟨some 3, none, .box 69 4 (.tmp 0)⟩,
    ⟨some 6, none, .mov (.const (.bool false))⟩])
  (.seq
   (.seq
    (.ops [⟨some 17, none, .call 29 []⟩,
      ⟨some 18, none, .un .not (.tmp 17)⟩])
    (.cond (.tmp 18)
     (.seq
      (.ops [⟨some 6, none, .mov (.const (.bool false))⟩])
      .ret)
     .skip))
   (.seq
    (.ops [⟨some 20, none, .loadN 4 (.tmp 3)⟩,
      ⟨some 21, none, .call 36 [(.tmp 20)]⟩,
      ⟨some 19, none, .mov (.tmp 21)⟩,
      ⟨some 22, none, .ext (.tmp 19) 0⟩,
      ⟨some 23, none, .ext (.tmp 19) 1⟩,
      ⟨some 7, none, .mov (.tmp 22)⟩,
      ⟨some 8, none, .mov (.tmp 23)⟩])
    (.seq
     (.ops [⟨some 24, none, .mov (.tmp 1)⟩,
       ⟨some 25, none, .bin .rem (.tmp 24) (.const (.int .u8 (100)))⟩,
       ⟨some 26, none, .cvInt .i64 (.tmp 25)⟩,
       ⟨some 27, none, .bin .add (.const (.int .i64 (40))) (.tmp 26)⟩,
       ⟨some 28, none, .faddr 3 (.tmp 3)⟩,
       ⟨some 29, none, .load1 (.tmp 28)⟩,
       ⟨some 30, none, .faddr 2 (.tmp 3)⟩,
       ⟨some 31, none, .load1 (.tmp 30)⟩,
       ⟨some 32, none, .call 27 [(.tmp 27), (.tmp 29), (.tmp 31)]⟩,
       ⟨some 9, none, .mov (.tmp 32)⟩])
     (.seq
      (.seq
       (.ops [⟨some 33, none, .mov (.tmp 9)⟩,
         ⟨some 34, none, .eq false true .ptr (.tmp 33) (.const (.pointer none))⟩])
       (.cond (.tmp 34)
        (.seq
         (.ops [⟨some 6, none, .mov (.const (.bool false))⟩])
         .ret)
        .skip))
      (.seq
       (.ops [⟨some 10, none, .mov (.const (.int .i64 (0)))⟩,
         ⟨some 11, none, .mov (.const (.bool true))⟩])
       (.seq
        (.seq
         (.ops [⟨some 12, none, .mov (.const (.int .i64 (0)))⟩])
         (.block 0
          (.loop
           (.seq
            (.seq
             (.ops [⟨some 35, none, .mov (.tmp 12)⟩,
               ⟨some 36, none, .mov (.tmp 2)⟩,
               ⟨some 37, none, .lenV (.tmp 36)⟩,
               ⟨some 38, none, .mov (.tmp 7)⟩,
               ⟨some 39, none, .lenV (.tmp 38)⟩,
               ⟨some 40, none, .bin .add (.tmp 37) (.tmp 39)⟩,
               ⟨some 41, none, .bin .lss (.tmp 35) (.tmp 40)⟩,
               ⟨some 42, none, .mov (.tmp 41)⟩,
               ⟨some 43, some (42, true), .mov (.tmp 11)⟩,
               ⟨some 44, none, .pick (.tmp 42) (.tmp 43) (.const (.bool false))⟩])
             (.cond (.tmp 44)
              .skip
              (.exit 0)))
            (.seq
             (.block 1
              (.seq
               (.ops [⟨some 47, none, .mov (.tmp 12)⟩,
                 ⟨some 48, none, .mov (.tmp 2)⟩,
                 ⟨some 49, none, .lenV (.tmp 48)⟩,
                 ⟨some 50, none, .bin .sub (.tmp 47) (.tmp 49)⟩,
                 ⟨some 13, none, .mov (.tmp 50)⟩,
                 ⟨some 14, none, .mov (.const (.int .i64 (0)))⟩,
                 ⟨some 15, none, .mov (.const (.int .i64 (0)))⟩])
               (.seq
                (.seq
                 (.ops [⟨some 51, none, .mov (.tmp 13)⟩,
                   ⟨some 52, none, .bin .lss (.tmp 51) (.const (.int .i64 (0)))⟩])
                 (.cond (.tmp 52)
                  (.seq
                   (.seq
                    (.ops [⟨some 53, none, .mov (.tmp 12)⟩,
                      ⟨some 54, none, .bin .geq (.tmp 53) (.const (.int .i64 (100)))⟩])
                    (.cond (.tmp 54)
                     (.exit 1)
                     .skip))
                   (.ops [⟨some 55, none, .mov (.tmp 2)⟩,
                     ⟨some 56, none, .mov (.tmp 12)⟩,
                     ⟨some 57, none, .iaddrS 1 (.tmp 55) (.tmp 56)⟩,
                     ⟨some 58, none, .load1 (.tmp 57)⟩,
                     ⟨some 59, none, .cvInt .i64 (.tmp 58)⟩,
                     ⟨some 60, none, .mov (.tmp 7)⟩,
                     ⟨some 61, none, .lenV (.tmp 60)⟩,
                     ⟨some 62, none, .max [(.tmp 61), (.const (.int .i64 (1)))]⟩,
                     ⟨some 63, none, .bin .rem (.tmp 59) (.tmp 62)⟩,
                     ⟨some 13, none, .mov (.tmp 63)⟩]))
                  .skip))
                (.seq
                 (.seq
                  (.ops [⟨some 64, none, .mov (.tmp 13)⟩,
                    ⟨some 65, none, .mov (.tmp 7)⟩,
                    ⟨some 66, none, .lenV (.tmp 65)⟩,
                    ⟨some 67, none, .bin .geq (.tmp 64) (.tmp 66)⟩])
                  (.cond (.tmp 67)
                   (.exit 1)
                   .skip))
                 (.seq
                  (.ops [⟨some 68, none, .mov (.tmp 8)⟩,
                    ⟨some 69, none, .mov (.tmp 13)⟩,
                    ⟨some 70, none, .iaddrS 1 (.tmp 68) (.tmp 69)⟩,
                    ⟨some 71, none, .load1 (.tmp 70)⟩,
                    ⟨some 72, none, .lenS (.tmp 71)⟩,
                    ⟨some 15, none, .mov (.tmp 72)⟩])
                  (.seq
                   (.seq
                    (.ops [⟨some 73, none, .mov (.tmp 12)⟩,
                      ⟨some 74, none, .mov (.tmp 2)⟩,
                      ⟨some 75, none, .lenV (.tmp 74)⟩,
                      ⟨some 76, none, .bin .lss (.tmp 73) (.tmp 75)⟩])
                    (.cond (.tmp 76)
                     (.seq
                      (.ops [⟨some 77, none, .mov (.tmp 2)⟩,
                        ⟨some 78, none, .mov (.tmp 12)⟩,
                        ⟨some 79, none, .iaddrS 1 (.tmp 77) (.tmp 78)⟩,
                        ⟨some 80, none, .load1 (.tmp 79)⟩,
                        ⟨some 81, none, .bin .shr (.tmp 80) (.const (.int .u64 (10)))⟩,
                        ⟨some 82, none, .cvInt .i64 (.tmp 81)⟩,
                        ⟨some 83, none, .mov (.tmp 15)⟩,
                        ⟨some 84, none, .bin .add (.tmp 83) (.const (.int .i64 (1)))⟩,
                        ⟨some 85, none, .bin .rem (.tmp 82) (.tmp 84)⟩,
                        ⟨some 16, none, .mov (.tmp 85)⟩])
                      (.seq
                       (.ops [⟨some 86, none, .mov (.tmp 2)⟩,
                         ⟨some 87, none, .mov (.tmp 12)⟩,
                         ⟨some 88, none, .iaddrS 1 (.tmp 86) (.tmp 87)⟩,
                         ⟨some 89, none, .load1 (.tmp 88)⟩,
                         ⟨some 90, none, .bin .shr (.tmp 89) (.const (.int .u64 (8)))⟩,
                         ⟨some 91, none, .bin .rem (.tmp 90) (.const (.int .u16 (4)))⟩])
                       (.block 2
                        (.seq
                         (.ops [⟨some 93, none, .bin .eql (.tmp 91) (.const (.int .u16 (1)))⟩,
                           ⟨some 92, none, .mov (.tmp 93)⟩])
                         (.cond (.tmp 92)
                          (.ops [⟨some 94, none, .mov (.tmp 16)⟩,
                            ⟨some 15, none, .mov (.tmp 94)⟩])
                          (.seq
                           (.ops [⟨some 96, none, .bin .eql (.tmp 91) (.const (.int .u16 (2)))⟩,
                             ⟨some 95, none, .mov (.tmp 96)⟩])
                           (.cond (.tmp 95)
                            (.ops [⟨some 97, none, .mov (.tmp 16)⟩,
                              ⟨some 14, none, .mov (.tmp 97)⟩])
                            .skip)))))))
                     .skip))
                   d9m))))))
             (.ops [⟨some 45, none, .mov (.tmp 12)⟩,
               ⟨some 46, none, .bin .add (.tmp 45) (.const (.int .i64 (1)))⟩,
               ⟨some 12, none, .mov (.tmp 46)⟩]))))))
        (.seq
         (.opsD [⟨some 128, none, .mov (.tmp 11)⟩,
           ⟨some 129, none, .mov (.tmp 128)⟩,
           ⟨some 130, some (129, true), .mov (.tmp 10)⟩,
           ⟨some 131, some (129, true), .mov (.tmp 7)⟩,
           ⟨some 132, some (129, true), .lenV (.tmp 131)⟩,
           ⟨some 133, some (129, true), .bin .eql (.tmp 130) (.tmp 132)⟩,
           ⟨some 134, none, .pick (.tmp 129) (.tmp 133) (.const (.bool false))⟩,
           ⟨some 135, none, .mov (.tmp 134)⟩,
           ⟨some 136, some (135, true), .mov (.tmp 9)⟩,
           ⟨some 137, some (135, true), .call 35 [(.tmp 136)]⟩,
           ⟨some 138, some (135, true), .faddr 0 (.tmp 3)⟩,
           ⟨some 139, some (135, true), .load1 (.tmp 138)⟩,
           ⟨some 140, some (135, true), .faddr 0 (.tmp 3)⟩,
           ⟨some 141, some (135, true), .load1 (.tmp 140)⟩,
           ⟨some 142, some (135, true), .lenS (.tmp 141)⟩,
           ⟨some 143, some (135, true), .min [(.tmp 142), (.const (.int .i64 (600)))]⟩,
           ⟨some 144, some (135, true), .sliceS (.tmp 139) none (some (.tmp 143))⟩,
           ⟨some 145, some (135, true), .lenS (.tmp 144)⟩,
           ⟨some 146, some (135, true), .bin .eql (.tmp 137) (.tmp 145)⟩,
           ⟨some 147, none, .pick (.tmp 135) (.tmp 146) (.const (.bool false))⟩,
           ⟨some 6, none, .mov (.tmp 147)⟩] [(11, 9), (11, 10), (13, 9), (13, 10)])
         .ret))))))))⟩
theorem u9 : T 9 = some d9 := by kernel_rfl

/-- plait/plaitlaw20.InletSpoilt -/
def d10 : AFunc := ⟨178, 4, [.inl 8],
 (.seq
  (.ops [⟨some 4, none, .box 69 4 (.tmp 0)⟩,
    ⟨some 8, none, .mov (.const (.bool false))⟩])
  (.seq
   (.seq
    (.ops [⟨some 18, none, .call 29 []⟩,
      ⟨some 19, none, .un .not (.tmp 18)⟩])
    (.cond (.tmp 19)
     (.seq
      (.ops [⟨some 8, none, .mov (.const (.bool false))⟩])
      .ret)
     .skip))
   (.seq
    (.ops [⟨some 21, none, .loadN 4 (.tmp 4)⟩,
      ⟨some 22, none, .call 36 [(.tmp 21)]⟩,
      ⟨some 20, none, .mov (.tmp 22)⟩,
      ⟨some 23, none, .ext (.tmp 20) 0⟩,
      ⟨some 24, none, .ext (.tmp 20) 1⟩,
      ⟨some 9, none, .mov (.tmp 23)⟩,
      ⟨some 10, none, .mov (.tmp 24)⟩])
    (.seq
     (.ops [⟨some 25, none, .faddr 3 (.tmp 4)⟩,
       ⟨some 26, none, .load1 (.tmp 25)⟩,
       ⟨some 27, none, .faddr 2 (.tmp 4)⟩,
       ⟨some 28, none, .load1 (.tmp 27)⟩,
       ⟨some 29, none, .call 27 [(.const (.int .i64 (2048))), (.tmp 26), (.tmp 28)]⟩,
       ⟨some 11, none, .mov (.tmp 29)⟩])
     (.seq
      (.seq
       (.ops [⟨some 30, none, .mov (.tmp 11)⟩,
         ⟨some 31, none, .eq false true .ptr (.tmp 30) (.const (.pointer none))⟩])
       (.cond (.tmp 31)
        (.seq
         (.ops [⟨some 8, none, .mov (.const (.bool false))⟩])
         .ret)
        .skip))
      (.seq
       (.seq
        (.ops [⟨some 32, none, .mov (.tmp 9)⟩,
          ⟨some 33, none, .lenV (.tmp 32)⟩,
          ⟨some 34, none, .bin .eql (.tmp 33) (.const (.int .i64 (0)))⟩])
        (.cond (.tmp 34)
         (.seq
          (.ops [⟨some 35, none, .mov (.tmp 11)⟩,
            ⟨some 36, none, .build [.int .i64 (0), .int .i64 (0), .int .i64 (0), .int .u16 (0)] []⟩,
            ⟨some 37, none, .call 33 [(.tmp 35), (.const (.int .i64 (0))), (.tmp 36), (.const (.string ⟨⟨[]⟩⟩))]⟩,
            ⟨some 38, none, .mov (.tmp 37)⟩,
            ⟨some 39, some (38, true), .mov (.tmp 11)⟩,
            ⟨some 40, some (38, true), .call 34 [(.tmp 39), (.const (.int .i64 (5)))]⟩,
            ⟨some 41, some (38, true), .bin .eql (.tmp 40) (.const (.string ⟨⟨[]⟩⟩))⟩,
            ⟨some 42, none, .pick (.tmp 38) (.tmp 41) (.const (.bool false))⟩,
            ⟨some 8, none, .mov (.tmp 42)⟩])
          .ret)
         .skip))
       (.seq
        (.ops [⟨some 43, none, .mov (.tmp 1)⟩,
          ⟨some 44, none, .cvInt .i64 (.tmp 43)⟩,
          ⟨some 45, none, .mov (.tmp 9)⟩,
          ⟨some 46, none, .lenV (.tmp 45)⟩,
          ⟨some 47, none, .bin .rem (.tmp 44) (.tmp 46)⟩,
          ⟨some 12, none, .mov (.tmp 47)⟩])
        (.seq
         (.ops [⟨some 48, none, .mov (.tmp 10)⟩,
           ⟨some 49, none, .mov (.tmp 12)⟩,
           ⟨some 50, none, .iaddrS 1 (.tmp 48) (.tmp 49)⟩,
           ⟨some 51, none, .load1 (.tmp 50)⟩,
           ⟨some 52, none, .cvS2B 5 (.tmp 51)⟩,
           ⟨some 13, none, .mov (.tmp 52)⟩])
         (.seq
          (.ops [⟨some 53, none, .mov (.tmp 13)⟩,
            ⟨some 54, none, .mov (.tmp 1)⟩,
            ⟨some 55, none, .bin .quo (.tmp 54) (.const (.int .u16 (7)))⟩,
            ⟨some 56, none, .cvInt .i64 (.tmp 55)⟩,
            ⟨some 57, none, .mov (.tmp 13)⟩,
            ⟨some 58, none, .lenV (.tmp 57)⟩,
            ⟨some 59, none, .bin .rem (.tmp 56) (.tmp 58)⟩,
            ⟨some 60, none, .iaddrS 1 (.tmp 53) (.tmp 59)⟩,
            ⟨some 61, none, .load1 (.tmp 60)⟩,
            ⟨some 62, none, .mov (.tmp 2)⟩,
            ⟨some 63, none, .bin .rem (.tmp 62) (.const (.int .u8 (255)))⟩,
            ⟨some 64, none, .bin .add (.const (.int .u8 (1))) (.tmp 63)⟩,
            ⟨some 65, none, .bin .xor (.tmp 61) (.tmp 64)⟩,
            ⟨some 66, none, .iaddrS 1 (.tmp 53) (.tmp 59)⟩,
            ⟨none, none, .store 1 (.tmp 66) (.tmp 65)⟩])
          (.seq
           (.seq
            (.ops [⟨some 14, none, .mov (.const (.int .i64 (0)))⟩])
            (.block 0
             (.loop
              (.seq
               (.seq
                (.ops [⟨some 67, none, .mov (.tmp 14)⟩,
                  ⟨some 68, none, .mov (.tmp 9)⟩,
                  ⟨some 69, none, .lenV (.tmp 68)⟩,
                  ⟨some 70, none, .bin .lss (.tmp 67) (.tmp 69)⟩])
                (.cond (.tmp 70)
                 .skip
                 (.exit 0)))
               (.seq
                (.block 1
                 (.seq
                  (.seq
                   (.ops [⟨some 73, none, .mov (.tmp 14)⟩,
                     ⟨some 74, none, .mov (.tmp 12)⟩,
                     ⟨some 75, none, .bin .neq (.tmp 73) (.tmp 74)⟩,
                     ⟨some 76, none, .mov (.tmp 75)⟩,
                     ⟨some 77, some (76, false), .mov (.tmp 3)⟩,
                     ⟨some 78, some (76, false), .un .not (.tmp 77)⟩,
                     ⟨some 79, none, .pick (.tmp 76) (.const (.bool true)) (.tmp 78)⟩])
                   (.cond (.tmp 79)
                    (.ops [⟨some 80, none, .mov (.tmp 11)⟩,
                      ⟨some 81, none, .mov (.tmp 9)⟩,
                      ⟨some 82, none, .mov (.tmp 14)⟩,
                      ⟨some 83, none, .iaddrS 4 (.tmp 81) (.tmp 82)⟩,
                      ⟨some 84, none, .loadN 4 (.tmp 83)⟩,
                      ⟨some 85, none, .call 32 [(.tmp 80), (.tmp 84)]⟩])
                    .skip))
                  (.seq
                   (.ops [⟨some 86, none, .mov (.tmp 10)⟩,
                     ⟨some 87, none, .mov (.tmp 14)⟩,
                     ⟨some 88, none, .iaddrS 1 (.tmp 86) (.tmp 87)⟩,
                     ⟨some 89, none, .load1 (.tmp 88)⟩,
                     ⟨some 15, none, .mov (.tmp 89)⟩])
                   (.seq
                    (.seq
                     (.ops [⟨some 90, none, .mov (.tmp 14)⟩,
                       ⟨some 91, none, .mov (.tmp 12)⟩,
                       ⟨some 92, none, .bin .eql (.tmp 90) (.tmp 91)⟩,
                       ⟨some 93, none, .mov (.tmp 92)⟩,
                       ⟨some 94, some (93, true), .mov (.tmp 3)⟩,
                       ⟨some 95, some (93, true), .un .not (.tmp 94)⟩,
                       ⟨some 96, none, .pick (.tmp 93) (.tmp 95) (.const (.bool false))⟩])
                     (.cond (.tmp 96)
                      (.ops [⟨some 97, none, .mov (.tmp 13)⟩,
                        ⟨some 98, none, .cvB2S (.tmp 97)⟩,
                        ⟨some 15, none, .mov (.tmp 98)⟩])
                      .skip))
                    (.ops [⟨some 99, none, .mov (.tmp 11)⟩,
                      ⟨some 100, none, .mov (.tmp 9)⟩,
                      ⟨some 101, none, .mov (.tmp 14)⟩,
                      ⟨some 102, none, .iaddrS 4 (.tmp 100) (.tmp 101)⟩,
                      ⟨some 103, none, .faddr 0 (.tmp 102)⟩,
                      ⟨some 104, none, .load1 (.tmp 103)⟩,
                      ⟨some 105, none, .mov (.tmp 15)⟩,
                      ⟨some 106, none, .call 31 [(.tmp 99), (.tmp 104), (.tmp 105)]⟩])))))
                (.ops [⟨some 71, none, .mov (.tmp 14)⟩,
                  ⟨some 72, none, .bin .add (.tmp 71) (.const (.int .i64 (1)))⟩,
                  ⟨some 14, none, .mov (.tmp 72)⟩]))))))
           (.seq
            (.seq
             (.ops [⟨some 16, none, .mov (.const (.int .i64 (0)))⟩])
             (.block 2
              (.loop
               (.seq
                (.seq
                 (.ops [⟨some 107, none, .mov (.tmp 16)⟩,
                   ⟨some 108, none, .mov (.tmp 12)⟩,
                   ⟨some 109, none, .bin .lss (.tmp 107) (.tmp 108)⟩])
                 (.cond (.tmp 109)
                  .skip
                  (.exit 2)))
                (.seq
                 (.block 3
                  (.seq
                   (.seq
                    (.opsD [⟨some 112, none, .mov (.tmp 11)⟩,
                      ⟨some 113, none, .mov (.tmp 9)⟩,
                      ⟨some 114, none, .mov (.tmp 16)⟩,
                      ⟨some 115, none, .iaddrS 4 (.tmp 113) (.tmp 114)⟩,
                      ⟨some 116, none, .loadN 4 (.tmp 115)⟩,
                      ⟨some 117, none, .mov (.tmp 10)⟩,
                      ⟨some 118, none, .mov (.tmp 16)⟩,
                      ⟨some 119, none, .iaddrS 1 (.tmp 117) (.tmp 118)⟩,
                      ⟨some 120, none, .load1 (.tmp 119)⟩,
                      ⟨some 121, none, .call 33 [(.tmp 112), (.const (.int .i64 (1))), (.tmp 116), (.tmp 120)]⟩,
                      ⟨some 122, none, .un .not (.tmp 121)⟩] [])
                    (.cond (.tmp 122)
                     (.seq
                      (.ops [⟨some 8, none, .mov (.const (.bool false))⟩])
                      .ret)
                     .skip))
                   (.ops [⟨some 123, none, .mov (.tmp 11)⟩,
                     ⟨some 124, none, .mov (.tmp 9)⟩,
                     ⟨some 125, none, .mov (.tmp 16)⟩,
                     ⟨some 126, none, .iaddrS 4 (.tmp 124) (.tmp 125)⟩,
                     ⟨some 127, none, .faddr 2 (.tmp 126)⟩,
                     ⟨some 128, none, .load1 (.tmp 127)⟩,
                     ⟨some 129, none, .call 38 [(.tmp 123), (.tmp 128)]⟩])))
                 (.ops [⟨some 110, none, .mov (.tmp 16)⟩,
                   ⟨some 111, none, .bin .add (.tmp 110) (.const (.int .i64 (1)))⟩,
                   ⟨some 16, none, .mov (.tmp 111)⟩]))))))
            (.seq
             (.seq
              (.ops [⟨some 130, none, .mov (.tmp 3)⟩])
              (.cond (.tmp 130)
               (.seq
                (.opsD [⟨some 131, none, .mov (.tmp 11)⟩,
                  ⟨some 132, none, .build [.int .i64 (0), .int .i64 (0), .int .i64 (0), .int .u16 (0)] []⟩,
                  ⟨some 133, none, .call 33 [(.tmp 131), (.const (.int .i64 (3))), (.tmp 132), (.const (.string ⟨⟨[]⟩⟩))]⟩,
                  ⟨some 134, none, .mov (.tmp 133)⟩,
                  ⟨some 135, some (134, true), .mov (.tmp 11)⟩,
                  ⟨some 136, some (134, true), .mov (.tmp 10)⟩,
                  ⟨some 137, some (134, true), .mov (.tmp 12)⟩,
                  ⟨some 138, some (134, true), .iaddrS 1 (.tmp 136) (.tmp 137)⟩,
                  ⟨some 139, some (134, true), .load1 (.tmp 138)⟩,
                  ⟨some 140, some (134, true), .lenS (.tmp 139)⟩,
                  ⟨some 141, some (134, true), .call 34 [(.tmp 135), (.tmp 140)]⟩,
                  ⟨some 142, some (134, true), .mov (.tmp 10)⟩,
                  ⟨some 143, some (134, true), .mov (.tmp 12)⟩,
                  ⟨some 144, some (134, true), .iaddrS 1 (.tmp 142) (.tmp 143)⟩,
                  ⟨some 145, some (134, true), .load1 (.tmp 144)⟩,
                  ⟨some 146, some (134, true), .bin .eql (.tmp 141) (.tmp 145)⟩,
                  ⟨some 147, none, .pick (.tmp 134) (.tmp 146) (.const (.bool false))⟩,
                  ⟨some 148, none, .mov (.tmp 147)⟩,
                  ⟨some 149, some (148, true), .mov (.tmp 11)⟩,
                  ⟨some 150, some (148, true), .call 35 [(.tmp 149)]⟩,
                  ⟨some 151, some (148, true), .mov (.tmp 9)⟩,
                  ⟨some 152, some (148, true), .mov (.tmp 12)⟩,
                  ⟨some 153, some (148, true), .iaddrS 4 (.tmp 151) (.tmp 152)⟩,
                  ⟨some 154, some (148, true), .faddr 0 (.tmp 153)⟩,
                  ⟨some 155, some (148, true), .load1 (.tmp 154)⟩,
                  ⟨some 156, some (148, true), .bin .eql (.tmp 150) (.tmp 155)⟩,
                  ⟨some 157, none, .pick (.tmp 148) (.tmp 156) (.const (.bool false))⟩,
                  ⟨some 8, none, .mov (.tmp 157)⟩] [(14, 10), (14, 11), (24, 19), (24, 20)])
                .ret)
               .skip))
             (.seq
              (.ops [⟨some 17, none, .mov (.const (.int .i64 (1)))⟩])
              (.seq
               (.seq
                (.ops [⟨some 158, none, .faddr 3 (.tmp 4)⟩,
                  ⟨some 159, none, .load1 (.tmp 158)⟩])
                (.cond (.tmp 159)
                 (.ops [⟨some 17, none, .mov (.const (.int .i64 (2)))⟩])
                 .skip))
               (.seq
                (.opsD [⟨some 160, none, .mov (.tmp 11)⟩,
                  ⟨some 161, none, .mov (.tmp 17)⟩,
                  ⟨some 162, none, .mov (.tmp 9)⟩,
                  ⟨some 163, none, .mov (.tmp 12)⟩,
                  ⟨some 164, none, .iaddrS 4 (.tmp 162) (.tmp 163)⟩,
                  ⟨some 165, none, .loadN 4 (.tmp 164)⟩,
                  ⟨some 166, none, .mov (.tmp 13)⟩,
                  ⟨some 167, none, .cvB2S (.tmp 166)⟩,
                  ⟨some 168, none, .call 33 [(.tmp 160), (.tmp 161), (.tmp 165), (.tmp 167)]⟩,
                  ⟨some 169, none, .mov (.tmp 168)⟩,
                  ⟨some 170, some (169, true), .mov (.tmp 11)⟩,
                  ⟨some 171, some (169, true), .mov (.tmp 13)⟩,
                  ⟨some 172, some (169, true), .lenV (.tmp 171)⟩,
                  ⟨some 173, some (169, true), .call 34 [(.tmp 170), (.tmp 172)]⟩,
                  ⟨some 174, some (169, true), .mov (.tmp 13)⟩,
                  ⟨some 175, some (169, true), .cvB2S (.tmp 174)⟩,
                  ⟨some 176, some (169, true), .bin .eql (.tmp 173) (.tmp 175)⟩,
                  ⟨some 177, none, .pick (.tmp 169) (.tmp 176) (.const (.bool false))⟩,
                  ⟨some 8, none, .mov (.tmp 177)⟩] [(15, 13), (15, 14)])
                .ret)))))))))))))))⟩
theorem u10 : T 10 = some d10 := by kernel_rfl

/-- plait/plaitlaw20.InletKnown -/
def d11 : AFunc := ⟨138, 0, [.inl 0],
 (.seq
  (.ops [⟨some 0, none, .mov (.const (.bool false))⟩])
  (.seq
   (.ops [⟨some 9, none, .call 27 [(.const (.int .i64 (2048))), (.const (.bool true)), (.const (.int .u64 (18446744073709551615)))]⟩,
     ⟨some 1, none, .mov (.tmp 9)⟩])
   (.seq
    (.seq
     (.ops [⟨some 10, none, .mov (.tmp 1)⟩,
       ⟨some 11, none, .eq false true .ptr (.tmp 10) (.const (.pointer none))⟩,
       ⟨some 12, none, .mov (.tmp 11)⟩,
       ⟨some 13, some (12, false), .call 27 [(.const (.int .i64 (2049))), (.const (.bool false)), (.const (.int .u64 (0)))]⟩,
       ⟨some 14, some (12, false), .eq true true .ptr (.tmp 13) (.const (.pointer none))⟩,
       ⟨some 15, none, .pick (.tmp 12) (.const (.bool true)) (.tmp 14)⟩,
       ⟨some 16, none, .mov (.tmp 15)⟩,
       ⟨some 17, some (16, false), .call 27 [(.const (.int .i64 (-1))), (.const (.bool false)), (.const (.int .u64 (0)))]⟩,
       ⟨some 18, some (16, false), .eq true true .ptr (.tmp 17) (.const (.pointer none))⟩,
       ⟨some 19, none, .pick (.tmp 16) (.const (.bool true)) (.tmp 18)⟩])
     (.cond (.tmp 19)
      (.seq
       (.ops [⟨some 0, none, .mov (.const (.bool false))⟩])
       .ret)
      .skip))
    (.seq
     (.ops [⟨some 20, none, .call 39 [(.const (.int .u64 (0))), (.const (.int .u32 (2))), (.const (.int .i64 (1))), (.const (.string ⟨⟨[122]⟩⟩))]⟩,
       ⟨some 21, none, .build [.int .i64 (0), .int .i64 (0), .int .i64 (0), .int .u16 (0)] [(0, 1, (.const (.int .i64 (1)))), (1, 1, (.const (.int .i64 (0)))), (2, 1, (.const (.int .i64 (1)))), (3, 1, (.tmp 20))]⟩,
       ⟨some 2, none, .alloc 58 [.int .i64 (0), .int .i64 (0), .int .i64 (0), .int .u16 (0)]⟩,
       ⟨none, none, .store 4 (.tmp 2) (.tmp 21)⟩])
     (.seq
      (.ops [⟨some 22, none, .mov (.tmp 1)⟩,
        ⟨some 23, none, .call 38 [(.tmp 22), (.const (.int .i64 (1)))]⟩])
      (.seq
       (.ops [⟨some 24, none, .mov (.tmp 1)⟩,
         ⟨some 25, none, .loadN 4 (.tmp 2)⟩,
         ⟨some 26, none, .call 32 [(.tmp 24), (.tmp 25)]⟩,
         ⟨some 27, none, .mov (.tmp 26)⟩,
         ⟨some 28, some (27, true), .mov (.tmp 1)⟩,
         ⟨some 29, some (27, true), .call 31 [(.tmp 28), (.const (.int .i64 (1))), (.const (.string ⟨⟨[122]⟩⟩))]⟩,
         ⟨some 30, some (27, true), .bin .eql (.tmp 29) (.const (.int .i64 (1)))⟩,
         ⟨some 31, none, .pick (.tmp 27) (.tmp 30) (.const (.bool false))⟩,
         ⟨some 32, none, .mov (.tmp 31)⟩,
         ⟨some 33, some (32, true), .mov (.tmp 1)⟩,
         ⟨some 34, some (32, true), .loadN 4 (.tmp 2)⟩,
         ⟨some 35, some (32, true), .call 33 [(.tmp 33), (.const (.int .i64 (1))), (.tmp 34), (.const (.string ⟨⟨[122]⟩⟩))]⟩,
         ⟨some 36, none, .pick (.tmp 32) (.tmp 35) (.const (.bool false))⟩,
         ⟨some 3, none, .mov (.tmp 36)⟩])
       (.seq
        (.ops [⟨some 37, none, .mov (.tmp 1)⟩,
          ⟨some 38, none, .call 38 [(.tmp 37), (.const (.int .i64 (-3)))]⟩])
        (.seq
         (.ops [⟨some 39, none, .mov (.tmp 1)⟩,
           ⟨some 40, none, .call 35 [(.tmp 39)]⟩,
           ⟨some 41, none, .bin .eql (.tmp 40) (.const (.int .i64 (1)))⟩,
           ⟨some 4, none, .mov (.tmp 41)⟩])
         (.seq
          (.ops [⟨some 42, none, .mov (.tmp 1)⟩,
            ⟨some 43, none, .call 38 [(.tmp 42), (.const (.int .i64 (9223372036854775807)))]⟩])
          (.seq
           (.ops [⟨some 44, none, .mov (.tmp 1)⟩,
             ⟨some 45, none, .call 35 [(.tmp 44)]⟩,
             ⟨some 46, none, .bin .eql (.tmp 45) (.const (.int .i64 (2305843009213693952)))⟩,
             ⟨some 47, none, .mov (.tmp 46)⟩,
             ⟨some 48, some (47, true), .mov (.tmp 1)⟩,
             ⟨some 49, some (47, true), .build [.int .i64 (0), .int .i64 (0), .int .i64 (0), .int .u16 (0)] []⟩,
             ⟨some 50, some (47, true), .call 33 [(.tmp 48), (.const (.int .i64 (0))), (.tmp 49), (.const (.string ⟨⟨[]⟩⟩))]⟩,
             ⟨some 51, none, .pick (.tmp 47) (.tmp 50) (.const (.bool false))⟩,
             ⟨some 52, none, .mov (.tmp 51)⟩,
             ⟨some 53, some (52, true), .mov (.tmp 1)⟩,
             ⟨some 54, some (52, true), .loadN 4 (.tmp 2)⟩,
             ⟨some 55, some (52, true), .call 32 [(.tmp 53), (.tmp 54)]⟩,
             ⟨some 56, some (52, true), .un .not (.tmp 55)⟩,
             ⟨some 57, none, .pick (.tmp 52) (.tmp 56) (.const (.bool false))⟩,
             ⟨some 58, none, .mov (.tmp 57)⟩,
             ⟨some 59, some (58, true), .mov (.tmp 1)⟩,
             ⟨some 60, some (58, true), .call 31 [(.tmp 59), (.const (.int .i64 (1))), (.const (.string ⟨⟨[122]⟩⟩))]⟩,
             ⟨some 61, some (58, true), .bin .eql (.tmp 60) (.const (.int .i64 (0)))⟩,
             ⟨some 62, none, .pick (.tmp 58) (.tmp 61) (.const (.bool false))⟩,
             ⟨some 63, none, .mov (.tmp 62)⟩,
             ⟨some 64, some (63, true), .mov (.tmp 1)⟩,
             ⟨some 65, some (63, true), .call 31 [(.tmp 64), (.const (.int .i64 (2305843009213693952))), (.const (.string ⟨⟨[113]⟩⟩))]⟩,
             ⟨some 66, some (63, true), .bin .eql (.tmp 65) (.const (.int .i64 (1)))⟩,
             ⟨some 67, none, .pick (.tmp 63) (.tmp 66) (.const (.bool false))⟩,
             ⟨some 68, none, .mov (.tmp 67)⟩,
             ⟨some 69, some (68, true), .mov (.tmp 1)⟩,
             ⟨some 70, some (68, true), .build [.int .i64 (0), .int .i64 (0), .int .i64 (0), .int .u16 (0)] []⟩,
             ⟨some 71, some (68, true), .call 33 [(.tmp 69), (.const (.int .i64 (3))), (.tmp 70), (.const (.string ⟨⟨[]⟩⟩))]⟩,
             ⟨some 72, none, .pick (.tmp 68) (.tmp 71) (.const (.bool false))⟩,
             ⟨some 5, none, .mov (.tmp 72)⟩])
           (.seq
            (.ops [⟨some 73, none, .call 27 [(.const (.int .i64 (1))), (.const (.bool false)), (.const (.int .u64 (0)))]⟩,
              ⟨some 6, none, .mov (.tmp 73)⟩])
            (.seq
             (.seq
              (.ops [⟨some 74, none, .mov (.tmp 6)⟩,
                ⟨some 75, none, .eq false true .ptr (.tmp 74) (.const (.pointer none))⟩])
              (.cond (.tmp 75)
               (.seq
                (.ops [⟨some 0, none, .mov (.const (.bool false))⟩])
                .ret)
               .skip))
             (.seq
              (.ops [⟨some 76, none, .mov (.tmp 6)⟩,
                ⟨some 77, none, .call 31 [(.tmp 76), (.const (.int .i64 (0))), (.const (.string ⟨⟨[120, 121, 122]⟩⟩))]⟩,
                ⟨some 78, none, .bin .eql (.tmp 77) (.const (.int .i64 (1)))⟩,
                ⟨some 79, none, .mov (.tmp 78)⟩,
                ⟨some 80, some (79, true), .mov (.tmp 6)⟩,
                ⟨some 81, some (79, true), .build [.int .i64 (0), .int .i64 (0), .int .i64 (0), .int .u16 (0)] [(2, 1, (.const (.int .i64 (2))))]⟩,
                ⟨some 82, some (79, true), .call 32 [(.tmp 80), (.tmp 81)]⟩,
                ⟨some 83, some (79, true), .un .not (.tmp 82)⟩,
                ⟨some 84, none, .pick (.tmp 79) (.tmp 83) (.const (.bool false))⟩,
                ⟨some 85, none, .mov (.tmp 84)⟩,
                ⟨some 86, some (85, true), .mov (.tmp 6)⟩,
                ⟨some 87, some (85, true), .build [.int .i64 (0), .int .i64 (0), .int .i64 (0), .int .u16 (0)] [(2, 1, (.const (.int .i64 (1))))]⟩,
                ⟨some 88, some (85, true), .call 32 [(.tmp 86), (.tmp 87)]⟩,
                ⟨some 89, none, .pick (.tmp 85) (.tmp 88) (.const (.bool false))⟩,
                ⟨some 90, none, .mov (.tmp 89)⟩,
                ⟨some 91, some (90, true), .mov (.tmp 6)⟩,
                ⟨some 92, some (90, true), .build [.int .i64 (0), .int .i64 (0), .int .i64 (0), .int .u16 (0)] [(2, 1, (.const (.int .i64 (1))))]⟩,
                ⟨some 93, some (90, true), .call 33 [(.tmp 91), (.const (.int .i64 (1))), (.tmp 92), (.const (.string ⟨⟨[120]⟩⟩))]⟩,
                ⟨some 94, none, .pick (.tmp 90) (.tmp 93) (.const (.bool false))⟩,
                ⟨some 7, none, .mov (.tmp 94)⟩])
              (.seq
               (.ops [⟨some 8, none, .mov (.const (.pointer none))⟩])
               (.seq
                (.ops [⟨some 95, none, .mov (.tmp 8)⟩,
                  ⟨some 96, none, .call 38 [(.tmp 95), (.const (.int .i64 (1)))]⟩])
                (.seq
                 (.ops [⟨some 97, none, .mov (.const (.bool true))⟩,
                   ⟨some 98, some (97, true), .call 29 []⟩,
                   ⟨some 99, none, .pick (.tmp 97) (.tmp 98) (.const (.bool false))⟩,
                   ⟨some 100, none, .mov (.tmp 99)⟩,
                   ⟨some 101, some (100, true), .mov (.tmp 3)⟩,
                   ⟨some 102, none, .pick (.tmp 100) (.tmp 101) (.const (.bool false))⟩,
                   ⟨some 103, none, .mov (.tmp 102)⟩,
                   ⟨some 104, some (103, true), .mov (.tmp 4)⟩,
                   ⟨some 105, none, .pick (.tmp 103) (.tmp 104) (.const (.bool false))⟩,
                   ⟨some 106, none, .mov (.tmp 105)⟩,
                   ⟨some 107, some (106, true), .mov (.tmp 5)⟩,
                   ⟨some 108, none, .pick (.tmp 106) (.tmp 107) (.const (.bool false))⟩,
                   ⟨some 109, none, .mov (.tmp 108)⟩,
                   ⟨some 110, some (109, true), .mov (.tmp 7)⟩,
                   ⟨some 111, none, .pick (.tmp 109) (.tmp 110) (.const (.bool false))⟩,
                   ⟨some 112, none, .mov (.tmp 111)⟩,
                   ⟨some 113, some (112, true), .mov (.tmp 8)⟩,
                   ⟨some 114, some (112, true), .call 31 [(.tmp 113), (.const (.int .i64 (0))), (.const (.string ⟨⟨[97]⟩⟩))]⟩,
                   ⟨some 115, some (112, true), .bin .eql (.tmp 114) (.const (.int .i64 (0)))⟩,
                   ⟨some 116, none, .pick (.tmp 112) (.tmp 115) (.const (.bool false))⟩,
                   ⟨some 117, none, .mov (.tmp 116)⟩,
                   ⟨some 118, some (117, true), .mov (.tmp 8)⟩,
                   ⟨some 119, some (117, true), .loadN 4 (.tmp 2)⟩,
                   ⟨some 120, some (117, true), .call 32 [(.tmp 118), (.tmp 119)]⟩,
                   ⟨some 121, some (117, true), .un .not (.tmp 120)⟩,
                   ⟨some 122, none, .pick (.tmp 117) (.tmp 121) (.const (.bool false))⟩,
                   ⟨some 123, none, .mov (.tmp 122)⟩,
                   ⟨some 124, some (123, true), .mov (.tmp 8)⟩,
                   ⟨some 125, some (123, true), .build [.int .i64 (0), .int .i64 (0), .int .i64 (0), .int .u16 (0)] []⟩,
                   ⟨some 126, some (123, true), .call 33 [(.tmp 124), (.const (.int .i64 (0))), (.tmp 125), (.const (.string ⟨⟨[]⟩⟩))]⟩,
                   ⟨some 127, none, .pick (.tmp 123) (.tmp 126) (.const (.bool false))⟩,
                   ⟨some 128, none, .mov (.tmp 127)⟩,
                   ⟨some 129, some (128, true), .mov (.tmp 8)⟩,
                   ⟨some 130, some (128, true), .call 34 [(.tmp 129), (.const (.int .i64 (3)))]⟩,
                   ⟨some 131, some (128, true), .bin .eql (.tmp 130) (.const (.string ⟨⟨[]⟩⟩))⟩,
                   ⟨some 132, none, .pick (.tmp 128) (.tmp 131) (.const (.bool false))⟩,
                   ⟨some 133, none, .mov (.tmp 132)⟩,
                   ⟨some 134, some (133, true), .mov (.tmp 8)⟩,
                   ⟨some 135, some (133, true), .call 35 [(.tmp 134)]⟩,
                   ⟨some 136, some (133, true), .bin .eql (.tmp 135) (.const (.int .i64 (0)))⟩,
                   ⟨some 137, none, .pick (.tmp 133) (.tmp 136) (.const (.bool false))⟩,
                   ⟨some 0, none, .mov (.tmp 137)⟩])
                 .ret))))))))))))))))⟩
theorem u11 : T 11 = some d11 := by kernel_rfl

def d36u : ACode :=
 (.seq
                   (.ops [⟨some 76, none, .mov (.tmp 5)⟩,
                     ⟨some 77, none, .loadN 4 (.tmp 10)⟩,
                     ⟨some 78, none, .bslice 58 1 [.int .i64 (0), .int .i64 (0), .int .i64 (0), .int .u16 (0)] [(0, 4, (.tmp 77))]⟩,
                     ⟨some 79, none, .append 58 4 32 (.tmp 76) (.tmp 78)⟩,
                     ⟨some 5, none, .mov (.tmp 79)⟩])
                   (.seq
                    (.ops [⟨some 80, none, .mov (.tmp 6)⟩,
                      ⟨some 81, none, .mov (.tmp 4)⟩,
                      ⟨some 82, none, .mov (.tmp 7)⟩,
                      ⟨some 83, none, .mov (.tmp 7)⟩,
                      ⟨some 84, none, .mov (.tmp 9)⟩,
                      ⟨some 85, none, .bin .add (.tmp 83) (.tmp 84)⟩,
                      ⟨some 86, none, .sliceS (.tmp 81) (some (.tmp 82)) (some (.tmp 85))⟩,
                      ⟨some 87, none, .bslice 9 1 [.string ⟨⟨[]⟩⟩] [(0, 1, (.tmp 86))]⟩,
                      ⟨some 88, none, .append 9 1 16 (.tmp 80) (.tmp 87)⟩,
                      ⟨some 6, none, .mov (.tmp 88)⟩])
                    (.ops [⟨some 89, none, .mov (.tmp 7)⟩,
                      ⟨some 90, none, .mov (.tmp 9)⟩,
                      ⟨some 91, none, .bin .add (.tmp 89) (.tmp 90)⟩,
                      ⟨some 7, none, .mov (.tmp 91)⟩])))

def d36t : ACode :=
 (.seq
                (.ops [⟨some 40, none, .mov (.tmp 9)⟩,
                  ⟨some 41, none, .mov (.tmp 4)⟩,
                  ⟨some 42, none, .lenS (.tmp 41)⟩,
                  ⟨some 43, none, .mov (.tmp 7)⟩,
                  ⟨some 44, none, .bin .sub (.tmp 42) (.tmp 43)⟩,
                  ⟨some 45, none, .min [(.tmp 40), (.tmp 44)]⟩,
                  ⟨some 9, none, .mov (.tmp 45)⟩])
                (.seq
                 (.ops [⟨some 46, none, .mov (.tmp 7)⟩,
                   ⟨some 47, none, .mov (.tmp 8)⟩,
                   ⟨some 48, none, .bin .mul (.tmp 47) (.const (.int .i64 (7)))⟩,
                   ⟨some 49, none, .bin .add (.tmp 48) (.const (.int .i64 (3)))⟩,
                   ⟨some 50, none, .bin .rem (.tmp 49) (.const (.int .i64 (50)))⟩,
                   ⟨some 51, none, .bin .mul (.tmp 50) (.const (.int .i64 (40)))⟩,
                   ⟨some 52, none, .mov (.tmp 9)⟩,
                   ⟨some 53, none, .build [.int .i64 (0), .int .i64 (0), .int .i64 (0), .int .u16 (0)] [(0, 1, (.tmp 46)), (1, 1, (.tmp 51)), (2, 1, (.tmp 52))]⟩,
                   ⟨some 10, none, .alloc 58 [.int .i64 (0), .int .i64 (0), .int .i64 (0), .int .u16 (0)]⟩,
                   ⟨none, none, .store 4 (.tmp 10) (.tmp 53)⟩])
                 (.seq
                  (.seq
                   (.ops [⟨some 54, none, .faddr 3 (.tmp 1)⟩,
                     ⟨some 55, none, .load1 (.tmp 54)⟩])
                   (.cond (.tmp 55)
                    (.opsD [⟨some 56, none, .faddr 2 (.tmp 1)⟩,
                      ⟨some 57, none, .load1 (.tmp 56)⟩,
                      ⟨some 58, none, .bin .add (.tmp 57) (.const (.int .u64 (1)))⟩,
                      ⟨some 59, none, .faddr 1 (.tmp 10)⟩,
                      ⟨some 60, none, .load1 (.tmp 59)⟩,
                      ⟨some 61, none, .cvInt .u64 (.tmp 60)⟩,
                      ⟨some 62, none, .bin .add (.tmp 58) (.tmp 61)⟩,
                      ⟨some 63, none, .faddr 0 (.tmp 10)⟩,
                      ⟨some 64, none, .load1 (.tmp 63)⟩,
                      ⟨some 65, none, .bin .add (.const (.int .i64 (1))) (.tmp 64)⟩,
                      ⟨some 66, none, .cvInt .u32 (.tmp 65)⟩,
                      ⟨some 67, none, .mov (.tmp 9)⟩,
                      ⟨some 68, none, .mov (.tmp 4)⟩,
                      ⟨some 69, none, .mov (.tmp 7)⟩,
                      ⟨some 70, none, .mov (.tmp 7)⟩,
                      ⟨some 71, none, .mov (.tmp 9)⟩,
                      ⟨some 72, none, .bin .add (.tmp 70) (.tmp 71)⟩,
                      ⟨some 73, none, .sliceS (.tmp 68) (some (.tmp 69)) (some (.tmp 72))⟩,
                      ⟨some 74, none, .call 39 [(.tmp 62), (.tmp 66), (.tmp 67), (.tmp 73)]⟩,
                      ⟨some 75, none, .faddr 3 (.tmp 10)⟩,
                      ⟨none, none, .store 1 (.tmp 75) (.tmp 74)⟩] [])
                    .skip))
                  d36u)))

/-- (plait/plaitlaw20.Path).chunks -/
def d36 : AFunc := ⟨94, 1, [.inl 2, .inl 3],
 (.seq
  (.ops [⟨some 1, none, .box 69 4 (.tmp 0)⟩,
    ⟨some 2, none, .mov (.const (.slice none 0 0))⟩,
    ⟨some 3, none, .mov (.const (.slice none 0 0))⟩])
  (.seq
   (.ops [⟨some 11, none, .faddr 0 (.tmp 1)⟩,
     ⟨some 12, none, .load1 (.tmp 11)⟩,
     ⟨some 13, none, .faddr 0 (.tmp 1)⟩,
     ⟨some 14, none, .load1 (.tmp 13)⟩,
     ⟨some 15, none, .lenS (.tmp 14)⟩,
     ⟨some 16, none, .min [(.tmp 15), (.const (.int .i64 (600)))]⟩,
     ⟨some 17, none, .sliceS (.tmp 12) none (some (.tmp 16))⟩,
     ⟨some 4, none, .mov (.tmp 17)⟩])
   (.seq
    (.ops [⟨some 5, none, .mov (.const (.slice none 0 0))⟩])
    (.seq
     (.ops [⟨some 6, none, .mov (.const (.slice none 0 0))⟩])
     (.seq
      (.ops [⟨some 7, none, .mov (.const (.int .i64 (0)))⟩])
      (.seq
       (.seq
        (.ops [⟨some 8, none, .mov (.const (.int .i64 (0)))⟩])
        (.block 0
         (.loop
          (.seq
           (.seq
            (.ops [⟨some 18, none, .mov (.tmp 7)⟩,
              ⟨some 19, none, .mov (.tmp 4)⟩,
              ⟨some 20, none, .lenS (.tmp 19)⟩,
              ⟨some 21, none, .bin .lss (.tmp 18) (.tmp 20)⟩])
            (.cond (.tmp 21)
             .skip
             (.exit 0)))
           (.seq
            (.block 1
             (.seq
              (.ops [⟨some 9, none, .mov (.const (.int .i64 (40)))⟩])
              (.seq
               (.seq
                (.ops [⟨some 24, none, .faddr 1 (.tmp 1)⟩,
                  ⟨some 25, none, .load1 (.tmp 24)⟩,
                  ⟨some 26, none, .lenV (.tmp 25)⟩,
                  ⟨some 27, none, .bin .gtr (.tmp 26) (.const (.int .i64 (0)))⟩])
                (.cond (.tmp 27)
                 (.opsD [⟨some 28, none, .faddr 1 (.tmp 1)⟩,
                   ⟨some 29, none, .load1 (.tmp 28)⟩,
                   ⟨some 30, none, .mov (.tmp 8)⟩,
                   ⟨some 31, none, .faddr 1 (.tmp 1)⟩,
                   ⟨some 32, none, .load1 (.tmp 31)⟩,
                   ⟨some 33, none, .lenV (.tmp 32)⟩,
                   ⟨some 34, none, .bin .rem (.tmp 30) (.tmp 33)⟩,
                   ⟨some 35, none, .iaddrS 1 (.tmp 29) (.tmp 34)⟩,
                   ⟨some 36, none, .load1 (.tmp 35)⟩,
                   ⟨some 37, none, .bin .rem (.tmp 36) (.const (.int .u8 (40)))⟩,
                   ⟨some 38, none, .cvInt .i64 (.tmp 37)⟩,
                   ⟨some 39, none, .bin .add (.const (.int .i64 (1))) (.tmp 38)⟩,
                   ⟨some 9, none, .mov (.tmp 39)⟩] [])
                 .skip))
               d36t)))
            (.ops [⟨some 22, none, .mov (.tmp 8)⟩,
              ⟨some 23, none, .bin .add (.tmp 22) (.const (.int .i64 (1)))⟩,
              ⟨some 8, none, .mov (.tmp 23)⟩]))))))
       (.seq
        (.ops [⟨some 92, none, .mov (.tmp 5)⟩,
          ⟨some 93, none, .mov (.tmp 6)⟩,
          ⟨some 2, none, .mov (.tmp 92)⟩,
          ⟨some 3, none, .mov (.tmp 93)⟩])
        .ret)))))))⟩
theorem u36 : T 36 = some d36 := by kernel_rfl

/-- plait/plaitlaw20.take -/
def d37 : AFunc := ⟨53, 4, [.inl 8, .inl 9],
 (.seq
  (.ops [⟨some 8, none, .mov (.const (.int .i64 (0)))⟩,
    ⟨some 9, none, .mov (.const (.bool false))⟩])
  (.block 0
   (.loop
    (.block 1
     (.seq
      (.ops [⟨some 14, none, .mov (.tmp 0)⟩,
        ⟨some 15, none, .call 81 [(.tmp 14)]⟩,
        ⟨some 13, none, .mov (.tmp 15)⟩,
        ⟨some 16, none, .ext (.tmp 13) 0⟩,
        ⟨some 17, none, .ext (.tmp 13) 1⟩,
        ⟨some 18, none, .ext (.tmp 13) 2⟩,
        ⟨some 11, none, .alloc 58 [.int .i64 (0), .int .i64 (0), .int .i64 (0), .int .u16 (0)]⟩,
        ⟨some 10, none, .mov (.tmp 16)⟩,
        ⟨none, none, .store 4 (.tmp 11) (.tmp 17)⟩,
        ⟨some 12, none, .mov (.tmp 18)⟩])
      (.seq
       (.seq
        (.ops [⟨some 19, none, .mov (.tmp 10)⟩,
          ⟨some 20, none, .bin .eql (.tmp 19) (.const (.int .i64 (0)))⟩])
        (.cond (.tmp 20)
         (.seq
          (.ops [⟨some 21, none, .mov (.tmp 3)⟩,
            ⟨some 8, none, .mov (.tmp 21)⟩,
            ⟨some 9, none, .mov (.const (.bool true))⟩])
          .ret)
         .skip))
       (.seq
        (.seq
         (.opsD [⟨some 22, none, .mov (.tmp 10)⟩,
           ⟨some 23, none, .bin .neq (.tmp 22) (.const (.int .i64 (1)))⟩,
           ⟨some 24, none, .mov (.tmp 23)⟩,
           ⟨some 25, some (24, false), .mov (.tmp 3)⟩,
           ⟨some 26, some (24, false), .mov (.tmp 1)⟩,
           ⟨some 27, some (24, false), .lenV (.tmp 26)⟩,
           ⟨some 28, some (24, false), .bin .geq (.tmp 25) (.tmp 27)⟩,
           ⟨some 29, none, .pick (.tmp 24) (.const (.bool true)) (.tmp 28)⟩,
           ⟨some 30, none, .mov (.tmp 29)⟩,
           ⟨some 31, some (30, false), .loadN 4 (.tmp 11)⟩,
           ⟨some 32, some (30, false), .mov (.tmp 1)⟩,
           ⟨some 33, some (30, false), .mov (.tmp 3)⟩,
           ⟨some 34, some (30, false), .iaddrS 4 (.tmp 32) (.tmp 33)⟩,
           ⟨some 35, some (30, false), .loadN 4 (.tmp 34)⟩,
           ⟨some 36, some (30, false), .eqF true [(0, .i), (1, .i), (2, .i), (3, .i)] (.tmp 31) (.tmp 35)⟩,
           ⟨some 37, none, .pick (.tmp 30) (.const (.bool true)) (.tmp 36)⟩,
           ⟨some 38, none, .mov (.tmp 37)⟩,
           ⟨some 39, some (38, false), .mov (.tmp 12)⟩,
           ⟨some 40, some (38, false), .mov (.tmp 2)⟩,
           ⟨some 41, some (38, false), .mov (.tmp 3)⟩,
           ⟨some 42, some (38, false), .iaddrS 1 (.tmp 40) (.tmp 41)⟩,
           ⟨some 43, some (38, false), .load1 (.tmp 42)⟩,
           ⟨some 44, some (38, false), .bin .neq (.tmp 39) (.tmp 43)⟩,
           ⟨some 45, none, .pick (.tmp 38) (.const (.bool true)) (.tmp 44)⟩] [])
         (.cond (.tmp 45)
          (.seq
           (.ops [⟨some 46, none, .mov (.tmp 3)⟩,
             ⟨some 8, none, .mov (.tmp 46)⟩,
             ⟨some 9, none, .mov (.const (.bool false))⟩])
           .ret)
          .skip))
        (.seq
         (.ops [⟨some 47, none, .mov (.tmp 0)⟩,
           ⟨some 48, none, .faddr 2 (.tmp 11)⟩,
           ⟨some 49, none, .load1 (.tmp 48)⟩,
           ⟨some 50, none, .call 38 [(.tmp 47), (.tmp 49)]⟩])
         (.ops [⟨some 51, none, .mov (.tmp 3)⟩,
           ⟨some 52, none, .bin .add (.tmp 51) (.const (.int .i64 (1)))⟩,
           ⟨some 3, none, .mov (.tmp 52)⟩])))))))))⟩
theorem u37 : T 37 = some d37 := by kernel_rfl

end Go.Proofs.Ytidgbapgedegbaa

