/- The code of the functions of stage 4, as the framework reads it. -/
import Derived.Test.YtkojapepiojnjaaAsZF
import Derived.Test.YtkojapepiojnjaaChecked
import Derived.KernelRfl
namespace Go.Proofs.Ytkojapepiojnjaa
open Go Go.AS
set_option maxRecDepth 100000

/-- plait/plaitlaw04.AreaLays -/
def c3 : AFunc := ⟨102, 2, [.inl 4],
 (.seq
  (.ops [⟨some 4, none, .mov (.const (.bool false))⟩])
  (.seq
   (.ops [⟨some 12, none, .bslice 24 0 [] []⟩,
     ⟨some 13, none, .mov (.tmp 0)⟩,
     ⟨some 14, none, .mov (.tmp 0)⟩,
     ⟨some 15, none, .lenV (.tmp 14)⟩,
     ⟨some 16, none, .min [(.tmp 15), (.const (.int .i64 (15)))]⟩,
     ⟨some 17, none, .sliceV 2 (.tmp 13) none (some (.tmp 16)) none⟩,
     ⟨some 18, none, .append 24 2 24 (.tmp 12) (.tmp 17)⟩,
     ⟨some 0, none, .mov (.tmp 18)⟩])
   (.seq
    (.seq
     (.ops [⟨some 5, none, .mov (.const (.int .i64 (0)))⟩])
     (.block 0
      (.loop
       (.seq
        (.seq
         (.ops [⟨some 19, none, .mov (.tmp 5)⟩,
           ⟨some 20, none, .mov (.tmp 0)⟩,
           ⟨some 21, none, .lenV (.tmp 20)⟩,
           ⟨some 22, none, .bin .lss (.tmp 19) (.tmp 21)⟩])
         (.cond (.tmp 22)
          .skip
          (.exit 0)))
        (.seq
         (.block 1
          (.opsD [⟨some 25, none, .mov (.tmp 0)⟩,
            ⟨some 26, none, .mov (.tmp 5)⟩,
            ⟨some 27, none, .mov (.tmp 0)⟩,
            ⟨some 28, none, .mov (.tmp 5)⟩,
            ⟨some 29, none, .iaddrS 2 (.tmp 27) (.tmp 28)⟩,
            ⟨some 30, none, .faddr 1 (.tmp 29)⟩,
            ⟨some 31, none, .load1 (.tmp 30)⟩,
            ⟨some 32, none, .mov (.tmp 0)⟩,
            ⟨some 33, none, .mov (.tmp 5)⟩,
            ⟨some 34, none, .iaddrS 2 (.tmp 32) (.tmp 33)⟩,
            ⟨some 35, none, .faddr 1 (.tmp 34)⟩,
            ⟨some 36, none, .load1 (.tmp 35)⟩,
            ⟨some 37, none, .lenS (.tmp 36)⟩,
            ⟨some 38, none, .min [(.tmp 37), (.const (.int .i64 (300)))]⟩,
            ⟨some 39, none, .sliceS (.tmp 31) none (some (.tmp 38))⟩,
            ⟨some 40, none, .iaddrS 2 (.tmp 25) (.tmp 26)⟩,
            ⟨some 41, none, .faddr 1 (.tmp 40)⟩,
            ⟨none, none, .store 1 (.tmp 41) (.tmp 39)⟩] []))
         (.ops [⟨some 23, none, .mov (.tmp 5)⟩,
           ⟨some 24, none, .bin .add (.tmp 23) (.const (.int .i64 (1)))⟩,
           ⟨some 5, none, .mov (.tmp 24)⟩]))))))
    (.seq
     (.seq
      (.ops [⟨some 6, none, .mov (.const (.int .i64 (0)))⟩])
      (.block 2
       (.loop
        (.seq
         (.seq
          (.ops [⟨some 42, none, .mov (.tmp 6)⟩,
            ⟨some 43, none, .mov (.tmp 0)⟩,
            ⟨some 44, none, .lenV (.tmp 43)⟩,
            ⟨some 45, none, .bin .leq (.tmp 42) (.tmp 44)⟩])
          (.cond (.tmp 45)
           .skip
           (.exit 2)))
         (.seq
          (.block 3
           (.seq
            (.ops [⟨some 48, none, .bslice 24 0 [] []⟩,
              ⟨some 49, none, .mov (.tmp 0)⟩,
              ⟨some 50, none, .mov (.tmp 6)⟩,
              ⟨some 51, none, .sliceV 2 (.tmp 49) none (some (.tmp 50)) none⟩,
              ⟨some 52, none, .append 24 2 24 (.tmp 48) (.tmp 51)⟩,
              ⟨some 7, none, .mov (.tmp 52)⟩])
            (.seq
             (.ops [⟨some 54, none, .mov (.tmp 7)⟩,
               ⟨some 55, none, .call 9 [(.tmp 54)]⟩,
               ⟨some 53, none, .mov (.tmp 55)⟩,
               ⟨some 56, none, .ext (.tmp 53) 0⟩,
               ⟨some 57, none, .ext (.tmp 53) 1⟩,
               ⟨some 8, none, .mov (.tmp 56)⟩,
               ⟨some 9, none, .mov (.tmp 57)⟩])
             (.seq
              (.ops [⟨some 59, none, .mov (.tmp 7)⟩,
                ⟨some 60, none, .call 10 [(.tmp 59)]⟩,
                ⟨some 58, none, .mov (.tmp 60)⟩,
                ⟨some 61, none, .ext (.tmp 58) 0⟩,
                ⟨some 62, none, .ext (.tmp 58) 1⟩,
                ⟨some 10, none, .mov (.tmp 61)⟩,
                ⟨some 11, none, .mov (.tmp 62)⟩])
              (.seq
               (.seq
                (.ops [⟨some 63, none, .mov (.tmp 8)⟩,
                  ⟨some 64, none, .mov (.tmp 10)⟩,
                  ⟨some 65, none, .bin .neq (.tmp 63) (.tmp 64)⟩,
                  ⟨some 66, none, .mov (.tmp 65)⟩,
                  ⟨some 67, some (66, false), .mov (.tmp 9)⟩,
                  ⟨some 68, some (66, false), .mov (.tmp 11)⟩,
                  ⟨some 69, some (66, false), .bin .neq (.tmp 67) (.tmp 68)⟩,
                  ⟨some 70, none, .pick (.tmp 66) (.const (.bool true)) (.tmp 69)⟩,
                  ⟨some 71, none, .mov (.tmp 70)⟩,
                  ⟨some 72, some (71, false), .mov (.tmp 7)⟩,
                  ⟨some 73, some (71, false), .call 11 [(.tmp 72)]⟩,
                  ⟨some 74, some (71, false), .mov (.tmp 10)⟩,
                  ⟨some 75, some (71, false), .lenS (.tmp 74)⟩,
                  ⟨some 76, some (71, false), .bin .neq (.tmp 73) (.tmp 75)⟩,
                  ⟨some 77, none, .pick (.tmp 71) (.const (.bool true)) (.tmp 76)⟩])
                (.cond (.tmp 77)
                 (.seq
                  (.ops [⟨some 4, none, .mov (.const (.bool false))⟩])
                  .ret)
                 .skip))
               (.seq
                (.ops [⟨some 78, none, .mov (.tmp 7)⟩,
                  ⟨some 79, none, .mov (.tmp 1)⟩,
                  ⟨some 80, none, .build [.int .i64 (0), .string ⟨⟨[]⟩⟩] [(0, 1, (.tmp 79))]⟩,
                  ⟨some 81, none, .bslice 24 1 [.int .i64 (0), .string ⟨⟨[]⟩⟩] [(0, 2, (.tmp 80))]⟩,
                  ⟨some 82, none, .append 24 2 24 (.tmp 78) (.tmp 81)⟩,
                  ⟨some 7, none, .mov (.tmp 82)⟩])
                (.seq
                 (.ops [⟨some 84, none, .mov (.tmp 7)⟩,
                   ⟨some 85, none, .call 9 [(.tmp 84)]⟩,
                   ⟨some 83, none, .mov (.tmp 85)⟩,
                   ⟨some 86, none, .ext (.tmp 83) 0⟩,
                   ⟨some 87, none, .ext (.tmp 83) 1⟩,
                   ⟨some 8, none, .mov (.tmp 86)⟩,
                   ⟨some 9, none, .mov (.tmp 87)⟩])
                 (.seq
                  (.ops [⟨some 89, none, .mov (.tmp 7)⟩,
                    ⟨some 90, none, .call 10 [(.tmp 89)]⟩,
                    ⟨some 88, none, .mov (.tmp 90)⟩,
                    ⟨some 91, none, .ext (.tmp 88) 0⟩,
                    ⟨some 92, none, .ext (.tmp 88) 1⟩,
                    ⟨some 10, none, .mov (.tmp 91)⟩,
                    ⟨some 11, none, .mov (.tmp 92)⟩])
                  (.seq
                   (.ops [⟨some 93, none, .mov (.tmp 8)⟩,
                     ⟨some 94, none, .mov (.tmp 10)⟩,
                     ⟨some 95, none, .bin .neq (.tmp 93) (.tmp 94)⟩,
                     ⟨some 96, none, .mov (.tmp 95)⟩,
                     ⟨some 97, some (96, false), .mov (.tmp 9)⟩,
                     ⟨some 98, some (96, false), .mov (.tmp 11)⟩,
                     ⟨some 99, some (96, false), .bin .neq (.tmp 97) (.tmp 98)⟩,
                     ⟨some 100, none, .pick (.tmp 96) (.const (.bool true)) (.tmp 99)⟩])
                   (.cond (.tmp 100)
                    (.seq
                     (.ops [⟨some 4, none, .mov (.const (.bool false))⟩])
                     .ret)
                    .skip))))))))))
          (.ops [⟨some 46, none, .mov (.tmp 6)⟩,
            ⟨some 47, none, .bin .add (.tmp 46) (.const (.int .i64 (1)))⟩,
            ⟨some 6, none, .mov (.tmp 47)⟩]))))))
     (.seq
      (.ops [⟨some 101, none, .call 12 []⟩,
        ⟨some 4, none, .mov (.tmp 101)⟩])
      .ret)))))⟩

/-- plait/plaitlaw04.AreaWalks -/
def c4 : AFunc := ⟨90, 3, [.inl 6],
 (.seq
  (.ops [⟨some 5, none, .box 32 2 (.tmp 2)⟩,
    ⟨some 6, none, .mov (.const (.bool false))⟩])
  (.seq
   (.opsD [⟨some 16, none, .mov (.tmp 0)⟩,
     ⟨some 17, none, .mov (.tmp 0)⟩,
     ⟨some 18, none, .lenS (.tmp 17)⟩,
     ⟨some 19, none, .min [(.tmp 18), (.const (.int .i64 (60)))]⟩,
     ⟨some 20, none, .sliceS (.tmp 16) none (some (.tmp 19))⟩,
     ⟨some 21, none, .mov (.tmp 1)⟩,
     ⟨some 22, none, .mov (.tmp 1)⟩,
     ⟨some 23, none, .lenV (.tmp 22)⟩,
     ⟨some 24, none, .min [(.tmp 23), (.const (.int .i64 (10)))]⟩,
     ⟨some 25, none, .sliceV 2 (.tmp 21) none (some (.tmp 24)) none⟩,
     ⟨some 0, none, .mov (.tmp 20)⟩,
     ⟨some 1, none, .mov (.tmp 25)⟩] [])
   (.seq
    (.ops [⟨some 27, none, .mov (.tmp 1)⟩,
      ⟨some 28, none, .call 10 [(.tmp 27)]⟩,
      ⟨some 26, none, .mov (.tmp 28)⟩,
      ⟨some 29, none, .ext (.tmp 26) 0⟩,
      ⟨some 30, none, .ext (.tmp 26) 1⟩,
      ⟨some 7, none, .mov (.tmp 29)⟩,
      ⟨some 8, none, .mov (.tmp 30)⟩])
    (.seq
     (.ops [⟨some 31, none, .mov (.tmp 7)⟩,
       ⟨some 32, none, .cvS2B 5 (.tmp 31)⟩,
       ⟨some 9, none, .mov (.tmp 32)⟩])
     (.seq
      (.seq
       (.ops [⟨some 33, none, .mov (.tmp 9)⟩,
         ⟨some 34, none, .lenV (.tmp 33)⟩,
         ⟨some 35, none, .bin .gtr (.tmp 34) (.const (.int .i64 (0)))⟩])
       (.cond (.tmp 35)
        (.opsD [⟨some 36, none, .mov (.tmp 9)⟩,
          ⟨some 37, none, .iaddrA 2 1 (.tmp 5) (.const (.int .i64 (0)))⟩,
          ⟨some 38, none, .load1 (.tmp 37)⟩,
          ⟨some 39, none, .cvInt .i64 (.tmp 38)⟩,
          ⟨some 40, none, .mov (.tmp 9)⟩,
          ⟨some 41, none, .lenV (.tmp 40)⟩,
          ⟨some 42, none, .bin .rem (.tmp 39) (.tmp 41)⟩,
          ⟨some 43, none, .iaddrA 2 1 (.tmp 5) (.const (.int .i64 (1)))⟩,
          ⟨some 44, none, .load1 (.tmp 43)⟩,
          ⟨some 45, none, .iaddrS 1 (.tmp 36) (.tmp 42)⟩,
          ⟨none, none, .store 1 (.tmp 45) (.tmp 44)⟩] [])
        .skip))
      (.seq
       (.seq
        (.opsD [⟨some 46, none, .mov (.tmp 0)⟩,
          ⟨some 47, none, .mov (.tmp 0)⟩,
          ⟨some 48, none, .mov (.tmp 0)⟩,
          ⟨some 49, none, .lenS (.tmp 48)⟩,
          ⟨some 50, none, .bin .quo (.tmp 49) (.const (.int .i64 (4)))⟩,
          ⟨some 51, none, .bin .mul (.tmp 50) (.const (.int .i64 (4)))⟩,
          ⟨some 52, none, .sliceS (.tmp 47) none (some (.tmp 51))⟩,
          ⟨some 53, none, .mov (.tmp 7)⟩,
          ⟨some 54, none, .mov (.tmp 9)⟩,
          ⟨some 55, none, .cvB2S (.tmp 54)⟩,
          ⟨some 56, none, .mov (.tmp 0)⟩,
          ⟨some 57, none, .iaddrA 2 1 (.tmp 5) (.const (.int .i64 (0)))⟩,
          ⟨some 58, none, .load1 (.tmp 57)⟩,
          ⟨some 59, none, .cvInt .i64 (.tmp 58)⟩,
          ⟨some 60, none, .mov (.tmp 0)⟩,
          ⟨some 61, none, .lenS (.tmp 60)⟩,
          ⟨some 62, none, .bin .add (.tmp 61) (.const (.int .i64 (1)))⟩,
          ⟨some 63, none, .bin .rem (.tmp 59) (.tmp 62)⟩,
          ⟨some 64, none, .sliceS (.tmp 56) none (some (.tmp 63))⟩,
          ⟨some 65, none, .build [.string ⟨⟨[]⟩⟩, .string ⟨⟨[]⟩⟩, .string ⟨⟨[]⟩⟩, .string ⟨⟨[]⟩⟩, .string ⟨⟨[]⟩⟩] [(0, 1, (.tmp 46)), (1, 1, (.tmp 52)), (2, 1, (.tmp 53)), (3, 1, (.tmp 55)), (4, 1, (.tmp 64))]⟩,
          ⟨some 66, none, .mov (.const (.int .i64 (0)))⟩] [])
        (.block 0
         (.loop
          (.seq
           (.ops [⟨some 67, none, .bin .lss (.tmp 66) (.const (.int .i64 (5)))⟩])
           (.seq
            (.cond (.tmp 67)
             .skip
             (.exit 0))
            (.seq
             (.block 1
              (.seq
               (.ops [⟨some 68, none, .idx1 5 1 (.tmp 65) (.tmp 66)⟩,
                 ⟨some 11, none, .mov (.tmp 68)⟩])
               (.seq
                (.ops [⟨some 70, none, .mov (.tmp 11)⟩,
                  ⟨some 71, none, .call 13 [(.tmp 70)]⟩,
                  ⟨some 69, none, .mov (.tmp 71)⟩,
                  ⟨some 72, none, .ext (.tmp 69) 0⟩,
                  ⟨some 73, none, .ext (.tmp 69) 1⟩,
                  ⟨some 12, none, .mov (.tmp 72)⟩,
                  ⟨some 13, none, .mov (.tmp 73)⟩])
                (.seq
                 (.ops [⟨some 75, none, .mov (.tmp 11)⟩,
                   ⟨some 76, none, .call 14 [(.tmp 75)]⟩,
                   ⟨some 74, none, .mov (.tmp 76)⟩,
                   ⟨some 77, none, .ext (.tmp 74) 0⟩,
                   ⟨some 78, none, .ext (.tmp 74) 1⟩,
                   ⟨some 14, none, .mov (.tmp 77)⟩,
                   ⟨some 15, none, .mov (.tmp 78)⟩])
                 (.seq
                  (.ops [⟨some 79, none, .mov (.tmp 13)⟩,
                    ⟨some 80, none, .mov (.tmp 15)⟩,
                    ⟨some 81, none, .bin .neq (.tmp 79) (.tmp 80)⟩,
                    ⟨some 82, none, .mov (.tmp 81)⟩,
                    ⟨some 83, some (82, false), .mov (.tmp 12)⟩,
                    ⟨some 84, some (82, false), .mov (.tmp 14)⟩,
                    ⟨some 85, some (82, false), .call 15 [(.tmp 83), (.tmp 84)]⟩,
                    ⟨some 86, some (82, false), .un .not (.tmp 85)⟩,
                    ⟨some 87, none, .pick (.tmp 82) (.const (.bool true)) (.tmp 86)⟩])
                  (.cond (.tmp 87)
                   (.seq
                    (.ops [⟨some 6, none, .mov (.const (.bool false))⟩])
                    .ret)
                   .skip))))))
             (.ops [⟨some 88, none, .bin .add (.tmp 66) (.const (.int .i64 (1)))⟩,
               ⟨some 66, none, .mov (.tmp 88)⟩])))))))
       (.seq
        (.ops [⟨some 89, none, .call 12 []⟩,
          ⟨some 6, none, .mov (.tmp 89)⟩])
        .ret)))))))⟩

/-- plait/plaitlaw04.AreaBack -/
def c5 : AFunc := ⟨103, 2, [.inl 4],
 (.seq
  (.ops [⟨some 4, none, .mov (.const (.bool false))⟩])
  (.seq
   (.seq
    (.ops [⟨some 14, none, .call 12 []⟩,
      ⟨some 15, none, .un .not (.tmp 14)⟩])
    (.cond (.tmp 15)
     (.seq
      (.ops [⟨some 4, none, .mov (.const (.bool false))⟩])
      .ret)
     .skip))
   (.seq
    (.ops [⟨some 16, none, .mov (.tmp 0)⟩,
      ⟨some 17, none, .call 16 [(.tmp 16)]⟩,
      ⟨some 5, none, .mov (.tmp 17)⟩])
    (.seq
     (.ops [⟨some 19, none, .mov (.tmp 5)⟩,
       ⟨some 20, none, .call 9 [(.tmp 19)]⟩,
       ⟨some 18, none, .mov (.tmp 20)⟩,
       ⟨some 21, none, .ext (.tmp 18) 0⟩,
       ⟨some 22, none, .ext (.tmp 18) 1⟩,
       ⟨some 6, none, .mov (.tmp 21)⟩,
       ⟨some 7, none, .mov (.tmp 22)⟩])
     (.seq
      (.seq
       (.ops [⟨some 23, none, .mov (.tmp 7)⟩,
         ⟨some 24, none, .bin .neq (.tmp 23) (.const (.int .i64 (0)))⟩,
         ⟨some 25, none, .mov (.tmp 24)⟩,
         ⟨some 26, some (25, false), .mov (.tmp 6)⟩,
         ⟨some 27, some (25, false), .lenS (.tmp 26)⟩,
         ⟨some 28, some (25, false), .bin .rem (.tmp 27) (.const (.int .i64 (4)))⟩,
         ⟨some 29, some (25, false), .bin .neq (.tmp 28) (.const (.int .i64 (0)))⟩,
         ⟨some 30, none, .pick (.tmp 25) (.const (.bool true)) (.tmp 29)⟩,
         ⟨some 31, none, .mov (.tmp 30)⟩,
         ⟨some 32, some (31, false), .mov (.tmp 6)⟩,
         ⟨some 33, some (31, false), .lenS (.tmp 32)⟩,
         ⟨some 34, some (31, false), .bin .gtr (.tmp 33) (.const (.int .i64 (40)))⟩,
         ⟨some 35, none, .pick (.tmp 31) (.const (.bool true)) (.tmp 34)⟩,
         ⟨some 36, none, .mov (.tmp 35)⟩,
         ⟨some 37, some (36, false), .mov (.tmp 6)⟩,
         ⟨some 38, some (36, false), .lenS (.tmp 37)⟩,
         ⟨some 39, some (36, false), .mov (.tmp 5)⟩,
         ⟨some 40, some (36, false), .call 11 [(.tmp 39)]⟩,
         ⟨some 41, some (36, false), .bin .neq (.tmp 38) (.tmp 40)⟩,
         ⟨some 42, none, .pick (.tmp 36) (.const (.bool true)) (.tmp 41)⟩,
         ⟨some 43, none, .mov (.tmp 42)⟩,
         ⟨some 44, some (43, false), .mov (.tmp 6)⟩,
         ⟨some 45, some (43, false), .mov (.tmp 5)⟩,
         ⟨some 46, some (43, false), .call 17 [(.tmp 44), (.tmp 45)]⟩,
         ⟨some 47, some (43, false), .un .not (.tmp 46)⟩,
         ⟨some 48, none, .pick (.tmp 43) (.const (.bool true)) (.tmp 47)⟩])
       (.cond (.tmp 48)
        (.seq
         (.ops [⟨some 4, none, .mov (.const (.bool false))⟩])
         .ret)
        .skip))
      (.seq
       (.ops [⟨some 49, none, .mov (.tmp 1)⟩,
         ⟨some 50, none, .cvInt .i64 (.tmp 49)⟩,
         ⟨some 51, none, .mov (.tmp 5)⟩,
         ⟨some 52, none, .lenV (.tmp 51)⟩,
         ⟨some 53, none, .bin .add (.tmp 52) (.const (.int .i64 (1)))⟩,
         ⟨some 54, none, .bin .rem (.tmp 50) (.tmp 53)⟩,
         ⟨some 8, none, .mov (.tmp 54)⟩])
       (.seq
        (.ops [⟨some 56, none, .mov (.tmp 5)⟩,
          ⟨some 57, none, .mov (.tmp 8)⟩,
          ⟨some 58, none, .sliceV 2 (.tmp 56) none (some (.tmp 57)) none⟩,
          ⟨some 59, none, .call 9 [(.tmp 58)]⟩,
          ⟨some 55, none, .mov (.tmp 59)⟩,
          ⟨some 60, none, .ext (.tmp 55) 0⟩,
          ⟨some 61, none, .ext (.tmp 55) 1⟩,
          ⟨some 9, none, .mov (.tmp 60)⟩,
          ⟨some 10, none, .mov (.tmp 61)⟩])
        (.seq
         (.ops [⟨some 11, none, .mov (.const (.int .i64 (0)))⟩])
         (.seq
          (.seq
           (.ops [⟨some 12, none, .mov (.const (.int .i64 (0)))⟩])
           (.block 0
            (.loop
             (.seq
              (.seq
               (.ops [⟨some 62, none, .mov (.tmp 12)⟩,
                 ⟨some 63, none, .mov (.tmp 8)⟩,
                 ⟨some 64, none, .bin .lss (.tmp 62) (.tmp 63)⟩])
               (.cond (.tmp 64)
                .skip
                (.exit 0)))
              (.seq
               (.block 1
                (.ops [⟨some 67, none, .mov (.tmp 11)⟩,
                  ⟨some 68, none, .bin .add (.tmp 67) (.const (.int .i64 (2)))⟩,
                  ⟨some 69, none, .mov (.tmp 5)⟩,
                  ⟨some 70, none, .mov (.tmp 12)⟩,
                  ⟨some 71, none, .iaddrS 2 (.tmp 69) (.tmp 70)⟩,
                  ⟨some 72, none, .faddr 1 (.tmp 71)⟩,
                  ⟨some 73, none, .load1 (.tmp 72)⟩,
                  ⟨some 74, none, .lenS (.tmp 73)⟩,
                  ⟨some 75, none, .bin .add (.tmp 68) (.tmp 74)⟩,
                  ⟨some 11, none, .mov (.tmp 75)⟩]))
               (.ops [⟨some 65, none, .mov (.tmp 12)⟩,
                 ⟨some 66, none, .bin .add (.tmp 65) (.const (.int .i64 (1)))⟩,
                 ⟨some 12, none, .mov (.tmp 66)⟩]))))))
          (.seq
           (.seq
            (.ops [⟨some 76, none, .mov (.tmp 11)⟩,
              ⟨some 77, none, .mov (.tmp 9)⟩,
              ⟨some 78, none, .lenS (.tmp 77)⟩,
              ⟨some 79, none, .bin .gtr (.tmp 76) (.tmp 78)⟩,
              ⟨some 80, none, .mov (.tmp 79)⟩,
              ⟨some 81, some (80, false), .mov (.tmp 6)⟩,
              ⟨some 82, some (80, false), .lenS (.tmp 81)⟩,
              ⟨some 83, some (80, false), .bin .geq (.tmp 82) (.const (.int .i64 (40)))⟩,
              ⟨some 84, none, .pick (.tmp 80) (.const (.bool true)) (.tmp 83)⟩,
              ⟨some 85, none, .mov (.tmp 84)⟩,
              ⟨some 86, some (85, false), .mov (.tmp 11)⟩,
              ⟨some 87, some (85, false), .mov (.tmp 6)⟩,
              ⟨some 88, some (85, false), .lenS (.tmp 87)⟩,
              ⟨some 89, some (85, false), .bin .gtr (.tmp 86) (.tmp 88)⟩,
              ⟨some 90, none, .pick (.tmp 85) (.const (.bool true)) (.tmp 89)⟩])
            (.cond (.tmp 90)
             (.seq
              (.ops [⟨some 4, none, .mov (.const (.bool true))⟩])
              .ret)
             .skip))
           (.seq
            (.opsD [⟨some 91, none, .mov (.tmp 6)⟩,
              ⟨some 92, none, .mov (.tmp 11)⟩,
              ⟨some 93, none, .sliceS (.tmp 91) none (some (.tmp 92))⟩,
              ⟨some 94, none, .bin .add (.tmp 93) (.const (.string ⟨⟨[1]⟩⟩))⟩,
              ⟨some 95, none, .mov (.tmp 6)⟩,
              ⟨some 96, none, .mov (.tmp 11)⟩,
              ⟨some 97, none, .sliceS (.tmp 95) (some (.tmp 96)) none⟩,
              ⟨some 98, none, .bin .add (.tmp 94) (.tmp 97)⟩,
              ⟨some 99, none, .bin .add (.tmp 98) (.const (.string ⟨⟨[0, 0, 0]⟩⟩))⟩,
              ⟨some 13, none, .mov (.tmp 99)⟩] [])
            (.seq
             (.ops [⟨some 100, none, .mov (.tmp 13)⟩,
               ⟨some 101, none, .mov (.tmp 5)⟩,
               ⟨some 102, none, .call 17 [(.tmp 100), (.tmp 101)]⟩,
               ⟨some 4, none, .mov (.tmp 102)⟩])
             .ret))))))))))))⟩

/-- plait/plaitlaw04.AreaCanon -/
def c6 : AFunc := ⟨110, 1, [.inl 2],
 (.seq
  (.ops [⟨some 2, none, .mov (.const (.bool false))⟩])
  (.seq
   (.seq
    (.ops [⟨some 10, none, .call 12 []⟩,
      ⟨some 11, none, .un .not (.tmp 10)⟩])
    (.cond (.tmp 11)
     (.seq
      (.ops [⟨some 2, none, .mov (.const (.bool false))⟩])
      .ret)
     .skip))
   (.seq
    (.ops [⟨some 12, none, .mov (.tmp 0)⟩,
      ⟨some 13, none, .mov (.tmp 0)⟩,
      ⟨some 14, none, .lenS (.tmp 13)⟩,
      ⟨some 15, none, .min [(.tmp 14), (.const (.int .i64 (40)))]⟩,
      ⟨some 16, none, .bin .quo (.tmp 15) (.const (.int .i64 (4)))⟩,
      ⟨some 17, none, .bin .mul (.tmp 16) (.const (.int .i64 (4)))⟩,
      ⟨some 18, none, .sliceS (.tmp 12) none (some (.tmp 17))⟩,
      ⟨some 0, none, .mov (.tmp 18)⟩])
    (.seq
     (.ops [⟨some 20, none, .mov (.tmp 0)⟩,
       ⟨some 21, none, .call 13 [(.tmp 20)]⟩,
       ⟨some 19, none, .mov (.tmp 21)⟩,
       ⟨some 22, none, .ext (.tmp 19) 0⟩,
       ⟨some 23, none, .ext (.tmp 19) 1⟩,
       ⟨some 3, none, .mov (.tmp 22)⟩,
       ⟨some 4, none, .mov (.tmp 23)⟩])
     (.seq
      (.seq
       (.ops [⟨some 24, none, .mov (.tmp 4)⟩,
         ⟨some 25, none, .bin .neq (.tmp 24) (.const (.int .i64 (0)))⟩])
       (.cond (.tmp 25)
        (.seq
         (.ops [⟨some 26, none, .mov (.tmp 4)⟩,
           ⟨some 27, none, .bin .eql (.tmp 26) (.const (.int .i64 (4)))⟩,
           ⟨some 28, none, .mov (.tmp 27)⟩,
           ⟨some 29, some (28, false), .mov (.tmp 4)⟩,
           ⟨some 30, some (28, false), .bin .eql (.tmp 29) (.const (.int .i64 (5)))⟩,
           ⟨some 31, none, .pick (.tmp 28) (.const (.bool true)) (.tmp 30)⟩,
           ⟨some 32, none, .mov (.tmp 31)⟩,
           ⟨some 33, some (32, true), .mov (.tmp 3)⟩,
           ⟨some 34, some (32, true), .lenV (.tmp 33)⟩,
           ⟨some 35, some (32, true), .bin .eql (.tmp 34) (.const (.int .i64 (0)))⟩,
           ⟨some 36, none, .pick (.tmp 32) (.tmp 35) (.const (.bool false))⟩,
           ⟨some 2, none, .mov (.tmp 36)⟩])
         .ret)
        .skip))
      (.seq
       (.ops [⟨some 38, none, .mov (.tmp 3)⟩,
         ⟨some 39, none, .call 9 [(.tmp 38)]⟩,
         ⟨some 37, none, .mov (.tmp 39)⟩,
         ⟨some 40, none, .ext (.tmp 37) 0⟩,
         ⟨some 41, none, .ext (.tmp 37) 1⟩,
         ⟨some 5, none, .mov (.tmp 40)⟩,
         ⟨some 6, none, .mov (.tmp 41)⟩])
       (.seq
        (.ops [⟨some 7, none, .mov (.const (.int .i64 (0)))⟩])
        (.seq
         (.seq
          (.ops [⟨some 8, none, .mov (.const (.int .i64 (0)))⟩])
          (.block 0
           (.loop
            (.seq
             (.seq
              (.ops [⟨some 42, none, .mov (.tmp 8)⟩,
                ⟨some 43, none, .mov (.tmp 3)⟩,
                ⟨some 44, none, .lenV (.tmp 43)⟩,
                ⟨some 45, none, .bin .lss (.tmp 42) (.tmp 44)⟩])
              (.cond (.tmp 45)
               .skip
               (.exit 0)))
             (.seq
              (.block 1
               (.seq
                (.seq
                 (.ops [⟨some 48, none, .mov (.tmp 3)⟩,
                   ⟨some 49, none, .mov (.tmp 8)⟩,
                   ⟨some 50, none, .iaddrS 2 (.tmp 48) (.tmp 49)⟩,
                   ⟨some 51, none, .faddr 0 (.tmp 50)⟩,
                   ⟨some 52, none, .load1 (.tmp 51)⟩,
                   ⟨some 53, none, .bin .lss (.tmp 52) (.const (.int .i64 (2)))⟩,
                   ⟨some 54, none, .mov (.tmp 53)⟩,
                   ⟨some 55, some (54, false), .mov (.tmp 3)⟩,
                   ⟨some 56, some (54, false), .mov (.tmp 8)⟩,
                   ⟨some 57, some (54, false), .iaddrS 2 (.tmp 55) (.tmp 56)⟩,
                   ⟨some 58, some (54, false), .faddr 0 (.tmp 57)⟩,
                   ⟨some 59, some (54, false), .load1 (.tmp 58)⟩,
                   ⟨some 60, some (54, false), .bin .gtr (.tmp 59) (.const (.int .i64 (255)))⟩,
                   ⟨some 61, none, .pick (.tmp 54) (.const (.bool true)) (.tmp 60)⟩])
                 (.cond (.tmp 61)
                  (.seq
                   (.ops [⟨some 2, none, .mov (.const (.bool false))⟩])
                   .ret)
                  .skip))
                (.ops [⟨some 62, none, .mov (.tmp 7)⟩,
                  ⟨some 63, none, .bin .add (.tmp 62) (.const (.int .i64 (2)))⟩,
                  ⟨some 64, none, .mov (.tmp 3)⟩,
                  ⟨some 65, none, .mov (.tmp 8)⟩,
                  ⟨some 66, none, .iaddrS 2 (.tmp 64) (.tmp 65)⟩,
                  ⟨some 67, none, .faddr 1 (.tmp 66)⟩,
                  ⟨some 68, none, .load1 (.tmp 67)⟩,
                  ⟨some 69, none, .lenS (.tmp 68)⟩,
                  ⟨some 70, none, .bin .add (.tmp 63) (.tmp 69)⟩,
                  ⟨some 7, none, .mov (.tmp 70)⟩])))
              (.ops [⟨some 46, none, .mov (.tmp 8)⟩,
                ⟨some 47, none, .bin .add (.tmp 46) (.const (.int .i64 (1)))⟩,
                ⟨some 8, none, .mov (.tmp 47)⟩]))))))
         (.seq
          (.seq
           (.ops [⟨some 71, none, .mov (.tmp 6)⟩,
             ⟨some 72, none, .bin .neq (.tmp 71) (.const (.int .i64 (0)))⟩,
             ⟨some 73, none, .mov (.tmp 72)⟩,
             ⟨some 74, some (73, false), .mov (.tmp 5)⟩,
             ⟨some 75, some (73, false), .lenS (.tmp 74)⟩,
             ⟨some 76, some (73, false), .mov (.tmp 0)⟩,
             ⟨some 77, some (73, false), .lenS (.tmp 76)⟩,
             ⟨some 78, some (73, false), .bin .gtr (.tmp 75) (.tmp 77)⟩,
             ⟨some 79, none, .pick (.tmp 73) (.const (.bool true)) (.tmp 78)⟩,
             ⟨some 80, none, .mov (.tmp 79)⟩,
             ⟨some 81, some (80, false), .mov (.tmp 5)⟩,
             ⟨some 82, some (80, false), .mov (.tmp 3)⟩,
             ⟨some 83, some (80, false), .call 17 [(.tmp 81), (.tmp 82)]⟩,
             ⟨some 84, some (80, false), .un .not (.tmp 83)⟩,
             ⟨some 85, none, .pick (.tmp 80) (.const (.bool true)) (.tmp 84)⟩,
             ⟨some 86, none, .mov (.tmp 85)⟩,
             ⟨some 87, some (86, false), .mov (.tmp 5)⟩,
             ⟨some 88, some (86, false), .lenS (.tmp 87)⟩,
             ⟨some 89, some (86, false), .mov (.tmp 7)⟩,
             ⟨some 90, some (86, false), .bin .sub (.tmp 88) (.tmp 89)⟩,
             ⟨some 91, some (86, false), .bin .gtr (.tmp 90) (.const (.int .i64 (3)))⟩,
             ⟨some 92, none, .pick (.tmp 86) (.const (.bool true)) (.tmp 91)⟩,
             ⟨some 93, none, .mov (.tmp 92)⟩,
             ⟨some 94, some (93, false), .mov (.tmp 7)⟩,
             ⟨some 95, some (93, false), .mov (.tmp 5)⟩,
             ⟨some 96, some (93, false), .lenS (.tmp 95)⟩,
             ⟨some 97, some (93, false), .bin .gtr (.tmp 94) (.tmp 96)⟩,
             ⟨some 98, none, .pick (.tmp 93) (.const (.bool true)) (.tmp 97)⟩])
           (.cond (.tmp 98)
            (.seq
             (.ops [⟨some 2, none, .mov (.const (.bool false))⟩])
             .ret)
            .skip))
          (.seq
           (.seq
            (.ops [⟨some 99, none, .mov (.tmp 7)⟩,
              ⟨some 9, none, .mov (.tmp 99)⟩])
            (.block 2
             (.loop
              (.seq
               (.seq
                (.ops [⟨some 100, none, .mov (.tmp 9)⟩,
                  ⟨some 101, none, .mov (.tmp 5)⟩,
                  ⟨some 102, none, .lenS (.tmp 101)⟩,
                  ⟨some 103, none, .bin .lss (.tmp 100) (.tmp 102)⟩])
                (.cond (.tmp 103)
                 .skip
                 (.exit 2)))
               (.seq
                (.block 3
                 (.seq
                  (.ops [⟨some 106, none, .mov (.tmp 5)⟩,
                    ⟨some 107, none, .mov (.tmp 9)⟩,
                    ⟨some 108, none, .idxS (.tmp 106) (.tmp 107)⟩,
                    ⟨some 109, none, .bin .neq (.tmp 108) (.const (.int .u8 (0)))⟩])
                  (.cond (.tmp 109)
                   (.seq
                    (.ops [⟨some 2, none, .mov (.const (.bool false))⟩])
                    .ret)
                   .skip)))
                (.ops [⟨some 104, none, .mov (.tmp 9)⟩,
                  ⟨some 105, none, .bin .add (.tmp 104) (.const (.int .i64 (1)))⟩,
                  ⟨some 9, none, .mov (.tmp 105)⟩]))))))
           (.seq
            (.ops [⟨some 2, none, .mov (.const (.bool true))⟩])
            .ret)))))))))))⟩

/-- plait/plaitlaw04.AreaAlike -/
def c7 : AFunc := ⟨94, 3, [.inl 6],
 (.seq
  (.ops [⟨some 6, none, .mov (.const (.bool false))⟩])
  (.seq
   (.seq
    (.ops [⟨some 16, none, .call 12 []⟩,
      ⟨some 17, none, .un .not (.tmp 16)⟩])
    (.cond (.tmp 17)
     (.seq
      (.ops [⟨some 6, none, .mov (.const (.bool false))⟩])
      .ret)
     .skip))
   (.seq
    (.ops [⟨some 18, none, .mov (.tmp 0)⟩,
      ⟨some 19, none, .call 16 [(.tmp 18)]⟩,
      ⟨some 20, none, .mov (.tmp 1)⟩,
      ⟨some 21, none, .call 16 [(.tmp 20)]⟩,
      ⟨some 7, none, .mov (.tmp 19)⟩,
      ⟨some 8, none, .mov (.tmp 21)⟩])
    (.seq
     (.ops [⟨some 23, none, .mov (.tmp 7)⟩,
       ⟨some 24, none, .call 9 [(.tmp 23)]⟩,
       ⟨some 22, none, .mov (.tmp 24)⟩,
       ⟨some 25, none, .ext (.tmp 22) 0⟩,
       ⟨some 26, none, .ext (.tmp 22) 1⟩,
       ⟨some 9, none, .mov (.tmp 25)⟩,
       ⟨some 10, none, .mov (.tmp 26)⟩])
     (.seq
      (.ops [⟨some 28, none, .mov (.tmp 8)⟩,
        ⟨some 29, none, .call 9 [(.tmp 28)]⟩,
        ⟨some 27, none, .mov (.tmp 29)⟩,
        ⟨some 30, none, .ext (.tmp 27) 0⟩,
        ⟨some 31, none, .ext (.tmp 27) 1⟩,
        ⟨some 11, none, .mov (.tmp 30)⟩,
        ⟨some 12, none, .mov (.tmp 31)⟩])
      (.seq
       (.seq
        (.ops [⟨some 32, none, .mov (.tmp 10)⟩,
          ⟨some 33, none, .bin .neq (.tmp 32) (.const (.int .i64 (0)))⟩,
          ⟨some 34, none, .mov (.tmp 33)⟩,
          ⟨some 35, some (34, false), .mov (.tmp 12)⟩,
          ⟨some 36, some (34, false), .bin .neq (.tmp 35) (.const (.int .i64 (0)))⟩,
          ⟨some 37, none, .pick (.tmp 34) (.const (.bool true)) (.tmp 36)⟩,
          ⟨some 38, none, .mov (.tmp 37)⟩,
          ⟨some 39, some (38, false), .mov (.tmp 9)⟩,
          ⟨some 40, some (38, false), .mov (.tmp 11)⟩,
          ⟨some 41, some (38, false), .bin .eql (.tmp 39) (.tmp 40)⟩,
          ⟨some 42, some (38, false), .mov (.tmp 7)⟩,
          ⟨some 43, some (38, false), .mov (.tmp 8)⟩,
          ⟨some 44, some (38, false), .call 15 [(.tmp 42), (.tmp 43)]⟩,
          ⟨some 45, some (38, false), .eq true false .bool (.tmp 41) (.tmp 44)⟩,
          ⟨some 46, none, .pick (.tmp 38) (.const (.bool true)) (.tmp 45)⟩])
        (.cond (.tmp 46)
         (.seq
          (.ops [⟨some 6, none, .mov (.const (.bool false))⟩])
          .ret)
         .skip))
       (.seq
        (.ops [⟨some 13, none, .mov (.const (.int .i64 (0)))⟩])
        (.seq
         (.seq
          (.ops [⟨some 14, none, .mov (.const (.int .i64 (0)))⟩])
          (.block 0
           (.loop
            (.seq
             (.seq
              (.ops [⟨some 47, none, .mov (.tmp 14)⟩,
                ⟨some 48, none, .mov (.tmp 7)⟩,
                ⟨some 49, none, .lenV (.tmp 48)⟩,
                ⟨some 50, none, .bin .lss (.tmp 47) (.tmp 49)⟩])
              (.cond (.tmp 50)
               .skip
               (.exit 0)))
             (.seq
              (.block 1
               (.ops [⟨some 53, none, .mov (.tmp 13)⟩,
                 ⟨some 54, none, .bin .add (.tmp 53) (.const (.int .i64 (2)))⟩,
                 ⟨some 55, none, .mov (.tmp 7)⟩,
                 ⟨some 56, none, .mov (.tmp 14)⟩,
                 ⟨some 57, none, .iaddrS 2 (.tmp 55) (.tmp 56)⟩,
                 ⟨some 58, none, .faddr 1 (.tmp 57)⟩,
                 ⟨some 59, none, .load1 (.tmp 58)⟩,
                 ⟨some 60, none, .lenS (.tmp 59)⟩,
                 ⟨some 61, none, .bin .add (.tmp 54) (.tmp 60)⟩,
                 ⟨some 13, none, .mov (.tmp 61)⟩]))
              (.ops [⟨some 51, none, .mov (.tmp 14)⟩,
                ⟨some 52, none, .bin .add (.tmp 51) (.const (.int .i64 (1)))⟩,
                ⟨some 14, none, .mov (.tmp 52)⟩]))))))
         (.seq
          (.seq
           (.ops [⟨some 62, none, .mov (.tmp 13)⟩,
             ⟨some 63, none, .bin .geq (.tmp 62) (.const (.int .i64 (40)))⟩,
             ⟨some 64, none, .mov (.tmp 63)⟩,
             ⟨some 65, some (64, false), .mov (.tmp 13)⟩,
             ⟨some 66, some (64, false), .mov (.tmp 9)⟩,
             ⟨some 67, some (64, false), .lenS (.tmp 66)⟩,
             ⟨some 68, some (64, false), .bin .gtr (.tmp 65) (.tmp 67)⟩,
             ⟨some 69, none, .pick (.tmp 64) (.const (.bool true)) (.tmp 68)⟩])
           (.cond (.tmp 69)
            (.seq
             (.ops [⟨some 6, none, .mov (.const (.bool true))⟩])
             .ret)
            .skip))
          (.seq
           (.opsD [⟨some 70, none, .mov (.tmp 9)⟩,
             ⟨some 71, none, .mov (.tmp 13)⟩,
             ⟨some 72, none, .sliceS (.tmp 70) none (some (.tmp 71))⟩,
             ⟨some 73, none, .bin .add (.tmp 72) (.const (.string ⟨⟨[0]⟩⟩))⟩,
             ⟨some 74, none, .mov (.tmp 2)⟩,
             ⟨some 75, none, .mov (.tmp 2)⟩,
             ⟨some 76, none, .lenS (.tmp 75)⟩,
             ⟨some 77, none, .min [(.tmp 76), (.const (.int .i64 (40)))]⟩,
             ⟨some 78, none, .sliceS (.tmp 74) none (some (.tmp 77))⟩,
             ⟨some 79, none, .bin .add (.tmp 73) (.tmp 78)⟩,
             ⟨some 15, none, .mov (.tmp 79)⟩] [])
           (.seq
            (.ops [⟨some 80, none, .mov (.tmp 15)⟩,
              ⟨some 81, none, .mov (.tmp 15)⟩,
              ⟨some 82, none, .lenS (.tmp 81)⟩,
              ⟨some 83, none, .min [(.tmp 82), (.const (.int .i64 (40)))]⟩,
              ⟨some 84, none, .sliceS (.tmp 80) none (some (.tmp 83))⟩,
              ⟨some 15, none, .mov (.tmp 84)⟩])
            (.seq
             (.block 2
              (.loop
               (.seq
                (.seq
                 (.ops [⟨some 85, none, .mov (.tmp 15)⟩,
                   ⟨some 86, none, .lenS (.tmp 85)⟩,
                   ⟨some 87, none, .bin .rem (.tmp 86) (.const (.int .i64 (4)))⟩,
                   ⟨some 88, none, .bin .neq (.tmp 87) (.const (.int .i64 (0)))⟩])
                 (.cond (.tmp 88)
                  .skip
                  (.exit 2)))
                (.block 3
                 (.ops [⟨some 89, none, .mov (.tmp 15)⟩,
                   ⟨some 90, none, .bin .add (.tmp 89) (.const (.string ⟨⟨[7]⟩⟩))⟩,
                   ⟨some 15, none, .mov (.tmp 90)⟩])))))
             (.seq
              (.ops [⟨some 91, none, .mov (.tmp 15)⟩,
                ⟨some 92, none, .mov (.tmp 7)⟩,
                ⟨some 93, none, .call 17 [(.tmp 91), (.tmp 92)]⟩,
                ⟨some 6, none, .mov (.tmp 93)⟩])
              .ret)))))))))))))⟩

/-- plait/area.Lay -/
def c9 : AFunc := ⟨54, 1, [.inl 2, .inl 3],
 (.seq
  (.ops [⟨some 2, none, .mov (.const (.string ⟨⟨[]⟩⟩))⟩,
    ⟨some 3, none, .mov (.const (.int .i64 (0)))⟩])
  (.seq
   (.ops [⟨some 4, none, .mov (.const (.slice none 0 0))⟩])
   (.seq
    (.seq
     (.ops [⟨some 7, none, .mov (.tmp 0)⟩,
       ⟨some 8, none, .lenV (.tmp 7)⟩,
       ⟨some 9, none, .mov (.const (.int .i64 (0)))⟩])
     (.block 0
      (.loop
       (.seq
        (.ops [⟨some 10, none, .bin .lss (.tmp 9) (.tmp 8)⟩])
        (.seq
         (.cond (.tmp 10)
          .skip
          (.exit 0))
         (.seq
          (.block 1
           (.seq
            (.ops [⟨some 11, none, .iaddrS 2 (.tmp 7) (.tmp 9)⟩,
              ⟨some 12, none, .loadN 2 (.tmp 11)⟩,
              ⟨some 6, none, .alloc 24 [.int .i64 (0), .string ⟨⟨[]⟩⟩]⟩,
              ⟨none, none, .store 2 (.tmp 6) (.tmp 12)⟩])
            (.seq
             (.seq
              (.ops [⟨some 13, none, .faddr 0 (.tmp 6)⟩,
                ⟨some 14, none, .load1 (.tmp 13)⟩,
                ⟨some 15, none, .bin .leq (.tmp 14) (.const (.int .i64 (1)))⟩,
                ⟨some 16, none, .mov (.tmp 15)⟩,
                ⟨some 17, some (16, false), .faddr 0 (.tmp 6)⟩,
                ⟨some 18, some (16, false), .load1 (.tmp 17)⟩,
                ⟨some 19, some (16, false), .bin .gtr (.tmp 18) (.const (.int .i64 (255)))⟩,
                ⟨some 20, none, .pick (.tmp 16) (.const (.bool true)) (.tmp 19)⟩,
                ⟨some 21, none, .mov (.tmp 20)⟩,
                ⟨some 22, some (21, false), .faddr 1 (.tmp 6)⟩,
                ⟨some 23, some (21, false), .load1 (.tmp 22)⟩,
                ⟨some 24, some (21, false), .lenS (.tmp 23)⟩,
                ⟨some 25, some (21, false), .bin .gtr (.tmp 24) (.const (.int .i64 (253)))⟩,
                ⟨some 26, none, .pick (.tmp 21) (.const (.bool true)) (.tmp 25)⟩])
              (.cond (.tmp 26)
               (.seq
                (.ops [⟨some 2, none, .mov (.const (.string ⟨⟨[]⟩⟩))⟩,
                  ⟨some 3, none, .mov (.const (.int .i64 (2)))⟩])
                .ret)
               .skip))
             (.opsD [⟨some 27, none, .mov (.tmp 4)⟩,
               ⟨some 28, none, .faddr 0 (.tmp 6)⟩,
               ⟨some 29, none, .load1 (.tmp 28)⟩,
               ⟨some 30, none, .cvInt .u8 (.tmp 29)⟩,
               ⟨some 31, none, .faddr 1 (.tmp 6)⟩,
               ⟨some 32, none, .load1 (.tmp 31)⟩,
               ⟨some 33, none, .lenS (.tmp 32)⟩,
               ⟨some 34, none, .bin .add (.const (.int .i64 (2))) (.tmp 33)⟩,
               ⟨some 35, none, .cvInt .u8 (.tmp 34)⟩,
               ⟨some 36, none, .bslice 5 2 [.int .u8 (0)] [(0, 1, (.tmp 30)), (1, 1, (.tmp 35))]⟩,
               ⟨some 37, none, .append 5 1 1 (.tmp 27) (.tmp 36)⟩,
               ⟨some 38, none, .faddr 1 (.tmp 6)⟩,
               ⟨some 39, none, .load1 (.tmp 38)⟩,
               ⟨some 40, none, .append 5 1 1 (.tmp 37) (.tmp 39)⟩,
               ⟨some 4, none, .mov (.tmp 40)⟩] [(12, 10), (12, 11)]))))
          (.ops [⟨some 41, none, .bin .add (.tmp 9) (.const (.int .i64 (1)))⟩,
            ⟨some 9, none, .mov (.tmp 41)⟩])))))))
    (.seq
     (.seq
      (.ops [⟨some 42, none, .mov (.tmp 4)⟩,
        ⟨some 43, none, .lenV (.tmp 42)⟩,
        ⟨some 44, none, .bin .gtr (.tmp 43) (.const (.int .i64 (40)))⟩])
      (.cond (.tmp 44)
       (.seq
        (.ops [⟨some 2, none, .mov (.const (.string ⟨⟨[]⟩⟩))⟩,
          ⟨some 3, none, .mov (.const (.int .i64 (6)))⟩])
        .ret)
       .skip))
     (.seq
      (.block 2
       (.loop
        (.seq
         (.seq
          (.ops [⟨some 45, none, .mov (.tmp 4)⟩,
            ⟨some 46, none, .lenV (.tmp 45)⟩,
            ⟨some 47, none, .bin .rem (.tmp 46) (.const (.int .i64 (4)))⟩,
            ⟨some 48, none, .bin .neq (.tmp 47) (.const (.int .i64 (0)))⟩])
          (.cond (.tmp 48)
           .skip
           (.exit 2)))
         (.block 3
          (.ops [⟨some 49, none, .mov (.tmp 4)⟩,
            ⟨some 50, none, .bslice 5 1 [.int .u8 (0)] [(0, 1, (.const (.int .u8 (0))))]⟩,
            ⟨some 51, none, .append 5 1 1 (.tmp 49) (.tmp 50)⟩,
            ⟨some 4, none, .mov (.tmp 51)⟩])))))
      (.seq
       (.ops [⟨some 52, none, .mov (.tmp 4)⟩,
         ⟨some 53, none, .cvB2S (.tmp 52)⟩,
         ⟨some 2, none, .mov (.tmp 53)⟩,
         ⟨some 3, none, .mov (.const (.int .i64 (0)))⟩])
       .ret))))))⟩

/-- plait/plaitref04.Lay -/
def c10 : AFunc := ⟨52, 1, [.inl 2, .inl 3],
 (.seq
  (.ops [⟨some 2, none, .mov (.const (.string ⟨⟨[]⟩⟩))⟩,
    ⟨some 3, none, .mov (.const (.int .i64 (0)))⟩])
  (.seq
   (.ops [⟨some 4, none, .mov (.const (.string ⟨⟨[]⟩⟩))⟩])
   (.seq
    (.seq
     (.ops [⟨some 5, none, .mov (.const (.int .i64 (0)))⟩])
     (.block 0
      (.loop
       (.seq
        (.seq
         (.ops [⟨some 6, none, .mov (.tmp 5)⟩,
           ⟨some 7, none, .mov (.tmp 0)⟩,
           ⟨some 8, none, .lenV (.tmp 7)⟩,
           ⟨some 9, none, .bin .lss (.tmp 6) (.tmp 8)⟩])
         (.cond (.tmp 9)
          .skip
          (.exit 0)))
        (.seq
         (.block 1
          (.seq
           (.seq
            (.ops [⟨some 12, none, .mov (.tmp 0)⟩,
              ⟨some 13, none, .mov (.tmp 5)⟩,
              ⟨some 14, none, .iaddrS 2 (.tmp 12) (.tmp 13)⟩,
              ⟨some 15, none, .loadN 2 (.tmp 14)⟩,
              ⟨some 16, none, .call 19 [(.tmp 15)]⟩,
              ⟨some 17, none, .un .not (.tmp 16)⟩])
            (.cond (.tmp 17)
             (.seq
              (.ops [⟨some 2, none, .mov (.const (.string ⟨⟨[]⟩⟩))⟩,
                ⟨some 3, none, .mov (.const (.int .i64 (2)))⟩])
              .ret)
             .skip))
           (.opsD [⟨some 18, none, .mov (.tmp 4)⟩,
             ⟨some 19, none, .mov (.tmp 0)⟩,
             ⟨some 20, none, .mov (.tmp 5)⟩,
             ⟨some 21, none, .iaddrS 2 (.tmp 19) (.tmp 20)⟩,
             ⟨some 22, none, .faddr 0 (.tmp 21)⟩,
             ⟨some 23, none, .load1 (.tmp 22)⟩,
             ⟨some 24, none, .cvInt .u8 (.tmp 23)⟩,
             ⟨some 25, none, .mov (.tmp 0)⟩,
             ⟨some 26, none, .mov (.tmp 5)⟩,
             ⟨some 27, none, .iaddrS 2 (.tmp 25) (.tmp 26)⟩,
             ⟨some 28, none, .faddr 1 (.tmp 27)⟩,
             ⟨some 29, none, .load1 (.tmp 28)⟩,
             ⟨some 30, none, .lenS (.tmp 29)⟩,
             ⟨some 31, none, .bin .add (.tmp 30) (.const (.int .i64 (2)))⟩,
             ⟨some 32, none, .cvInt .u8 (.tmp 31)⟩,
             ⟨some 33, none, .bslice 5 2 [.int .u8 (0)] [(0, 1, (.tmp 24)), (1, 1, (.tmp 32))]⟩,
             ⟨some 34, none, .cvB2S (.tmp 33)⟩,
             ⟨some 35, none, .bin .add (.tmp 18) (.tmp 34)⟩,
             ⟨some 36, none, .mov (.tmp 0)⟩,
             ⟨some 37, none, .mov (.tmp 5)⟩,
             ⟨some 38, none, .iaddrS 2 (.tmp 36) (.tmp 37)⟩,
             ⟨some 39, none, .faddr 1 (.tmp 38)⟩,
             ⟨some 40, none, .load1 (.tmp 39)⟩,
             ⟨some 41, none, .bin .add (.tmp 35) (.tmp 40)⟩,
             ⟨some 4, none, .mov (.tmp 41)⟩] [])))
         (.ops [⟨some 10, none, .mov (.tmp 5)⟩,
           ⟨some 11, none, .bin .add (.tmp 10) (.const (.int .i64 (1)))⟩,
           ⟨some 5, none, .mov (.tmp 11)⟩]))))))
    (.seq
     (.seq
      (.ops [⟨some 42, none, .mov (.tmp 4)⟩,
        ⟨some 43, none, .lenS (.tmp 42)⟩,
        ⟨some 44, none, .bin .gtr (.tmp 43) (.const (.int .i64 (40)))⟩])
      (.cond (.tmp 44)
       (.seq
        (.ops [⟨some 2, none, .mov (.const (.string ⟨⟨[]⟩⟩))⟩,
          ⟨some 3, none, .mov (.const (.int .i64 (6)))⟩])
        .ret)
       .skip))
     (.seq
      (.block 2
       (.loop
        (.seq
         (.seq
          (.ops [⟨some 45, none, .mov (.tmp 4)⟩,
            ⟨some 46, none, .lenS (.tmp 45)⟩,
            ⟨some 47, none, .bin .rem (.tmp 46) (.const (.int .i64 (4)))⟩,
            ⟨some 48, none, .bin .neq (.tmp 47) (.const (.int .i64 (0)))⟩])
          (.cond (.tmp 48)
           .skip
           (.exit 2)))
         (.block 3
          (.ops [⟨some 49, none, .mov (.tmp 4)⟩,
            ⟨some 50, none, .bin .add (.tmp 49) (.const (.string ⟨⟨[0]⟩⟩))⟩,
            ⟨some 4, none, .mov (.tmp 50)⟩])))))
      (.seq
       (.ops [⟨some 51, none, .mov (.tmp 4)⟩,
         ⟨some 2, none, .mov (.tmp 51)⟩,
         ⟨some 3, none, .mov (.const (.int .i64 (0)))⟩])
       .ret))))))⟩

/-- plait/area.Size -/
def c11 : AFunc := ⟨12, 1, [.inl 2],
 (.seq
  (.ops [⟨some 2, none, .mov (.const (.int .i64 (0)))⟩])
  (.seq
   (.ops [⟨some 6, none, .mov (.tmp 0)⟩,
     ⟨some 7, none, .call 9 [(.tmp 6)]⟩,
     ⟨some 5, none, .mov (.tmp 7)⟩,
     ⟨some 8, none, .ext (.tmp 5) 0⟩,
     ⟨some 9, none, .ext (.tmp 5) 1⟩,
     ⟨some 3, none, .mov (.tmp 8)⟩,
     ⟨some 4, none, .mov (.tmp 9)⟩])
   (.seq
    (.ops [⟨some 10, none, .mov (.tmp 3)⟩,
      ⟨some 11, none, .lenS (.tmp 10)⟩,
      ⟨some 2, none, .mov (.tmp 11)⟩])
    .ret)))⟩

/-- plait/area.Walk -/
def c13 : AFunc := ⟨42, 1, [.inr (2, 1, false), .inr (3, 1, false)],
 (.seq
  (.ops [⟨some 2, none, .alloc 22 [.slice none 0 0]⟩,
    ⟨some 3, none, .alloc 25 [.int .i64 (0)]⟩])
  (.seq
   (.block 0
    (.seq
     (.ops [⟨some 7, none, .mov (.tmp 0)⟩,
       ⟨some 8, none, .lenS (.tmp 7)⟩,
       ⟨some 9, none, .bin .gtr (.tmp 8) (.const (.int .i64 (40)))⟩,
       ⟨some 6, none, .mov (.tmp 9)⟩])
     (.cond (.tmp 6)
      (.seq
       (.ops [⟨none, none, .store 1 (.tmp 2) (.const (.slice none 0 0))⟩,
         ⟨none, none, .store 1 (.tmp 3) (.const (.int .i64 (6)))⟩])
       .ret)
      (.seq
       (.ops [⟨some 11, none, .mov (.tmp 0)⟩,
         ⟨some 12, none, .lenS (.tmp 11)⟩,
         ⟨some 13, none, .bin .rem (.tmp 12) (.const (.int .i64 (4)))⟩,
         ⟨some 14, none, .bin .neq (.tmp 13) (.const (.int .i64 (0)))⟩,
         ⟨some 10, none, .mov (.tmp 14)⟩])
       (.cond (.tmp 10)
        (.seq
         (.ops [⟨none, none, .store 1 (.tmp 2) (.const (.slice none 0 0))⟩,
           ⟨none, none, .store 1 (.tmp 3) (.const (.int .i64 (5)))⟩])
         .ret)
        .skip)))))
   (.seq
    (.seq
     (.ops [⟨some 15, none, .mov (.tmp 0)⟩,
       ⟨some 16, none, .call 20 [(.tmp 15)]⟩])
     (.block 1
      (.rangeFunc (.tmp 16) [17]
       (.ops [⟨some 4, none, .alloc 51 [.int .i64 (0), .int .i64 (0), .string ⟨⟨[]⟩⟩]⟩,
         ⟨none, none, .store 3 (.tmp 4) (.tmp 17)⟩])
       (.block 2
        (.seq
         (.seq
          (.ops [⟨some 18, none, .faddr 0 (.tmp 4)⟩,
            ⟨some 19, none, .load1 (.tmp 18)⟩,
            ⟨some 20, none, .faddr 1 (.tmp 4)⟩,
            ⟨some 21, none, .load1 (.tmp 20)⟩,
            ⟨some 22, none, .build [.int .i64 (0), .int .i64 (0), .string ⟨⟨[]⟩⟩] [(0, 1, (.tmp 19)), (1, 1, (.tmp 21)), (2, 1, (.const (.string ⟨⟨[]⟩⟩)))]⟩,
            ⟨some 5, none, .alloc 51 [.int .i64 (0), .int .i64 (0), .string ⟨⟨[]⟩⟩]⟩,
            ⟨none, none, .store 3 (.tmp 5) (.tmp 22)⟩])
          (.seq
           (.ops [⟨some 23, none, .loadN 3 (.tmp 4)⟩,
             ⟨some 24, none, .loadN 3 (.tmp 5)⟩,
             ⟨some 25, none, .eqF false [(0, .i), (1, .i), (2, .s)] (.tmp 23) (.tmp 24)⟩,
             ⟨some 26, none, .mov (.tmp 25)⟩,
             ⟨some 27, some (26, true), .faddr 1 (.tmp 4)⟩,
             ⟨some 28, some (26, true), .load1 (.tmp 27)⟩,
             ⟨some 29, some (26, true), .bin .neq (.tmp 28) (.const (.int .i64 (0)))⟩,
             ⟨some 30, none, .pick (.tmp 26) (.tmp 29) (.const (.bool false))⟩])
           (.cond (.tmp 30)
            (.seq
             (.opsD [⟨some 31, none, .faddr 1 (.tmp 4)⟩,
               ⟨some 32, none, .load1 (.tmp 31)⟩,
               ⟨none, none, .store 1 (.tmp 2) (.const (.slice none 0 0))⟩,
               ⟨none, none, .store 1 (.tmp 3) (.tmp 32)⟩] [(1, 2), (1, 3)])
             .ret)
            .skip)))
         (.ops [⟨some 33, none, .load1 (.tmp 2)⟩,
           ⟨some 34, none, .faddr 0 (.tmp 4)⟩,
           ⟨some 35, none, .load1 (.tmp 34)⟩,
           ⟨some 36, none, .faddr 2 (.tmp 4)⟩,
           ⟨some 37, none, .load1 (.tmp 36)⟩,
           ⟨some 38, none, .build [.int .i64 (0), .string ⟨⟨[]⟩⟩] [(0, 1, (.tmp 35)), (1, 1, (.tmp 37))]⟩,
           ⟨some 39, none, .bslice 24 1 [.int .i64 (0), .string ⟨⟨[]⟩⟩] [(0, 2, (.tmp 38))]⟩,
           ⟨some 40, none, .append 24 2 24 (.tmp 33) (.tmp 39)⟩,
           ⟨none, none, .store 1 (.tmp 2) (.tmp 40)⟩]))))))
    (.seq
     (.ops [⟨some 41, none, .load1 (.tmp 2)⟩,
       ⟨none, none, .store 1 (.tmp 2) (.tmp 41)⟩,
       ⟨none, none, .store 1 (.tmp 3) (.const (.int .i64 (0)))⟩])
     .ret))))⟩

/-- plait/plaitref04.Walk -/
def c14 : AFunc := ⟨51, 1, [.inl 2, .inl 3],
 (.seq
  (.ops [⟨some 2, none, .mov (.const (.slice none 0 0))⟩,
    ⟨some 3, none, .mov (.const (.int .i64 (0)))⟩])
  (.seq
   (.seq
    (.ops [⟨some 6, none, .mov (.tmp 0)⟩,
      ⟨some 7, none, .lenS (.tmp 6)⟩,
      ⟨some 8, none, .bin .gtr (.tmp 7) (.const (.int .i64 (40)))⟩])
    (.cond (.tmp 8)
     (.seq
      (.ops [⟨some 2, none, .mov (.const (.slice none 0 0))⟩,
        ⟨some 3, none, .mov (.const (.int .i64 (6)))⟩])
      .ret)
     .skip))
   (.seq
    (.seq
     (.ops [⟨some 9, none, .mov (.tmp 0)⟩,
       ⟨some 10, none, .lenS (.tmp 9)⟩,
       ⟨some 11, none, .bin .rem (.tmp 10) (.const (.int .i64 (4)))⟩,
       ⟨some 12, none, .bin .neq (.tmp 11) (.const (.int .i64 (0)))⟩])
     (.cond (.tmp 12)
      (.seq
       (.ops [⟨some 2, none, .mov (.const (.slice none 0 0))⟩,
         ⟨some 3, none, .mov (.const (.int .i64 (5)))⟩])
       .ret)
      .skip))
    (.seq
     (.ops [⟨some 4, none, .mov (.const (.slice none 0 0))⟩])
     (.seq
      (.block 0
       (.loop
        (.seq
         (.seq
          (.ops [⟨some 13, none, .mov (.tmp 0)⟩,
            ⟨some 14, none, .bin .neq (.tmp 13) (.const (.string ⟨⟨[]⟩⟩))⟩,
            ⟨some 15, none, .mov (.tmp 14)⟩,
            ⟨some 16, some (15, true), .mov (.tmp 0)⟩,
            ⟨some 17, some (15, true), .idxS (.tmp 16) (.const (.int .i64 (0)))⟩,
            ⟨some 18, some (15, true), .bin .neq (.tmp 17) (.const (.int .u8 (0)))⟩,
            ⟨some 19, none, .pick (.tmp 15) (.tmp 18) (.const (.bool false))⟩])
          (.cond (.tmp 19)
           .skip
           (.exit 0)))
         (.block 1
          (.seq
           (.seq
            (.ops [⟨some 20, none, .mov (.tmp 0)⟩,
              ⟨some 21, none, .idxS (.tmp 20) (.const (.int .i64 (0)))⟩,
              ⟨some 22, none, .bin .eql (.tmp 21) (.const (.int .u8 (1)))⟩])
            (.cond (.tmp 22)
             (.seq
              (.ops [⟨some 23, none, .mov (.tmp 0)⟩,
                ⟨some 24, none, .sliceS (.tmp 23) (some (.const (.int .i64 (1)))) none⟩,
                ⟨some 0, none, .mov (.tmp 24)⟩])
              (.exit 1))
             .skip))
           (.seq
            (.seq
             (.ops [⟨some 25, none, .mov (.tmp 0)⟩,
               ⟨some 26, none, .lenS (.tmp 25)⟩,
               ⟨some 27, none, .bin .lss (.tmp 26) (.const (.int .i64 (2)))⟩])
             (.cond (.tmp 27)
              (.seq
               (.ops [⟨some 2, none, .mov (.const (.slice none 0 0))⟩,
                 ⟨some 3, none, .mov (.const (.int .i64 (4)))⟩])
               .ret)
              .skip))
            (.seq
             (.ops [⟨some 28, none, .mov (.tmp 0)⟩,
               ⟨some 29, none, .idxS (.tmp 28) (.const (.int .i64 (1)))⟩,
               ⟨some 30, none, .cvInt .i64 (.tmp 29)⟩,
               ⟨some 5, none, .mov (.tmp 30)⟩])
             (.seq
              (.seq
               (.ops [⟨some 31, none, .mov (.tmp 5)⟩,
                 ⟨some 32, none, .bin .lss (.tmp 31) (.const (.int .i64 (2)))⟩])
               (.cond (.tmp 32)
                (.seq
                 (.ops [⟨some 2, none, .mov (.const (.slice none 0 0))⟩,
                   ⟨some 3, none, .mov (.const (.int .i64 (5)))⟩])
                 .ret)
                .skip))
              (.seq
               (.seq
                (.ops [⟨some 33, none, .mov (.tmp 5)⟩,
                  ⟨some 34, none, .mov (.tmp 0)⟩,
                  ⟨some 35, none, .lenS (.tmp 34)⟩,
                  ⟨some 36, none, .bin .gtr (.tmp 33) (.tmp 35)⟩])
                (.cond (.tmp 36)
                 (.seq
                  (.ops [⟨some 2, none, .mov (.const (.slice none 0 0))⟩,
                    ⟨some 3, none, .mov (.const (.int .i64 (4)))⟩])
                  .ret)
                 .skip))
               (.seq
                (.opsD [⟨some 37, none, .mov (.tmp 4)⟩,
                  ⟨some 38, none, .mov (.tmp 0)⟩,
                  ⟨some 39, none, .idxS (.tmp 38) (.const (.int .i64 (0)))⟩,
                  ⟨some 40, none, .cvInt .i64 (.tmp 39)⟩,
                  ⟨some 41, none, .mov (.tmp 0)⟩,
                  ⟨some 42, none, .mov (.tmp 5)⟩,
                  ⟨some 43, none, .sliceS (.tmp 41) (some (.const (.int .i64 (2)))) (some (.tmp 42))⟩,
                  ⟨some 44, none, .build [.int .i64 (0), .string ⟨⟨[]⟩⟩] [(0, 1, (.tmp 40)), (1, 1, (.tmp 43))]⟩,
                  ⟨some 45, none, .bslice 24 1 [.int .i64 (0), .string ⟨⟨[]⟩⟩] [(0, 2, (.tmp 44))]⟩,
                  ⟨some 46, none, .append 24 2 24 (.tmp 37) (.tmp 45)⟩,
                  ⟨some 4, none, .mov (.tmp 46)⟩] [])
                (.ops [⟨some 47, none, .mov (.tmp 0)⟩,
                  ⟨some 48, none, .mov (.tmp 5)⟩,
                  ⟨some 49, none, .sliceS (.tmp 47) (some (.tmp 48)) none⟩,
                  ⟨some 0, none, .mov (.tmp 49)⟩])))))))))))
      (.seq
       (.ops [⟨some 50, none, .mov (.tmp 4)⟩,
         ⟨some 2, none, .mov (.tmp 50)⟩,
         ⟨some 3, none, .mov (.const (.int .i64 (0)))⟩])
       .ret))))))⟩

/-- plait/plaitref04.Same -/
def c15 : AFunc := ⟨26, 2, [.inl 4],
 (.seq
  (.ops [⟨some 4, none, .mov (.const (.bool false))⟩])
  (.seq
   (.seq
    (.ops [⟨some 6, none, .mov (.tmp 0)⟩,
      ⟨some 7, none, .lenV (.tmp 6)⟩,
      ⟨some 8, none, .mov (.tmp 1)⟩,
      ⟨some 9, none, .lenV (.tmp 8)⟩,
      ⟨some 10, none, .bin .neq (.tmp 7) (.tmp 9)⟩])
    (.cond (.tmp 10)
     (.seq
      (.ops [⟨some 4, none, .mov (.const (.bool false))⟩])
      .ret)
     .skip))
   (.seq
    (.seq
     (.ops [⟨some 5, none, .mov (.const (.int .i64 (0)))⟩])
     (.block 0
      (.loop
       (.seq
        (.seq
         (.ops [⟨some 11, none, .mov (.tmp 5)⟩,
           ⟨some 12, none, .mov (.tmp 0)⟩,
           ⟨some 13, none, .lenV (.tmp 12)⟩,
           ⟨some 14, none, .bin .lss (.tmp 11) (.tmp 13)⟩])
         (.cond (.tmp 14)
          .skip
          (.exit 0)))
        (.seq
         (.block 1
          (.seq
           (.opsD [⟨some 17, none, .mov (.tmp 0)⟩,
             ⟨some 18, none, .mov (.tmp 5)⟩,
             ⟨some 19, none, .iaddrS 2 (.tmp 17) (.tmp 18)⟩,
             ⟨some 20, none, .loadN 2 (.tmp 19)⟩,
             ⟨some 21, none, .mov (.tmp 1)⟩,
             ⟨some 22, none, .mov (.tmp 5)⟩,
             ⟨some 23, none, .iaddrS 2 (.tmp 21) (.tmp 22)⟩,
             ⟨some 24, none, .loadN 2 (.tmp 23)⟩,
             ⟨some 25, none, .eqF true [(0, .i), (1, .s)] (.tmp 20) (.tmp 24)⟩] [])
           (.cond (.tmp 25)
            (.seq
             (.ops [⟨some 4, none, .mov (.const (.bool false))⟩])
             .ret)
            .skip)))
         (.ops [⟨some 15, none, .mov (.tmp 5)⟩,
           ⟨some 16, none, .bin .add (.tmp 15) (.const (.int .i64 (1)))⟩,
           ⟨some 5, none, .mov (.tmp 16)⟩]))))))
    (.seq
     (.ops [⟨some 4, none, .mov (.const (.bool true))⟩])
     .ret))))⟩

/-- plait/plaitlaw04.items -/
def c16 : AFunc := ⟨49, 1, [.inl 2],
 (.seq
  (.ops [⟨some 2, none, .mov (.const (.slice none 0 0))⟩])
  (.seq
   (.ops [⟨some 3, none, .mov (.const (.slice none 0 0))⟩])
   (.seq
    (.ops [⟨some 4, none, .mov (.const (.int .i64 (0)))⟩])
    (.seq
     (.seq
      (.ops [⟨some 5, none, .mov (.const (.int .i64 (0)))⟩])
      (.block 0
       (.loop
        (.seq
         (.seq
          (.ops [⟨some 7, none, .mov (.tmp 5)⟩,
            ⟨some 8, none, .mov (.tmp 0)⟩,
            ⟨some 9, none, .lenV (.tmp 8)⟩,
            ⟨some 10, none, .bin .lss (.tmp 7) (.tmp 9)⟩])
          (.cond (.tmp 10)
           .skip
           (.exit 0)))
         (.seq
          (.block 1
           (.seq
            (.opsD [⟨some 13, none, .mov (.tmp 0)⟩,
              ⟨some 14, none, .mov (.tmp 5)⟩,
              ⟨some 15, none, .iaddrS 2 (.tmp 13) (.tmp 14)⟩,
              ⟨some 16, none, .faddr 0 (.tmp 15)⟩,
              ⟨some 17, none, .load1 (.tmp 16)⟩,
              ⟨some 18, none, .cvInt .i64 (.tmp 17)⟩,
              ⟨some 19, none, .bin .rem (.tmp 18) (.const (.int .i64 (254)))⟩,
              ⟨some 20, none, .bin .add (.const (.int .i64 (2))) (.tmp 19)⟩,
              ⟨some 21, none, .mov (.tmp 0)⟩,
              ⟨some 22, none, .mov (.tmp 5)⟩,
              ⟨some 23, none, .iaddrS 2 (.tmp 21) (.tmp 22)⟩,
              ⟨some 24, none, .faddr 1 (.tmp 23)⟩,
              ⟨some 25, none, .load1 (.tmp 24)⟩,
              ⟨some 26, none, .mov (.tmp 0)⟩,
              ⟨some 27, none, .mov (.tmp 5)⟩,
              ⟨some 28, none, .iaddrS 2 (.tmp 26) (.tmp 27)⟩,
              ⟨some 29, none, .faddr 1 (.tmp 28)⟩,
              ⟨some 30, none, .load1 (.tmp 29)⟩,
              ⟨some 31, none, .lenS (.tmp 30)⟩,
              ⟨some 32, none, .min [(.tmp 31), (.const (.int .i64 (14)))]⟩,
              ⟨some 33, none, .sliceS (.tmp 25) none (some (.tmp 32))⟩,
              ⟨some 34, none, .build [.int .i64 (0), .string ⟨⟨[]⟩⟩] [(0, 1, (.tmp 20)), (1, 1, (.tmp 33))]⟩,
              ⟨some 6, none, .alloc 24 [.int .i64 (0), .string ⟨⟨[]⟩⟩]⟩,
              ⟨none, none, .store 2 (.tmp 6) (.tmp 34)⟩] [])
            (.seq
             (.ops [⟨some 35, none, .mov (.tmp 4)⟩,
               ⟨some 36, none, .bin .add (.tmp 35) (.const (.int .i64 (2)))⟩,
               ⟨some 37, none, .faddr 1 (.tmp 6)⟩,
               ⟨some 38, none, .load1 (.tmp 37)⟩,
               ⟨some 39, none, .lenS (.tmp 38)⟩,
               ⟨some 40, none, .bin .add (.tmp 36) (.tmp 39)⟩,
               ⟨some 4, none, .mov (.tmp 40)⟩])
             (.seq
              (.seq
               (.ops [⟨some 41, none, .mov (.tmp 4)⟩,
                 ⟨some 42, none, .bin .gtr (.tmp 41) (.const (.int .i64 (40)))⟩])
               (.cond (.tmp 42)
                (.seq
                 (.ops [⟨some 43, none, .mov (.tmp 3)⟩,
                   ⟨some 2, none, .mov (.tmp 43)⟩])
                 .ret)
                .skip))
              (.ops [⟨some 44, none, .mov (.tmp 3)⟩,
                ⟨some 45, none, .loadN 2 (.tmp 6)⟩,
                ⟨some 46, none, .bslice 24 1 [.int .i64 (0), .string ⟨⟨[]⟩⟩] [(0, 2, (.tmp 45))]⟩,
                ⟨some 47, none, .append 24 2 24 (.tmp 44) (.tmp 46)⟩,
                ⟨some 3, none, .mov (.tmp 47)⟩])))))
          (.ops [⟨some 11, none, .mov (.tmp 5)⟩,
            ⟨some 12, none, .bin .add (.tmp 11) (.const (.int .i64 (1)))⟩,
            ⟨some 5, none, .mov (.tmp 12)⟩]))))))
     (.seq
      (.ops [⟨some 48, none, .mov (.tmp 3)⟩,
        ⟨some 2, none, .mov (.tmp 48)⟩])
      .ret)))))⟩

/-- plait/plaitlaw04.walked -/
def c17 : AFunc := ⟨19, 2, [.inl 4],
 (.seq
  (.ops [⟨some 4, none, .mov (.const (.bool false))⟩])
  (.seq
   (.ops [⟨some 8, none, .mov (.tmp 0)⟩,
     ⟨some 9, none, .call 13 [(.tmp 8)]⟩,
     ⟨some 7, none, .mov (.tmp 9)⟩,
     ⟨some 10, none, .ext (.tmp 7) 0⟩,
     ⟨some 11, none, .ext (.tmp 7) 1⟩,
     ⟨some 5, none, .mov (.tmp 10)⟩,
     ⟨some 6, none, .mov (.tmp 11)⟩])
   (.seq
    (.ops [⟨some 12, none, .mov (.tmp 6)⟩,
      ⟨some 13, none, .bin .eql (.tmp 12) (.const (.int .i64 (0)))⟩,
      ⟨some 14, none, .mov (.tmp 13)⟩,
      ⟨some 15, some (14, true), .mov (.tmp 5)⟩,
      ⟨some 16, some (14, true), .mov (.tmp 1)⟩,
      ⟨some 17, some (14, true), .call 15 [(.tmp 15), (.tmp 16)]⟩,
      ⟨some 18, none, .pick (.tmp 14) (.tmp 17) (.const (.bool false))⟩,
      ⟨some 4, none, .mov (.tmp 18)⟩])
    .ret)))⟩

/-- plait/plaitref04.May -/
def c19 : AFunc := ⟨17, 1, [.inl 2],
 (.seq
  (.ops [⟨some 1, none, .box 24 2 (.tmp 0)⟩,
    ⟨some 2, none, .mov (.const (.bool false))⟩])
  (.seq
   (.ops [⟨some 3, none, .faddr 0 (.tmp 1)⟩,
     ⟨some 4, none, .load1 (.tmp 3)⟩,
     ⟨some 5, none, .bin .geq (.tmp 4) (.const (.int .i64 (2)))⟩,
     ⟨some 6, none, .mov (.tmp 5)⟩,
     ⟨some 7, some (6, true), .faddr 0 (.tmp 1)⟩,
     ⟨some 8, some (6, true), .load1 (.tmp 7)⟩,
     ⟨some 9, some (6, true), .bin .leq (.tmp 8) (.const (.int .i64 (255)))⟩,
     ⟨some 10, none, .pick (.tmp 6) (.tmp 9) (.const (.bool false))⟩,
     ⟨some 11, none, .mov (.tmp 10)⟩,
     ⟨some 12, some (11, true), .faddr 1 (.tmp 1)⟩,
     ⟨some 13, some (11, true), .load1 (.tmp 12)⟩,
     ⟨some 14, some (11, true), .lenS (.tmp 13)⟩,
     ⟨some 15, some (11, true), .bin .leq (.tmp 14) (.const (.int .i64 (253)))⟩,
     ⟨some 16, none, .pick (.tmp 11) (.tmp 15) (.const (.bool false))⟩,
     ⟨some 2, none, .mov (.tmp 16)⟩])
   .ret))⟩

/-- plait/area.walk -/
def c20 : AFunc := ⟨4, 1, [.inl 2],
 (.seq
  (.ops [⟨some 1, none, .box 9 1 (.tmp 0)⟩,
    ⟨some 2, none, .mov (.const (.nilFunc))⟩])
  (.seq
   (.ops [⟨some 3, none, .mkF 21 [] [(.tmp 1)]⟩,
     ⟨some 2, none, .mov (.tmp 3)⟩])
   .ret))⟩

/-- plait/area.walk$1 -/
def c21 : AFunc := ⟨75, 2, [],
 (.seq
  .skip
  (.seq
   (.ops [⟨some 3, none, .mov (.const (.int .i64 (0)))⟩])
   (.block 0
    (.loop
     (.seq
      (.seq
       (.ops [⟨some 6, none, .mov (.tmp 3)⟩,
         ⟨some 7, none, .load1 (.tmp 1)⟩,
         ⟨some 8, none, .lenS (.tmp 7)⟩,
         ⟨some 9, none, .bin .lss (.tmp 6) (.tmp 8)⟩])
       (.cond (.tmp 9)
        .skip
        (.exit 0)))
      (.block 1
       (.seq
        (.seq
         (.ops [⟨some 10, none, .load1 (.tmp 1)⟩,
           ⟨some 11, none, .mov (.tmp 3)⟩,
           ⟨some 12, none, .idxS (.tmp 10) (.tmp 11)⟩])
         (.block 2
          (.seq
           (.ops [⟨some 14, none, .bin .eql (.tmp 12) (.const (.int .u8 (0)))⟩,
             ⟨some 13, none, .mov (.tmp 14)⟩])
           (.cond (.tmp 13)
            (.exit 0)
            (.seq
             (.ops [⟨some 16, none, .bin .eql (.tmp 12) (.const (.int .u8 (1)))⟩,
               ⟨some 15, none, .mov (.tmp 16)⟩])
             (.cond (.tmp 15)
              (.seq
               (.ops [⟨some 17, none, .mov (.tmp 3)⟩,
                 ⟨some 18, none, .bin .add (.tmp 17) (.const (.int .i64 (1)))⟩,
                 ⟨some 3, none, .mov (.tmp 18)⟩])
               (.exit 1))
              .skip))))))
        (.seq
         (.ops [⟨some 19, none, .load1 (.tmp 1)⟩,
           ⟨some 20, none, .mov (.tmp 3)⟩,
           ⟨some 21, none, .idxS (.tmp 19) (.tmp 20)⟩,
           ⟨some 22, none, .cvInt .i64 (.tmp 21)⟩,
           ⟨some 23, none, .build [.int .i64 (0), .int .i64 (0), .string ⟨⟨[]⟩⟩] [(0, 1, (.tmp 22))]⟩,
           ⟨some 4, none, .alloc 51 [.int .i64 (0), .int .i64 (0), .string ⟨⟨[]⟩⟩]⟩,
           ⟨none, none, .store 3 (.tmp 4) (.tmp 23)⟩])
         (.seq
          (.ops [⟨some 5, none, .mov (.const (.int .i64 (0)))⟩])
          (.seq
           (.block 3
            (.seq
             (.ops [⟨some 38, none, .mov (.tmp 3)⟩,
               ⟨some 39, none, .bin .add (.tmp 38) (.const (.int .i64 (1)))⟩,
               ⟨some 40, none, .load1 (.tmp 1)⟩,
               ⟨some 41, none, .lenS (.tmp 40)⟩,
               ⟨some 42, none, .bin .eql (.tmp 39) (.tmp 41)⟩,
               ⟨some 37, none, .mov (.tmp 42)⟩])
             (.cond (.tmp 37)
              (.ops [⟨some 43, none, .faddr 1 (.tmp 4)⟩,
                ⟨none, none, .store 1 (.tmp 43) (.const (.int .i64 (4)))⟩])
              (.seq
               (.ops [⟨some 45, none, .load1 (.tmp 1)⟩,
                 ⟨some 46, none, .mov (.tmp 3)⟩,
                 ⟨some 47, none, .bin .add (.tmp 46) (.const (.int .i64 (1)))⟩,
                 ⟨some 48, none, .idxS (.tmp 45) (.tmp 47)⟩,
                 ⟨some 49, none, .bin .lss (.tmp 48) (.const (.int .u8 (2)))⟩,
                 ⟨some 44, none, .mov (.tmp 49)⟩])
               (.cond (.tmp 44)
                (.ops [⟨some 50, none, .faddr 1 (.tmp 4)⟩,
                  ⟨none, none, .store 1 (.tmp 50) (.const (.int .i64 (5)))⟩])
                (.seq
                 (.opsD [⟨some 52, none, .load1 (.tmp 1)⟩,
                   ⟨some 53, none, .mov (.tmp 3)⟩,
                   ⟨some 54, none, .bin .add (.tmp 53) (.const (.int .i64 (1)))⟩,
                   ⟨some 55, none, .idxS (.tmp 52) (.tmp 54)⟩,
                   ⟨some 56, none, .cvInt .i64 (.tmp 55)⟩,
                   ⟨some 57, none, .load1 (.tmp 1)⟩,
                   ⟨some 58, none, .lenS (.tmp 57)⟩,
                   ⟨some 59, none, .mov (.tmp 3)⟩,
                   ⟨some 60, none, .bin .sub (.tmp 58) (.tmp 59)⟩,
                   ⟨some 61, none, .bin .gtr (.tmp 56) (.tmp 60)⟩,
                   ⟨some 51, none, .mov (.tmp 61)⟩] [])
                 (.cond (.tmp 51)
                  (.ops [⟨some 62, none, .faddr 1 (.tmp 4)⟩,
                    ⟨none, none, .store 1 (.tmp 62) (.const (.int .i64 (4)))⟩])
                  (.seq
                   (.ops [⟨some 24, none, .load1 (.tmp 1)⟩,
                     ⟨some 25, none, .mov (.tmp 3)⟩,
                     ⟨some 26, none, .bin .add (.tmp 25) (.const (.int .i64 (1)))⟩,
                     ⟨some 27, none, .idxS (.tmp 24) (.tmp 26)⟩,
                     ⟨some 28, none, .cvInt .i64 (.tmp 27)⟩,
                     ⟨some 5, none, .mov (.tmp 28)⟩])
                   (.ops [⟨some 29, none, .load1 (.tmp 1)⟩,
                     ⟨some 30, none, .mov (.tmp 3)⟩,
                     ⟨some 31, none, .bin .add (.tmp 30) (.const (.int .i64 (2)))⟩,
                     ⟨some 32, none, .mov (.tmp 3)⟩,
                     ⟨some 33, none, .mov (.tmp 5)⟩,
                     ⟨some 34, none, .bin .add (.tmp 32) (.tmp 33)⟩,
                     ⟨some 35, none, .sliceS (.tmp 29) (some (.tmp 31)) (some (.tmp 34))⟩,
                     ⟨some 36, none, .faddr 2 (.tmp 4)⟩,
                     ⟨none, none, .store 1 (.tmp 36) (.tmp 35)⟩])))))))))
           (.seq
            (.seq
             (.ops [⟨some 63, none, .mov (.tmp 0)⟩,
               ⟨some 64, none, .loadN 3 (.tmp 4)⟩,
               ⟨some 65, none, .callv (.tmp 63) [(.tmp 64)]⟩,
               ⟨some 66, none, .un .not (.tmp 65)⟩,
               ⟨some 67, none, .mov (.tmp 66)⟩,
               ⟨some 68, some (67, false), .faddr 1 (.tmp 4)⟩,
               ⟨some 69, some (67, false), .load1 (.tmp 68)⟩,
               ⟨some 70, some (67, false), .bin .neq (.tmp 69) (.const (.int .i64 (0)))⟩,
               ⟨some 71, none, .pick (.tmp 67) (.const (.bool true)) (.tmp 70)⟩])
             (.cond (.tmp 71)
              (.exit 0)
              .skip))
            (.ops [⟨some 72, none, .mov (.tmp 3)⟩,
              ⟨some 73, none, .mov (.tmp 5)⟩,
              ⟨some 74, none, .bin .add (.tmp 72) (.tmp 73)⟩,
              ⟨some 3, none, .mov (.tmp 74)⟩]))))))))))))⟩


noncomputable def T : FTab := tabYes Try.prog [12]
theorem t3 : T 3 = some c3 := by kernel_rfl
theorem t4 : T 4 = some c4 := by kernel_rfl
theorem t5 : T 5 = some c5 := by kernel_rfl
theorem t6 : T 6 = some c6 := by kernel_rfl
theorem t7 : T 7 = some c7 := by kernel_rfl
theorem t9 : T 9 = some c9 := by kernel_rfl
theorem t10 : T 10 = some c10 := by kernel_rfl
theorem t11 : T 11 = some c11 := by kernel_rfl
theorem t13 : T 13 = some c13 := by kernel_rfl
theorem t14 : T 14 = some c14 := by kernel_rfl
theorem t15 : T 15 = some c15 := by kernel_rfl
theorem t16 : T 16 = some c16 := by kernel_rfl
theorem t17 : T 17 = some c17 := by kernel_rfl
theorem t19 : T 19 = some c19 := by kernel_rfl
theorem t20 : T 20 = some c20 := by kernel_rfl
theorem t21 : T 21 = some c21 := by kernel_rfl
theorem t12 : T 12 = some sayYes := by kernel_rfl
end Go.Proofs.Ytkojapepiojnjaa
