/- The code of functions, as the framework reads it. -/
import Derived.Test.YtcfahggmejpdbaaDoorKa
import Derived.KernelRfl
namespace Go.Proofs.YtcfahggmejpdbaaDoor
open Go Go.AS
set_option maxRecDepth 100000

/-- plait/plaitlaw28.ModePaths -/
def c3 : AFunc := ⟨181, 1, [.inl 2],
 (.seq
  (.ops [⟨some 1, none, .box 24 2 (.tmp 0)⟩,
    ⟨some 2, none, .mov (.const (.bool false))⟩])
  (.seq
   (.seq
    (.ops [⟨some 13, none, .call 9 []⟩,
      ⟨some 14, none, .un .not (.tmp 13)⟩])
    (.cond (.tmp 14)
     (.seq
      (.ops [⟨some 2, none, .mov (.const (.bool false))⟩])
      .ret)
     .skip))
   (.seq
    (.ops [⟨some 16, none, .loadN 2 (.tmp 1)⟩,
      ⟨some 17, none, .call 10 [(.tmp 16)]⟩,
      ⟨some 15, none, .mov (.tmp 17)⟩,
      ⟨some 18, none, .ext (.tmp 15) 0⟩,
      ⟨some 19, none, .ext (.tmp 15) 1⟩,
      ⟨some 3, none, .mov (.tmp 18)⟩,
      ⟨some 4, none, .mov (.tmp 19)⟩])
    (.seq
     (.ops [⟨some 5, none, .alloc 29 [.int .i64 (0), .int .i64 (0), .int .i64 (0), .int .i64 (0)]⟩,
       ⟨some 6, none, .alloc 29 [.int .i64 (0), .int .i64 (0), .int .i64 (0), .int .i64 (0)]⟩,
       ⟨some 7, none, .alloc 29 [.int .i64 (0), .int .i64 (0), .int .i64 (0), .int .i64 (0)]⟩])
     (.seq
      (.seq
       (.ops [⟨some 8, none, .mov (.const (.int .i64 (0)))⟩])
       (.block 0
        (.loop
         (.seq
          (.seq
           (.ops [⟨some 20, none, .mov (.tmp 8)⟩,
             ⟨some 21, none, .mov (.tmp 4)⟩,
             ⟨some 22, none, .lenV (.tmp 21)⟩,
             ⟨some 23, none, .bin .lss (.tmp 20) (.tmp 22)⟩])
           (.cond (.tmp 23)
            .skip
            (.exit 0)))
          (.seq
           (.block 1
            (.seq
             (.ops [⟨some 26, none, .mov (.tmp 4)⟩,
               ⟨some 27, none, .mov (.tmp 8)⟩,
               ⟨some 28, none, .iaddrS 3 (.tmp 26) (.tmp 27)⟩,
               ⟨some 29, none, .faddr 1 (.tmp 28)⟩,
               ⟨some 30, none, .load1 (.tmp 29)⟩,
               ⟨some 9, none, .mov (.tmp 30)⟩])
             (.seq
              (.seq
               (.ops [⟨some 31, none, .mov (.tmp 9)⟩,
                 ⟨some 32, none, .bin .lss (.tmp 31) (.const (.int .i64 (0)))⟩,
                 ⟨some 33, none, .mov (.tmp 32)⟩,
                 ⟨some 34, some (33, false), .mov (.tmp 9)⟩,
                 ⟨some 35, some (33, false), .bin .geq (.tmp 34) (.const (.int .i64 (4)))⟩,
                 ⟨some 36, none, .pick (.tmp 33) (.const (.bool true)) (.tmp 35)⟩])
               (.cond (.tmp 36)
                (.seq
                 (.ops [⟨some 2, none, .mov (.const (.bool false))⟩])
                 .ret)
                .skip))
              (.seq
               (.ops [⟨some 37, none, .mov (.tmp 4)⟩,
                 ⟨some 38, none, .mov (.tmp 8)⟩,
                 ⟨some 39, none, .iaddrS 3 (.tmp 37) (.tmp 38)⟩,
                 ⟨some 40, none, .faddr 0 (.tmp 39)⟩,
                 ⟨some 41, none, .load1 (.tmp 40)⟩])
               (.block 2
                (.seq
                 (.ops [⟨some 43, none, .bin .eql (.tmp 41) (.const (.int .i64 (7)))⟩,
                   ⟨some 42, none, .mov (.tmp 43)⟩])
                 (.cond (.tmp 42)
                  (.seq
                   (.ops [⟨some 44, none, .mov (.tmp 9)⟩,
                     ⟨some 45, none, .iaddrA 4 1 (.tmp 5) (.tmp 44)⟩,
                     ⟨some 46, none, .load1 (.tmp 45)⟩,
                     ⟨some 47, none, .bin .add (.tmp 46) (.const (.int .i64 (1)))⟩,
                     ⟨some 48, none, .iaddrA 4 1 (.tmp 5) (.tmp 44)⟩,
                     ⟨none, none, .store 1 (.tmp 48) (.tmp 47)⟩])
                   (.seq
                    (.opsD [⟨some 49, none, .mov (.tmp 3)⟩,
                      ⟨some 50, none, .bin .eql (.tmp 49) (.const (.int .i64 (1)))⟩,
                      ⟨some 51, none, .mov (.tmp 50)⟩,
                      ⟨some 52, some (51, false), .mov (.tmp 9)⟩,
                      ⟨some 53, some (51, false), .bin .eql (.tmp 52) (.const (.int .i64 (0)))⟩,
                      ⟨some 54, none, .pick (.tmp 51) (.const (.bool true)) (.tmp 53)⟩,
                      ⟨some 55, none, .mov (.tmp 54)⟩,
                      ⟨some 56, some (55, false), .mov (.tmp 9)⟩,
                      ⟨some 57, some (55, false), .iaddrA 4 1 (.tmp 6) (.tmp 56)⟩,
                      ⟨some 58, some (55, false), .load1 (.tmp 57)⟩,
                      ⟨some 59, some (55, false), .mov (.tmp 9)⟩,
                      ⟨some 60, some (55, false), .iaddrA 4 1 (.tmp 7) (.tmp 59)⟩,
                      ⟨some 61, some (55, false), .load1 (.tmp 60)⟩,
                      ⟨some 62, some (55, false), .bin .add (.tmp 58) (.tmp 61)⟩,
                      ⟨some 63, some (55, false), .bin .gtr (.tmp 62) (.const (.int .i64 (0)))⟩,
                      ⟨some 64, none, .pick (.tmp 55) (.const (.bool true)) (.tmp 63)⟩] [])
                    (.cond (.tmp 64)
                     (.seq
                      (.ops [⟨some 2, none, .mov (.const (.bool false))⟩])
                      .ret)
                     .skip)))
                  (.seq
                   (.ops [⟨some 66, none, .bin .eql (.tmp 41) (.const (.int .i64 (8)))⟩,
                     ⟨some 65, none, .mov (.tmp 66)⟩])
                   (.cond (.tmp 65)
                    (.seq
                     (.ops [⟨some 67, none, .mov (.tmp 9)⟩,
                       ⟨some 68, none, .iaddrA 4 1 (.tmp 6) (.tmp 67)⟩,
                       ⟨some 69, none, .load1 (.tmp 68)⟩,
                       ⟨some 70, none, .bin .add (.tmp 69) (.const (.int .i64 (1)))⟩,
                       ⟨some 71, none, .iaddrA 4 1 (.tmp 6) (.tmp 67)⟩,
                       ⟨none, none, .store 1 (.tmp 71) (.tmp 70)⟩])
                     (.seq
                      (.ops [⟨some 72, none, .mov (.tmp 9)⟩,
                        ⟨some 73, none, .bin .eql (.tmp 72) (.const (.int .i64 (0)))⟩,
                        ⟨some 74, none, .mov (.tmp 73)⟩,
                        ⟨some 75, some (74, false), .mov (.tmp 9)⟩,
                        ⟨some 76, some (74, false), .iaddrA 4 1 (.tmp 7) (.tmp 75)⟩,
                        ⟨some 77, some (74, false), .load1 (.tmp 76)⟩,
                        ⟨some 78, some (74, false), .bin .gtr (.tmp 77) (.const (.int .i64 (0)))⟩,
                        ⟨some 79, none, .pick (.tmp 74) (.const (.bool true)) (.tmp 78)⟩,
                        ⟨some 80, none, .mov (.tmp 79)⟩,
                        ⟨some 81, some (80, false), .mov (.tmp 3)⟩,
                        ⟨some 82, some (80, false), .bin .eql (.tmp 81) (.const (.int .i64 (0)))⟩,
                        ⟨some 83, some (80, false), .mov (.tmp 82)⟩,
                        ⟨some 84, some (83, true), .mov (.tmp 9)⟩,
                        ⟨some 85, some (83, true), .iaddrA 4 1 (.tmp 5) (.tmp 84)⟩,
                        ⟨some 86, some (83, true), .load1 (.tmp 85)⟩,
                        ⟨some 87, some (83, true), .bin .neq (.tmp 86) (.const (.int .i64 (1)))⟩,
                        ⟨some 88, some (80, false), .pick (.tmp 83) (.tmp 87) (.const (.bool false))⟩,
                        ⟨some 89, none, .pick (.tmp 80) (.const (.bool true)) (.tmp 88)⟩])
                      (.cond (.tmp 89)
                       (.seq
                        (.ops [⟨some 2, none, .mov (.const (.bool false))⟩])
                        .ret)
                       .skip)))
                    (.seq
                     (.ops [⟨some 91, none, .bin .eql (.tmp 41) (.const (.int .i64 (9)))⟩,
                       ⟨some 90, none, .mov (.tmp 91)⟩])
                     (.cond (.tmp 90)
                      (.seq
                       (.ops [⟨some 92, none, .mov (.tmp 9)⟩,
                         ⟨some 93, none, .iaddrA 4 1 (.tmp 7) (.tmp 92)⟩,
                         ⟨some 94, none, .load1 (.tmp 93)⟩,
                         ⟨some 95, none, .bin .add (.tmp 94) (.const (.int .i64 (1)))⟩,
                         ⟨some 96, none, .iaddrA 4 1 (.tmp 7) (.tmp 92)⟩,
                         ⟨none, none, .store 1 (.tmp 96) (.tmp 95)⟩])
                       (.seq
                        (.ops [⟨some 97, none, .mov (.tmp 9)⟩,
                          ⟨some 98, none, .bin .gtr (.tmp 97) (.const (.int .i64 (0)))⟩,
                          ⟨some 99, none, .mov (.tmp 98)⟩,
                          ⟨some 100, some (99, true), .mov (.tmp 9)⟩,
                          ⟨some 101, some (99, true), .iaddrA 4 1 (.tmp 6) (.tmp 100)⟩,
                          ⟨some 102, some (99, true), .load1 (.tmp 101)⟩,
                          ⟨some 103, some (99, true), .bin .neq (.tmp 102) (.const (.int .i64 (1)))⟩,
                          ⟨some 104, none, .pick (.tmp 99) (.tmp 103) (.const (.bool false))⟩])
                        (.cond (.tmp 104)
                         (.seq
                          (.ops [⟨some 2, none, .mov (.const (.bool false))⟩])
                          .ret)
                         .skip)))
                      .skip)))))))))))
           (.ops [⟨some 24, none, .mov (.tmp 8)⟩,
             ⟨some 25, none, .bin .add (.tmp 24) (.const (.int .i64 (1)))⟩,
             ⟨some 8, none, .mov (.tmp 25)⟩]))))))
      (.seq
       (.ops [⟨some 106, none, .mov (.tmp 3)⟩,
         ⟨some 107, none, .mov (.tmp 4)⟩,
         ⟨some 108, none, .call 11 [(.tmp 106), (.tmp 107)]⟩,
         ⟨some 105, none, .mov (.tmp 108)⟩,
         ⟨some 109, none, .ext (.tmp 105) 0⟩,
         ⟨some 110, none, .ext (.tmp 105) 1⟩,
         ⟨some 10, none, .alloc 34 [.int .i64 (0), .int .i64 (0), .bool false, .bool false, .bool false, .bool false, .bool false, .bool false, .bool false, .bool false, .bool false, .bool false, .bool false, .bool false, .bool false]⟩,
         ⟨none, none, .store 15 (.tmp 10) (.tmp 109)⟩,
         ⟨some 11, none, .mov (.tmp 110)⟩])
       (.seq
        (.seq
         (.ops [⟨some 12, none, .mov (.const (.int .i64 (0)))⟩])
         (.block 3
          (.loop
           (.seq
            (.seq
             (.ops [⟨some 111, none, .mov (.tmp 12)⟩,
               ⟨some 112, none, .bin .lss (.tmp 111) (.const (.int .i64 (4)))⟩])
             (.cond (.tmp 112)
              .skip
              (.exit 3)))
            (.seq
             (.block 4
              (.seq
               (.opsD [⟨some 115, none, .mov (.tmp 12)⟩,
                 ⟨some 116, none, .iaddrA 4 1 (.tmp 5) (.tmp 115)⟩,
                 ⟨some 117, none, .load1 (.tmp 116)⟩,
                 ⟨some 118, none, .bin .gtr (.tmp 117) (.const (.int .i64 (1)))⟩,
                 ⟨some 119, none, .mov (.tmp 118)⟩,
                 ⟨some 120, some (119, false), .mov (.tmp 12)⟩,
                 ⟨some 121, some (119, false), .iaddrA 4 1 (.tmp 6) (.tmp 120)⟩,
                 ⟨some 122, some (119, false), .load1 (.tmp 121)⟩,
                 ⟨some 123, some (119, false), .bin .gtr (.tmp 122) (.const (.int .i64 (1)))⟩,
                 ⟨some 124, none, .pick (.tmp 119) (.const (.bool true)) (.tmp 123)⟩,
                 ⟨some 125, none, .mov (.tmp 124)⟩,
                 ⟨some 126, some (125, false), .mov (.tmp 12)⟩,
                 ⟨some 127, some (125, false), .iaddrA 4 1 (.tmp 7) (.tmp 126)⟩,
                 ⟨some 128, some (125, false), .load1 (.tmp 127)⟩,
                 ⟨some 129, some (125, false), .bin .gtr (.tmp 128) (.const (.int .i64 (1)))⟩,
                 ⟨some 130, none, .pick (.tmp 125) (.const (.bool true)) (.tmp 129)⟩,
                 ⟨some 131, none, .mov (.tmp 130)⟩,
                 ⟨some 132, some (131, false), .mov (.tmp 12)⟩,
                 ⟨some 133, some (131, false), .faddr 3 (.tmp 10)⟩,
                 ⟨some 134, some (131, false), .iaddrA 4 1 (.tmp 133) (.tmp 132)⟩,
                 ⟨some 135, some (131, false), .load1 (.tmp 134)⟩,
                 ⟨some 136, some (131, false), .mov (.tmp 12)⟩,
                 ⟨some 137, some (131, false), .iaddrA 4 1 (.tmp 5) (.tmp 136)⟩,
                 ⟨some 138, some (131, false), .load1 (.tmp 137)⟩,
                 ⟨some 139, some (131, false), .bin .eql (.tmp 138) (.const (.int .i64 (1)))⟩,
                 ⟨some 140, some (131, false), .eq true false .bool (.tmp 135) (.tmp 139)⟩,
                 ⟨some 141, none, .pick (.tmp 131) (.const (.bool true)) (.tmp 140)⟩,
                 ⟨some 142, none, .mov (.tmp 141)⟩,
                 ⟨some 143, some (142, false), .mov (.tmp 12)⟩,
                 ⟨some 144, some (142, false), .faddr 11 (.tmp 10)⟩,
                 ⟨some 145, some (142, false), .iaddrA 4 1 (.tmp 144) (.tmp 143)⟩,
                 ⟨some 146, some (142, false), .load1 (.tmp 145)⟩,
                 ⟨some 147, some (142, false), .mov (.tmp 12)⟩,
                 ⟨some 148, some (142, false), .iaddrA 4 1 (.tmp 7) (.tmp 147)⟩,
                 ⟨some 149, some (142, false), .load1 (.tmp 148)⟩,
                 ⟨some 150, some (142, false), .bin .eql (.tmp 149) (.const (.int .i64 (1)))⟩,
                 ⟨some 151, some (142, false), .eq true false .bool (.tmp 146) (.tmp 150)⟩,
                 ⟨some 152, none, .pick (.tmp 142) (.const (.bool true)) (.tmp 151)⟩,
                 ⟨some 153, none, .mov (.tmp 152)⟩,
                 ⟨some 154, some (153, false), .mov (.tmp 12)⟩,
                 ⟨some 155, some (153, false), .bin .gtr (.tmp 154) (.const (.int .i64 (0)))⟩,
                 ⟨some 156, some (153, false), .mov (.tmp 155)⟩,
                 ⟨some 157, some (156, true), .mov (.tmp 12)⟩,
                 ⟨some 158, some (156, true), .faddr 7 (.tmp 10)⟩,
                 ⟨some 159, some (156, true), .iaddrA 4 1 (.tmp 158) (.tmp 157)⟩,
                 ⟨some 160, some (156, true), .load1 (.tmp 159)⟩,
                 ⟨some 161, some (156, true), .mov (.tmp 12)⟩,
                 ⟨some 162, some (156, true), .iaddrA 4 1 (.tmp 6) (.tmp 161)⟩,
                 ⟨some 163, some (156, true), .load1 (.tmp 162)⟩,
                 ⟨some 164, some (156, true), .bin .eql (.tmp 163) (.const (.int .i64 (1)))⟩,
                 ⟨some 165, some (156, true), .mov (.tmp 164)⟩,
                 ⟨some 166, some (165, true), .mov (.tmp 12)⟩,
                 ⟨some 167, some (165, true), .iaddrA 4 1 (.tmp 7) (.tmp 166)⟩,
                 ⟨some 168, some (165, true), .load1 (.tmp 167)⟩,
                 ⟨some 169, some (165, true), .bin .eql (.tmp 168) (.const (.int .i64 (0)))⟩,
                 ⟨some 170, some (156, true), .pick (.tmp 165) (.tmp 169) (.const (.bool false))⟩,
                 ⟨some 171, some (156, true), .eq true false .bool (.tmp 160) (.tmp 170)⟩,
                 ⟨some 172, some (153, false), .pick (.tmp 156) (.tmp 171) (.const (.bool false))⟩,
                 ⟨some 173, none, .pick (.tmp 153) (.const (.bool true)) (.tmp 172)⟩] [])
               (.cond (.tmp 173)
                (.seq
                 (.ops [⟨some 2, none, .mov (.const (.bool false))⟩])
                 .ret)
                .skip)))
             (.ops [⟨some 113, none, .mov (.tmp 12)⟩,
               ⟨some 114, none, .bin .add (.tmp 113) (.const (.int .i64 (1)))⟩,
               ⟨some 12, none, .mov (.tmp 114)⟩]))))))
        (.seq
         (.ops [⟨some 174, none, .mov (.tmp 11)⟩,
           ⟨some 175, none, .mov (.tmp 174)⟩,
           ⟨some 176, some (175, true), .faddr 0 (.tmp 10)⟩,
           ⟨some 177, some (175, true), .load1 (.tmp 176)⟩,
           ⟨some 178, some (175, true), .mov (.tmp 3)⟩,
           ⟨some 179, some (175, true), .bin .eql (.tmp 177) (.tmp 178)⟩,
           ⟨some 180, none, .pick (.tmp 175) (.tmp 179) (.const (.bool false))⟩,
           ⟨some 2, none, .mov (.tmp 180)⟩])
         .ret))))))))⟩
theorem t3 : T 3 = some c3 := by kernel_rfl

/-- plait/plaitlaw28.ModeFronts -/
def c4 : AFunc := ⟨130, 3, [.inl 6],
 (.seq
  (.ops [⟨some 3, none, .box 24 2 (.tmp 0)⟩,
    ⟨some 5, none, .box 31 3 (.tmp 2)⟩,
    ⟨some 6, none, .mov (.const (.bool false))⟩])
  (.seq
   (.seq
    (.ops [⟨some 19, none, .call 9 []⟩,
      ⟨some 20, none, .un .not (.tmp 19)⟩])
    (.cond (.tmp 20)
     (.seq
      (.ops [⟨some 6, none, .mov (.const (.bool false))⟩])
      .ret)
     .skip))
   (.seq
    (.ops [⟨some 22, none, .loadN 2 (.tmp 3)⟩,
      ⟨some 23, none, .call 10 [(.tmp 22)]⟩,
      ⟨some 21, none, .mov (.tmp 23)⟩,
      ⟨some 24, none, .ext (.tmp 21) 0⟩,
      ⟨some 25, none, .ext (.tmp 21) 1⟩,
      ⟨some 7, none, .mov (.tmp 24)⟩,
      ⟨some 8, none, .mov (.tmp 25)⟩])
    (.seq
     (.ops [⟨some 26, none, .mov (.tmp 1)⟩,
       ⟨some 27, none, .cvInt .i64 (.tmp 26)⟩,
       ⟨some 28, none, .mov (.tmp 8)⟩,
       ⟨some 29, none, .lenV (.tmp 28)⟩,
       ⟨some 30, none, .bin .add (.tmp 29) (.const (.int .i64 (1)))⟩,
       ⟨some 31, none, .bin .rem (.tmp 27) (.tmp 30)⟩,
       ⟨some 9, none, .mov (.tmp 31)⟩])
     (.seq
      (.ops [⟨some 32, none, .mov (.tmp 7)⟩,
        ⟨some 33, none, .call 12 [(.tmp 32)]⟩,
        ⟨some 10, none, .alloc 34 [.int .i64 (0), .int .i64 (0), .bool false, .bool false, .bool false, .bool false, .bool false, .bool false, .bool false, .bool false, .bool false, .bool false, .bool false, .bool false, .bool false]⟩,
        ⟨none, none, .store 15 (.tmp 10) (.tmp 33)⟩])
      (.seq
       (.seq
        (.ops [⟨some 11, none, .mov (.const (.int .i64 (0)))⟩])
        (.block 0
         (.loop
          (.seq
           (.seq
            (.ops [⟨some 34, none, .mov (.tmp 11)⟩,
              ⟨some 35, none, .mov (.tmp 9)⟩,
              ⟨some 36, none, .bin .lss (.tmp 34) (.tmp 35)⟩])
            (.cond (.tmp 36)
             .skip
             (.exit 0)))
           (.seq
            (.block 1
             (.seq
              (.opsD [⟨some 40, none, .loadN 15 (.tmp 10)⟩,
                ⟨some 41, none, .mov (.tmp 8)⟩,
                ⟨some 42, none, .mov (.tmp 11)⟩,
                ⟨some 43, none, .iaddrS 3 (.tmp 41) (.tmp 42)⟩,
                ⟨some 44, none, .loadN 3 (.tmp 43)⟩,
                ⟨some 45, none, .call 13 [(.tmp 40), (.tmp 44)]⟩,
                ⟨some 39, none, .mov (.tmp 45)⟩,
                ⟨some 46, none, .ext (.tmp 39) 0⟩,
                ⟨some 47, none, .ext (.tmp 39) 1⟩,
                ⟨some 12, none, .alloc 34 [.int .i64 (0), .int .i64 (0), .bool false, .bool false, .bool false, .bool false, .bool false, .bool false, .bool false, .bool false, .bool false, .bool false, .bool false, .bool false, .bool false]⟩,
                ⟨none, none, .store 15 (.tmp 12) (.tmp 46)⟩,
                ⟨some 13, none, .mov (.tmp 47)⟩] [])
              (.seq
               (.seq
                (.opsD [⟨some 48, none, .mov (.tmp 13)⟩,
                  ⟨some 49, none, .un .not (.tmp 48)⟩,
                  ⟨some 50, none, .mov (.tmp 49)⟩,
                  ⟨some 51, some (50, false), .faddr 1 (.tmp 12)⟩,
                  ⟨some 52, some (50, false), .load1 (.tmp 51)⟩,
                  ⟨some 53, some (50, false), .mov (.tmp 8)⟩,
                  ⟨some 54, some (50, false), .mov (.tmp 11)⟩,
                  ⟨some 55, some (50, false), .iaddrS 3 (.tmp 53) (.tmp 54)⟩,
                  ⟨some 56, some (50, false), .faddr 2 (.tmp 55)⟩,
                  ⟨some 57, some (50, false), .load1 (.tmp 56)⟩,
                  ⟨some 58, some (50, false), .bin .neq (.tmp 52) (.tmp 57)⟩,
                  ⟨some 59, none, .pick (.tmp 50) (.const (.bool true)) (.tmp 58)⟩,
                  ⟨some 60, none, .mov (.tmp 59)⟩,
                  ⟨some 61, some (60, false), .faddr 0 (.tmp 12)⟩,
                  ⟨some 62, some (60, false), .load1 (.tmp 61)⟩,
                  ⟨some 63, some (60, false), .mov (.tmp 7)⟩,
                  ⟨some 64, some (60, false), .bin .neq (.tmp 62) (.tmp 63)⟩,
                  ⟨some 65, none, .pick (.tmp 60) (.const (.bool true)) (.tmp 64)⟩] [])
                (.cond (.tmp 65)
                 (.seq
                  (.ops [⟨some 6, none, .mov (.const (.bool false))⟩])
                  .ret)
                 .skip))
               (.ops [⟨some 66, none, .loadN 15 (.tmp 12)⟩,
                 ⟨none, none, .store 15 (.tmp 10) (.tmp 66)⟩]))))
            (.ops [⟨some 37, none, .mov (.tmp 11)⟩,
              ⟨some 38, none, .bin .add (.tmp 37) (.const (.int .i64 (1)))⟩,
              ⟨some 11, none, .mov (.tmp 38)⟩]))))))
       (.seq
        (.ops [⟨some 68, none, .mov (.tmp 7)⟩,
          ⟨some 69, none, .mov (.tmp 8)⟩,
          ⟨some 70, none, .mov (.tmp 9)⟩,
          ⟨some 71, none, .sliceV 3 (.tmp 69) none (some (.tmp 70)) none⟩,
          ⟨some 72, none, .call 11 [(.tmp 68), (.tmp 71)]⟩,
          ⟨some 67, none, .mov (.tmp 72)⟩,
          ⟨some 73, none, .ext (.tmp 67) 0⟩,
          ⟨some 74, none, .ext (.tmp 67) 1⟩,
          ⟨some 14, none, .alloc 34 [.int .i64 (0), .int .i64 (0), .bool false, .bool false, .bool false, .bool false, .bool false, .bool false, .bool false, .bool false, .bool false, .bool false, .bool false, .bool false, .bool false]⟩,
          ⟨none, none, .store 15 (.tmp 14) (.tmp 73)⟩,
          ⟨some 15, none, .mov (.tmp 74)⟩])
        (.seq
         (.ops [⟨some 76, none, .loadN 15 (.tmp 10)⟩,
           ⟨some 77, none, .loadN 3 (.tmp 5)⟩,
           ⟨some 78, none, .call 13 [(.tmp 76), (.tmp 77)]⟩,
           ⟨some 75, none, .mov (.tmp 78)⟩,
           ⟨some 79, none, .ext (.tmp 75) 0⟩,
           ⟨some 80, none, .ext (.tmp 75) 1⟩,
           ⟨some 16, none, .alloc 34 [.int .i64 (0), .int .i64 (0), .bool false, .bool false, .bool false, .bool false, .bool false, .bool false, .bool false, .bool false, .bool false, .bool false, .bool false, .bool false, .bool false]⟩,
           ⟨none, none, .store 15 (.tmp 16) (.tmp 79)⟩,
           ⟨some 17, none, .mov (.tmp 80)⟩])
         (.seq
          (.opsD [⟨some 81, none, .bslice 31 0 [] []⟩,
            ⟨some 82, none, .mov (.tmp 8)⟩,
            ⟨some 83, none, .mov (.tmp 9)⟩,
            ⟨some 84, none, .sliceV 3 (.tmp 82) none (some (.tmp 83)) none⟩,
            ⟨some 85, none, .append 31 3 24 (.tmp 81) (.tmp 84)⟩,
            ⟨some 86, none, .loadN 3 (.tmp 5)⟩,
            ⟨some 87, none, .bslice 31 1 [.int .i64 (0), .int .i64 (0), .int .i64 (0)] [(0, 3, (.tmp 86))]⟩,
            ⟨some 88, none, .append 31 3 24 (.tmp 85) (.tmp 87)⟩,
            ⟨some 89, none, .mov (.tmp 8)⟩,
            ⟨some 90, none, .mov (.tmp 9)⟩,
            ⟨some 91, none, .sliceV 3 (.tmp 89) (some (.tmp 90)) none none⟩,
            ⟨some 92, none, .append 31 3 24 (.tmp 88) (.tmp 91)⟩,
            ⟨some 18, none, .mov (.tmp 92)⟩] [(5, 4), (5, 5), (10, 4), (10, 5), (10, 7), (10, 8)])
          (.seq
           (.seq
            (.ops [⟨some 93, none, .mov (.tmp 15)⟩,
              ⟨some 94, none, .un .not (.tmp 93)⟩,
              ⟨some 95, none, .mov (.tmp 94)⟩,
              ⟨some 96, some (95, false), .loadN 15 (.tmp 14)⟩,
              ⟨some 97, some (95, false), .loadN 15 (.tmp 10)⟩,
              ⟨some 98, some (95, false), .eqF true [(0, .i), (1, .i), (2, .b), (3, .b), (4, .b), (5, .b), (6, .b), (7, .b), (8, .b), (9, .b), (10, .b), (11, .b), (12, .b), (13, .b), (14, .b)] (.tmp 96) (.tmp 97)⟩,
              ⟨some 99, none, .pick (.tmp 95) (.const (.bool true)) (.tmp 98)⟩,
              ⟨some 100, none, .mov (.tmp 99)⟩,
              ⟨some 101, some (100, false), .mov (.tmp 7)⟩,
              ⟨some 102, some (100, false), .mov (.tmp 8)⟩,
              ⟨some 103, some (100, false), .mov (.tmp 9)⟩,
              ⟨some 104, some (100, false), .sliceV 3 (.tmp 102) none (some (.tmp 103)) none⟩,
              ⟨some 105, some (100, false), .call 14 [(.tmp 101), (.tmp 104)]⟩,
              ⟨some 106, some (100, false), .eq true true .iface (.tmp 105) (.const (.nilIface))⟩,
              ⟨some 107, none, .pick (.tmp 100) (.const (.bool true)) (.tmp 106)⟩])
            (.cond (.tmp 107)
             (.seq
              (.ops [⟨some 6, none, .mov (.const (.bool false))⟩])
              .ret)
             .skip))
           (.seq
            (.seq
             (.ops [⟨some 108, none, .mov (.tmp 17)⟩,
               ⟨some 109, none, .un .not (.tmp 108)⟩])
             (.cond (.tmp 109)
              (.seq
               (.ops [⟨some 110, none, .mov (.tmp 7)⟩,
                 ⟨some 111, none, .mov (.tmp 18)⟩,
                 ⟨some 112, none, .mov (.tmp 9)⟩,
                 ⟨some 113, none, .call 15 [(.tmp 110), (.tmp 111), (.tmp 112)]⟩,
                 ⟨some 114, none, .mov (.tmp 113)⟩,
                 ⟨some 115, some (114, true), .mov (.tmp 7)⟩,
                 ⟨some 116, some (114, true), .mov (.tmp 18)⟩,
                 ⟨some 117, some (114, true), .mov (.tmp 9)⟩,
                 ⟨some 118, some (114, true), .bin .add (.tmp 117) (.const (.int .i64 (1)))⟩,
                 ⟨some 119, some (114, true), .sliceV 3 (.tmp 116) none (some (.tmp 118)) none⟩,
                 ⟨some 120, some (114, true), .mov (.tmp 9)⟩,
                 ⟨some 121, some (114, true), .call 15 [(.tmp 115), (.tmp 119), (.tmp 120)]⟩,
                 ⟨some 122, none, .pick (.tmp 114) (.tmp 121) (.const (.bool false))⟩,
                 ⟨some 6, none, .mov (.tmp 122)⟩])
               .ret)
              .skip))
            (.seq
             (.ops [⟨some 123, none, .mov (.tmp 7)⟩,
               ⟨some 124, none, .mov (.tmp 18)⟩,
               ⟨some 125, none, .mov (.tmp 9)⟩,
               ⟨some 126, none, .bin .add (.tmp 125) (.const (.int .i64 (1)))⟩,
               ⟨some 127, none, .sliceV 3 (.tmp 124) none (some (.tmp 126)) none⟩,
               ⟨some 128, none, .call 14 [(.tmp 123), (.tmp 127)]⟩,
               ⟨some 129, none, .eq false true .iface (.tmp 128) (.const (.nilIface))⟩,
               ⟨some 6, none, .mov (.tmp 129)⟩])
             .ret))))))))))))⟩
theorem t4 : T 4 = some c4 := by kernel_rfl

/-- plait/plaitlaw28.ModeEnds -/
def c5 : AFunc := ⟨77, 2, [.inl 4],
 (.seq
  (.ops [⟨some 2, none, .box 24 2 (.tmp 0)⟩,
    ⟨some 3, none, .box 31 3 (.tmp 1)⟩,
    ⟨some 4, none, .mov (.const (.bool false))⟩])
  (.seq
   (.seq
    (.ops [⟨some 15, none, .call 9 []⟩,
      ⟨some 16, none, .un .not (.tmp 15)⟩])
    (.cond (.tmp 16)
     (.seq
      (.ops [⟨some 4, none, .mov (.const (.bool false))⟩])
      .ret)
     .skip))
   (.seq
    (.ops [⟨some 18, none, .loadN 2 (.tmp 2)⟩,
      ⟨some 19, none, .call 10 [(.tmp 18)]⟩,
      ⟨some 17, none, .mov (.tmp 19)⟩,
      ⟨some 20, none, .ext (.tmp 17) 0⟩,
      ⟨some 21, none, .ext (.tmp 17) 1⟩,
      ⟨some 5, none, .mov (.tmp 20)⟩,
      ⟨some 6, none, .mov (.tmp 21)⟩])
    (.seq
     (.ops [⟨some 23, none, .mov (.tmp 5)⟩,
       ⟨some 24, none, .mov (.tmp 6)⟩,
       ⟨some 25, none, .call 11 [(.tmp 23), (.tmp 24)]⟩,
       ⟨some 22, none, .mov (.tmp 25)⟩,
       ⟨some 26, none, .ext (.tmp 22) 0⟩,
       ⟨some 27, none, .ext (.tmp 22) 1⟩,
       ⟨some 7, none, .alloc 34 [.int .i64 (0), .int .i64 (0), .bool false, .bool false, .bool false, .bool false, .bool false, .bool false, .bool false, .bool false, .bool false, .bool false, .bool false, .bool false, .bool false]⟩,
       ⟨none, none, .store 15 (.tmp 7) (.tmp 26)⟩,
       ⟨some 8, none, .mov (.tmp 27)⟩])
     (.seq
      (.seq
       (.ops [⟨some 28, none, .mov (.tmp 8)⟩,
         ⟨some 29, none, .un .not (.tmp 28)⟩])
       (.cond (.tmp 29)
        (.seq
         (.ops [⟨some 4, none, .mov (.const (.bool false))⟩])
         .ret)
        .skip))
      (.seq
       (.ops [⟨some 30, none, .call 16 [(.const (.int .i64 (15))), (.const (.int .i64 (0))), (.const (.int .i64 (6)))]⟩,
         ⟨some 9, none, .alloc 31 [.int .i64 (0), .int .i64 (0), .int .i64 (0)]⟩,
         ⟨none, none, .store 3 (.tmp 9) (.tmp 30)⟩])
       (.seq
        (.ops [⟨some 32, none, .loadN 15 (.tmp 7)⟩,
          ⟨some 33, none, .loadN 3 (.tmp 9)⟩,
          ⟨some 34, none, .call 13 [(.tmp 32), (.tmp 33)]⟩,
          ⟨some 31, none, .mov (.tmp 34)⟩,
          ⟨some 35, none, .ext (.tmp 31) 0⟩,
          ⟨some 36, none, .ext (.tmp 31) 1⟩,
          ⟨some 10, none, .alloc 34 [.int .i64 (0), .int .i64 (0), .bool false, .bool false, .bool false, .bool false, .bool false, .bool false, .bool false, .bool false, .bool false, .bool false, .bool false, .bool false, .bool false]⟩,
          ⟨none, none, .store 15 (.tmp 10) (.tmp 35)⟩,
          ⟨some 11, none, .mov (.tmp 36)⟩])
        (.seq
         (.ops [⟨some 37, none, .faddr 1 (.tmp 7)⟩,
           ⟨some 38, none, .load1 (.tmp 37)⟩,
           ⟨some 39, none, .bin .eql (.tmp 38) (.const (.int .i64 (5)))⟩,
           ⟨some 40, none, .mov (.tmp 39)⟩,
           ⟨some 41, some (40, false), .faddr 1 (.tmp 7)⟩,
           ⟨some 42, some (40, false), .load1 (.tmp 41)⟩,
           ⟨some 43, some (40, false), .bin .eql (.tmp 42) (.const (.int .i64 (6)))⟩,
           ⟨some 44, none, .pick (.tmp 40) (.const (.bool true)) (.tmp 43)⟩,
           ⟨some 12, none, .mov (.tmp 44)⟩])
         (.seq
          (.seq
           (.ops [⟨some 45, none, .mov (.tmp 11)⟩,
             ⟨some 46, none, .mov (.tmp 12)⟩,
             ⟨some 47, none, .un .not (.tmp 46)⟩,
             ⟨some 48, none, .mov (.tmp 47)⟩,
             ⟨some 49, some (48, true), .faddr 1 (.tmp 7)⟩,
             ⟨some 50, some (48, true), .load1 (.tmp 49)⟩,
             ⟨some 51, some (48, true), .bin .neq (.tmp 50) (.const (.int .i64 (0)))⟩,
             ⟨some 52, none, .pick (.tmp 48) (.tmp 51) (.const (.bool false))⟩,
             ⟨some 53, none, .eq true false .bool (.tmp 45) (.tmp 52)⟩,
             ⟨some 54, none, .mov (.tmp 53)⟩,
             ⟨some 55, some (54, false), .mov (.tmp 11)⟩,
             ⟨some 56, some (54, false), .mov (.tmp 55)⟩,
             ⟨some 57, some (56, true), .faddr 1 (.tmp 10)⟩,
             ⟨some 58, some (56, true), .load1 (.tmp 57)⟩,
             ⟨some 59, some (56, true), .bin .neq (.tmp 58) (.const (.int .i64 (6)))⟩,
             ⟨some 60, some (54, false), .pick (.tmp 56) (.tmp 59) (.const (.bool false))⟩,
             ⟨some 61, none, .pick (.tmp 54) (.const (.bool true)) (.tmp 60)⟩])
           (.cond (.tmp 61)
            (.seq
             (.ops [⟨some 4, none, .mov (.const (.bool false))⟩])
             .ret)
            .skip))
          (.seq
           (.seq
            (.ops [⟨some 62, none, .mov (.tmp 12)⟩,
              ⟨some 63, none, .un .not (.tmp 62)⟩])
            (.cond (.tmp 63)
             (.seq
              (.ops [⟨some 4, none, .mov (.const (.bool true))⟩])
              .ret)
             .skip))
           (.seq
            (.ops [⟨some 65, none, .loadN 15 (.tmp 7)⟩,
              ⟨some 66, none, .loadN 3 (.tmp 3)⟩,
              ⟨some 67, none, .call 13 [(.tmp 65), (.tmp 66)]⟩,
              ⟨some 64, none, .mov (.tmp 67)⟩,
              ⟨some 68, none, .ext (.tmp 64) 0⟩,
              ⟨some 69, none, .ext (.tmp 64) 1⟩,
              ⟨some 13, none, .alloc 34 [.int .i64 (0), .int .i64 (0), .bool false, .bool false, .bool false, .bool false, .bool false, .bool false, .bool false, .bool false, .bool false, .bool false, .bool false, .bool false, .bool false]⟩,
              ⟨none, none, .store 15 (.tmp 13) (.tmp 68)⟩,
              ⟨some 14, none, .mov (.tmp 69)⟩])
            (.seq
             (.ops [⟨some 70, none, .mov (.tmp 14)⟩,
               ⟨some 71, none, .un .not (.tmp 70)⟩,
               ⟨some 72, none, .mov (.tmp 71)⟩,
               ⟨some 73, some (72, true), .loadN 15 (.tmp 13)⟩,
               ⟨some 74, some (72, true), .loadN 15 (.tmp 7)⟩,
               ⟨some 75, some (72, true), .eqF false [(0, .i), (1, .i), (2, .b), (3, .b), (4, .b), (5, .b), (6, .b), (7, .b), (8, .b), (9, .b), (10, .b), (11, .b), (12, .b), (13, .b), (14, .b)] (.tmp 73) (.tmp 74)⟩,
               ⟨some 76, none, .pick (.tmp 72) (.tmp 75) (.const (.bool false))⟩,
               ⟨some 4, none, .mov (.tmp 76)⟩])
             .ret))))))))))))⟩
theorem t5 : T 5 = some c5 := by kernel_rfl

/-- plait/plaitlaw28.ModeTells -/
def c6 : AFunc := ⟨121, 5, [.inl 10],
 (.seq
  (.ops [⟨some 5, none, .box 24 2 (.tmp 0)⟩,
    ⟨some 8, none, .box 31 3 (.tmp 3)⟩,
    ⟨some 10, none, .mov (.const (.bool false))⟩])
  (.seq
   (.ops [⟨some 27, none, .loadN 2 (.tmp 5)⟩,
     ⟨some 28, none, .call 10 [(.tmp 27)]⟩,
     ⟨some 26, none, .mov (.tmp 28)⟩,
     ⟨some 29, none, .ext (.tmp 26) 0⟩,
     ⟨some 30, none, .ext (.tmp 26) 1⟩,
     ⟨some 11, none, .mov (.tmp 29)⟩,
     ⟨some 12, none, .mov (.tmp 30)⟩])
   (.seq
    (.ops [⟨some 31, none, .bslice 31 0 [] []⟩,
      ⟨some 32, none, .mov (.tmp 12)⟩,
      ⟨some 33, none, .append 31 3 24 (.tmp 31) (.tmp 32)⟩,
      ⟨some 13, none, .mov (.tmp 33)⟩])
    (.seq
     (.seq
      (.ops [⟨some 34, none, .mov (.tmp 13)⟩,
        ⟨some 35, none, .lenV (.tmp 34)⟩,
        ⟨some 36, none, .bin .gtr (.tmp 35) (.const (.int .i64 (0)))⟩])
      (.cond (.tmp 36)
       (.opsD [⟨some 37, none, .mov (.tmp 13)⟩,
         ⟨some 38, none, .mov (.tmp 2)⟩,
         ⟨some 39, none, .cvInt .i64 (.tmp 38)⟩,
         ⟨some 40, none, .mov (.tmp 13)⟩,
         ⟨some 41, none, .lenV (.tmp 40)⟩,
         ⟨some 42, none, .bin .rem (.tmp 39) (.tmp 41)⟩,
         ⟨some 43, none, .loadN 3 (.tmp 8)⟩,
         ⟨some 44, none, .iaddrS 3 (.tmp 37) (.tmp 42)⟩,
         ⟨none, none, .store 3 (.tmp 44) (.tmp 43)⟩] [])
       .skip))
     (.seq
      (.opsD [⟨some 45, none, .bslice 31 0 [] []⟩,
        ⟨some 46, none, .mov (.tmp 12)⟩,
        ⟨some 47, none, .append 31 3 24 (.tmp 45) (.tmp 46)⟩,
        ⟨some 48, none, .loadN 3 (.tmp 8)⟩,
        ⟨some 49, none, .bslice 31 1 [.int .i64 (0), .int .i64 (0), .int .i64 (0)] [(0, 3, (.tmp 48))]⟩,
        ⟨some 50, none, .append 31 3 24 (.tmp 47) (.tmp 49)⟩,
        ⟨some 14, none, .mov (.tmp 50)⟩] [(3, 2), (3, 3)])
      (.seq
       (.seq
        (.ops [⟨some 51, none, .mov (.tmp 12)⟩,
          ⟨some 52, none, .mov (.tmp 13)⟩,
          ⟨some 53, none, .mov (.tmp 14)⟩,
          ⟨some 54, none, .mov (.tmp 1)⟩,
          ⟨some 55, none, .mov (.tmp 1)⟩,
          ⟨some 56, none, .lenV (.tmp 55)⟩,
          ⟨some 57, none, .min [(.tmp 56), (.const (.int .i64 (40)))]⟩,
          ⟨some 58, none, .sliceV 3 (.tmp 54) none (some (.tmp 57)) none⟩,
          ⟨some 59, none, .build [.slice none 0 0, .slice none 0 0, .slice none 0 0, .slice none 0 0] [(0, 1, (.tmp 51)), (1, 1, (.tmp 52)), (2, 1, (.tmp 53)), (3, 1, (.tmp 58))]⟩,
          ⟨some 60, none, .mov (.const (.int .i64 (0)))⟩])
        (.block 0
         (.loop
          (.seq
           (.ops [⟨some 61, none, .bin .lss (.tmp 60) (.const (.int .i64 (4)))⟩])
           (.seq
            (.cond (.tmp 61)
             .skip
             (.exit 0))
            (.seq
             (.block 1
              (.seq
               (.ops [⟨some 62, none, .idx1 4 1 (.tmp 59) (.tmp 60)⟩,
                 ⟨some 16, none, .mov (.tmp 62)⟩])
               (.seq
                (.seq
                 (.ops [⟨some 63, none, .mov (.tmp 11)⟩,
                   ⟨some 64, none, .mov (.tmp 11)⟩,
                   ⟨some 65, none, .bin .sub (.const (.int .i64 (1))) (.tmp 64)⟩,
                   ⟨some 66, none, .mov (.tmp 4)⟩,
                   ⟨some 67, none, .build [.int .i64 (0), .int .i64 (0), .int .i64 (0)] [(0, 1, (.tmp 63)), (1, 1, (.tmp 65)), (2, 1, (.tmp 66))]⟩,
                   ⟨some 68, none, .mov (.const (.int .i64 (0)))⟩])
                 (.block 2
                  (.loop
                   (.seq
                    (.ops [⟨some 69, none, .bin .lss (.tmp 68) (.const (.int .i64 (3)))⟩])
                    (.seq
                     (.cond (.tmp 69)
                      .skip
                      (.exit 2))
                     (.seq
                      (.block 3
                       (.seq
                        (.ops [⟨some 70, none, .idx1 3 1 (.tmp 67) (.tmp 68)⟩,
                          ⟨some 18, none, .mov (.tmp 70)⟩])
                        (.seq
                         (.ops [⟨some 71, none, .mov (.tmp 18)⟩,
                           ⟨some 72, none, .mov (.tmp 16)⟩,
                           ⟨some 73, none, .call 14 [(.tmp 71), (.tmp 72)]⟩,
                           ⟨some 19, none, .mov (.tmp 73)⟩])
                         (.seq
                          (.ops [⟨some 74, none, .mov (.tmp 18)⟩,
                            ⟨some 75, none, .mov (.tmp 16)⟩,
                            ⟨some 76, none, .call 17 [(.tmp 74), (.tmp 75)]⟩,
                            ⟨some 20, none, .alloc 51 [.int .i64 (0), .int .i64 (0)]⟩,
                            ⟨none, none, .store 2 (.tmp 20) (.tmp 76)⟩])
                          (.seq
                           (.ops [⟨some 78, none, .mov (.tmp 18)⟩,
                             ⟨some 79, none, .mov (.tmp 16)⟩,
                             ⟨some 80, none, .call 11 [(.tmp 78), (.tmp 79)]⟩,
                             ⟨some 77, none, .mov (.tmp 80)⟩,
                             ⟨some 81, none, .ext (.tmp 77) 0⟩,
                             ⟨some 82, none, .ext (.tmp 77) 1⟩,
                             ⟨some 21, none, .alloc 34 [.int .i64 (0), .int .i64 (0), .bool false, .bool false, .bool false, .bool false, .bool false, .bool false, .bool false, .bool false, .bool false, .bool false, .bool false, .bool false, .bool false]⟩,
                             ⟨none, none, .store 15 (.tmp 21) (.tmp 81)⟩,
                             ⟨some 22, none, .mov (.tmp 82)⟩])
                           (.seq
                            (.ops [⟨some 84, none, .mov (.tmp 18)⟩,
                              ⟨some 85, none, .mov (.tmp 16)⟩,
                              ⟨some 86, none, .call 18 [(.tmp 84), (.tmp 85)]⟩,
                              ⟨some 83, none, .mov (.tmp 86)⟩,
                              ⟨some 87, none, .ext (.tmp 83) 0⟩,
                              ⟨some 88, none, .ext (.tmp 83) 1⟩,
                              ⟨some 89, none, .ext (.tmp 83) 2⟩,
                              ⟨some 23, none, .alloc 53 [.int .i64 (0), .int .i64 (0), .bool false, .bool false, .bool false, .bool false, .bool false, .bool false, .bool false, .bool false, .bool false, .bool false, .bool false, .bool false, .bool false]⟩,
                              ⟨none, none, .store 15 (.tmp 23) (.tmp 87)⟩,
                              ⟨some 24, none, .mov (.tmp 88)⟩,
                              ⟨some 25, none, .mov (.tmp 89)⟩])
                            (.seq
                             (.opsD [⟨some 90, none, .mov (.tmp 19)⟩,
                               ⟨some 91, none, .eq false true .iface (.tmp 90) (.const (.nilIface))⟩,
                               ⟨some 92, none, .faddr 0 (.tmp 20)⟩,
                               ⟨some 93, none, .load1 (.tmp 92)⟩,
                               ⟨some 94, none, .bin .eql (.tmp 93) (.const (.int .i64 (0)))⟩,
                               ⟨some 95, none, .eq true false .bool (.tmp 91) (.tmp 94)⟩,
                               ⟨some 96, none, .mov (.tmp 95)⟩,
                               ⟨some 97, some (96, false), .mov (.tmp 19)⟩,
                               ⟨some 98, some (96, false), .call 19 [(.tmp 97)]⟩,
                               ⟨some 99, some (96, false), .loadN 2 (.tmp 20)⟩,
                               ⟨some 100, some (96, false), .eqF true [(0, .i), (1, .i)] (.tmp 98) (.tmp 99)⟩,
                               ⟨some 101, none, .pick (.tmp 96) (.const (.bool true)) (.tmp 100)⟩,
                               ⟨some 102, none, .mov (.tmp 101)⟩,
                               ⟨some 103, some (102, false), .loadN 15 (.tmp 21)⟩,
                               ⟨some 104, some (102, false), .call 20 [(.tmp 103)]⟩,
                               ⟨some 105, some (102, false), .loadN 15 (.tmp 23)⟩,
                               ⟨some 106, some (102, false), .eqF true [(0, .i), (1, .i), (2, .b), (3, .b), (4, .b), (5, .b), (6, .b), (7, .b), (8, .b), (9, .b), (10, .b), (11, .b), (12, .b), (13, .b), (14, .b)] (.tmp 104) (.tmp 105)⟩,
                               ⟨some 107, none, .pick (.tmp 102) (.const (.bool true)) (.tmp 106)⟩,
                               ⟨some 108, none, .mov (.tmp 107)⟩,
                               ⟨some 109, some (108, false), .mov (.tmp 22)⟩,
                               ⟨some 110, some (108, false), .mov (.tmp 25)⟩,
                               ⟨some 111, some (108, false), .eq true false .bool (.tmp 109) (.tmp 110)⟩,
                               ⟨some 112, none, .pick (.tmp 108) (.const (.bool true)) (.tmp 111)⟩] [(9, 8), (9, 9), (15, 14), (15, 15)])
                             (.cond (.tmp 112)
                              (.seq
                               (.ops [⟨some 10, none, .mov (.const (.bool false))⟩])
                               .ret)
                              .skip))))))))
                      (.ops [⟨some 113, none, .bin .add (.tmp 68) (.const (.int .i64 (1)))⟩,
                        ⟨some 68, none, .mov (.tmp 113)⟩])))))))
                (.seq
                 (.ops [⟨some 114, none, .mov (.tmp 16)⟩,
                   ⟨some 115, none, .call 21 [(.tmp 114)]⟩,
                   ⟨some 116, none, .mov (.tmp 16)⟩,
                   ⟨some 117, none, .call 22 [(.tmp 116)]⟩,
                   ⟨some 118, none, .bin .neq (.tmp 115) (.tmp 117)⟩])
                 (.cond (.tmp 118)
                  (.seq
                   (.ops [⟨some 10, none, .mov (.const (.bool false))⟩])
                   .ret)
                  .skip)))))
             (.ops [⟨some 119, none, .bin .add (.tmp 60) (.const (.int .i64 (1)))⟩,
               ⟨some 60, none, .mov (.tmp 119)⟩])))))))
       (.seq
        (.ops [⟨some 120, none, .call 9 []⟩,
          ⟨some 10, none, .mov (.tmp 120)⟩])
        .ret)))))))⟩
theorem t6 : T 6 = some c6 := by kernel_rfl

/-- plait/plaitlaw28.ModeFalls -/
def c7 : AFunc := ⟨41, 2, [.inl 4],
 (.seq
  (.ops [⟨some 2, none, .box 24 2 (.tmp 0)⟩,
    ⟨some 4, none, .mov (.const (.bool false))⟩])
  (.seq
   (.seq
    (.ops [⟨some 10, none, .call 9 []⟩,
      ⟨some 11, none, .un .not (.tmp 10)⟩])
    (.cond (.tmp 11)
     (.seq
      (.ops [⟨some 4, none, .mov (.const (.bool false))⟩])
      .ret)
     .skip))
   (.seq
    (.ops [⟨some 13, none, .loadN 2 (.tmp 2)⟩,
      ⟨some 14, none, .call 10 [(.tmp 13)]⟩,
      ⟨some 12, none, .mov (.tmp 14)⟩,
      ⟨some 15, none, .ext (.tmp 12) 0⟩,
      ⟨some 16, none, .ext (.tmp 12) 1⟩,
      ⟨some 5, none, .mov (.tmp 15)⟩,
      ⟨some 6, none, .mov (.tmp 16)⟩])
    (.seq
     (.seq
      (.ops [⟨some 7, none, .mov (.const (.int .i64 (0)))⟩])
      (.block 0
       (.loop
        (.seq
         (.seq
          (.ops [⟨some 17, none, .mov (.tmp 7)⟩,
            ⟨some 18, none, .bin .lss (.tmp 17) (.const (.int .i64 (3)))⟩])
          (.cond (.tmp 18)
           .skip
           (.exit 0)))
         (.seq
          (.block 1
           (.seq
            (.ops [⟨some 21, none, .mov (.tmp 5)⟩,
              ⟨some 22, none, .mov (.tmp 6)⟩,
              ⟨some 8, none, .mov (.tmp 21)⟩,
              ⟨some 9, none, .mov (.tmp 22)⟩])
            (.seq
             (.seq
              (.ops [⟨some 23, none, .mov (.tmp 7)⟩,
                ⟨some 24, none, .bin .gtr (.tmp 23) (.const (.int .i64 (0)))⟩])
              (.cond (.tmp 24)
               (.opsD [⟨some 25, none, .mov (.tmp 7)⟩,
                 ⟨some 26, none, .bin .sub (.tmp 25) (.const (.int .i64 (1)))⟩,
                 ⟨some 27, none, .mov (.tmp 1)⟩,
                 ⟨some 28, none, .mov (.tmp 1)⟩,
                 ⟨some 29, none, .lenV (.tmp 28)⟩,
                 ⟨some 30, none, .min [(.tmp 29), (.const (.int .i64 (60)))]⟩,
                 ⟨some 31, none, .sliceV 3 (.tmp 27) none (some (.tmp 30)) none⟩,
                 ⟨some 8, none, .mov (.tmp 26)⟩,
                 ⟨some 9, none, .mov (.tmp 31)⟩] [])
               .skip))
             (.seq
              (.seq
               (.ops [⟨some 32, none, .mov (.tmp 8)⟩,
                 ⟨some 33, none, .mov (.tmp 9)⟩,
                 ⟨some 34, none, .call 14 [(.tmp 32), (.tmp 33)]⟩,
                 ⟨some 35, none, .eq true true .iface (.tmp 34) (.const (.nilIface))⟩])
               (.cond (.tmp 35)
                (.seq
                 (.seq
                  (.ops [⟨some 36, none, .mov (.tmp 7)⟩,
                    ⟨some 37, none, .bin .eql (.tmp 36) (.const (.int .i64 (0)))⟩])
                  (.cond (.tmp 37)
                   (.seq
                    (.ops [⟨some 4, none, .mov (.const (.bool false))⟩])
                    .ret)
                   .skip))
                 (.exit 1))
                .skip))
              (.seq
               (.ops [⟨some 38, none, .mov (.tmp 9)⟩,
                 ⟨some 39, none, .call 23 [(.tmp 38)]⟩,
                 ⟨some 40, none, .un .not (.tmp 39)⟩])
               (.cond (.tmp 40)
                (.seq
                 (.ops [⟨some 4, none, .mov (.const (.bool false))⟩])
                 .ret)
                .skip))))))
          (.ops [⟨some 19, none, .mov (.tmp 7)⟩,
            ⟨some 20, none, .bin .add (.tmp 19) (.const (.int .i64 (1)))⟩,
            ⟨some 7, none, .mov (.tmp 20)⟩]))))))
     (.seq
      (.ops [⟨some 4, none, .mov (.const (.bool true))⟩])
      .ret)))))⟩
theorem t7 : T 7 = some c7 := by kernel_rfl

/-- plait/plaitlaw28.ModeKnown -/
def c8 : AFunc := ⟨228, 0, [.inl 0],
 (.seq
  (.ops [⟨some 0, none, .mov (.const (.bool false))⟩])
  (.seq
   (.ops [⟨some 34, none, .call 12 [(.const (.int .i64 (0)))]⟩,
     ⟨some 35, none, .call 12 [(.const (.int .i64 (1)))]⟩,
     ⟨some 1, none, .alloc 34 [.int .i64 (0), .int .i64 (0), .bool false, .bool false, .bool false, .bool false, .bool false, .bool false, .bool false, .bool false, .bool false, .bool false, .bool false, .bool false, .bool false]⟩,
     ⟨some 2, none, .alloc 34 [.int .i64 (0), .int .i64 (0), .bool false, .bool false, .bool false, .bool false, .bool false, .bool false, .bool false, .bool false, .bool false, .bool false, .bool false, .bool false, .bool false]⟩,
     ⟨none, none, .store 15 (.tmp 1) (.tmp 34)⟩,
     ⟨none, none, .store 15 (.tmp 2) (.tmp 35)⟩])
   (.seq
    (.ops [⟨some 36, none, .loadN 15 (.tmp 1)⟩,
      ⟨some 37, none, .build [.int .i64 (0), .int .i64 (0), .bool false, .bool false, .bool false, .bool false, .bool false, .bool false, .bool false, .bool false, .bool false, .bool false, .bool false, .bool false, .bool false] [(0, 1, (.const (.int .i64 (0)))), (1, 1, (.const (.int .i64 (0)))), (2, 1, (.const (.bool true)))]⟩,
      ⟨some 38, none, .eqF false [(0, .i), (1, .i), (2, .b), (3, .b), (4, .b), (5, .b), (6, .b), (7, .b), (8, .b), (9, .b), (10, .b), (11, .b), (12, .b), (13, .b), (14, .b)] (.tmp 36) (.tmp 37)⟩,
      ⟨some 39, none, .mov (.tmp 38)⟩,
      ⟨some 40, some (39, true), .faddr 0 (.tmp 2)⟩,
      ⟨some 41, some (39, true), .load1 (.tmp 40)⟩,
      ⟨some 42, some (39, true), .bin .eql (.tmp 41) (.const (.int .i64 (1)))⟩,
      ⟨some 43, none, .pick (.tmp 39) (.tmp 42) (.const (.bool false))⟩,
      ⟨some 44, none, .mov (.tmp 43)⟩,
      ⟨some 45, some (44, true), .faddr 1 (.tmp 1)⟩,
      ⟨some 46, some (44, true), .load1 (.tmp 45)⟩,
      ⟨some 47, some (44, true), .bin .eql (.tmp 46) (.const (.int .i64 (0)))⟩,
      ⟨some 48, none, .pick (.tmp 44) (.tmp 47) (.const (.bool false))⟩,
      ⟨some 3, none, .mov (.tmp 48)⟩])
    (.seq
     (.ops [⟨some 4, none, .mov (.const (.int .i64 (0)))⟩])
     (.seq
      (.seq
       (.ops [⟨some 5, none, .mov (.const (.int .i64 (0)))⟩])
       (.block 0
        (.loop
         (.seq
          (.seq
           (.ops [⟨some 49, none, .mov (.tmp 5)⟩,
             ⟨some 50, none, .bin .lss (.tmp 49) (.const (.int .i64 (18)))⟩])
           (.cond (.tmp 50)
            .skip
            (.exit 0)))
          (.seq
           (.block 1
            (.seq
             (.ops [⟨some 6, none, .mov (.const (.int .i64 (0)))⟩])
             (.block 2
              (.loop
               (.seq
                (.seq
                 (.ops [⟨some 53, none, .mov (.tmp 6)⟩,
                   ⟨some 54, none, .bin .lss (.tmp 53) (.const (.int .i64 (7)))⟩])
                 (.cond (.tmp 54)
                  .skip
                  (.exit 2)))
                (.seq
                 (.block 3
                  (.seq
                   (.opsD [⟨some 58, none, .loadN 15 (.tmp 1)⟩,
                     ⟨some 59, none, .mov (.tmp 5)⟩,
                     ⟨some 60, none, .mov (.tmp 6)⟩,
                     ⟨some 61, none, .call 16 [(.tmp 59), (.const (.int .i64 (0))), (.tmp 60)]⟩,
                     ⟨some 62, none, .call 13 [(.tmp 58), (.tmp 61)]⟩,
                     ⟨some 57, none, .mov (.tmp 62)⟩,
                     ⟨some 63, none, .ext (.tmp 57) 0⟩,
                     ⟨some 64, none, .ext (.tmp 57) 1⟩,
                     ⟨some 7, none, .alloc 34 [.int .i64 (0), .int .i64 (0), .bool false, .bool false, .bool false, .bool false, .bool false, .bool false, .bool false, .bool false, .bool false, .bool false, .bool false, .bool false, .bool false]⟩,
                     ⟨none, none, .store 15 (.tmp 7) (.tmp 63)⟩,
                     ⟨some 8, none, .mov (.tmp 64)⟩] [(0, 3), (0, 4)])
                   (.seq
                    (.opsD [⟨some 66, none, .loadN 15 (.tmp 2)⟩,
                      ⟨some 67, none, .mov (.tmp 5)⟩,
                      ⟨some 68, none, .mov (.tmp 6)⟩,
                      ⟨some 69, none, .call 16 [(.tmp 67), (.const (.int .i64 (0))), (.tmp 68)]⟩,
                      ⟨some 70, none, .call 13 [(.tmp 66), (.tmp 69)]⟩,
                      ⟨some 65, none, .mov (.tmp 70)⟩,
                      ⟨some 71, none, .ext (.tmp 65) 0⟩,
                      ⟨some 72, none, .ext (.tmp 65) 1⟩,
                      ⟨some 9, none, .alloc 34 [.int .i64 (0), .int .i64 (0), .bool false, .bool false, .bool false, .bool false, .bool false, .bool false, .bool false, .bool false, .bool false, .bool false, .bool false, .bool false, .bool false]⟩,
                      ⟨none, none, .store 15 (.tmp 9) (.tmp 71)⟩,
                      ⟨some 10, none, .mov (.tmp 72)⟩] [(0, 3), (0, 4)])
                    (.seq
                     (.seq
                      (.ops [⟨some 73, none, .mov (.tmp 8)⟩])
                      (.cond (.tmp 73)
                       (.ops [⟨some 74, none, .mov (.tmp 4)⟩,
                         ⟨some 75, none, .bin .add (.tmp 74) (.const (.int .i64 (1)))⟩,
                         ⟨some 76, none, .mov (.tmp 5)⟩,
                         ⟨some 77, none, .bin .mul (.const (.int .i64 (100))) (.tmp 76)⟩,
                         ⟨some 78, none, .bin .add (.tmp 75) (.tmp 77)⟩,
                         ⟨some 4, none, .mov (.tmp 78)⟩])
                       .skip))
                     (.seq
                      (.ops [⟨some 79, none, .mov (.tmp 10)⟩])
                      (.cond (.tmp 79)
                       (.ops [⟨some 80, none, .mov (.tmp 4)⟩,
                         ⟨some 81, none, .bin .add (.tmp 80) (.const (.int .i64 (10000)))⟩,
                         ⟨some 82, none, .mov (.tmp 5)⟩,
                         ⟨some 83, none, .bin .mul (.const (.int .i64 (1000000))) (.tmp 82)⟩,
                         ⟨some 84, none, .bin .add (.tmp 81) (.tmp 83)⟩,
                         ⟨some 4, none, .mov (.tmp 84)⟩])
                       .skip))))))
                 (.ops [⟨some 55, none, .mov (.tmp 6)⟩,
                   ⟨some 56, none, .bin .add (.tmp 55) (.const (.int .i64 (1)))⟩,
                   ⟨some 6, none, .mov (.tmp 56)⟩])))))))
           (.ops [⟨some 51, none, .mov (.tmp 5)⟩,
             ⟨some 52, none, .bin .add (.tmp 51) (.const (.int .i64 (1)))⟩,
             ⟨some 5, none, .mov (.tmp 52)⟩]))))))
      (.seq
       (.ops [⟨some 85, none, .build [.int .i64 (0), .int .i64 (0), .bool false, .bool false, .bool false, .bool false, .bool false, .bool false, .bool false, .bool false, .bool false, .bool false, .bool false, .bool false, .bool false] [(0, 1, (.const (.int .i64 (0)))), (1, 1, (.const (.int .i64 (3))))]⟩,
         ⟨some 11, none, .alloc 34 [.int .i64 (0), .int .i64 (0), .bool false, .bool false, .bool false, .bool false, .bool false, .bool false, .bool false, .bool false, .bool false, .bool false, .bool false, .bool false, .bool false]⟩,
         ⟨none, none, .store 15 (.tmp 11) (.tmp 85)⟩])
       (.seq
        (.ops [⟨some 86, none, .faddr 7 (.tmp 11)⟩,
          ⟨some 87, none, .iaddrA 4 1 (.tmp 86) (.const (.int .i64 (0)))⟩,
          ⟨none, none, .store 1 (.tmp 87) (.const (.bool true))⟩,
          ⟨some 88, none, .faddr 11 (.tmp 11)⟩,
          ⟨some 89, none, .iaddrA 4 1 (.tmp 88) (.const (.int .i64 (2)))⟩,
          ⟨none, none, .store 1 (.tmp 89) (.const (.bool true))⟩,
          ⟨some 90, none, .faddr 3 (.tmp 11)⟩,
          ⟨some 91, none, .iaddrA 4 1 (.tmp 90) (.const (.int .i64 (3)))⟩,
          ⟨none, none, .store 1 (.tmp 91) (.const (.bool true))⟩])
        (.seq
         (.opsD [⟨some 93, none, .loadN 15 (.tmp 11)⟩,
           ⟨some 94, none, .call 16 [(.const (.int .i64 (7))), (.const (.int .i64 (1))), (.const (.int .i64 (3)))]⟩,
           ⟨some 95, none, .call 13 [(.tmp 93), (.tmp 94)]⟩,
           ⟨some 92, none, .mov (.tmp 95)⟩,
           ⟨some 96, none, .ext (.tmp 92) 0⟩,
           ⟨some 97, none, .ext (.tmp 92) 1⟩,
           ⟨some 12, none, .alloc 34 [.int .i64 (0), .int .i64 (0), .bool false, .bool false, .bool false, .bool false, .bool false, .bool false, .bool false, .bool false, .bool false, .bool false, .bool false, .bool false, .bool false]⟩,
           ⟨none, none, .store 15 (.tmp 12) (.tmp 96)⟩,
           ⟨some 13, none, .mov (.tmp 97)⟩] [(0, 1), (0, 2)])
         (.seq
          (.opsD [⟨some 99, none, .loadN 15 (.tmp 11)⟩,
            ⟨some 100, none, .call 16 [(.const (.int .i64 (7))), (.const (.int .i64 (3))), (.const (.int .i64 (3)))]⟩,
            ⟨some 101, none, .call 13 [(.tmp 99), (.tmp 100)]⟩,
            ⟨some 98, none, .mov (.tmp 101)⟩,
            ⟨some 102, none, .ext (.tmp 98) 0⟩,
            ⟨some 103, none, .ext (.tmp 98) 1⟩,
            ⟨some 14, none, .alloc 34 [.int .i64 (0), .int .i64 (0), .bool false, .bool false, .bool false, .bool false, .bool false, .bool false, .bool false, .bool false, .bool false, .bool false, .bool false, .bool false, .bool false]⟩,
            ⟨none, none, .store 15 (.tmp 14) (.tmp 102)⟩,
            ⟨some 15, none, .mov (.tmp 103)⟩] [(0, 1), (0, 2)])
          (.seq
           (.opsD [⟨some 105, none, .loadN 15 (.tmp 11)⟩,
             ⟨some 106, none, .call 16 [(.const (.int .i64 (8))), (.const (.int .i64 (2))), (.const (.int .i64 (3)))]⟩,
             ⟨some 107, none, .call 13 [(.tmp 105), (.tmp 106)]⟩,
             ⟨some 104, none, .mov (.tmp 107)⟩,
             ⟨some 108, none, .ext (.tmp 104) 0⟩,
             ⟨some 109, none, .ext (.tmp 104) 1⟩,
             ⟨some 16, none, .alloc 34 [.int .i64 (0), .int .i64 (0), .bool false, .bool false, .bool false, .bool false, .bool false, .bool false, .bool false, .bool false, .bool false, .bool false, .bool false, .bool false, .bool false]⟩,
             ⟨none, none, .store 15 (.tmp 16) (.tmp 108)⟩,
             ⟨some 17, none, .mov (.tmp 109)⟩] [(0, 1), (0, 2)])
           (.seq
            (.opsD [⟨some 111, none, .loadN 15 (.tmp 11)⟩,
              ⟨some 112, none, .call 16 [(.const (.int .i64 (8))), (.const (.int .i64 (3))), (.const (.int .i64 (3)))]⟩,
              ⟨some 113, none, .call 13 [(.tmp 111), (.tmp 112)]⟩,
              ⟨some 110, none, .mov (.tmp 113)⟩,
              ⟨some 114, none, .ext (.tmp 110) 0⟩,
              ⟨some 115, none, .ext (.tmp 110) 1⟩,
              ⟨some 18, none, .alloc 34 [.int .i64 (0), .int .i64 (0), .bool false, .bool false, .bool false, .bool false, .bool false, .bool false, .bool false, .bool false, .bool false, .bool false, .bool false, .bool false, .bool false]⟩,
              ⟨none, none, .store 15 (.tmp 18) (.tmp 114)⟩,
              ⟨some 19, none, .mov (.tmp 115)⟩] [(0, 1), (0, 2)])
            (.seq
             (.opsD [⟨some 117, none, .loadN 15 (.tmp 11)⟩,
               ⟨some 118, none, .call 16 [(.const (.int .i64 (8))), (.const (.int .i64 (1))), (.const (.int .i64 (3)))]⟩,
               ⟨some 119, none, .call 13 [(.tmp 117), (.tmp 118)]⟩,
               ⟨some 116, none, .mov (.tmp 119)⟩,
               ⟨some 120, none, .ext (.tmp 116) 0⟩,
               ⟨some 121, none, .ext (.tmp 116) 1⟩,
               ⟨some 20, none, .alloc 34 [.int .i64 (0), .int .i64 (0), .bool false, .bool false, .bool false, .bool false, .bool false, .bool false, .bool false, .bool false, .bool false, .bool false, .bool false, .bool false, .bool false]⟩,
               ⟨none, none, .store 15 (.tmp 20) (.tmp 120)⟩,
               ⟨some 21, none, .mov (.tmp 121)⟩] [(0, 1), (0, 2)])
             (.seq
              (.opsD [⟨some 123, none, .loadN 15 (.tmp 11)⟩,
                ⟨some 124, none, .call 16 [(.const (.int .i64 (11))), (.const (.int .i64 (0))), (.const (.int .i64 (4)))]⟩,
                ⟨some 125, none, .call 13 [(.tmp 123), (.tmp 124)]⟩,
                ⟨some 122, none, .mov (.tmp 125)⟩,
                ⟨some 126, none, .ext (.tmp 122) 0⟩,
                ⟨some 127, none, .ext (.tmp 122) 1⟩,
                ⟨some 22, none, .alloc 34 [.int .i64 (0), .int .i64 (0), .bool false, .bool false, .bool false, .bool false, .bool false, .bool false, .bool false, .bool false, .bool false, .bool false, .bool false, .bool false, .bool false]⟩,
                ⟨none, none, .store 15 (.tmp 22) (.tmp 126)⟩,
                ⟨some 23, none, .mov (.tmp 127)⟩] [(0, 1), (0, 2)])
              (.seq
               (.opsD [⟨some 129, none, .loadN 15 (.tmp 11)⟩,
                 ⟨some 130, none, .call 16 [(.const (.int .i64 (17))), (.const (.int .i64 (2))), (.const (.int .i64 (6)))]⟩,
                 ⟨some 131, none, .call 13 [(.tmp 129), (.tmp 130)]⟩,
                 ⟨some 128, none, .mov (.tmp 131)⟩,
                 ⟨some 132, none, .ext (.tmp 128) 0⟩,
                 ⟨some 133, none, .ext (.tmp 128) 1⟩,
                 ⟨some 24, none, .alloc 34 [.int .i64 (0), .int .i64 (0), .bool false, .bool false, .bool false, .bool false, .bool false, .bool false, .bool false, .bool false, .bool false, .bool false, .bool false, .bool false, .bool false]⟩,
                 ⟨none, none, .store 15 (.tmp 24) (.tmp 132)⟩,
                 ⟨some 25, none, .mov (.tmp 133)⟩] [(0, 1), (0, 2)])
               (.seq
                (.opsD [⟨some 135, none, .loadN 15 (.tmp 11)⟩,
                  ⟨some 136, none, .call 16 [(.const (.int .i64 (16))), (.const (.int .i64 (3))), (.const (.int .i64 (6)))]⟩,
                  ⟨some 137, none, .call 13 [(.tmp 135), (.tmp 136)]⟩,
                  ⟨some 134, none, .mov (.tmp 137)⟩,
                  ⟨some 138, none, .ext (.tmp 134) 0⟩,
                  ⟨some 139, none, .ext (.tmp 134) 1⟩,
                  ⟨some 26, none, .alloc 34 [.int .i64 (0), .int .i64 (0), .bool false, .bool false, .bool false, .bool false, .bool false, .bool false, .bool false, .bool false, .bool false, .bool false, .bool false, .bool false, .bool false]⟩,
                  ⟨none, none, .store 15 (.tmp 26) (.tmp 138)⟩,
                  ⟨some 27, none, .mov (.tmp 139)⟩] [(0, 1), (0, 2)])
                (.seq
                 (.opsD [⟨some 141, none, .loadN 15 (.tmp 11)⟩,
                   ⟨some 142, none, .call 16 [(.const (.int .i64 (16))), (.const (.int .i64 (4))), (.const (.int .i64 (6)))]⟩,
                   ⟨some 143, none, .call 13 [(.tmp 141), (.tmp 142)]⟩,
                   ⟨some 140, none, .mov (.tmp 143)⟩,
                   ⟨some 144, none, .ext (.tmp 140) 0⟩,
                   ⟨some 145, none, .ext (.tmp 140) 1⟩,
                   ⟨some 28, none, .alloc 34 [.int .i64 (0), .int .i64 (0), .bool false, .bool false, .bool false, .bool false, .bool false, .bool false, .bool false, .bool false, .bool false, .bool false, .bool false, .bool false, .bool false]⟩,
                   ⟨none, none, .store 15 (.tmp 28) (.tmp 144)⟩,
                   ⟨some 29, none, .mov (.tmp 145)⟩] [(0, 1), (0, 2)])
                 (.seq
                  (.ops [⟨some 146, none, .mov (.tmp 13)⟩,
                    ⟨some 147, none, .mov (.tmp 146)⟩,
                    ⟨some 148, some (147, true), .mov (.tmp 15)⟩,
                    ⟨some 149, some (147, true), .un .not (.tmp 148)⟩,
                    ⟨some 150, none, .pick (.tmp 147) (.tmp 149) (.const (.bool false))⟩,
                    ⟨some 151, none, .mov (.tmp 150)⟩,
                    ⟨some 152, some (151, true), .mov (.tmp 17)⟩,
                    ⟨some 153, some (151, true), .un .not (.tmp 152)⟩,
                    ⟨some 154, none, .pick (.tmp 151) (.tmp 153) (.const (.bool false))⟩,
                    ⟨some 155, none, .mov (.tmp 154)⟩,
                    ⟨some 156, some (155, true), .mov (.tmp 19)⟩,
                    ⟨some 157, none, .pick (.tmp 155) (.tmp 156) (.const (.bool false))⟩,
                    ⟨some 158, none, .mov (.tmp 157)⟩,
                    ⟨some 159, some (158, true), .mov (.tmp 21)⟩,
                    ⟨some 160, some (158, true), .un .not (.tmp 159)⟩,
                    ⟨some 161, none, .pick (.tmp 158) (.tmp 160) (.const (.bool false))⟩,
                    ⟨some 162, none, .mov (.tmp 161)⟩,
                    ⟨some 163, some (162, true), .mov (.tmp 23)⟩,
                    ⟨some 164, some (162, true), .un .not (.tmp 163)⟩,
                    ⟨some 165, none, .pick (.tmp 162) (.tmp 164) (.const (.bool false))⟩,
                    ⟨some 166, none, .mov (.tmp 165)⟩,
                    ⟨some 167, some (166, true), .mov (.tmp 25)⟩,
                    ⟨some 168, some (166, true), .un .not (.tmp 167)⟩,
                    ⟨some 169, none, .pick (.tmp 166) (.tmp 168) (.const (.bool false))⟩,
                    ⟨some 170, none, .mov (.tmp 169)⟩,
                    ⟨some 171, some (170, true), .mov (.tmp 27)⟩,
                    ⟨some 172, none, .pick (.tmp 170) (.tmp 171) (.const (.bool false))⟩,
                    ⟨some 173, none, .mov (.tmp 172)⟩,
                    ⟨some 174, some (173, true), .mov (.tmp 29)⟩,
                    ⟨some 175, some (173, true), .un .not (.tmp 174)⟩,
                    ⟨some 176, none, .pick (.tmp 173) (.tmp 175) (.const (.bool false))⟩,
                    ⟨some 30, none, .mov (.tmp 176)⟩])
                  (.seq
                   (.ops [⟨some 177, none, .call 14 [(.const (.int .i64 (2))), (.const (.slice none 0 0))]⟩,
                     ⟨some 31, none, .mov (.tmp 177)⟩])
                   (.seq
                    (.ops [⟨some 179, none, .call 11 [(.const (.int .i64 (1))), (.const (.slice none 0 0))]⟩,
                      ⟨some 178, none, .mov (.tmp 179)⟩,
                      ⟨some 180, none, .ext (.tmp 178) 0⟩,
                      ⟨some 181, none, .ext (.tmp 178) 1⟩,
                      ⟨some 32, none, .alloc 34 [.int .i64 (0), .int .i64 (0), .bool false, .bool false, .bool false, .bool false, .bool false, .bool false, .bool false, .bool false, .bool false, .bool false, .bool false, .bool false, .bool false]⟩,
                      ⟨none, none, .store 15 (.tmp 32) (.tmp 180)⟩,
                      ⟨some 33, none, .mov (.tmp 181)⟩])
                    (.seq
                     (.ops [⟨some 182, none, .mov (.const (.bool true))⟩,
                       ⟨some 183, some (182, true), .call 9 []⟩,
                       ⟨some 184, none, .pick (.tmp 182) (.tmp 183) (.const (.bool false))⟩,
                       ⟨some 185, none, .mov (.tmp 184)⟩,
                       ⟨some 186, some (185, true), .mov (.tmp 3)⟩,
                       ⟨some 187, none, .pick (.tmp 185) (.tmp 186) (.const (.bool false))⟩,
                       ⟨some 188, none, .mov (.tmp 187)⟩,
                       ⟨some 189, some (188, true), .mov (.tmp 4)⟩,
                       ⟨some 190, some (188, true), .bin .eql (.tmp 189) (.const (.int .i64 (3020001)))⟩,
                       ⟨some 191, none, .pick (.tmp 188) (.tmp 190) (.const (.bool false))⟩,
                       ⟨some 192, none, .mov (.tmp 191)⟩,
                       ⟨some 193, some (192, true), .mov (.tmp 30)⟩,
                       ⟨some 194, none, .pick (.tmp 192) (.tmp 193) (.const (.bool false))⟩,
                       ⟨some 195, none, .mov (.tmp 194)⟩,
                       ⟨some 196, some (195, true), .mov (.tmp 31)⟩,
                       ⟨some 197, some (195, true), .call 19 [(.tmp 196)]⟩,
                       ⟨some 198, some (195, true), .build [.int .i64 (0), .int .i64 (0)] [(0, 1, (.const (.int .i64 (2))))]⟩,
                       ⟨some 199, some (195, true), .eqF false [(0, .i), (1, .i)] (.tmp 197) (.tmp 198)⟩,
                       ⟨some 200, none, .pick (.tmp 195) (.tmp 199) (.const (.bool false))⟩,
                       ⟨some 201, none, .mov (.tmp 200)⟩,
                       ⟨some 202, some (201, true), .mov (.tmp 31)⟩,
                       ⟨some 203, some (201, true), .eq true true .iface (.tmp 202) (.const (.nilIface))⟩,
                       ⟨some 204, none, .pick (.tmp 201) (.tmp 203) (.const (.bool false))⟩,
                       ⟨some 205, none, .mov (.tmp 204)⟩,
                       ⟨some 206, some (205, true), .call 14 [(.const (.int .i64 (0))), (.const (.slice none 0 0))]⟩,
                       ⟨some 207, some (205, true), .eq false true .iface (.tmp 206) (.const (.nilIface))⟩,
                       ⟨some 208, none, .pick (.tmp 205) (.tmp 207) (.const (.bool false))⟩,
                       ⟨some 209, none, .mov (.tmp 208)⟩,
                       ⟨some 210, some (209, true), .mov (.tmp 33)⟩,
                       ⟨some 211, none, .pick (.tmp 209) (.tmp 210) (.const (.bool false))⟩,
                       ⟨some 212, none, .mov (.tmp 211)⟩,
                       ⟨some 213, some (212, true), .loadN 15 (.tmp 32)⟩,
                       ⟨some 214, some (212, true), .loadN 15 (.tmp 2)⟩,
                       ⟨some 215, some (212, true), .eqF false [(0, .i), (1, .i), (2, .b), (3, .b), (4, .b), (5, .b), (6, .b), (7, .b), (8, .b), (9, .b), (10, .b), (11, .b), (12, .b), (13, .b), (14, .b)] (.tmp 213) (.tmp 214)⟩,
                       ⟨some 216, none, .pick (.tmp 212) (.tmp 215) (.const (.bool false))⟩,
                       ⟨some 217, none, .mov (.tmp 216)⟩,
                       ⟨some 218, some (217, true), .call 21 [(.const (.slice none 0 0))]⟩,
                       ⟨some 219, some (217, true), .bin .eql (.tmp 218) (.const (.int .i64 (-1)))⟩,
                       ⟨some 220, none, .pick (.tmp 217) (.tmp 219) (.const (.bool false))⟩,
                       ⟨some 221, none, .mov (.tmp 220)⟩,
                       ⟨some 222, some (221, true), .call 16 [(.const (.int .i64 (5))), (.const (.int .i64 (0))), (.const (.int .i64 (0)))]⟩,
                       ⟨some 223, some (221, true), .call 16 [(.const (.int .i64 (12))), (.const (.int .i64 (0))), (.const (.int .i64 (0)))]⟩,
                       ⟨some 224, some (221, true), .bslice 31 2 [.int .i64 (0), .int .i64 (0), .int .i64 (0)] [(0, 3, (.tmp 222)), (3, 3, (.tmp 223))]⟩,
                       ⟨some 225, some (221, true), .call 21 [(.tmp 224)]⟩,
                       ⟨some 226, some (221, true), .bin .eql (.tmp 225) (.const (.int .i64 (1)))⟩,
                       ⟨some 227, none, .pick (.tmp 221) (.tmp 226) (.const (.bool false))⟩,
                       ⟨some 0, none, .mov (.tmp 227)⟩])
                     .ret))))))))))))))))))))⟩
theorem t8 : T 8 = some c8 := by kernel_rfl

end Go.Proofs.YtcfahggmejpdbaaDoor

