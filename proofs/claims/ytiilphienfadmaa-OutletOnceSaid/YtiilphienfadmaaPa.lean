/- The code of the functions of stage 21, as the framework reads it. -/
import Derived.Test.YtiilphienfadmaaAsZF
import Derived.Test.YtiilphienfadmaaChecked
import Derived.KernelRfl
namespace Go.Proofs.Ytiilphienfadmaa
open Go Go.AS
set_option maxRecDepth 100000
/-- plait/plaitlaw21.OutletOnce -/
def c3 : AFunc := ⟨100, 2, [.inl 4],
 (.seq
  (.ops [⟨some 4, none, .mov (.const (.bool false))⟩])
  (.seq
   (.ops [⟨some 10, none, .call 6 []⟩,
     ⟨some 5, none, .mov (.tmp 10)⟩])
   (.seq
    (.seq
     (.ops [⟨some 11, none, .mov (.tmp 5)⟩,
       ⟨some 12, none, .eq false true .ptr (.tmp 11) (.const (.pointer none))⟩,
       ⟨some 13, none, .mov (.tmp 12)⟩,
       ⟨some 14, some (13, false), .call 7 []⟩,
       ⟨some 15, some (13, false), .un .not (.tmp 14)⟩,
       ⟨some 16, none, .pick (.tmp 13) (.const (.bool true)) (.tmp 15)⟩])
     (.cond (.tmp 16)
      (.seq
       (.ops [⟨some 4, none, .mov (.const (.bool false))⟩])
       .ret)
      .skip))
    (.seq
     (.ops [⟨some 6, none, .mov (.const (.slice none 0 0))⟩,
       ⟨some 7, none, .mov (.const (.slice none 0 0))⟩])
     (.seq
      (.seq
       (.ops [⟨some 8, none, .mov (.const (.int .i64 (0)))⟩])
       (.block 0
        (.loop
         (.seq
          (.seq
           (.ops [⟨some 17, none, .mov (.tmp 8)⟩,
             ⟨some 18, none, .mov (.tmp 0)⟩,
             ⟨some 19, none, .lenV (.tmp 18)⟩,
             ⟨some 20, none, .bin .lss (.tmp 17) (.tmp 19)⟩,
             ⟨some 21, none, .mov (.tmp 20)⟩,
             ⟨some 22, some (21, true), .mov (.tmp 8)⟩,
             ⟨some 23, some (21, true), .bin .lss (.tmp 22) (.const (.int .i64 (40)))⟩,
             ⟨some 24, none, .pick (.tmp 21) (.tmp 23) (.const (.bool false))⟩])
           (.cond (.tmp 24)
            .skip
            (.exit 0)))
          (.seq
           (.block 1
            (.seq
             (.opsD [⟨some 27, none, .mov (.tmp 0)⟩,
               ⟨some 28, none, .mov (.tmp 8)⟩,
               ⟨some 29, none, .iaddrS 1 (.tmp 27) (.tmp 28)⟩,
               ⟨some 30, none, .load1 (.tmp 29)⟩,
               ⟨some 31, none, .mov (.tmp 0)⟩,
               ⟨some 32, none, .mov (.tmp 8)⟩,
               ⟨some 33, none, .iaddrS 1 (.tmp 31) (.tmp 32)⟩,
               ⟨some 34, none, .load1 (.tmp 33)⟩,
               ⟨some 35, none, .lenS (.tmp 34)⟩,
               ⟨some 36, none, .min [(.tmp 35), (.const (.int .i64 (50)))]⟩,
               ⟨some 37, none, .sliceS (.tmp 30) none (some (.tmp 36))⟩,
               ⟨some 9, none, .mov (.tmp 37)⟩] [])
             (.seq
              (.ops [⟨some 38, none, .mov (.tmp 5)⟩,
                ⟨some 39, none, .mov (.tmp 9)⟩,
                ⟨some 40, none, .mov (.tmp 8)⟩,
                ⟨some 41, none, .call 8 [(.tmp 38), (.tmp 39), (.tmp 40)]⟩])
              (.seq
               (.seq
                (.ops [⟨some 42, none, .mov (.tmp 9)⟩,
                  ⟨some 43, none, .bin .neq (.tmp 42) (.const (.string ⟨⟨[]⟩⟩))⟩])
                (.cond (.tmp 43)
                 (.ops [⟨some 44, none, .mov (.tmp 6)⟩,
                   ⟨some 45, none, .mov (.tmp 8)⟩,
                   ⟨some 46, none, .bslice 3 1 [.int .i64 (0)] [(0, 1, (.tmp 45))]⟩,
                   ⟨some 47, none, .append 3 1 8 (.tmp 44) (.tmp 46)⟩,
                   ⟨some 6, none, .mov (.tmp 47)⟩])
                 .skip))
               (.seq
                (.seq
                 (.ops [⟨some 48, none, .mov (.tmp 8)⟩,
                   ⟨some 49, none, .mov (.tmp 1)⟩,
                   ⟨some 50, none, .lenV (.tmp 49)⟩,
                   ⟨some 51, none, .bin .lss (.tmp 48) (.tmp 50)⟩])
                 (.cond (.tmp 51)
                  (.opsD [⟨some 52, none, .mov (.tmp 7)⟩,
                    ⟨some 53, none, .mov (.tmp 5)⟩,
                    ⟨some 54, none, .mov (.tmp 1)⟩,
                    ⟨some 55, none, .mov (.tmp 8)⟩,
                    ⟨some 56, none, .iaddrS 1 (.tmp 54) (.tmp 55)⟩,
                    ⟨some 57, none, .load1 (.tmp 56)⟩,
                    ⟨some 58, none, .cvInt .i64 (.tmp 57)⟩,
                    ⟨some 59, none, .mov (.tmp 5)⟩,
                    ⟨some 60, none, .call 10 [(.tmp 59)]⟩,
                    ⟨some 61, none, .bin .add (.tmp 60) (.const (.int .i64 (2)))⟩,
                    ⟨some 62, none, .bin .rem (.tmp 58) (.tmp 61)⟩,
                    ⟨some 63, none, .call 9 [(.tmp 53), (.tmp 62)]⟩,
                    ⟨some 64, none, .append 3 1 8 (.tmp 52) (.tmp 63)⟩,
                    ⟨some 7, none, .mov (.tmp 64)⟩] [(5, 8), (5, 9)])
                  .skip))
                (.seq
                 (.ops [⟨some 65, none, .mov (.tmp 7)⟩,
                   ⟨some 66, none, .lenV (.tmp 65)⟩,
                   ⟨some 67, none, .mov (.tmp 5)⟩,
                   ⟨some 68, none, .call 11 [(.tmp 67)]⟩,
                   ⟨some 69, none, .bin .add (.tmp 66) (.tmp 68)⟩,
                   ⟨some 70, none, .mov (.tmp 6)⟩,
                   ⟨some 71, none, .lenV (.tmp 70)⟩,
                   ⟨some 72, none, .bin .neq (.tmp 69) (.tmp 71)⟩])
                 (.cond (.tmp 72)
                  (.seq
                   (.ops [⟨some 4, none, .mov (.const (.bool false))⟩])
                   .ret)
                  .skip)))))))
           (.ops [⟨some 25, none, .mov (.tmp 8)⟩,
             ⟨some 26, none, .bin .add (.tmp 25) (.const (.int .i64 (1)))⟩,
             ⟨some 8, none, .mov (.tmp 26)⟩]))))))
      (.seq
       (.ops [⟨some 73, none, .mov (.tmp 7)⟩,
         ⟨some 74, none, .mov (.tmp 5)⟩,
         ⟨some 75, none, .mov (.tmp 5)⟩,
         ⟨some 76, none, .call 10 [(.tmp 75)]⟩,
         ⟨some 77, none, .call 9 [(.tmp 74), (.tmp 76)]⟩,
         ⟨some 78, none, .append 3 1 8 (.tmp 73) (.tmp 77)⟩,
         ⟨some 7, none, .mov (.tmp 78)⟩])
       (.seq
        (.ops [⟨some 79, none, .mov (.tmp 7)⟩,
          ⟨some 80, none, .mov (.tmp 6)⟩,
          ⟨some 81, none, .call 12 [(.tmp 79), (.tmp 80)]⟩,
          ⟨some 82, none, .mov (.tmp 81)⟩,
          ⟨some 83, some (82, true), .mov (.tmp 5)⟩,
          ⟨some 84, some (82, true), .call 11 [(.tmp 83)]⟩,
          ⟨some 85, some (82, true), .bin .eql (.tmp 84) (.const (.int .i64 (0)))⟩,
          ⟨some 86, none, .pick (.tmp 82) (.tmp 85) (.const (.bool false))⟩,
          ⟨some 87, none, .mov (.tmp 86)⟩,
          ⟨some 88, some (87, true), .mov (.tmp 5)⟩,
          ⟨some 89, some (87, true), .call 13 [(.tmp 88)]⟩,
          ⟨some 90, some (87, true), .lenV (.tmp 89)⟩,
          ⟨some 91, some (87, true), .bin .eql (.tmp 90) (.const (.int .i64 (0)))⟩,
          ⟨some 92, none, .pick (.tmp 87) (.tmp 91) (.const (.bool false))⟩,
          ⟨some 93, none, .mov (.tmp 92)⟩,
          ⟨some 94, some (93, true), .mov (.tmp 5)⟩,
          ⟨some 95, some (93, true), .call 14 [(.tmp 94)]⟩,
          ⟨some 96, some (93, true), .mov (.tmp 5)⟩,
          ⟨some 97, some (93, true), .call 10 [(.tmp 96)]⟩,
          ⟨some 98, some (93, true), .bin .eql (.tmp 95) (.tmp 97)⟩,
          ⟨some 99, none, .pick (.tmp 93) (.tmp 98) (.const (.bool false))⟩,
          ⟨some 4, none, .mov (.tmp 99)⟩])
        .ret)))))))⟩

def c4v : ACode :=
 (.seq
              (.ops [⟨some 133, none, .mov (.tmp 11)⟩,
                ⟨some 134, none, .mov (.tmp 6)⟩,
                ⟨some 135, none, .mov (.tmp 10)⟩,
                ⟨some 136, none, .iaddrS 3 (.tmp 135) (.const (.int .i64 (0)))⟩,
                ⟨some 137, none, .faddr 0 (.tmp 136)⟩,
                ⟨some 138, none, .load1 (.tmp 137)⟩,
                ⟨some 139, none, .sliceS (.tmp 134) (some (.tmp 138)) none⟩,
                ⟨some 140, none, .bin .eql (.tmp 133) (.tmp 139)⟩,
                ⟨some 141, none, .mov (.tmp 140)⟩,
                ⟨some 142, some (141, true), .mov (.tmp 5)⟩,
                ⟨some 143, some (141, true), .call 14 [(.tmp 142)]⟩,
                ⟨some 144, some (141, true), .mov (.tmp 9)⟩,
                ⟨some 145, some (141, true), .bin .eql (.tmp 143) (.tmp 144)⟩,
                ⟨some 146, none, .pick (.tmp 141) (.tmp 145) (.const (.bool false))⟩,
                ⟨some 4, none, .mov (.tmp 146)⟩])
              .ret)

def c4u : ACode :=
 (.seq
           (.seq
            (.opsD [⟨some 74, none, .mov (.tmp 10)⟩,
              ⟨some 75, none, .lenV (.tmp 74)⟩,
              ⟨some 76, none, .bin .eql (.tmp 75) (.const (.int .i64 (0)))⟩,
              ⟨some 77, none, .mov (.tmp 76)⟩,
              ⟨some 78, some (77, false), .mov (.tmp 10)⟩,
              ⟨some 79, some (77, false), .iaddrS 3 (.tmp 78) (.const (.int .i64 (0)))⟩,
              ⟨some 80, some (77, false), .faddr 0 (.tmp 79)⟩,
              ⟨some 81, some (77, false), .load1 (.tmp 80)⟩,
              ⟨some 82, some (77, false), .mov (.tmp 9)⟩,
              ⟨some 83, some (77, false), .bin .gtr (.tmp 81) (.tmp 82)⟩,
              ⟨some 84, none, .pick (.tmp 77) (.const (.bool true)) (.tmp 83)⟩,
              ⟨some 85, none, .mov (.tmp 84)⟩,
              ⟨some 86, some (85, false), .mov (.tmp 10)⟩,
              ⟨some 87, some (85, false), .iaddrS 3 (.tmp 86) (.const (.int .i64 (0)))⟩,
              ⟨some 88, some (85, false), .faddr 0 (.tmp 87)⟩,
              ⟨some 89, some (85, false), .load1 (.tmp 88)⟩,
              ⟨some 90, some (85, false), .mov (.tmp 10)⟩,
              ⟨some 91, some (85, false), .iaddrS 3 (.tmp 90) (.const (.int .i64 (0)))⟩,
              ⟨some 92, some (85, false), .faddr 2 (.tmp 91)⟩,
              ⟨some 93, some (85, false), .load1 (.tmp 92)⟩,
              ⟨some 94, some (85, false), .lenS (.tmp 93)⟩,
              ⟨some 95, some (85, false), .bin .add (.tmp 89) (.tmp 94)⟩,
              ⟨some 96, some (85, false), .mov (.tmp 9)⟩,
              ⟨some 97, some (85, false), .bin .leq (.tmp 95) (.tmp 96)⟩,
              ⟨some 98, none, .pick (.tmp 85) (.const (.bool true)) (.tmp 97)⟩] [])
            (.cond (.tmp 98)
             (.seq
              (.ops [⟨some 4, none, .mov (.const (.bool false))⟩])
              .ret)
             .skip))
           (.seq
            (.ops [⟨some 11, none, .mov (.const (.string ⟨⟨[]⟩⟩))⟩])
            (.seq
             (.seq
              (.ops [⟨some 12, none, .mov (.const (.int .i64 (0)))⟩])
              (.block 2
               (.loop
                (.seq
                 (.seq
                  (.ops [⟨some 99, none, .mov (.tmp 12)⟩,
                    ⟨some 100, none, .mov (.tmp 10)⟩,
                    ⟨some 101, none, .lenV (.tmp 100)⟩,
                    ⟨some 102, none, .bin .lss (.tmp 99) (.tmp 101)⟩])
                  (.cond (.tmp 102)
                   .skip
                   (.exit 2)))
                 (.seq
                  (.block 3
                   (.seq
                    (.seq
                     (.opsD [⟨some 105, none, .mov (.tmp 10)⟩,
                       ⟨some 106, none, .mov (.tmp 12)⟩,
                       ⟨some 107, none, .iaddrS 3 (.tmp 105) (.tmp 106)⟩,
                       ⟨some 108, none, .faddr 0 (.tmp 107)⟩,
                       ⟨some 109, none, .load1 (.tmp 108)⟩,
                       ⟨some 110, none, .mov (.tmp 10)⟩,
                       ⟨some 111, none, .iaddrS 3 (.tmp 110) (.const (.int .i64 (0)))⟩,
                       ⟨some 112, none, .faddr 0 (.tmp 111)⟩,
                       ⟨some 113, none, .load1 (.tmp 112)⟩,
                       ⟨some 114, none, .mov (.tmp 11)⟩,
                       ⟨some 115, none, .lenS (.tmp 114)⟩,
                       ⟨some 116, none, .bin .add (.tmp 113) (.tmp 115)⟩,
                       ⟨some 117, none, .bin .neq (.tmp 109) (.tmp 116)⟩,
                       ⟨some 118, none, .mov (.tmp 117)⟩,
                       ⟨some 119, some (118, false), .mov (.tmp 10)⟩,
                       ⟨some 120, some (118, false), .mov (.tmp 12)⟩,
                       ⟨some 121, some (118, false), .iaddrS 3 (.tmp 119) (.tmp 120)⟩,
                       ⟨some 122, some (118, false), .faddr 2 (.tmp 121)⟩,
                       ⟨some 123, some (118, false), .load1 (.tmp 122)⟩,
                       ⟨some 124, some (118, false), .bin .eql (.tmp 123) (.const (.string ⟨⟨[]⟩⟩))⟩,
                       ⟨some 125, none, .pick (.tmp 118) (.const (.bool true)) (.tmp 124)⟩] [])
                     (.cond (.tmp 125)
                      (.seq
                       (.ops [⟨some 4, none, .mov (.const (.bool false))⟩])
                       .ret)
                      .skip))
                    (.ops [⟨some 126, none, .mov (.tmp 11)⟩,
                      ⟨some 127, none, .mov (.tmp 10)⟩,
                      ⟨some 128, none, .mov (.tmp 12)⟩,
                      ⟨some 129, none, .iaddrS 3 (.tmp 127) (.tmp 128)⟩,
                      ⟨some 130, none, .faddr 2 (.tmp 129)⟩,
                      ⟨some 131, none, .load1 (.tmp 130)⟩,
                      ⟨some 132, none, .bin .add (.tmp 126) (.tmp 131)⟩,
                      ⟨some 11, none, .mov (.tmp 132)⟩])))
                  (.ops [⟨some 103, none, .mov (.tmp 12)⟩,
                    ⟨some 104, none, .bin .add (.tmp 103) (.const (.int .i64 (1)))⟩,
                    ⟨some 12, none, .mov (.tmp 104)⟩]))))))
             c4v)))

def c4t : ACode :=
 (.seq
       (.ops [⟨some 50, none, .mov (.tmp 1)⟩,
         ⟨some 51, none, .cvInt .i64 (.tmp 50)⟩,
         ⟨some 52, none, .mov (.tmp 6)⟩,
         ⟨some 53, none, .lenS (.tmp 52)⟩,
         ⟨some 54, none, .bin .add (.tmp 53) (.const (.int .i64 (1)))⟩,
         ⟨some 55, none, .bin .rem (.tmp 51) (.tmp 54)⟩,
         ⟨some 9, none, .mov (.tmp 55)⟩])
       (.seq
        (.ops [⟨some 56, none, .mov (.tmp 5)⟩,
          ⟨some 57, none, .mov (.tmp 9)⟩,
          ⟨some 58, none, .call 9 [(.tmp 56), (.tmp 57)]⟩])
        (.seq
         (.ops [⟨some 59, none, .mov (.tmp 5)⟩,
           ⟨some 60, none, .call 13 [(.tmp 59)]⟩,
           ⟨some 10, none, .mov (.tmp 60)⟩])
         (.seq
          (.seq
           (.ops [⟨some 61, none, .mov (.tmp 9)⟩,
             ⟨some 62, none, .mov (.tmp 6)⟩,
             ⟨some 63, none, .lenS (.tmp 62)⟩,
             ⟨some 64, none, .bin .eql (.tmp 61) (.tmp 63)⟩])
           (.cond (.tmp 64)
            (.seq
             (.ops [⟨some 65, none, .mov (.tmp 10)⟩,
               ⟨some 66, none, .lenV (.tmp 65)⟩,
               ⟨some 67, none, .bin .eql (.tmp 66) (.const (.int .i64 (0)))⟩,
               ⟨some 68, none, .mov (.tmp 67)⟩,
               ⟨some 69, some (68, true), .mov (.tmp 5)⟩,
               ⟨some 70, some (68, true), .call 14 [(.tmp 69)]⟩,
               ⟨some 71, some (68, true), .mov (.tmp 9)⟩,
               ⟨some 72, some (68, true), .bin .eql (.tmp 70) (.tmp 71)⟩,
               ⟨some 73, none, .pick (.tmp 68) (.tmp 72) (.const (.bool false))⟩,
               ⟨some 4, none, .mov (.tmp 73)⟩])
             .ret)
            .skip))
          c4u))))

/-- plait/plaitlaw21.OutletStream -/
def c4 : AFunc := ⟨147, 2, [.inl 4],
 (.seq
  (.ops [⟨some 4, none, .mov (.const (.bool false))⟩])
  (.seq
   (.ops [⟨some 13, none, .call 6 []⟩,
     ⟨some 5, none, .mov (.tmp 13)⟩])
   (.seq
    (.seq
     (.ops [⟨some 14, none, .mov (.tmp 5)⟩,
       ⟨some 15, none, .eq false true .ptr (.tmp 14) (.const (.pointer none))⟩,
       ⟨some 16, none, .mov (.tmp 15)⟩,
       ⟨some 17, some (16, false), .call 7 []⟩,
       ⟨some 18, some (16, false), .un .not (.tmp 17)⟩,
       ⟨some 19, none, .pick (.tmp 16) (.const (.bool true)) (.tmp 18)⟩])
     (.cond (.tmp 19)
      (.seq
       (.ops [⟨some 4, none, .mov (.const (.bool false))⟩])
       .ret)
      .skip))
    (.seq
     (.ops [⟨some 6, none, .mov (.const (.string ⟨⟨[]⟩⟩))⟩])
     (.seq
      (.seq
       (.ops [⟨some 7, none, .mov (.const (.int .i64 (0)))⟩])
       (.block 0
        (.loop
         (.seq
          (.seq
           (.ops [⟨some 20, none, .mov (.tmp 7)⟩,
             ⟨some 21, none, .mov (.tmp 0)⟩,
             ⟨some 22, none, .lenV (.tmp 21)⟩,
             ⟨some 23, none, .bin .lss (.tmp 20) (.tmp 22)⟩,
             ⟨some 24, none, .mov (.tmp 23)⟩,
             ⟨some 25, some (24, true), .mov (.tmp 7)⟩,
             ⟨some 26, some (24, true), .bin .lss (.tmp 25) (.const (.int .i64 (40)))⟩,
             ⟨some 27, none, .pick (.tmp 24) (.tmp 26) (.const (.bool false))⟩])
           (.cond (.tmp 27)
            .skip
            (.exit 0)))
          (.seq
           (.block 1
            (.seq
             (.opsD [⟨some 30, none, .mov (.tmp 0)⟩,
               ⟨some 31, none, .mov (.tmp 7)⟩,
               ⟨some 32, none, .iaddrS 1 (.tmp 30) (.tmp 31)⟩,
               ⟨some 33, none, .load1 (.tmp 32)⟩,
               ⟨some 34, none, .mov (.tmp 0)⟩,
               ⟨some 35, none, .mov (.tmp 7)⟩,
               ⟨some 36, none, .iaddrS 1 (.tmp 34) (.tmp 35)⟩,
               ⟨some 37, none, .load1 (.tmp 36)⟩,
               ⟨some 38, none, .lenS (.tmp 37)⟩,
               ⟨some 39, none, .min [(.tmp 38), (.const (.int .i64 (50)))]⟩,
               ⟨some 40, none, .sliceS (.tmp 33) none (some (.tmp 39))⟩,
               ⟨some 8, none, .mov (.tmp 40)⟩] [])
             (.seq
              (.seq
               (.ops [⟨some 41, none, .mov (.tmp 5)⟩,
                 ⟨some 42, none, .mov (.tmp 8)⟩,
                 ⟨some 43, none, .call 8 [(.tmp 41), (.tmp 42), (.const (.int .i64 (0)))]⟩,
                 ⟨some 44, none, .mov (.tmp 6)⟩,
                 ⟨some 45, none, .lenS (.tmp 44)⟩,
                 ⟨some 46, none, .bin .neq (.tmp 43) (.tmp 45)⟩])
               (.cond (.tmp 46)
                (.seq
                 (.ops [⟨some 4, none, .mov (.const (.bool false))⟩])
                 .ret)
                .skip))
              (.ops [⟨some 47, none, .mov (.tmp 6)⟩,
                ⟨some 48, none, .mov (.tmp 8)⟩,
                ⟨some 49, none, .bin .add (.tmp 47) (.tmp 48)⟩,
                ⟨some 6, none, .mov (.tmp 49)⟩]))))
           (.ops [⟨some 28, none, .mov (.tmp 7)⟩,
             ⟨some 29, none, .bin .add (.tmp 28) (.const (.int .i64 (1)))⟩,
             ⟨some 7, none, .mov (.tmp 29)⟩]))))))
      c4t)))))⟩

/-- plait/outlet.New -/
def c6 : AFunc := ⟨3, 0, [.inl 0],
 (.seq
  (.ops [⟨some 0, none, .mov (.const (.pointer none))⟩])
  (.seq
   (.ops [⟨some 1, none, .build [.slice none 0 0, .int .i64 (0), .int .i64 (0)] []⟩,
     ⟨some 2, none, .box 40 3 (.tmp 1)⟩,
     ⟨some 0, none, .mov (.tmp 2)⟩])
   .ret))⟩

/-- (*plait/outlet.Out).Push -/
def c8 : AFunc := ⟨36, 3, [.inl 6],
 (.seq
  (.ops [⟨some 6, none, .mov (.const (.int .i64 (0)))⟩])
  (.seq
   (.seq
    (.ops [⟨some 8, none, .mov (.tmp 0)⟩,
      ⟨some 9, none, .eq false true .ptr (.tmp 8) (.const (.pointer none))⟩])
    (.cond (.tmp 9)
     (.seq
      (.ops [⟨some 6, none, .mov (.const (.int .i64 (0)))⟩])
      .ret)
     .skip))
   (.seq
    (.ops [⟨some 10, none, .mov (.tmp 0)⟩,
      ⟨some 11, none, .nilchk (.tmp 10)⟩,
      ⟨some 12, none, .faddr 1 (.tmp 11)⟩,
      ⟨some 13, none, .load1 (.tmp 12)⟩,
      ⟨some 14, none, .mov (.tmp 2)⟩,
      ⟨some 15, none, .mov (.tmp 1)⟩,
      ⟨some 16, none, .build [.int .i64 (0), .int .i64 (0), .string ⟨⟨[]⟩⟩] [(0, 1, (.tmp 13)), (1, 1, (.tmp 14)), (2, 1, (.tmp 15))]⟩,
      ⟨some 7, none, .alloc 37 [.int .i64 (0), .int .i64 (0), .string ⟨⟨[]⟩⟩]⟩,
      ⟨none, none, .store 3 (.tmp 7) (.tmp 16)⟩])
    (.seq
     (.seq
      (.ops [⟨some 17, none, .mov (.tmp 0)⟩,
        ⟨some 18, none, .loadN 3 (.tmp 7)⟩,
        ⟨some 19, none, .call 15 [(.tmp 18)]⟩,
        ⟨some 20, none, .nilchk (.tmp 17)⟩,
        ⟨some 21, none, .faddr 1 (.tmp 20)⟩,
        ⟨none, none, .store 1 (.tmp 21) (.tmp 19)⟩])
      (.seq
       (.ops [⟨some 22, none, .mov (.tmp 1)⟩,
         ⟨some 23, none, .bin .neq (.tmp 22) (.const (.string ⟨⟨[]⟩⟩))⟩])
       (.cond (.tmp 23)
        (.opsD [⟨some 24, none, .mov (.tmp 0)⟩,
          ⟨some 25, none, .mov (.tmp 0)⟩,
          ⟨some 26, none, .nilchk (.tmp 25)⟩,
          ⟨some 27, none, .faddr 0 (.tmp 26)⟩,
          ⟨some 28, none, .load1 (.tmp 27)⟩,
          ⟨some 29, none, .loadN 3 (.tmp 7)⟩,
          ⟨some 30, none, .bslice 37 1 [.int .i64 (0), .int .i64 (0), .string ⟨⟨[]⟩⟩] [(0, 3, (.tmp 29))]⟩,
          ⟨some 31, none, .append 37 3 32 (.tmp 28) (.tmp 30)⟩,
          ⟨some 32, none, .nilchk (.tmp 24)⟩,
          ⟨some 33, none, .faddr 0 (.tmp 32)⟩,
          ⟨none, none, .store 1 (.tmp 33) (.tmp 31)⟩] [])
        .skip)))
     (.seq
      (.ops [⟨some 34, none, .faddr 0 (.tmp 7)⟩,
        ⟨some 35, none, .load1 (.tmp 34)⟩,
        ⟨some 6, none, .mov (.tmp 35)⟩])
      .ret)))))⟩

/-- (*plait/outlet.Out).Ack -/
def c9 : AFunc := ⟨58, 2, [.inr (4, 1, false)],
 (.seq
  (.ops [⟨some 4, none, .alloc 27 [.slice none 0 0]⟩])
  (.seq
   (.seq
    (.ops [⟨some 6, none, .mov (.tmp 0)⟩,
      ⟨some 7, none, .eq false true .ptr (.tmp 6) (.const (.pointer none))⟩,
      ⟨some 8, none, .mov (.tmp 7)⟩,
      ⟨some 9, some (8, false), .mov (.tmp 1)⟩,
      ⟨some 10, some (8, false), .mov (.tmp 0)⟩,
      ⟨some 11, some (8, false), .nilchk (.tmp 10)⟩,
      ⟨some 12, some (8, false), .faddr 2 (.tmp 11)⟩,
      ⟨some 13, some (8, false), .load1 (.tmp 12)⟩,
      ⟨some 14, some (8, false), .bin .leq (.tmp 9) (.tmp 13)⟩,
      ⟨some 15, none, .pick (.tmp 8) (.const (.bool true)) (.tmp 14)⟩,
      ⟨some 16, none, .mov (.tmp 15)⟩,
      ⟨some 17, some (16, false), .mov (.tmp 1)⟩,
      ⟨some 18, some (16, false), .mov (.tmp 0)⟩,
      ⟨some 19, some (16, false), .nilchk (.tmp 18)⟩,
      ⟨some 20, some (16, false), .faddr 1 (.tmp 19)⟩,
      ⟨some 21, some (16, false), .load1 (.tmp 20)⟩,
      ⟨some 22, some (16, false), .bin .gtr (.tmp 17) (.tmp 21)⟩,
      ⟨some 23, none, .pick (.tmp 16) (.const (.bool true)) (.tmp 22)⟩])
    (.cond (.tmp 23)
     (.seq
      (.ops [⟨none, none, .store 1 (.tmp 4) (.const (.slice none 0 0))⟩])
      .ret)
     .skip))
   (.seq
    (.seq
     (.ops [⟨some 24, none, .mov (.tmp 0)⟩,
       ⟨some 25, none, .mov (.tmp 1)⟩,
       ⟨some 26, none, .call 16 [(.tmp 24), (.tmp 25)]⟩])
     (.block 0
      (.rangeFunc (.tmp 26) [27]
       (.ops [⟨some 5, none, .alloc 37 [.int .i64 (0), .int .i64 (0), .string ⟨⟨[]⟩⟩]⟩,
         ⟨none, none, .store 3 (.tmp 5) (.tmp 27)⟩])
       (.block 1
        (.ops [⟨some 28, none, .load1 (.tmp 4)⟩,
          ⟨some 29, none, .faddr 1 (.tmp 5)⟩,
          ⟨some 30, none, .load1 (.tmp 29)⟩,
          ⟨some 31, none, .bslice 3 1 [.int .i64 (0)] [(0, 1, (.tmp 30))]⟩,
          ⟨some 32, none, .append 3 1 8 (.tmp 28) (.tmp 31)⟩,
          ⟨none, none, .store 1 (.tmp 4) (.tmp 32)⟩])))))
    (.seq
     (.opsD [⟨some 33, none, .mov (.tmp 0)⟩,
       ⟨some 34, none, .mov (.tmp 0)⟩,
       ⟨some 35, none, .nilchk (.tmp 34)⟩,
       ⟨some 36, none, .faddr 0 (.tmp 35)⟩,
       ⟨some 37, none, .load1 (.tmp 36)⟩,
       ⟨some 38, none, .load1 (.tmp 4)⟩,
       ⟨some 39, none, .lenV (.tmp 38)⟩,
       ⟨some 40, none, .mov (.tmp 0)⟩,
       ⟨some 41, none, .nilchk (.tmp 40)⟩,
       ⟨some 42, none, .faddr 0 (.tmp 41)⟩,
       ⟨some 43, none, .load1 (.tmp 42)⟩,
       ⟨some 44, none, .lenV (.tmp 43)⟩,
       ⟨some 45, none, .mov (.tmp 0)⟩,
       ⟨some 46, none, .nilchk (.tmp 45)⟩,
       ⟨some 47, none, .faddr 0 (.tmp 46)⟩,
       ⟨some 48, none, .load1 (.tmp 47)⟩,
       ⟨some 49, none, .lenV (.tmp 48)⟩,
       ⟨some 50, none, .sliceV 3 (.tmp 37) (some (.tmp 39)) (some (.tmp 44)) (some (.tmp 49))⟩,
       ⟨some 51, none, .nilchk (.tmp 33)⟩,
       ⟨some 52, none, .faddr 0 (.tmp 51)⟩,
       ⟨none, none, .store 1 (.tmp 52) (.tmp 50)⟩] [])
     (.seq
      (.ops [⟨some 53, none, .mov (.tmp 0)⟩,
        ⟨some 54, none, .mov (.tmp 1)⟩,
        ⟨some 55, none, .nilchk (.tmp 53)⟩,
        ⟨some 56, none, .faddr 2 (.tmp 55)⟩,
        ⟨none, none, .store 1 (.tmp 56) (.tmp 54)⟩])
      (.seq
       (.ops [⟨some 57, none, .load1 (.tmp 4)⟩,
         ⟨none, none, .store 1 (.tmp 4) (.tmp 57)⟩])
       .ret))))))⟩

/-- (*plait/outlet.Out).End -/
def c10 : AFunc := ⟨9, 1, [.inl 2],
 (.seq
  (.ops [⟨some 2, none, .mov (.const (.int .i64 (0)))⟩])
  (.seq
   (.seq
    (.ops [⟨some 3, none, .mov (.tmp 0)⟩,
      ⟨some 4, none, .eq false true .ptr (.tmp 3) (.const (.pointer none))⟩])
    (.cond (.tmp 4)
     (.seq
      (.ops [⟨some 2, none, .mov (.const (.int .i64 (0)))⟩])
      .ret)
     .skip))
   (.seq
    (.ops [⟨some 5, none, .mov (.tmp 0)⟩,
      ⟨some 6, none, .nilchk (.tmp 5)⟩,
      ⟨some 7, none, .faddr 1 (.tmp 6)⟩,
      ⟨some 8, none, .load1 (.tmp 7)⟩,
      ⟨some 2, none, .mov (.tmp 8)⟩])
    .ret)))⟩

/-- (*plait/outlet.Out).Flight -/
def c11 : AFunc := ⟨10, 1, [.inl 2],
 (.seq
  (.ops [⟨some 2, none, .mov (.const (.int .i64 (0)))⟩])
  (.seq
   (.seq
    (.ops [⟨some 3, none, .mov (.tmp 0)⟩,
      ⟨some 4, none, .eq false true .ptr (.tmp 3) (.const (.pointer none))⟩])
    (.cond (.tmp 4)
     (.seq
      (.ops [⟨some 2, none, .mov (.const (.int .i64 (0)))⟩])
      .ret)
     .skip))
   (.seq
    (.ops [⟨some 5, none, .mov (.tmp 0)⟩,
      ⟨some 6, none, .nilchk (.tmp 5)⟩,
      ⟨some 7, none, .faddr 0 (.tmp 6)⟩,
      ⟨some 8, none, .load1 (.tmp 7)⟩,
      ⟨some 9, none, .lenV (.tmp 8)⟩,
      ⟨some 2, none, .mov (.tmp 9)⟩])
    .ret)))⟩

/-- plait/plaitref21.Ints -/
def c12 : AFunc := ⟨26, 2, [.inl 4],
 (.seq
  (.ops [⟨some 4, none, .mov (.const (.bool false))⟩])
  (.seq
   (.seq
    (.ops [⟨some 6, none, .mov (.tmp 0)⟩,
      ⟨some 7, none, .lenV (.tmp 6)⟩,
      ⟨some 8, none, .mov (.tmp 1)⟩,
      ⟨some 9, none, .lenV (.tmp 8)⟩,
      ⟨some 10, none, .bin .neq (.tmp 7) (.tmp 9)⟩])
    (.cond (.tmp 10)
     (.seq
      (.ops [⟨some 4, none, .mov (.const (.bool false))⟩])
      .ret)
     .skip))
   (.seq
    (.seq
     (.ops [⟨some 5, none, .mov (.const (.int .i64 (0)))⟩])
     (.block 0
      (.loop
       (.seq
        (.seq
         (.ops [⟨some 11, none, .mov (.tmp 5)⟩,
           ⟨some 12, none, .mov (.tmp 0)⟩,
           ⟨some 13, none, .lenV (.tmp 12)⟩,
           ⟨some 14, none, .bin .lss (.tmp 11) (.tmp 13)⟩])
         (.cond (.tmp 14)
          .skip
          (.exit 0)))
        (.seq
         (.block 1
          (.seq
           (.opsD [⟨some 17, none, .mov (.tmp 0)⟩,
             ⟨some 18, none, .mov (.tmp 5)⟩,
             ⟨some 19, none, .iaddrS 1 (.tmp 17) (.tmp 18)⟩,
             ⟨some 20, none, .load1 (.tmp 19)⟩,
             ⟨some 21, none, .mov (.tmp 1)⟩,
             ⟨some 22, none, .mov (.tmp 5)⟩,
             ⟨some 23, none, .iaddrS 1 (.tmp 21) (.tmp 22)⟩,
             ⟨some 24, none, .load1 (.tmp 23)⟩,
             ⟨some 25, none, .bin .neq (.tmp 20) (.tmp 24)⟩] [])
           (.cond (.tmp 25)
            (.seq
             (.ops [⟨some 4, none, .mov (.const (.bool false))⟩])
             .ret)
            .skip)))
         (.ops [⟨some 15, none, .mov (.tmp 5)⟩,
           ⟨some 16, none, .bin .add (.tmp 15) (.const (.int .i64 (1)))⟩,
           ⟨some 5, none, .mov (.tmp 16)⟩]))))))
    (.seq
     (.ops [⟨some 4, none, .mov (.const (.bool true))⟩])
     .ret))))⟩

/-- (*plait/outlet.Out).Due -/
def c13 : AFunc := ⟨10, 1, [.inl 2],
 (.seq
  (.ops [⟨some 2, none, .mov (.const (.slice none 0 0))⟩])
  (.seq
   (.seq
    (.ops [⟨some 3, none, .mov (.tmp 0)⟩,
      ⟨some 4, none, .eq false true .ptr (.tmp 3) (.const (.pointer none))⟩])
    (.cond (.tmp 4)
     (.seq
      (.ops [⟨some 2, none, .mov (.const (.slice none 0 0))⟩])
      .ret)
     .skip))
   (.seq
    (.ops [⟨some 5, none, .mov (.tmp 0)⟩,
      ⟨some 6, none, .nilchk (.tmp 5)⟩,
      ⟨some 7, none, .faddr 0 (.tmp 6)⟩,
      ⟨some 8, none, .load1 (.tmp 7)⟩,
      ⟨some 9, none, .append 37 3 32 (.const (.slice none 0 0)) (.tmp 8)⟩,
      ⟨some 2, none, .mov (.tmp 9)⟩])
    .ret)))⟩

/-- (*plait/outlet.Out).Una -/
def c14 : AFunc := ⟨9, 1, [.inl 2],
 (.seq
  (.ops [⟨some 2, none, .mov (.const (.int .i64 (0)))⟩])
  (.seq
   (.seq
    (.ops [⟨some 3, none, .mov (.tmp 0)⟩,
      ⟨some 4, none, .eq false true .ptr (.tmp 3) (.const (.pointer none))⟩])
    (.cond (.tmp 4)
     (.seq
      (.ops [⟨some 2, none, .mov (.const (.int .i64 (0)))⟩])
      .ret)
     .skip))
   (.seq
    (.ops [⟨some 5, none, .mov (.tmp 0)⟩,
      ⟨some 6, none, .nilchk (.tmp 5)⟩,
      ⟨some 7, none, .faddr 2 (.tmp 6)⟩,
      ⟨some 8, none, .load1 (.tmp 7)⟩,
      ⟨some 2, none, .mov (.tmp 8)⟩])
    .ret)))⟩

/-- (plait/outlet.Piece).end -/
def c15 : AFunc := ⟨9, 1, [.inl 2],
 (.seq
  (.ops [⟨some 1, none, .box 37 3 (.tmp 0)⟩,
    ⟨some 2, none, .mov (.const (.int .i64 (0)))⟩])
  (.seq
   (.ops [⟨some 3, none, .faddr 0 (.tmp 1)⟩,
     ⟨some 4, none, .load1 (.tmp 3)⟩,
     ⟨some 5, none, .faddr 2 (.tmp 1)⟩,
     ⟨some 6, none, .load1 (.tmp 5)⟩,
     ⟨some 7, none, .lenS (.tmp 6)⟩,
     ⟨some 8, none, .bin .add (.tmp 4) (.tmp 7)⟩,
     ⟨some 2, none, .mov (.tmp 8)⟩])
   .ret))⟩

/-- (*plait/outlet.Out).over -/
def c16 : AFunc := ⟨6, 2, [.inl 4],
 (.seq
  (.ops [⟨some 2, none, .box 24 1 (.tmp 0)⟩,
    ⟨some 3, none, .box 3 1 (.tmp 1)⟩,
    ⟨some 4, none, .mov (.const (.nilFunc))⟩])
  (.seq
   (.ops [⟨some 5, none, .mkF 17 [] [(.tmp 2), (.tmp 3)]⟩,
     ⟨some 4, none, .mov (.tmp 5)⟩])
   .ret))⟩

/-- (*plait/outlet.Out).over$1 -/
def c17 : AFunc := ⟨26, 3, [],
 (.seq
  (.ops [⟨some 6, none, .load1 (.tmp 1)⟩,
    ⟨some 7, none, .nilchk (.tmp 6)⟩,
    ⟨some 8, none, .faddr 0 (.tmp 7)⟩,
    ⟨some 9, none, .load1 (.tmp 8)⟩,
    ⟨some 10, none, .lenV (.tmp 9)⟩,
    ⟨some 11, none, .mov (.const (.int .i64 (0)))⟩])
  (.block 0
   (.loop
    (.seq
     (.ops [⟨some 12, none, .bin .lss (.tmp 11) (.tmp 10)⟩])
     (.seq
      (.cond (.tmp 12)
       .skip
       (.exit 0))
      (.seq
       (.block 1
        (.seq
         (.ops [⟨some 13, none, .iaddrS 3 (.tmp 9) (.tmp 11)⟩,
           ⟨some 14, none, .loadN 3 (.tmp 13)⟩,
           ⟨some 5, none, .alloc 37 [.int .i64 (0), .int .i64 (0), .string ⟨⟨[]⟩⟩]⟩,
           ⟨none, none, .store 3 (.tmp 5) (.tmp 14)⟩])
         (.seq
          (.opsD [⟨some 15, none, .loadN 3 (.tmp 5)⟩,
            ⟨some 16, none, .call 15 [(.tmp 15)]⟩,
            ⟨some 17, none, .load1 (.tmp 2)⟩,
            ⟨some 18, none, .bin .gtr (.tmp 16) (.tmp 17)⟩,
            ⟨some 19, none, .mov (.tmp 18)⟩,
            ⟨some 20, some (19, false), .mov (.tmp 0)⟩,
            ⟨some 21, some (19, false), .loadN 3 (.tmp 5)⟩,
            ⟨some 22, some (19, false), .callv (.tmp 20) [(.tmp 21)]⟩,
            ⟨some 23, some (19, false), .un .not (.tmp 22)⟩,
            ⟨some 24, none, .pick (.tmp 19) (.const (.bool true)) (.tmp 23)⟩] [(2, 1), (2, 2)])
          (.cond (.tmp 24)
           .ret
           .skip))))
       (.ops [⟨some 25, none, .bin .add (.tmp 11) (.const (.int .i64 (1)))⟩,
         ⟨some 11, none, .mov (.tmp 25)⟩])))))))⟩


noncomputable def T : FTab := tabYes Try.prog [7]
theorem t3 : T 3 = some c3 := by kernel_rfl
theorem t4 : T 4 = some c4 := by kernel_rfl
theorem t6 : T 6 = some c6 := by kernel_rfl
theorem t8 : T 8 = some c8 := by kernel_rfl
theorem t9 : T 9 = some c9 := by kernel_rfl
theorem t10 : T 10 = some c10 := by kernel_rfl
theorem t11 : T 11 = some c11 := by kernel_rfl
theorem t12 : T 12 = some c12 := by kernel_rfl
theorem t13 : T 13 = some c13 := by kernel_rfl
theorem t14 : T 14 = some c14 := by kernel_rfl
theorem t15 : T 15 = some c15 := by kernel_rfl
theorem t16 : T 16 = some c16 := by kernel_rfl
theorem t17 : T 17 = some c17 := by kernel_rfl

theorem t7 : T 7 = some sayYes := by kernel_rfl
end Go.Proofs.Ytiilphienfadmaa
