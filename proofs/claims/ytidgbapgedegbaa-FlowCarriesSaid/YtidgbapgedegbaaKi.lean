/- The code of functions, as the framework reads it. -/
import Derived.Test.YtidgbapgedegbaaTab
import Derived.KernelRfl
namespace Go.Proofs.Ytidgbapgedegbaa
open Go Go.AS
set_option maxRecDepth 100000

def c13q : ACode :=
 (.seq
               (.ops [⟨some 68, none, .mov (.tmp 7)⟩,
                 ⟨some 69, none, .call 46 [(.tmp 68)]⟩,
                 ⟨some 67, none, .mov (.tmp 69)⟩,
                 ⟨some 70, none, .ext (.tmp 67) 0⟩,
                 ⟨some 71, none, .ext (.tmp 67) 1⟩,
                 ⟨some 12, none, .mov (.tmp 70)⟩,
                 ⟨some 13, none, .mov (.tmp 71)⟩])
               (.seq
                (.seq
                 (.ops [⟨some 14, none, .mov (.const (.int .i64 (0)))⟩])
                 (.block 4
                  (.loop
                   (.seq
                    (.seq
                     (.ops [⟨some 72, none, .mov (.tmp 14)⟩,
                       ⟨some 73, none, .mov (.tmp 12)⟩,
                       ⟨some 74, none, .lenV (.tmp 73)⟩,
                       ⟨some 75, none, .bin .lss (.tmp 72) (.tmp 74)⟩])
                     (.cond (.tmp 75)
                      .skip
                      (.exit 4)))
                    (.seq
                     (.block 5
                      (.seq
                       (.ops [⟨some 78, none, .mov (.tmp 8)⟩,
                         ⟨some 79, none, .mov (.tmp 12)⟩,
                         ⟨some 80, none, .mov (.tmp 14)⟩,
                         ⟨some 81, none, .iaddrS 12 (.tmp 79) (.tmp 80)⟩,
                         ⟨some 82, none, .loadN 12 (.tmp 81)⟩,
                         ⟨some 83, none, .call 51 [(.tmp 78), (.tmp 82)]⟩])
                       (.ops [⟨some 84, none, .mov (.tmp 9)⟩,
                         ⟨some 85, none, .call 58 [(.tmp 84), (.const (.int .i64 (200)))]⟩])))
                     (.ops [⟨some 76, none, .mov (.tmp 14)⟩,
                       ⟨some 77, none, .bin .add (.tmp 76) (.const (.int .i64 (1)))⟩,
                       ⟨some 14, none, .mov (.tmp 77)⟩]))))))
                (.seq
                 (.opsD [⟨some 86, none, .mov (.tmp 9)⟩,
                   ⟨some 87, none, .mov (.tmp 9)⟩,
                   ⟨some 88, none, .nilchk (.tmp 87)⟩,
                   ⟨some 89, none, .faddr 6 (.tmp 88)⟩,
                   ⟨some 90, none, .load1 (.tmp 89)⟩,
                   ⟨some 91, none, .mov (.tmp 7)⟩,
                   ⟨some 92, none, .mov (.tmp 8)⟩,
                   ⟨some 93, none, .call 43 [(.tmp 92), (.const (.bool false)), (.const (.bool true))]⟩,
                   ⟨some 94, none, .call 51 [(.tmp 91), (.tmp 93)]⟩,
                   ⟨some 95, none, .append 3 1 8 (.tmp 90) (.tmp 94)⟩,
                   ⟨some 96, none, .nilchk (.tmp 86)⟩,
                   ⟨some 97, none, .faddr 6 (.tmp 96)⟩,
                   ⟨none, none, .store 1 (.tmp 97) (.tmp 95)⟩] [(4, 7), (4, 8), (4, 8), (4, 9)])
                 (.seq
                  (.ops [⟨some 98, none, .mov (.tmp 9)⟩,
                    ⟨some 99, none, .call 56 [(.tmp 98)]⟩,
                    ⟨some 100, none, .un .not (.tmp 99)⟩])
                  (.cond (.tmp 100)
                   (.seq
                    (.ops [⟨some 6, none, .mov (.const (.bool false))⟩])
                    .ret)
                   .skip)))))

def c13e : ACode :=
 (.seq
         (.opsD [⟨some 101, none, .mov (.tmp 7)⟩,
           ⟨some 102, none, .call 57 [(.tmp 101)]⟩,
           ⟨some 103, none, .bin .eql (.tmp 102) (.const (.int .i64 (0)))⟩,
           ⟨some 104, none, .mov (.tmp 103)⟩,
           ⟨some 105, some (104, true), .mov (.tmp 9)⟩,
           ⟨some 106, some (104, true), .nilchk (.tmp 105)⟩,
           ⟨some 107, some (104, true), .faddr 5 (.tmp 106)⟩,
           ⟨some 108, some (104, true), .load1 (.tmp 107)⟩,
           ⟨some 109, some (104, true), .mov (.tmp 9)⟩,
           ⟨some 110, some (104, true), .nilchk (.tmp 109)⟩,
           ⟨some 111, some (104, true), .faddr 4 (.tmp 110)⟩,
           ⟨some 112, some (104, true), .load1 (.tmp 111)⟩,
           ⟨some 113, some (104, true), .bin .eql (.tmp 108) (.tmp 112)⟩,
           ⟨some 114, none, .pick (.tmp 104) (.tmp 113) (.const (.bool false))⟩,
           ⟨some 115, none, .mov (.tmp 114)⟩,
           ⟨some 116, some (115, true), .mov (.tmp 9)⟩,
           ⟨some 117, some (115, true), .nilchk (.tmp 116)⟩,
           ⟨some 118, some (115, true), .faddr 6 (.tmp 117)⟩,
           ⟨some 119, some (115, true), .load1 (.tmp 118)⟩,
           ⟨some 120, some (115, true), .lenV (.tmp 119)⟩,
           ⟨some 121, some (115, true), .mov (.tmp 9)⟩,
           ⟨some 122, some (115, true), .nilchk (.tmp 121)⟩,
           ⟨some 123, some (115, true), .faddr 7 (.tmp 122)⟩,
           ⟨some 124, some (115, true), .load1 (.tmp 123)⟩,
           ⟨some 125, some (115, true), .bin .eql (.tmp 120) (.tmp 124)⟩,
           ⟨some 126, none, .pick (.tmp 115) (.tmp 125) (.const (.bool false))⟩,
           ⟨some 6, none, .mov (.tmp 126)⟩] [])
         .ret)

def c13p : ACode :=
 (.seq
        (.seq
         (.ops [⟨some 11, none, .mov (.const (.int .i64 (0)))⟩])
         (.block 2
          (.loop
           (.seq
            (.seq
             (.ops [⟨some 58, none, .mov (.tmp 11)⟩,
               ⟨some 59, none, .bin .lss (.tmp 58) (.const (.int .i64 (80)))⟩,
               ⟨some 60, none, .mov (.tmp 59)⟩,
               ⟨some 61, some (60, true), .mov (.tmp 7)⟩,
               ⟨some 62, some (60, true), .call 57 [(.tmp 61)]⟩,
               ⟨some 63, some (60, true), .bin .gtr (.tmp 62) (.const (.int .i64 (0)))⟩,
               ⟨some 64, none, .pick (.tmp 60) (.tmp 63) (.const (.bool false))⟩])
             (.cond (.tmp 64)
              .skip
              (.exit 2)))
            (.seq
             (.block 3
              c13q)
             (.ops [⟨some 65, none, .mov (.tmp 11)⟩,
               ⟨some 66, none, .bin .add (.tmp 65) (.const (.int .i64 (1)))⟩,
               ⟨some 11, none, .mov (.tmp 66)⟩]))))))
        c13e)

/-- plait/plaitlaw26.FlowCarries -/
def c13 : AFunc := ⟨127, 3, [.inl 6],
 (.seq
  (.ops [⟨some 3, none, .box 83 2 (.tmp 0)⟩,
    ⟨some 6, none, .mov (.const (.bool false))⟩])
  (.seq
   (.seq
    (.ops [⟨some 15, none, .call 40 []⟩,
      ⟨some 16, none, .un .not (.tmp 15)⟩])
    (.cond (.tmp 16)
     (.seq
      (.ops [⟨some 6, none, .mov (.const (.bool false))⟩])
      .ret)
     .skip))
   (.seq
    (.ops [⟨some 18, none, .iaddrA 2 1 (.tmp 3) (.const (.int .i64 (0)))⟩,
      ⟨some 19, none, .load1 (.tmp 18)⟩,
      ⟨some 20, none, .iaddrA 2 1 (.tmp 3) (.const (.int .i64 (1)))⟩,
      ⟨some 21, none, .load1 (.tmp 20)⟩,
      ⟨some 22, none, .mov (.tmp 1)⟩,
      ⟨some 23, none, .bin .rem (.tmp 22) (.const (.int .u8 (100)))⟩,
      ⟨some 24, none, .cvInt .i64 (.tmp 23)⟩,
      ⟨some 25, none, .bin .add (.const (.int .i64 (40))) (.tmp 24)⟩,
      ⟨some 26, none, .call 41 [(.const (.int .i64 (2))), (.tmp 19), (.tmp 21), (.tmp 25)]⟩,
      ⟨some 17, none, .mov (.tmp 26)⟩,
      ⟨some 27, none, .ext (.tmp 17) 0⟩,
      ⟨some 28, none, .ext (.tmp 17) 1⟩,
      ⟨some 7, none, .mov (.tmp 27)⟩,
      ⟨some 8, none, .mov (.tmp 28)⟩])
    (.seq
     (.seq
      (.ops [⟨some 29, none, .mov (.tmp 7)⟩,
        ⟨some 30, none, .eq false true .ptr (.tmp 29) (.const (.pointer none))⟩,
        ⟨some 31, none, .mov (.tmp 30)⟩,
        ⟨some 32, some (31, false), .mov (.tmp 8)⟩,
        ⟨some 33, some (31, false), .eq false true .ptr (.tmp 32) (.const (.pointer none))⟩,
        ⟨some 34, none, .pick (.tmp 31) (.const (.bool true)) (.tmp 33)⟩])
      (.cond (.tmp 34)
       (.seq
        (.ops [⟨some 6, none, .mov (.const (.bool false))⟩])
        .ret)
       .skip))
     (.seq
      (.ops [⟨some 35, none, .mov (.tmp 7)⟩,
        ⟨some 36, none, .mov (.tmp 8)⟩,
        ⟨some 37, none, .build [.pointer none, .pointer none, .slice none 0 0, .slice none 0 0, .string ⟨⟨[]⟩⟩, .string ⟨⟨[]⟩⟩, .slice none 0 0, .int .i64 (0)] [(0, 1, (.tmp 35)), (1, 1, (.tmp 36))]⟩,
        ⟨some 38, none, .box 106 8 (.tmp 37)⟩,
        ⟨some 9, none, .mov (.tmp 38)⟩])
      (.seq
       (.seq
        (.ops [⟨some 10, none, .mov (.const (.int .i64 (0)))⟩])
        (.block 0
         (.loop
          (.seq
           (.seq
            (.ops [⟨some 39, none, .mov (.tmp 10)⟩,
              ⟨some 40, none, .mov (.tmp 2)⟩,
              ⟨some 41, none, .lenV (.tmp 40)⟩,
              ⟨some 42, none, .bin .lss (.tmp 39) (.tmp 41)⟩,
              ⟨some 43, none, .mov (.tmp 42)⟩,
              ⟨some 44, some (43, true), .mov (.tmp 10)⟩,
              ⟨some 45, some (43, true), .bin .lss (.tmp 44) (.const (.int .i64 (60)))⟩,
              ⟨some 46, none, .pick (.tmp 43) (.tmp 45) (.const (.bool false))⟩])
            (.cond (.tmp 46)
             .skip
             (.exit 0)))
           (.seq
            (.block 1
             (.seq
              (.ops [⟨some 49, none, .mov (.tmp 9)⟩,
                ⟨some 50, none, .mov (.tmp 2)⟩,
                ⟨some 51, none, .mov (.tmp 10)⟩,
                ⟨some 52, none, .iaddrS 3 (.tmp 50) (.tmp 51)⟩,
                ⟨some 53, none, .loadN 3 (.tmp 52)⟩,
                ⟨some 54, none, .call 55 [(.tmp 49), (.tmp 53)]⟩])
              (.seq
               (.ops [⟨some 55, none, .mov (.tmp 9)⟩,
                 ⟨some 56, none, .call 56 [(.tmp 55)]⟩,
                 ⟨some 57, none, .un .not (.tmp 56)⟩])
               (.cond (.tmp 57)
                (.seq
                 (.ops [⟨some 6, none, .mov (.const (.bool false))⟩])
                 .ret)
                .skip))))
            (.ops [⟨some 47, none, .mov (.tmp 10)⟩,
              ⟨some 48, none, .bin .add (.tmp 47) (.const (.int .i64 (1)))⟩,
              ⟨some 10, none, .mov (.tmp 48)⟩]))))))
       c13p))))))⟩
theorem t13 : T 13 = some c13 := by kernel_rfl

def c55a : ACode :=
 (.seq
       (.ops [⟨some 42, none, .faddr 2 (.tmp 3)⟩,
         ⟨some 43, none, .load1 (.tmp 42)⟩,
         ⟨some 44, none, .faddr 2 (.tmp 3)⟩,
         ⟨some 45, none, .load1 (.tmp 44)⟩,
         ⟨some 46, none, .lenS (.tmp 45)⟩,
         ⟨some 47, none, .min [(.tmp 46), (.const (.int .i64 (40)))]⟩,
         ⟨some 48, none, .sliceS (.tmp 43) none (some (.tmp 47))⟩,
         ⟨some 4, none, .mov (.tmp 48)⟩])
       (.seq
        (.ops [⟨some 49, none, .mov (.tmp 4)⟩,
          ⟨some 50, none, .bin .neq (.tmp 49) (.const (.string ⟨⟨[]⟩⟩))⟩])
        (.cond (.tmp 50)
         (.seq
          (.opsD [⟨some 51, none, .mov (.tmp 0)⟩,
            ⟨some 52, none, .nilchk (.tmp 51)⟩,
            ⟨some 53, none, .faddr 0 (.tmp 52)⟩,
            ⟨some 54, none, .load1 (.tmp 53)⟩,
            ⟨some 55, none, .mov (.tmp 4)⟩,
            ⟨some 56, none, .mov (.tmp 0)⟩,
            ⟨some 57, none, .nilchk (.tmp 56)⟩,
            ⟨some 58, none, .faddr 7 (.tmp 57)⟩,
            ⟨some 59, none, .load1 (.tmp 58)⟩,
            ⟨some 60, none, .call 42 [(.tmp 54), (.tmp 55), (.tmp 59)]⟩] [])
          (.seq
           (.ops [⟨some 61, none, .mov (.tmp 0)⟩,
             ⟨some 62, none, .nilchk (.tmp 61)⟩,
             ⟨some 63, none, .faddr 7 (.tmp 62)⟩,
             ⟨some 64, none, .load1 (.tmp 63)⟩,
             ⟨some 65, none, .bin .add (.tmp 64) (.const (.int .i64 (1)))⟩,
             ⟨some 66, none, .nilchk (.tmp 61)⟩,
             ⟨some 67, none, .faddr 7 (.tmp 66)⟩,
             ⟨none, none, .store 1 (.tmp 67) (.tmp 65)⟩])
           (.ops [⟨some 68, none, .mov (.tmp 0)⟩,
             ⟨some 69, none, .mov (.tmp 0)⟩,
             ⟨some 70, none, .nilchk (.tmp 69)⟩,
             ⟨some 71, none, .faddr 4 (.tmp 70)⟩,
             ⟨some 72, none, .load1 (.tmp 71)⟩,
             ⟨some 73, none, .mov (.tmp 4)⟩,
             ⟨some 74, none, .bin .add (.tmp 72) (.tmp 73)⟩,
             ⟨some 75, none, .nilchk (.tmp 68)⟩,
             ⟨some 76, none, .faddr 4 (.tmp 75)⟩,
             ⟨none, none, .store 1 (.tmp 76) (.tmp 74)⟩])))
         .skip)))

def c55b : ACode :=
 (.seq
         (.ops [⟨some 80, none, .mov (.tmp 0)⟩,
           ⟨some 81, none, .nilchk (.tmp 80)⟩,
           ⟨some 82, none, .faddr 0 (.tmp 81)⟩,
           ⟨some 83, none, .load1 (.tmp 82)⟩,
           ⟨some 84, none, .call 46 [(.tmp 83)]⟩,
           ⟨some 79, none, .mov (.tmp 84)⟩,
           ⟨some 85, none, .ext (.tmp 79) 0⟩,
           ⟨some 86, none, .ext (.tmp 79) 1⟩,
           ⟨some 5, none, .mov (.tmp 85)⟩,
           ⟨some 6, none, .mov (.tmp 86)⟩])
         (.seq
          (.ops [⟨some 87, none, .mov (.tmp 0)⟩,
            ⟨some 88, none, .mov (.tmp 0)⟩,
            ⟨some 89, none, .nilchk (.tmp 88)⟩,
            ⟨some 90, none, .faddr 2 (.tmp 89)⟩,
            ⟨some 91, none, .load1 (.tmp 90)⟩,
            ⟨some 92, none, .mov (.tmp 5)⟩,
            ⟨some 93, none, .append 89 12 64 (.tmp 91) (.tmp 92)⟩,
            ⟨some 94, none, .nilchk (.tmp 87)⟩,
            ⟨some 95, none, .faddr 2 (.tmp 94)⟩,
            ⟨none, none, .store 1 (.tmp 95) (.tmp 93)⟩])
          (.opsD [⟨some 96, none, .mov (.tmp 0)⟩,
            ⟨some 97, none, .mov (.tmp 0)⟩,
            ⟨some 98, none, .nilchk (.tmp 97)⟩,
            ⟨some 99, none, .faddr 2 (.tmp 98)⟩,
            ⟨some 100, none, .load1 (.tmp 99)⟩,
            ⟨some 101, none, .mov (.tmp 0)⟩,
            ⟨some 102, none, .nilchk (.tmp 101)⟩,
            ⟨some 103, none, .faddr 2 (.tmp 102)⟩,
            ⟨some 104, none, .load1 (.tmp 103)⟩,
            ⟨some 105, none, .lenV (.tmp 104)⟩,
            ⟨some 106, none, .bin .sub (.tmp 105) (.const (.int .i64 (60)))⟩,
            ⟨some 107, none, .max [(.const (.int .i64 (0))), (.tmp 106)]⟩,
            ⟨some 108, none, .sliceV 12 (.tmp 100) (some (.tmp 107)) none none⟩,
            ⟨some 109, none, .nilchk (.tmp 96)⟩,
            ⟨some 110, none, .faddr 2 (.tmp 109)⟩,
            ⟨none, none, .store 1 (.tmp 110) (.tmp 108)⟩] [])))

def c55e : ACode :=
 (.seq
             (.opsD [⟨some 10, none, .mov (.tmp 0)⟩,
               ⟨some 11, none, .mov (.tmp 0)⟩,
               ⟨some 12, none, .nilchk (.tmp 11)⟩,
               ⟨some 13, none, .faddr 3 (.tmp 12)⟩,
               ⟨some 14, none, .load1 (.tmp 13)⟩,
               ⟨some 15, none, .mov (.tmp 0)⟩,
               ⟨some 16, none, .nilchk (.tmp 15)⟩,
               ⟨some 17, none, .faddr 1 (.tmp 16)⟩,
               ⟨some 18, none, .load1 (.tmp 17)⟩,
               ⟨some 19, none, .call 43 [(.tmp 18), (.const (.bool false)), (.const (.bool true))]⟩,
               ⟨some 20, none, .bslice 89 1 [.int .i64 (0), .int .u16 (0), .int .u16 (0), .int .u32 (0), .int .u32 (0), .bool false, .bool false, .bool false, .bool false, .int .u16 (0), .string ⟨⟨[]⟩⟩, .string ⟨⟨[]⟩⟩] [(0, 12, (.tmp 19))]⟩,
               ⟨some 21, none, .append 89 12 64 (.tmp 14) (.tmp 20)⟩,
               ⟨some 22, none, .nilchk (.tmp 10)⟩,
               ⟨some 23, none, .faddr 3 (.tmp 22)⟩,
               ⟨none, none, .store 1 (.tmp 23) (.tmp 21)⟩] [(4, 9), (4, 10)])
             (.opsD [⟨some 24, none, .mov (.tmp 0)⟩,
               ⟨some 25, none, .mov (.tmp 0)⟩,
               ⟨some 26, none, .nilchk (.tmp 25)⟩,
               ⟨some 27, none, .faddr 3 (.tmp 26)⟩,
               ⟨some 28, none, .load1 (.tmp 27)⟩,
               ⟨some 29, none, .mov (.tmp 0)⟩,
               ⟨some 30, none, .nilchk (.tmp 29)⟩,
               ⟨some 31, none, .faddr 3 (.tmp 30)⟩,
               ⟨some 32, none, .load1 (.tmp 31)⟩,
               ⟨some 33, none, .lenV (.tmp 32)⟩,
               ⟨some 34, none, .bin .sub (.tmp 33) (.const (.int .i64 (60)))⟩,
               ⟨some 35, none, .max [(.const (.int .i64 (0))), (.tmp 34)]⟩,
               ⟨some 36, none, .sliceV 12 (.tmp 28) (some (.tmp 35)) none none⟩,
               ⟨some 37, none, .nilchk (.tmp 24)⟩,
               ⟨some 38, none, .faddr 3 (.tmp 37)⟩,
               ⟨none, none, .store 1 (.tmp 38) (.tmp 36)⟩] []))

/-- (*plait/plaitlaw26.line).does -/
def c55 : AFunc := ⟨131, 2, [],
 (.seq
  (.ops [⟨some 3, none, .box 109 3 (.tmp 1)⟩])
  (.seq
   (.ops [⟨some 7, none, .faddr 0 (.tmp 3)⟩,
     ⟨some 8, none, .load1 (.tmp 7)⟩,
     ⟨some 9, none, .bin .rem (.tmp 8) (.const (.int .u8 (7)))⟩])
   (.block 0
    (.seq
     (.seq
      (.ops [⟨some 40, none, .bin .eql (.tmp 9) (.const (.int .u8 (0)))⟩,
        ⟨some 39, none, .mov (.tmp 40)⟩])
      (.cond (.tmp 39)
       .skip
       (.ops [⟨some 41, none, .bin .eql (.tmp 9) (.const (.int .u8 (1)))⟩,
         ⟨some 39, none, .mov (.tmp 41)⟩])))
     (.cond (.tmp 39)
      c55a
      (.seq
       (.ops [⟨some 78, none, .bin .eql (.tmp 9) (.const (.int .u8 (2)))⟩,
         ⟨some 77, none, .mov (.tmp 78)⟩])
       (.cond (.tmp 77)
        c55b
        (.seq
         (.seq
          (.ops [⟨some 112, none, .bin .eql (.tmp 9) (.const (.int .u8 (3)))⟩,
            ⟨some 111, none, .mov (.tmp 112)⟩])
          (.cond (.tmp 111)
           .skip
           (.ops [⟨some 113, none, .bin .eql (.tmp 9) (.const (.int .u8 (4)))⟩,
             ⟨some 111, none, .mov (.tmp 113)⟩])))
         (.cond (.tmp 111)
          (.ops [⟨some 114, none, .mov (.tmp 0)⟩,
            ⟨some 115, none, .faddr 1 (.tmp 3)⟩,
            ⟨some 116, none, .load1 (.tmp 115)⟩,
            ⟨some 117, none, .cvInt .i64 (.tmp 116)⟩,
            ⟨some 118, none, .faddr 1 (.tmp 3)⟩,
            ⟨some 119, none, .load1 (.tmp 118)⟩,
            ⟨some 120, none, .bin .rem (.tmp 119) (.const (.int .u8 (3)))⟩,
            ⟨some 121, none, .bin .eql (.tmp 120) (.const (.int .u8 (0)))⟩,
            ⟨some 122, none, .call 109 [(.tmp 114), (.tmp 117), (.tmp 121)]⟩])
          (.seq
           (.ops [⟨some 124, none, .bin .eql (.tmp 9) (.const (.int .u8 (5)))⟩,
             ⟨some 123, none, .mov (.tmp 124)⟩])
           (.cond (.tmp 123)
            (.ops [⟨some 125, none, .mov (.tmp 0)⟩,
              ⟨some 126, none, .faddr 1 (.tmp 3)⟩,
              ⟨some 127, none, .load1 (.tmp 126)⟩,
              ⟨some 128, none, .cvInt .i64 (.tmp 127)⟩,
              ⟨some 129, none, .bin .add (.const (.int .i64 (1))) (.tmp 128)⟩,
              ⟨some 130, none, .call 58 [(.tmp 125), (.tmp 129)]⟩])
            c55e)))))))))))⟩
theorem t55 : T 55 = some c55 := by kernel_rfl

def c56q : ACode :=
 (.seq
     (.ops [⟨some 99, none, .mov (.tmp 0)⟩,
       ⟨some 100, none, .nilchk (.tmp 99)⟩,
       ⟨some 101, none, .faddr 0 (.tmp 100)⟩,
       ⟨some 102, none, .load1 (.tmp 101)⟩,
       ⟨some 103, none, .call 46 [(.tmp 102)]⟩,
       ⟨some 98, none, .mov (.tmp 103)⟩,
       ⟨some 104, none, .ext (.tmp 98) 0⟩,
       ⟨some 105, none, .ext (.tmp 98) 1⟩,
       ⟨some 4, none, .mov (.tmp 104)⟩,
       ⟨some 5, none, .mov (.tmp 105)⟩])
     (.seq
      (.ops [⟨some 6, none, .mov (.const (.int .i64 (0)))⟩])
      (.seq
       (.seq
        (.ops [⟨some 7, none, .mov (.const (.int .i64 (0)))⟩])
        (.block 2
         (.loop
          (.seq
           (.seq
            (.ops [⟨some 106, none, .mov (.tmp 7)⟩,
              ⟨some 107, none, .mov (.tmp 4)⟩,
              ⟨some 108, none, .lenV (.tmp 107)⟩,
              ⟨some 109, none, .bin .lss (.tmp 106) (.tmp 108)⟩])
            (.cond (.tmp 109)
             .skip
             (.exit 2)))
           (.seq
            (.block 3
             (.ops [⟨some 112, none, .mov (.tmp 6)⟩,
               ⟨some 113, none, .mov (.tmp 4)⟩,
               ⟨some 114, none, .mov (.tmp 7)⟩,
               ⟨some 115, none, .iaddrS 12 (.tmp 113) (.tmp 114)⟩,
               ⟨some 116, none, .faddr 11 (.tmp 115)⟩,
               ⟨some 117, none, .load1 (.tmp 116)⟩,
               ⟨some 118, none, .lenS (.tmp 117)⟩,
               ⟨some 119, none, .bin .add (.tmp 112) (.tmp 118)⟩,
               ⟨some 6, none, .mov (.tmp 119)⟩]))
            (.ops [⟨some 110, none, .mov (.tmp 7)⟩,
              ⟨some 111, none, .bin .add (.tmp 110) (.const (.int .i64 (1)))⟩,
              ⟨some 7, none, .mov (.tmp 111)⟩]))))))
       (.seq
        (.opsD [⟨some 120, none, .mov (.tmp 0)⟩,
          ⟨some 121, none, .nilchk (.tmp 120)⟩,
          ⟨some 122, none, .faddr 4 (.tmp 121)⟩,
          ⟨some 123, none, .load1 (.tmp 122)⟩,
          ⟨some 124, none, .lenS (.tmp 123)⟩,
          ⟨some 125, none, .mov (.tmp 6)⟩,
          ⟨some 126, none, .bin .sub (.tmp 124) (.tmp 125)⟩,
          ⟨some 127, none, .mov (.tmp 0)⟩,
          ⟨some 128, none, .nilchk (.tmp 127)⟩,
          ⟨some 129, none, .faddr 5 (.tmp 128)⟩,
          ⟨some 130, none, .load1 (.tmp 129)⟩,
          ⟨some 131, none, .lenS (.tmp 130)⟩,
          ⟨some 132, none, .bin .leq (.tmp 126) (.tmp 131)⟩,
          ⟨some 2, none, .mov (.tmp 132)⟩] [])
        .ret))))

def c56p : ACode :=
 (.seq
    (.seq
     (.ops [⟨some 3, none, .mov (.const (.int .i64 (0)))⟩])
     (.block 0
      (.loop
       (.seq
        (.seq
         (.ops [⟨some 80, none, .mov (.tmp 3)⟩,
           ⟨some 81, none, .mov (.tmp 0)⟩,
           ⟨some 82, none, .nilchk (.tmp 81)⟩,
           ⟨some 83, none, .faddr 6 (.tmp 82)⟩,
           ⟨some 84, none, .load1 (.tmp 83)⟩,
           ⟨some 85, none, .lenV (.tmp 84)⟩,
           ⟨some 86, none, .bin .lss (.tmp 80) (.tmp 85)⟩])
         (.cond (.tmp 86)
          .skip
          (.exit 0)))
        (.seq
         (.block 1
          (.seq
           (.ops [⟨some 89, none, .mov (.tmp 0)⟩,
             ⟨some 90, none, .nilchk (.tmp 89)⟩,
             ⟨some 91, none, .faddr 6 (.tmp 90)⟩,
             ⟨some 92, none, .load1 (.tmp 91)⟩,
             ⟨some 93, none, .mov (.tmp 3)⟩,
             ⟨some 94, none, .iaddrS 1 (.tmp 92) (.tmp 93)⟩,
             ⟨some 95, none, .load1 (.tmp 94)⟩,
             ⟨some 96, none, .mov (.tmp 3)⟩,
             ⟨some 97, none, .bin .neq (.tmp 95) (.tmp 96)⟩])
           (.cond (.tmp 97)
            (.seq
             (.ops [⟨some 2, none, .mov (.const (.bool false))⟩])
             .ret)
            .skip)))
         (.ops [⟨some 87, none, .mov (.tmp 3)⟩,
           ⟨some 88, none, .bin .add (.tmp 87) (.const (.int .i64 (1)))⟩,
           ⟨some 3, none, .mov (.tmp 88)⟩]))))))
    c56q)

/-- (*plait/plaitlaw26.line).right -/
def c56 : AFunc := ⟨133, 1, [.inl 2],
 (.seq
  (.ops [⟨some 2, none, .mov (.const (.bool false))⟩])
  (.seq
   (.seq
    (.opsD [⟨some 8, none, .mov (.tmp 0)⟩,
      ⟨some 9, none, .nilchk (.tmp 8)⟩,
      ⟨some 10, none, .faddr 5 (.tmp 9)⟩,
      ⟨some 11, none, .load1 (.tmp 10)⟩,
      ⟨some 12, none, .lenS (.tmp 11)⟩,
      ⟨some 13, none, .mov (.tmp 0)⟩,
      ⟨some 14, none, .nilchk (.tmp 13)⟩,
      ⟨some 15, none, .faddr 4 (.tmp 14)⟩,
      ⟨some 16, none, .load1 (.tmp 15)⟩,
      ⟨some 17, none, .lenS (.tmp 16)⟩,
      ⟨some 18, none, .bin .gtr (.tmp 12) (.tmp 17)⟩,
      ⟨some 19, none, .mov (.tmp 18)⟩,
      ⟨some 20, some (19, false), .mov (.tmp 0)⟩,
      ⟨some 21, some (19, false), .nilchk (.tmp 20)⟩,
      ⟨some 22, some (19, false), .faddr 4 (.tmp 21)⟩,
      ⟨some 23, some (19, false), .load1 (.tmp 22)⟩,
      ⟨some 24, some (19, false), .mov (.tmp 0)⟩,
      ⟨some 25, some (19, false), .nilchk (.tmp 24)⟩,
      ⟨some 26, some (19, false), .faddr 5 (.tmp 25)⟩,
      ⟨some 27, some (19, false), .load1 (.tmp 26)⟩,
      ⟨some 28, some (19, false), .lenS (.tmp 27)⟩,
      ⟨some 29, some (19, false), .sliceS (.tmp 23) none (some (.tmp 28))⟩,
      ⟨some 30, some (19, false), .mov (.tmp 0)⟩,
      ⟨some 31, some (19, false), .nilchk (.tmp 30)⟩,
      ⟨some 32, some (19, false), .faddr 5 (.tmp 31)⟩,
      ⟨some 33, some (19, false), .load1 (.tmp 32)⟩,
      ⟨some 34, some (19, false), .bin .neq (.tmp 29) (.tmp 33)⟩,
      ⟨some 35, none, .pick (.tmp 19) (.const (.bool true)) (.tmp 34)⟩,
      ⟨some 36, none, .mov (.tmp 35)⟩,
      ⟨some 37, some (36, false), .mov (.tmp 0)⟩,
      ⟨some 38, some (36, false), .nilchk (.tmp 37)⟩,
      ⟨some 39, some (36, false), .faddr 1 (.tmp 38)⟩,
      ⟨some 40, some (36, false), .load1 (.tmp 39)⟩,
      ⟨some 41, some (36, false), .call 50 [(.tmp 40)]⟩,
      ⟨some 42, some (36, false), .call 35 [(.tmp 41)]⟩,
      ⟨some 43, some (36, false), .mov (.tmp 0)⟩,
      ⟨some 44, some (36, false), .nilchk (.tmp 43)⟩,
      ⟨some 45, some (36, false), .faddr 5 (.tmp 44)⟩,
      ⟨some 46, some (36, false), .load1 (.tmp 45)⟩,
      ⟨some 47, some (36, false), .lenS (.tmp 46)⟩,
      ⟨some 48, some (36, false), .bin .neq (.tmp 42) (.tmp 47)⟩,
      ⟨some 49, none, .pick (.tmp 36) (.const (.bool true)) (.tmp 48)⟩,
      ⟨some 50, none, .mov (.tmp 49)⟩,
      ⟨some 51, some (50, false), .mov (.tmp 0)⟩,
      ⟨some 52, some (50, false), .nilchk (.tmp 51)⟩,
      ⟨some 53, some (50, false), .faddr 6 (.tmp 52)⟩,
      ⟨some 54, some (50, false), .load1 (.tmp 53)⟩,
      ⟨some 55, some (50, false), .lenV (.tmp 54)⟩,
      ⟨some 56, some (50, false), .mov (.tmp 0)⟩,
      ⟨some 57, some (50, false), .nilchk (.tmp 56)⟩,
      ⟨some 58, some (50, false), .faddr 7 (.tmp 57)⟩,
      ⟨some 59, some (50, false), .load1 (.tmp 58)⟩,
      ⟨some 60, some (50, false), .bin .gtr (.tmp 55) (.tmp 59)⟩,
      ⟨some 61, none, .pick (.tmp 50) (.const (.bool true)) (.tmp 60)⟩,
      ⟨some 62, none, .mov (.tmp 61)⟩,
      ⟨some 63, some (62, false), .mov (.tmp 0)⟩,
      ⟨some 64, some (62, false), .nilchk (.tmp 63)⟩,
      ⟨some 65, some (62, false), .faddr 0 (.tmp 64)⟩,
      ⟨some 66, some (62, false), .load1 (.tmp 65)⟩,
      ⟨some 67, some (62, false), .call 57 [(.tmp 66)]⟩,
      ⟨some 68, some (62, false), .mov (.tmp 0)⟩,
      ⟨some 69, some (62, false), .nilchk (.tmp 68)⟩,
      ⟨some 70, some (62, false), .faddr 7 (.tmp 69)⟩,
      ⟨some 71, some (62, false), .load1 (.tmp 70)⟩,
      ⟨some 72, some (62, false), .mov (.tmp 0)⟩,
      ⟨some 73, some (62, false), .nilchk (.tmp 72)⟩,
      ⟨some 74, some (62, false), .faddr 6 (.tmp 73)⟩,
      ⟨some 75, some (62, false), .load1 (.tmp 74)⟩,
      ⟨some 76, some (62, false), .lenV (.tmp 75)⟩,
      ⟨some 77, some (62, false), .bin .sub (.tmp 71) (.tmp 76)⟩,
      ⟨some 78, some (62, false), .bin .neq (.tmp 67) (.tmp 77)⟩,
      ⟨some 79, none, .pick (.tmp 62) (.const (.bool true)) (.tmp 78)⟩] [(38, 33), (38, 34), (38, 34), (38, 35), (63, 59), (63, 60), (67, 59), (67, 60)])
    (.cond (.tmp 79)
     (.seq
      (.ops [⟨some 2, none, .mov (.const (.bool false))⟩])
      .ret)
     .skip))
   c56p))⟩
theorem t56 : T 56 = some c56 := by kernel_rfl

/-- (*plait/plaitlaw26.line).takes -/
def c58 : AFunc := ⟨29, 2, [],
 (.seq
  (.ops [⟨some 5, none, .mov (.tmp 0)⟩,
    ⟨some 6, none, .nilchk (.tmp 5)⟩,
    ⟨some 7, none, .faddr 1 (.tmp 6)⟩,
    ⟨some 8, none, .load1 (.tmp 7)⟩,
    ⟨some 9, none, .call 50 [(.tmp 8)]⟩,
    ⟨some 10, none, .mov (.tmp 1)⟩,
    ⟨some 11, none, .call 34 [(.tmp 9), (.tmp 10)]⟩,
    ⟨some 4, none, .mov (.tmp 11)⟩])
  (.seq
   (.ops [⟨some 12, none, .mov (.tmp 0)⟩,
     ⟨some 13, none, .mov (.tmp 0)⟩,
     ⟨some 14, none, .nilchk (.tmp 13)⟩,
     ⟨some 15, none, .faddr 5 (.tmp 14)⟩,
     ⟨some 16, none, .load1 (.tmp 15)⟩,
     ⟨some 17, none, .mov (.tmp 4)⟩,
     ⟨some 18, none, .bin .add (.tmp 16) (.tmp 17)⟩,
     ⟨some 19, none, .nilchk (.tmp 12)⟩,
     ⟨some 20, none, .faddr 5 (.tmp 19)⟩,
     ⟨none, none, .store 1 (.tmp 20) (.tmp 18)⟩])
   (.ops [⟨some 21, none, .mov (.tmp 0)⟩,
     ⟨some 22, none, .nilchk (.tmp 21)⟩,
     ⟨some 23, none, .faddr 1 (.tmp 22)⟩,
     ⟨some 24, none, .load1 (.tmp 23)⟩,
     ⟨some 25, none, .call 50 [(.tmp 24)]⟩,
     ⟨some 26, none, .mov (.tmp 4)⟩,
     ⟨some 27, none, .lenS (.tmp 26)⟩,
     ⟨some 28, none, .call 38 [(.tmp 25), (.tmp 27)]⟩])))⟩
theorem t58 : T 58 = some c58 := by kernel_rfl

def c109a : ACode :=
 (.seq
        (.opsD [⟨some 30, none, .mov (.tmp 0)⟩,
          ⟨some 31, none, .nilchk (.tmp 30)⟩,
          ⟨some 32, none, .faddr 1 (.tmp 31)⟩,
          ⟨some 33, none, .load1 (.tmp 32)⟩,
          ⟨some 34, none, .mov (.tmp 0)⟩,
          ⟨some 35, none, .nilchk (.tmp 34)⟩,
          ⟨some 36, none, .faddr 2 (.tmp 35)⟩,
          ⟨some 37, none, .load1 (.tmp 36)⟩,
          ⟨some 38, none, .mov (.tmp 1)⟩,
          ⟨some 39, none, .iaddrS 12 (.tmp 37) (.tmp 38)⟩,
          ⟨some 40, none, .loadN 12 (.tmp 39)⟩,
          ⟨some 41, none, .call 51 [(.tmp 33), (.tmp 40)]⟩] [])
        (.seq
         (.seq
          (.ops [⟨some 42, none, .mov (.tmp 2)⟩,
            ⟨some 43, none, .un .not (.tmp 42)⟩])
          (.cond (.tmp 43)
           (.opsD [⟨some 44, none, .mov (.tmp 0)⟩,
             ⟨some 45, none, .bslice 89 0 [] []⟩,
             ⟨some 46, none, .mov (.tmp 0)⟩,
             ⟨some 47, none, .nilchk (.tmp 46)⟩,
             ⟨some 48, none, .faddr 2 (.tmp 47)⟩,
             ⟨some 49, none, .load1 (.tmp 48)⟩,
             ⟨some 50, none, .mov (.tmp 1)⟩,
             ⟨some 51, none, .sliceV 12 (.tmp 49) none (some (.tmp 50)) none⟩,
             ⟨some 52, none, .append 89 12 64 (.tmp 45) (.tmp 51)⟩,
             ⟨some 53, none, .mov (.tmp 0)⟩,
             ⟨some 54, none, .nilchk (.tmp 53)⟩,
             ⟨some 55, none, .faddr 2 (.tmp 54)⟩,
             ⟨some 56, none, .load1 (.tmp 55)⟩,
             ⟨some 57, none, .mov (.tmp 1)⟩,
             ⟨some 58, none, .bin .add (.tmp 57) (.const (.int .i64 (1)))⟩,
             ⟨some 59, none, .sliceV 12 (.tmp 56) (some (.tmp 58)) none none⟩,
             ⟨some 60, none, .append 89 12 64 (.tmp 52) (.tmp 59)⟩,
             ⟨some 61, none, .nilchk (.tmp 44)⟩,
             ⟨some 62, none, .faddr 2 (.tmp 61)⟩,
             ⟨none, none, .store 1 (.tmp 62) (.tmp 60)⟩] [(12, 8), (12, 9), (15, 8), (15, 9)])
           .skip))
         .ret))

def c109b : ACode :=
 (.seq
      (.ops [⟨some 63, none, .mov (.tmp 1)⟩,
        ⟨some 64, none, .mov (.tmp 0)⟩,
        ⟨some 65, none, .nilchk (.tmp 64)⟩,
        ⟨some 66, none, .faddr 2 (.tmp 65)⟩,
        ⟨some 67, none, .load1 (.tmp 66)⟩,
        ⟨some 68, none, .lenV (.tmp 67)⟩,
        ⟨some 69, none, .bin .sub (.tmp 63) (.tmp 68)⟩,
        ⟨some 1, none, .mov (.tmp 69)⟩])
      (.seq
       (.opsD [⟨some 70, none, .mov (.tmp 0)⟩,
         ⟨some 71, none, .mov (.tmp 0)⟩,
         ⟨some 72, none, .nilchk (.tmp 71)⟩,
         ⟨some 73, none, .faddr 6 (.tmp 72)⟩,
         ⟨some 74, none, .load1 (.tmp 73)⟩,
         ⟨some 75, none, .mov (.tmp 0)⟩,
         ⟨some 76, none, .nilchk (.tmp 75)⟩,
         ⟨some 77, none, .faddr 0 (.tmp 76)⟩,
         ⟨some 78, none, .load1 (.tmp 77)⟩,
         ⟨some 79, none, .mov (.tmp 0)⟩,
         ⟨some 80, none, .nilchk (.tmp 79)⟩,
         ⟨some 81, none, .faddr 3 (.tmp 80)⟩,
         ⟨some 82, none, .load1 (.tmp 81)⟩,
         ⟨some 83, none, .mov (.tmp 1)⟩,
         ⟨some 84, none, .iaddrS 12 (.tmp 82) (.tmp 83)⟩,
         ⟨some 85, none, .loadN 12 (.tmp 84)⟩,
         ⟨some 86, none, .call 51 [(.tmp 78), (.tmp 85)]⟩,
         ⟨some 87, none, .append 3 1 8 (.tmp 74) (.tmp 86)⟩,
         ⟨some 88, none, .nilchk (.tmp 70)⟩,
         ⟨some 89, none, .faddr 6 (.tmp 88)⟩,
         ⟨none, none, .store 1 (.tmp 89) (.tmp 87)⟩] [(4, 16), (4, 17)])
       (.seq
        (.ops [⟨some 90, none, .mov (.tmp 2)⟩,
          ⟨some 91, none, .un .not (.tmp 90)⟩])
        (.cond (.tmp 91)
         (.opsD [⟨some 92, none, .mov (.tmp 0)⟩,
           ⟨some 93, none, .bslice 89 0 [] []⟩,
           ⟨some 94, none, .mov (.tmp 0)⟩,
           ⟨some 95, none, .nilchk (.tmp 94)⟩,
           ⟨some 96, none, .faddr 3 (.tmp 95)⟩,
           ⟨some 97, none, .load1 (.tmp 96)⟩,
           ⟨some 98, none, .mov (.tmp 1)⟩,
           ⟨some 99, none, .sliceV 12 (.tmp 97) none (some (.tmp 98)) none⟩,
           ⟨some 100, none, .append 89 12 64 (.tmp 93) (.tmp 99)⟩,
           ⟨some 101, none, .mov (.tmp 0)⟩,
           ⟨some 102, none, .nilchk (.tmp 101)⟩,
           ⟨some 103, none, .faddr 3 (.tmp 102)⟩,
           ⟨some 104, none, .load1 (.tmp 103)⟩,
           ⟨some 105, none, .mov (.tmp 1)⟩,
           ⟨some 106, none, .bin .add (.tmp 105) (.const (.int .i64 (1)))⟩,
           ⟨some 107, none, .sliceV 12 (.tmp 104) (some (.tmp 106)) none none⟩,
           ⟨some 108, none, .append 89 12 64 (.tmp 100) (.tmp 107)⟩,
           ⟨some 109, none, .nilchk (.tmp 92)⟩,
           ⟨some 110, none, .faddr 3 (.tmp 109)⟩,
           ⟨none, none, .store 1 (.tmp 110) (.tmp 108)⟩] [(12, 8), (12, 9), (15, 8), (15, 9)])
         .skip))))

/-- (*plait/plaitlaw26.line).comes -/
def c109 : AFunc := ⟨111, 3, [],
 (.seq
  (.opsD [⟨some 7, none, .mov (.tmp 0)⟩,
    ⟨some 8, none, .nilchk (.tmp 7)⟩,
    ⟨some 9, none, .faddr 2 (.tmp 8)⟩,
    ⟨some 10, none, .load1 (.tmp 9)⟩,
    ⟨some 11, none, .lenV (.tmp 10)⟩,
    ⟨some 12, none, .mov (.tmp 0)⟩,
    ⟨some 13, none, .nilchk (.tmp 12)⟩,
    ⟨some 14, none, .faddr 3 (.tmp 13)⟩,
    ⟨some 15, none, .load1 (.tmp 14)⟩,
    ⟨some 16, none, .lenV (.tmp 15)⟩,
    ⟨some 17, none, .bin .add (.tmp 11) (.tmp 16)⟩,
    ⟨some 6, none, .mov (.tmp 17)⟩] [])
  (.seq
   (.seq
    (.ops [⟨some 18, none, .mov (.tmp 6)⟩,
      ⟨some 19, none, .bin .eql (.tmp 18) (.const (.int .i64 (0)))⟩])
    (.cond (.tmp 19)
     .ret
     .skip))
   (.seq
    (.ops [⟨some 20, none, .mov (.tmp 1)⟩,
      ⟨some 21, none, .mov (.tmp 6)⟩,
      ⟨some 22, none, .bin .rem (.tmp 20) (.tmp 21)⟩,
      ⟨some 1, none, .mov (.tmp 22)⟩])
    (.seq
     (.seq
      (.ops [⟨some 23, none, .mov (.tmp 1)⟩,
        ⟨some 24, none, .mov (.tmp 0)⟩,
        ⟨some 25, none, .nilchk (.tmp 24)⟩,
        ⟨some 26, none, .faddr 2 (.tmp 25)⟩,
        ⟨some 27, none, .load1 (.tmp 26)⟩,
        ⟨some 28, none, .lenV (.tmp 27)⟩,
        ⟨some 29, none, .bin .lss (.tmp 23) (.tmp 28)⟩])
      (.cond (.tmp 29)
       c109a
       .skip))
     c109b))))⟩
theorem t109 : T 109 = some c109 := by kernel_rfl

end Go.Proofs.Ytidgbapgedegbaa

