/- The code of functions, as the framework reads it. -/
import Derived.Test.YtidgbapgedegbaaTab
import Derived.KernelRfl
namespace Go.Proofs.Ytidgbapgedegbaa
open Go Go.AS
set_option maxRecDepth 100000

/-- plait/plaitlaw20.InletTells -/
def c7 : AFunc := ⟨51, 4, [.inl 8],
 (.seq
  (.ops [⟨some 8, none, .mov (.const (.bool false))⟩])
  (.seq
   (.ops [⟨some 12, none, .mov (.tmp 0)⟩,
     ⟨some 13, none, .mov (.tmp 1)⟩,
     ⟨some 14, none, .mov (.tmp 2)⟩,
     ⟨some 15, none, .call 27 [(.tmp 12), (.tmp 13), (.tmp 14)]⟩,
     ⟨some 16, none, .mov (.tmp 0)⟩,
     ⟨some 17, none, .mov (.tmp 1)⟩,
     ⟨some 18, none, .mov (.tmp 2)⟩,
     ⟨some 19, none, .call 28 [(.tmp 16), (.tmp 17), (.tmp 18)]⟩,
     ⟨some 9, none, .mov (.tmp 15)⟩,
     ⟨some 10, none, .mov (.tmp 19)⟩])
   (.seq
    (.seq
     (.ops [⟨some 20, none, .mov (.tmp 9)⟩,
       ⟨some 21, none, .eq false true .ptr (.tmp 20) (.const (.pointer none))⟩,
       ⟨some 22, none, .mov (.tmp 10)⟩,
       ⟨some 23, none, .eq false true .ptr (.tmp 22) (.const (.pointer none))⟩,
       ⟨some 24, none, .eq true false .bool (.tmp 21) (.tmp 23)⟩,
       ⟨some 25, none, .mov (.tmp 24)⟩,
       ⟨some 26, some (25, false), .call 29 []⟩,
       ⟨some 27, some (25, false), .un .not (.tmp 26)⟩,
       ⟨some 28, none, .pick (.tmp 25) (.const (.bool true)) (.tmp 27)⟩])
     (.cond (.tmp 28)
      (.seq
       (.ops [⟨some 8, none, .mov (.const (.bool false))⟩])
       .ret)
      .skip))
    (.seq
     (.seq
      (.ops [⟨some 11, none, .mov (.const (.int .i64 (0)))⟩])
      (.block 0
       (.loop
        (.seq
         (.seq
          (.ops [⟨some 29, none, .mov (.tmp 10)⟩,
            ⟨some 30, none, .eq true true .ptr (.tmp 29) (.const (.pointer none))⟩,
            ⟨some 31, none, .mov (.tmp 30)⟩,
            ⟨some 32, some (31, true), .mov (.tmp 11)⟩,
            ⟨some 33, some (31, true), .mov (.tmp 3)⟩,
            ⟨some 34, some (31, true), .lenV (.tmp 33)⟩,
            ⟨some 35, some (31, true), .bin .lss (.tmp 32) (.tmp 34)⟩,
            ⟨some 36, none, .pick (.tmp 31) (.tmp 35) (.const (.bool false))⟩,
            ⟨some 37, none, .mov (.tmp 36)⟩,
            ⟨some 38, some (37, true), .mov (.tmp 11)⟩,
            ⟨some 39, some (37, true), .bin .lss (.tmp 38) (.const (.int .i64 (50)))⟩,
            ⟨some 40, none, .pick (.tmp 37) (.tmp 39) (.const (.bool false))⟩])
          (.cond (.tmp 40)
           .skip
           (.exit 0)))
         (.seq
          (.block 1
           (.seq
            (.ops [⟨some 43, none, .mov (.tmp 3)⟩,
              ⟨some 44, none, .mov (.tmp 11)⟩,
              ⟨some 45, none, .iaddrS 7 (.tmp 43) (.tmp 44)⟩,
              ⟨some 46, none, .loadN 7 (.tmp 45)⟩,
              ⟨some 47, none, .mov (.tmp 9)⟩,
              ⟨some 48, none, .mov (.tmp 10)⟩,
              ⟨some 49, none, .call 30 [(.tmp 46), (.tmp 47), (.tmp 48)]⟩,
              ⟨some 50, none, .un .not (.tmp 49)⟩])
            (.cond (.tmp 50)
             (.seq
              (.ops [⟨some 8, none, .mov (.const (.bool false))⟩])
              .ret)
             .skip)))
          (.ops [⟨some 41, none, .mov (.tmp 11)⟩,
            ⟨some 42, none, .bin .add (.tmp 41) (.const (.int .i64 (1)))⟩,
            ⟨some 11, none, .mov (.tmp 42)⟩]))))))
     (.seq
      (.ops [⟨some 8, none, .mov (.const (.bool true))⟩])
      .ret)))))⟩
theorem t7 : T 7 = some c7 := by kernel_rfl

/-- plait/plaitref20.New -/
def c28 : AFunc := ⟨33, 3, [.inl 6],
 (.seq
  (.ops [⟨some 6, none, .mov (.const (.pointer none))⟩])
  (.seq
   (.ops [⟨some 12, none, .mov (.tmp 0)⟩,
     ⟨some 13, none, .call 73 [(.tmp 12)]⟩,
     ⟨some 11, none, .mov (.tmp 13)⟩,
     ⟨some 14, none, .ext (.tmp 11) 0⟩,
     ⟨some 15, none, .ext (.tmp 11) 1⟩,
     ⟨some 7, none, .mov (.tmp 14)⟩,
     ⟨some 8, none, .mov (.tmp 15)⟩])
   (.seq
    (.ops [⟨some 17, none, .mov (.tmp 0)⟩,
      ⟨some 18, none, .call 74 [(.tmp 17)]⟩,
      ⟨some 16, none, .mov (.tmp 18)⟩,
      ⟨some 19, none, .ext (.tmp 16) 0⟩,
      ⟨some 20, none, .ext (.tmp 16) 1⟩,
      ⟨some 9, none, .mov (.tmp 19)⟩,
      ⟨some 10, none, .mov (.tmp 20)⟩])
    (.seq
     (.seq
      (.ops [⟨some 21, none, .mov (.tmp 8)⟩,
        ⟨some 22, none, .bin .neq (.tmp 21) (.const (.int .i64 (0)))⟩,
        ⟨some 23, none, .mov (.tmp 22)⟩,
        ⟨some 24, some (23, false), .mov (.tmp 10)⟩,
        ⟨some 25, some (23, false), .bin .neq (.tmp 24) (.const (.int .i64 (0)))⟩,
        ⟨some 26, none, .pick (.tmp 23) (.const (.bool true)) (.tmp 25)⟩])
      (.cond (.tmp 26)
       (.seq
        (.ops [⟨some 6, none, .mov (.const (.pointer none))⟩])
        .ret)
       .skip))
     (.seq
      (.ops [⟨some 27, none, .mov (.tmp 7)⟩,
        ⟨some 28, none, .mov (.tmp 9)⟩,
        ⟨some 29, none, .mov (.tmp 1)⟩,
        ⟨some 30, none, .mov (.tmp 2)⟩,
        ⟨some 31, none, .build [.pointer none, .pointer none, .bool false, .int .u64 (0)] [(0, 1, (.tmp 27)), (1, 1, (.tmp 28)), (2, 1, (.tmp 29)), (3, 1, (.tmp 30))]⟩,
        ⟨some 32, none, .box 140 4 (.tmp 31)⟩,
        ⟨some 6, none, .mov (.tmp 32)⟩])
      .ret)))))⟩
theorem t28 : T 28 = some c28 := by kernel_rfl

def c30t : ACode :=
 (.seq
      (.ops [⟨some 162, none, .mov (.tmp 1)⟩,
        ⟨some 163, none, .call 81 [(.tmp 162)]⟩,
        ⟨some 161, none, .mov (.tmp 163)⟩,
        ⟨some 164, none, .ext (.tmp 161) 0⟩,
        ⟨some 165, none, .ext (.tmp 161) 1⟩,
        ⟨some 166, none, .ext (.tmp 161) 2⟩,
        ⟨some 15, none, .alloc 58 [.int .i64 (0), .int .i64 (0), .int .i64 (0), .int .u16 (0)]⟩,
        ⟨some 14, none, .mov (.tmp 164)⟩,
        ⟨none, none, .store 4 (.tmp 15) (.tmp 165)⟩,
        ⟨some 16, none, .mov (.tmp 166)⟩])
      (.seq
       (.ops [⟨some 168, none, .mov (.tmp 2)⟩,
         ⟨some 169, none, .call 82 [(.tmp 168)]⟩,
         ⟨some 167, none, .mov (.tmp 169)⟩,
         ⟨some 170, none, .ext (.tmp 167) 0⟩,
         ⟨some 171, none, .ext (.tmp 167) 1⟩,
         ⟨some 172, none, .ext (.tmp 167) 2⟩,
         ⟨some 18, none, .alloc 58 [.int .i64 (0), .int .i64 (0), .int .i64 (0), .int .u16 (0)]⟩,
         ⟨some 17, none, .mov (.tmp 170)⟩,
         ⟨none, none, .store 4 (.tmp 18) (.tmp 171)⟩,
         ⟨some 19, none, .mov (.tmp 172)⟩])
       (.seq
        (.opsD [⟨some 173, none, .mov (.tmp 7)⟩,
          ⟨some 174, none, .mov (.tmp 173)⟩,
          ⟨some 175, some (174, true), .mov (.tmp 14)⟩,
          ⟨some 176, some (174, true), .mov (.tmp 17)⟩,
          ⟨some 177, some (174, true), .bin .eql (.tmp 175) (.tmp 176)⟩,
          ⟨some 178, none, .pick (.tmp 174) (.tmp 177) (.const (.bool false))⟩,
          ⟨some 179, none, .mov (.tmp 178)⟩,
          ⟨some 180, some (179, true), .loadN 4 (.tmp 15)⟩,
          ⟨some 181, some (179, true), .loadN 4 (.tmp 18)⟩,
          ⟨some 182, some (179, true), .eqF false [(0, .i), (1, .i), (2, .i), (3, .i)] (.tmp 180) (.tmp 181)⟩,
          ⟨some 183, none, .pick (.tmp 179) (.tmp 182) (.const (.bool false))⟩,
          ⟨some 184, none, .mov (.tmp 183)⟩,
          ⟨some 185, some (184, true), .mov (.tmp 16)⟩,
          ⟨some 186, some (184, true), .mov (.tmp 19)⟩,
          ⟨some 187, some (184, true), .bin .eql (.tmp 185) (.tmp 186)⟩,
          ⟨some 188, none, .pick (.tmp 184) (.tmp 187) (.const (.bool false))⟩,
          ⟨some 189, none, .mov (.tmp 188)⟩,
          ⟨some 190, some (189, true), .mov (.tmp 1)⟩,
          ⟨some 191, some (189, true), .call 35 [(.tmp 190)]⟩,
          ⟨some 192, some (189, true), .mov (.tmp 2)⟩,
          ⟨some 193, some (189, true), .call 76 [(.tmp 192)]⟩,
          ⟨some 194, some (189, true), .bin .eql (.tmp 191) (.tmp 193)⟩,
          ⟨some 195, none, .pick (.tmp 189) (.tmp 194) (.const (.bool false))⟩,
          ⟨some 196, none, .mov (.tmp 195)⟩,
          ⟨some 197, some (196, true), .mov (.tmp 1)⟩,
          ⟨some 198, some (196, true), .faddr 1 (.tmp 3)⟩,
          ⟨some 199, some (196, true), .load1 (.tmp 198)⟩,
          ⟨some 200, some (196, true), .call 34 [(.tmp 197), (.tmp 199)]⟩,
          ⟨some 201, some (196, true), .mov (.tmp 2)⟩,
          ⟨some 202, some (196, true), .faddr 1 (.tmp 3)⟩,
          ⟨some 203, some (196, true), .load1 (.tmp 202)⟩,
          ⟨some 204, some (196, true), .call 83 [(.tmp 201), (.tmp 203)]⟩,
          ⟨some 205, some (196, true), .bin .eql (.tmp 200) (.tmp 204)⟩,
          ⟨some 206, none, .pick (.tmp 196) (.tmp 205) (.const (.bool false))⟩,
          ⟨some 207, none, .mov (.tmp 206)⟩,
          ⟨some 208, some (207, true), .mov (.tmp 1)⟩,
          ⟨some 209, some (207, true), .call 34 [(.tmp 208), (.const (.int .i64 (3)))]⟩,
          ⟨some 210, some (207, true), .mov (.tmp 2)⟩,
          ⟨some 211, some (207, true), .call 83 [(.tmp 210), (.const (.int .i64 (3)))]⟩,
          ⟨some 212, some (207, true), .bin .eql (.tmp 209) (.tmp 211)⟩,
          ⟨some 213, none, .pick (.tmp 207) (.tmp 212) (.const (.bool false))⟩,
          ⟨some 6, none, .mov (.tmp 213)⟩] [(30, 27), (30, 28)])
        .ret)))
def c30a : ACode :=
 (.opsD [⟨some 50, none, .mov (.tmp 1)⟩,
           ⟨some 51, none, .faddr 1 (.tmp 3)⟩,
           ⟨some 52, none, .load1 (.tmp 51)⟩,
           ⟨some 53, none, .mov (.tmp 8)⟩,
           ⟨some 54, none, .call 31 [(.tmp 50), (.tmp 52), (.tmp 53)]⟩,
           ⟨some 55, none, .mov (.tmp 2)⟩,
           ⟨some 56, none, .nilchk (.tmp 55)⟩,
           ⟨some 57, none, .faddr 0 (.tmp 56)⟩,
           ⟨some 58, none, .load1 (.tmp 57)⟩,
           ⟨some 59, none, .faddr 1 (.tmp 3)⟩,
           ⟨some 60, none, .load1 (.tmp 59)⟩,
           ⟨some 61, none, .mov (.tmp 8)⟩,
           ⟨some 62, none, .call 75 [(.tmp 58), (.tmp 60), (.tmp 61)]⟩,
           ⟨some 63, none, .bin .eql (.tmp 54) (.tmp 62)⟩,
           ⟨some 7, none, .mov (.tmp 63)⟩] [(8, 4), (8, 5), (10, 4), (10, 5)])
def c30b : ACode :=
 (.seq
            (.opsD [⟨some 67, none, .mov (.tmp 2)⟩,
              ⟨some 68, none, .call 76 [(.tmp 67)]⟩,
              ⟨some 69, none, .faddr 1 (.tmp 3)⟩,
              ⟨some 70, none, .load1 (.tmp 69)⟩,
              ⟨some 71, none, .cvInt .u64 (.tmp 70)⟩,
              ⟨some 72, none, .bin .rem (.tmp 71) (.const (.int .u64 (20)))⟩,
              ⟨some 73, none, .cvInt .i64 (.tmp 72)⟩,
              ⟨some 74, none, .bin .add (.tmp 68) (.tmp 73)⟩,
              ⟨some 75, none, .bin .sub (.tmp 74) (.const (.int .i64 (4)))⟩,
              ⟨some 9, none, .mov (.tmp 75)⟩] [(3, 1), (3, 2)])
            (.opsD [⟨some 76, none, .mov (.tmp 1)⟩,
              ⟨some 77, none, .mov (.tmp 9)⟩,
              ⟨some 78, none, .mov (.tmp 8)⟩,
              ⟨some 79, none, .call 31 [(.tmp 76), (.tmp 77), (.tmp 78)]⟩,
              ⟨some 80, none, .mov (.tmp 2)⟩,
              ⟨some 81, none, .nilchk (.tmp 80)⟩,
              ⟨some 82, none, .faddr 0 (.tmp 81)⟩,
              ⟨some 83, none, .load1 (.tmp 82)⟩,
              ⟨some 84, none, .mov (.tmp 9)⟩,
              ⟨some 85, none, .mov (.tmp 8)⟩,
              ⟨some 86, none, .call 75 [(.tmp 83), (.tmp 84), (.tmp 85)]⟩,
              ⟨some 87, none, .bin .eql (.tmp 79) (.tmp 86)⟩,
              ⟨some 7, none, .mov (.tmp 87)⟩] [(7, 3), (7, 4)]))
def c30c : ACode :=
 (.opsD [⟨some 90, none, .mov (.tmp 1)⟩,
               ⟨some 91, none, .faddr 2 (.tmp 3)⟩,
               ⟨some 92, none, .loadN 4 (.tmp 91)⟩,
               ⟨some 93, none, .call 32 [(.tmp 90), (.tmp 92)]⟩,
               ⟨some 94, none, .mov (.tmp 2)⟩,
               ⟨some 95, none, .nilchk (.tmp 94)⟩,
               ⟨some 96, none, .faddr 1 (.tmp 95)⟩,
               ⟨some 97, none, .load1 (.tmp 96)⟩,
               ⟨some 98, none, .faddr 2 (.tmp 3)⟩,
               ⟨some 99, none, .loadN 4 (.tmp 98)⟩,
               ⟨some 100, none, .call 77 [(.tmp 97), (.tmp 99)]⟩,
               ⟨some 101, none, .eq false false .bool (.tmp 93) (.tmp 100)⟩,
               ⟨some 7, none, .mov (.tmp 101)⟩] [(7, 3), (7, 4), (9, 3), (9, 4)])
def c30v : ACode :=
 (.seq
                     (.ops [⟨some 136, none, .mov (.tmp 12)⟩,
                       ⟨some 137, none, .mov (.tmp 136)⟩,
                       ⟨some 138, some (137, true), .faddr 0 (.tmp 3)⟩,
                       ⟨some 139, some (137, true), .load1 (.tmp 138)⟩,
                       ⟨some 140, some (137, true), .bin .rem (.tmp 139) (.const (.int .u8 (3)))⟩,
                       ⟨some 141, some (137, true), .bin .gtr (.tmp 140) (.const (.int .u8 (0)))⟩,
                       ⟨some 142, none, .pick (.tmp 137) (.tmp 141) (.const (.bool false))⟩])
                     (.cond (.tmp 142)
                      (.opsD [⟨some 143, none, .mov (.tmp 2)⟩,
                        ⟨some 144, none, .nilchk (.tmp 143)⟩,
                        ⟨some 145, none, .faddr 3 (.tmp 144)⟩,
                        ⟨some 146, none, .load1 (.tmp 145)⟩,
                        ⟨some 147, none, .loadN 4 (.tmp 10)⟩,
                        ⟨some 148, none, .mov (.tmp 11)⟩,
                        ⟨some 149, none, .call 79 [(.tmp 146), (.tmp 147), (.tmp 148)]⟩,
                        ⟨some 150, none, .faddr 3 (.tmp 10)⟩,
                        ⟨none, none, .store 1 (.tmp 150) (.tmp 149)⟩] [])
                      .skip))
def c30d : ACode :=
 (.seq
                (.ops [⟨some 106, none, .faddr 2 (.tmp 3)⟩,
                  ⟨some 107, none, .loadN 4 (.tmp 106)⟩,
                  ⟨some 10, none, .alloc 58 [.int .i64 (0), .int .i64 (0), .int .i64 (0), .int .u16 (0)]⟩,
                  ⟨none, none, .store 4 (.tmp 10) (.tmp 107)⟩])
                (.seq
                 (.opsD [⟨some 108, none, .mov (.tmp 2)⟩,
                   ⟨some 109, none, .call 76 [(.tmp 108)]⟩,
                   ⟨some 110, none, .faddr 0 (.tmp 10)⟩,
                   ⟨some 111, none, .load1 (.tmp 110)⟩,
                   ⟨some 112, none, .cvInt .u64 (.tmp 111)⟩,
                   ⟨some 113, none, .bin .rem (.tmp 112) (.const (.int .u64 (9)))⟩,
                   ⟨some 114, none, .cvInt .i64 (.tmp 113)⟩,
                   ⟨some 115, none, .bin .add (.tmp 109) (.tmp 114)⟩,
                   ⟨some 116, none, .bin .sub (.tmp 115) (.const (.int .i64 (1)))⟩,
                   ⟨some 117, none, .faddr 0 (.tmp 10)⟩,
                   ⟨none, none, .store 1 (.tmp 117) (.tmp 116)⟩] [(3, 1), (3, 2)])
                 (.seq
                  (.ops [⟨some 118, none, .faddr 2 (.tmp 10)⟩,
                    ⟨some 119, none, .load1 (.tmp 118)⟩,
                    ⟨some 120, none, .cvInt .u64 (.tmp 119)⟩,
                    ⟨some 121, none, .bin .rem (.tmp 120) (.const (.int .u64 (9)))⟩,
                    ⟨some 122, none, .cvInt .i64 (.tmp 121)⟩,
                    ⟨some 123, none, .faddr 2 (.tmp 10)⟩,
                    ⟨none, none, .store 1 (.tmp 123) (.tmp 122)⟩])
                  (.seq
                   (.opsD [⟨some 125, none, .mov (.tmp 2)⟩,
                     ⟨some 126, none, .nilchk (.tmp 125)⟩,
                     ⟨some 127, none, .faddr 0 (.tmp 126)⟩,
                     ⟨some 128, none, .load1 (.tmp 127)⟩,
                     ⟨some 129, none, .faddr 0 (.tmp 10)⟩,
                     ⟨some 130, none, .load1 (.tmp 129)⟩,
                     ⟨some 131, none, .faddr 2 (.tmp 10)⟩,
                     ⟨some 132, none, .load1 (.tmp 131)⟩,
                     ⟨some 133, none, .call 78 [(.tmp 128), (.tmp 130), (.tmp 132)]⟩,
                     ⟨some 124, none, .mov (.tmp 133)⟩,
                     ⟨some 134, none, .ext (.tmp 124) 0⟩,
                     ⟨some 135, none, .ext (.tmp 124) 1⟩,
                     ⟨some 11, none, .mov (.tmp 134)⟩,
                     ⟨some 12, none, .mov (.tmp 135)⟩] [])
                   (.seq
                    c30v
                    (.opsD [⟨some 151, none, .mov (.tmp 1)⟩,
                      ⟨some 152, none, .loadN 4 (.tmp 10)⟩,
                      ⟨some 153, none, .call 32 [(.tmp 151), (.tmp 152)]⟩,
                      ⟨some 154, none, .mov (.tmp 2)⟩,
                      ⟨some 155, none, .nilchk (.tmp 154)⟩,
                      ⟨some 156, none, .faddr 1 (.tmp 155)⟩,
                      ⟨some 157, none, .load1 (.tmp 156)⟩,
                      ⟨some 158, none, .loadN 4 (.tmp 10)⟩,
                      ⟨some 159, none, .call 77 [(.tmp 157), (.tmp 158)]⟩,
                      ⟨some 160, none, .eq false false .bool (.tmp 153) (.tmp 159)⟩,
                      ⟨some 7, none, .mov (.tmp 160)⟩] [(6, 2), (6, 3), (7, 2), (7, 3)]))))))
def c30e : ACode :=
 (.seq
                (.ops [⟨some 30, none, .faddr 1 (.tmp 3)⟩,
                  ⟨some 31, none, .load1 (.tmp 30)⟩,
                  ⟨some 32, none, .cvInt .u64 (.tmp 31)⟩,
                  ⟨some 33, none, .bin .rem (.tmp 32) (.const (.int .u64 (12)))⟩,
                  ⟨some 34, none, .cvInt .i64 (.tmp 33)⟩,
                  ⟨some 35, none, .bin .sub (.tmp 34) (.const (.int .i64 (2)))⟩,
                  ⟨some 13, none, .mov (.tmp 35)⟩])
                (.seq
                 (.seq
                  (.ops [⟨some 36, none, .faddr 2 (.tmp 3)⟩,
                    ⟨some 37, none, .faddr 0 (.tmp 36)⟩,
                    ⟨some 38, none, .load1 (.tmp 37)⟩,
                    ⟨some 39, none, .bin .eql (.tmp 38) (.const (.int .i64 (3)))⟩])
                  (.cond (.tmp 39)
                   (.ops [⟨some 40, none, .faddr 1 (.tmp 3)⟩,
                     ⟨some 41, none, .load1 (.tmp 40)⟩,
                     ⟨some 13, none, .mov (.tmp 41)⟩])
                   .skip))
                 (.seq
                  (.ops [⟨some 42, none, .mov (.tmp 1)⟩,
                    ⟨some 43, none, .mov (.tmp 13)⟩,
                    ⟨some 44, none, .call 38 [(.tmp 42), (.tmp 43)]⟩])
                  (.ops [⟨some 45, none, .mov (.tmp 2)⟩,
                    ⟨some 46, none, .mov (.tmp 13)⟩,
                    ⟨some 47, none, .call 80 [(.tmp 45), (.tmp 46)]⟩]))))
/-- (plait/plaitlaw20.Act).alike -/
def c30 : AFunc := ⟨214, 3, [.inl 6],
 (.seq
  (.ops [⟨some 3, none, .box 60 7 (.tmp 0)⟩,
    ⟨some 6, none, .mov (.const (.bool false))⟩])
  (.seq
   (.ops [⟨some 7, none, .mov (.const (.bool true))⟩])
   (.seq
    (.ops [⟨some 20, none, .faddr 6 (.tmp 3)⟩,
      ⟨some 21, none, .load1 (.tmp 20)⟩,
      ⟨some 22, none, .faddr 6 (.tmp 3)⟩,
      ⟨some 23, none, .load1 (.tmp 22)⟩,
      ⟨some 24, none, .lenS (.tmp 23)⟩,
      ⟨some 25, none, .min [(.tmp 24), (.const (.int .i64 (100)))]⟩,
      ⟨some 26, none, .sliceS (.tmp 21) none (some (.tmp 25))⟩,
      ⟨some 8, none, .mov (.tmp 26)⟩])
    (.seq
     (.seq
      (.ops [⟨some 27, none, .faddr 0 (.tmp 3)⟩,
        ⟨some 28, none, .load1 (.tmp 27)⟩,
        ⟨some 29, none, .bin .rem (.tmp 28) (.const (.int .u8 (8)))⟩])
      (.block 0
       (.seq
        (.ops [⟨some 49, none, .bin .eql (.tmp 29) (.const (.int .u8 (0)))⟩,
          ⟨some 48, none, .mov (.tmp 49)⟩])
        (.cond (.tmp 48)
         c30a
         (.seq
          (.seq
           (.ops [⟨some 65, none, .bin .eql (.tmp 29) (.const (.int .u8 (1)))⟩,
             ⟨some 64, none, .mov (.tmp 65)⟩])
           (.cond (.tmp 64)
            .skip
            (.ops [⟨some 66, none, .bin .eql (.tmp 29) (.const (.int .u8 (2)))⟩,
              ⟨some 64, none, .mov (.tmp 66)⟩])))
          (.cond (.tmp 64)
           c30b
           (.seq
            (.ops [⟨some 89, none, .bin .eql (.tmp 29) (.const (.int .u8 (3)))⟩,
              ⟨some 88, none, .mov (.tmp 89)⟩])
            (.cond (.tmp 88)
             c30c
             (.seq
              (.seq
               (.ops [⟨some 103, none, .bin .eql (.tmp 29) (.const (.int .u8 (4)))⟩,
                 ⟨some 102, none, .mov (.tmp 103)⟩])
               (.cond (.tmp 102)
                .skip
                (.seq
                 (.ops [⟨some 104, none, .bin .eql (.tmp 29) (.const (.int .u8 (5)))⟩,
                   ⟨some 102, none, .mov (.tmp 104)⟩])
                 (.cond (.tmp 102)
                  .skip
                  (.ops [⟨some 105, none, .bin .eql (.tmp 29) (.const (.int .u8 (6)))⟩,
                    ⟨some 102, none, .mov (.tmp 105)⟩])))))
              (.cond (.tmp 102)
               c30d
               c30e))))))))))
     c30t))))⟩
theorem t30 : T 30 = some c30 := by kernel_rfl

/-- plait/plaitref17.New -/
def c73 : AFunc := ⟨15, 1, [.inl 2, .inl 3],
 (.seq
  (.ops [⟨some 2, none, .mov (.const (.pointer none))⟩,
    ⟨some 3, none, .mov (.const (.int .i64 (0)))⟩])
  (.seq
   (.seq
    (.ops [⟨some 4, none, .mov (.tmp 0)⟩,
      ⟨some 5, none, .bin .lss (.tmp 4) (.const (.int .i64 (1)))⟩,
      ⟨some 6, none, .mov (.tmp 5)⟩,
      ⟨some 7, some (6, false), .mov (.tmp 0)⟩,
      ⟨some 8, some (6, false), .bin .gtr (.tmp 7) (.const (.int .i64 (2048)))⟩,
      ⟨some 9, none, .pick (.tmp 6) (.const (.bool true)) (.tmp 8)⟩])
    (.cond (.tmp 9)
     (.seq
      (.ops [⟨some 2, none, .mov (.const (.pointer none))⟩,
        ⟨some 3, none, .mov (.const (.int .i64 (2)))⟩])
      .ret)
     .skip))
   (.seq
    (.ops [⟨some 10, none, .mov (.tmp 0)⟩,
      ⟨some 11, none, .mov (.tmp 0)⟩,
      ⟨some 12, none, .call 113 [(.tmp 11)]⟩,
      ⟨some 13, none, .build [.int .i64 (0), .int .i64 (0), .slice none 0 0] [(0, 1, (.tmp 10)), (2, 1, (.tmp 12))]⟩,
      ⟨some 14, none, .box 174 3 (.tmp 13)⟩,
      ⟨some 2, none, .mov (.tmp 14)⟩,
      ⟨some 3, none, .mov (.const (.int .i64 (0)))⟩])
    .ret)))⟩
theorem t73 : T 73 = some c73 := by kernel_rfl

/-- plait/plaitref18.New -/
def c74 : AFunc := ⟨13, 1, [.inl 2, .inl 3],
 (.seq
  (.ops [⟨some 2, none, .mov (.const (.pointer none))⟩,
    ⟨some 3, none, .mov (.const (.int .i64 (0)))⟩])
  (.seq
   (.seq
    (.ops [⟨some 4, none, .mov (.tmp 0)⟩,
      ⟨some 5, none, .bin .lss (.tmp 4) (.const (.int .i64 (1)))⟩,
      ⟨some 6, none, .mov (.tmp 5)⟩,
      ⟨some 7, some (6, false), .mov (.tmp 0)⟩,
      ⟨some 8, some (6, false), .bin .gtr (.tmp 7) (.const (.int .i64 (2048)))⟩,
      ⟨some 9, none, .pick (.tmp 6) (.const (.bool true)) (.tmp 8)⟩])
    (.cond (.tmp 9)
     (.seq
      (.ops [⟨some 2, none, .mov (.const (.pointer none))⟩,
        ⟨some 3, none, .mov (.const (.int .i64 (2)))⟩])
      .ret)
     .skip))
   (.seq
    (.ops [⟨some 10, none, .mov (.tmp 0)⟩,
      ⟨some 11, none, .build [.int .i64 (0), .int .i64 (0), .slice none 0 0] [(0, 1, (.tmp 10))]⟩,
      ⟨some 12, none, .box 176 3 (.tmp 11)⟩,
      ⟨some 2, none, .mov (.tmp 12)⟩,
      ⟨some 3, none, .mov (.const (.int .i64 (0)))⟩])
    .ret)))⟩
theorem t74 : T 74 = some c74 := by kernel_rfl

/-- (*plait/plaitref17.Hole).Put -/
def c75 : AFunc := ⟨76, 3, [.inl 6],
 (.seq
  (.ops [⟨some 6, none, .mov (.const (.int .i64 (0)))⟩])
  (.seq
   (.seq
    (.ops [⟨some 10, none, .mov (.tmp 1)⟩,
      ⟨some 11, none, .mov (.tmp 2)⟩,
      ⟨some 12, none, .lenS (.tmp 11)⟩,
      ⟨some 13, none, .bin .sub (.const (.int .i64 (4611686018427387904))) (.tmp 12)⟩,
      ⟨some 14, none, .bin .geq (.tmp 10) (.tmp 13)⟩,
      ⟨some 15, none, .mov (.tmp 14)⟩,
      ⟨some 16, some (15, false), .mov (.tmp 1)⟩,
      ⟨some 17, some (15, false), .mov (.tmp 0)⟩,
      ⟨some 18, some (15, false), .nilchk (.tmp 17)⟩,
      ⟨some 19, some (15, false), .faddr 1 (.tmp 18)⟩,
      ⟨some 20, some (15, false), .load1 (.tmp 19)⟩,
      ⟨some 21, some (15, false), .mov (.tmp 2)⟩,
      ⟨some 22, some (15, false), .lenS (.tmp 21)⟩,
      ⟨some 23, some (15, false), .bin .sub (.tmp 20) (.tmp 22)⟩,
      ⟨some 24, some (15, false), .bin .lss (.tmp 16) (.tmp 23)⟩,
      ⟨some 25, none, .pick (.tmp 15) (.const (.bool true)) (.tmp 24)⟩])
    (.cond (.tmp 25)
     (.seq
      (.ops [⟨some 6, none, .mov (.const (.int .i64 (0)))⟩])
      .ret)
     .skip))
   (.seq
    (.ops [⟨some 7, none, .mov (.const (.int .i64 (0)))⟩])
    (.seq
     (.seq
      (.ops [⟨some 8, none, .mov (.const (.int .i64 (0)))⟩])
      (.block 0
       (.loop
        (.seq
         (.seq
          (.ops [⟨some 26, none, .mov (.tmp 8)⟩,
            ⟨some 27, none, .mov (.tmp 0)⟩,
            ⟨some 28, none, .nilchk (.tmp 27)⟩,
            ⟨some 29, none, .faddr 0 (.tmp 28)⟩,
            ⟨some 30, none, .load1 (.tmp 29)⟩,
            ⟨some 31, none, .bin .lss (.tmp 26) (.tmp 30)⟩])
          (.cond (.tmp 31)
           .skip
           (.exit 0)))
         (.seq
          (.block 1
           (.seq
            (.ops [⟨some 34, none, .mov (.tmp 0)⟩,
              ⟨some 35, none, .nilchk (.tmp 34)⟩,
              ⟨some 36, none, .faddr 1 (.tmp 35)⟩,
              ⟨some 37, none, .load1 (.tmp 36)⟩,
              ⟨some 38, none, .mov (.tmp 8)⟩,
              ⟨some 39, none, .bin .add (.tmp 37) (.tmp 38)⟩,
              ⟨some 9, none, .mov (.tmp 39)⟩])
            (.seq
             (.ops [⟨some 40, none, .mov (.tmp 9)⟩,
               ⟨some 41, none, .mov (.tmp 1)⟩,
               ⟨some 42, none, .bin .geq (.tmp 40) (.tmp 41)⟩,
               ⟨some 43, none, .mov (.tmp 42)⟩,
               ⟨some 44, some (43, true), .mov (.tmp 9)⟩,
               ⟨some 45, some (43, true), .mov (.tmp 1)⟩,
               ⟨some 46, some (43, true), .bin .sub (.tmp 44) (.tmp 45)⟩,
               ⟨some 47, some (43, true), .mov (.tmp 2)⟩,
               ⟨some 48, some (43, true), .lenS (.tmp 47)⟩,
               ⟨some 49, some (43, true), .bin .lss (.tmp 46) (.tmp 48)⟩,
               ⟨some 50, none, .pick (.tmp 43) (.tmp 49) (.const (.bool false))⟩,
               ⟨some 51, none, .mov (.tmp 50)⟩,
               ⟨some 52, some (51, true), .mov (.tmp 0)⟩,
               ⟨some 53, some (51, true), .nilchk (.tmp 52)⟩,
               ⟨some 54, some (51, true), .faddr 2 (.tmp 53)⟩,
               ⟨some 55, some (51, true), .load1 (.tmp 54)⟩,
               ⟨some 56, some (51, true), .mov (.tmp 8)⟩,
               ⟨some 57, some (51, true), .iaddrS 1 (.tmp 55) (.tmp 56)⟩,
               ⟨some 58, some (51, true), .load1 (.tmp 57)⟩,
               ⟨some 59, some (51, true), .bin .lss (.tmp 58) (.const (.int .i64 (0)))⟩,
               ⟨some 60, none, .pick (.tmp 51) (.tmp 59) (.const (.bool false))⟩])
             (.cond (.tmp 60)
              (.seq
               (.opsD [⟨some 61, none, .mov (.tmp 0)⟩,
                 ⟨some 62, none, .nilchk (.tmp 61)⟩,
                 ⟨some 63, none, .faddr 2 (.tmp 62)⟩,
                 ⟨some 64, none, .load1 (.tmp 63)⟩,
                 ⟨some 65, none, .mov (.tmp 8)⟩,
                 ⟨some 66, none, .mov (.tmp 2)⟩,
                 ⟨some 67, none, .mov (.tmp 9)⟩,
                 ⟨some 68, none, .mov (.tmp 1)⟩,
                 ⟨some 69, none, .bin .sub (.tmp 67) (.tmp 68)⟩,
                 ⟨some 70, none, .idxS (.tmp 66) (.tmp 69)⟩,
                 ⟨some 71, none, .cvInt .i64 (.tmp 70)⟩,
                 ⟨some 72, none, .iaddrS 1 (.tmp 64) (.tmp 65)⟩,
                 ⟨none, none, .store 1 (.tmp 72) (.tmp 71)⟩] [])
               (.ops [⟨some 73, none, .mov (.tmp 7)⟩,
                 ⟨some 74, none, .bin .add (.tmp 73) (.const (.int .i64 (1)))⟩,
                 ⟨some 7, none, .mov (.tmp 74)⟩]))
              .skip))))
          (.ops [⟨some 32, none, .mov (.tmp 8)⟩,
            ⟨some 33, none, .bin .add (.tmp 32) (.const (.int .i64 (1)))⟩,
            ⟨some 8, none, .mov (.tmp 33)⟩]))))))
     (.seq
      (.ops [⟨some 75, none, .mov (.tmp 7)⟩,
        ⟨some 6, none, .mov (.tmp 75)⟩])
      .ret)))))⟩
theorem t75 : T 75 = some c75 := by kernel_rfl

/-- (*plait/plaitref20.In).N -/
def c76 : AFunc := ⟨10, 1, [.inl 2],
 (.seq
  (.ops [⟨some 2, none, .mov (.const (.int .i64 (0)))⟩])
  (.seq
   (.ops [⟨some 3, none, .mov (.tmp 0)⟩,
     ⟨some 4, none, .nilchk (.tmp 3)⟩,
     ⟨some 5, none, .faddr 0 (.tmp 4)⟩,
     ⟨some 6, none, .load1 (.tmp 5)⟩,
     ⟨some 7, none, .nilchk (.tmp 6)⟩,
     ⟨some 8, none, .faddr 1 (.tmp 7)⟩,
     ⟨some 9, none, .load1 (.tmp 8)⟩,
     ⟨some 2, none, .mov (.tmp 9)⟩])
   .ret))⟩
theorem t76 : T 76 = some c76 := by kernel_rfl

/-- (*plait/plaitref18.Table).Put -/
def c77 : AFunc := ⟨67, 2, [.inl 4],
 (.seq
  (.ops [⟨some 3, none, .box 58 4 (.tmp 1)⟩,
    ⟨some 4, none, .mov (.const (.bool false))⟩])
  (.seq
   (.ops [⟨some 8, none, .mov (.tmp 0)⟩,
     ⟨some 9, none, .faddr 0 (.tmp 3)⟩,
     ⟨some 10, none, .load1 (.tmp 9)⟩,
     ⟨some 11, none, .call 114 [(.tmp 8), (.tmp 10)]⟩,
     ⟨some 7, none, .mov (.tmp 11)⟩,
     ⟨some 12, none, .ext (.tmp 7) 0⟩,
     ⟨some 13, none, .ext (.tmp 7) 1⟩,
     ⟨some 5, none, .alloc 58 [.int .i64 (0), .int .i64 (0), .int .i64 (0), .int .u16 (0)]⟩,
     ⟨none, none, .store 4 (.tmp 5) (.tmp 12)⟩,
     ⟨some 6, none, .mov (.tmp 13)⟩])
   (.seq
    (.seq
     (.opsD [⟨some 14, none, .mov (.tmp 6)⟩,
       ⟨some 15, none, .mov (.tmp 14)⟩,
       ⟨some 16, some (15, false), .faddr 2 (.tmp 3)⟩,
       ⟨some 17, some (15, false), .load1 (.tmp 16)⟩,
       ⟨some 18, some (15, false), .bin .lss (.tmp 17) (.const (.int .i64 (1)))⟩,
       ⟨some 19, none, .pick (.tmp 15) (.const (.bool true)) (.tmp 18)⟩,
       ⟨some 20, none, .mov (.tmp 19)⟩,
       ⟨some 21, some (20, false), .faddr 2 (.tmp 3)⟩,
       ⟨some 22, some (20, false), .load1 (.tmp 21)⟩,
       ⟨some 23, some (20, false), .mov (.tmp 0)⟩,
       ⟨some 24, some (20, false), .nilchk (.tmp 23)⟩,
       ⟨some 25, some (20, false), .faddr 0 (.tmp 24)⟩,
       ⟨some 26, some (20, false), .load1 (.tmp 25)⟩,
       ⟨some 27, some (20, false), .bin .gtr (.tmp 22) (.tmp 26)⟩,
       ⟨some 28, none, .pick (.tmp 20) (.const (.bool true)) (.tmp 27)⟩,
       ⟨some 29, none, .mov (.tmp 28)⟩,
       ⟨some 30, some (29, false), .faddr 1 (.tmp 3)⟩,
       ⟨some 31, some (29, false), .load1 (.tmp 30)⟩,
       ⟨some 32, some (29, false), .bin .lss (.tmp 31) (.const (.int .i64 (0)))⟩,
       ⟨some 33, none, .pick (.tmp 29) (.const (.bool true)) (.tmp 32)⟩,
       ⟨some 34, none, .mov (.tmp 33)⟩,
       ⟨some 35, some (34, false), .faddr 0 (.tmp 3)⟩,
       ⟨some 36, some (34, false), .load1 (.tmp 35)⟩,
       ⟨some 37, some (34, false), .mov (.tmp 0)⟩,
       ⟨some 38, some (34, false), .nilchk (.tmp 37)⟩,
       ⟨some 39, some (34, false), .faddr 1 (.tmp 38)⟩,
       ⟨some 40, some (34, false), .load1 (.tmp 39)⟩,
       ⟨some 41, some (34, false), .bin .lss (.tmp 36) (.tmp 40)⟩,
       ⟨some 42, none, .pick (.tmp 34) (.const (.bool true)) (.tmp 41)⟩,
       ⟨some 43, none, .mov (.tmp 42)⟩,
       ⟨some 44, some (43, false), .faddr 0 (.tmp 3)⟩,
       ⟨some 45, some (43, false), .load1 (.tmp 44)⟩,
       ⟨some 46, some (43, false), .mov (.tmp 0)⟩,
       ⟨some 47, some (43, false), .nilchk (.tmp 46)⟩,
       ⟨some 48, some (43, false), .faddr 1 (.tmp 47)⟩,
       ⟨some 49, some (43, false), .load1 (.tmp 48)⟩,
       ⟨some 50, some (43, false), .mov (.tmp 0)⟩,
       ⟨some 51, some (43, false), .nilchk (.tmp 50)⟩,
       ⟨some 52, some (43, false), .faddr 0 (.tmp 51)⟩,
       ⟨some 53, some (43, false), .load1 (.tmp 52)⟩,
       ⟨some 54, some (43, false), .bin .add (.tmp 49) (.tmp 53)⟩,
       ⟨some 55, some (43, false), .bin .geq (.tmp 45) (.tmp 54)⟩,
       ⟨some 56, none, .pick (.tmp 43) (.const (.bool true)) (.tmp 55)⟩] [])
     (.cond (.tmp 56)
      (.seq
       (.ops [⟨some 4, none, .mov (.const (.bool false))⟩])
       .ret)
      .skip))
    (.seq
     (.opsD [⟨some 57, none, .mov (.tmp 0)⟩,
       ⟨some 58, none, .mov (.tmp 0)⟩,
       ⟨some 59, none, .nilchk (.tmp 58)⟩,
       ⟨some 60, none, .faddr 2 (.tmp 59)⟩,
       ⟨some 61, none, .load1 (.tmp 60)⟩,
       ⟨some 62, none, .loadN 4 (.tmp 3)⟩,
       ⟨some 63, none, .bslice 58 1 [.int .i64 (0), .int .i64 (0), .int .i64 (0), .int .u16 (0)] [(0, 4, (.tmp 62))]⟩,
       ⟨some 64, none, .append 58 4 32 (.tmp 61) (.tmp 63)⟩,
       ⟨some 65, none, .nilchk (.tmp 57)⟩,
       ⟨some 66, none, .faddr 2 (.tmp 65)⟩,
       ⟨none, none, .store 1 (.tmp 66) (.tmp 64)⟩] [])
     (.seq
      (.ops [⟨some 4, none, .mov (.const (.bool true))⟩])
      .ret)))))⟩
theorem t77 : T 77 = some c77 := by kernel_rfl

/-- (*plait/plaitref17.Hole).Text -/
def c78 : AFunc := ⟨71, 3, [.inl 6, .inl 7],
 (.seq
  (.ops [⟨some 6, none, .mov (.const (.string ⟨⟨[]⟩⟩))⟩,
    ⟨some 7, none, .mov (.const (.bool false))⟩])
  (.seq
   (.seq
    (.opsD [⟨some 10, none, .mov (.tmp 2)⟩,
      ⟨some 11, none, .bin .lss (.tmp 10) (.const (.int .i64 (0)))⟩,
      ⟨some 12, none, .mov (.tmp 11)⟩,
      ⟨some 13, some (12, false), .mov (.tmp 1)⟩,
      ⟨some 14, some (12, false), .mov (.tmp 0)⟩,
      ⟨some 15, some (12, false), .nilchk (.tmp 14)⟩,
      ⟨some 16, some (12, false), .faddr 1 (.tmp 15)⟩,
      ⟨some 17, some (12, false), .load1 (.tmp 16)⟩,
      ⟨some 18, some (12, false), .bin .lss (.tmp 13) (.tmp 17)⟩,
      ⟨some 19, none, .pick (.tmp 12) (.const (.bool true)) (.tmp 18)⟩,
      ⟨some 20, none, .mov (.tmp 19)⟩,
      ⟨some 21, some (20, false), .mov (.tmp 2)⟩,
      ⟨some 22, some (20, false), .mov (.tmp 0)⟩,
      ⟨some 23, some (20, false), .nilchk (.tmp 22)⟩,
      ⟨some 24, some (20, false), .faddr 0 (.tmp 23)⟩,
      ⟨some 25, some (20, false), .load1 (.tmp 24)⟩,
      ⟨some 26, some (20, false), .bin .gtr (.tmp 21) (.tmp 25)⟩,
      ⟨some 27, none, .pick (.tmp 20) (.const (.bool true)) (.tmp 26)⟩,
      ⟨some 28, none, .mov (.tmp 27)⟩,
      ⟨some 29, some (28, false), .mov (.tmp 1)⟩,
      ⟨some 30, some (28, false), .mov (.tmp 0)⟩,
      ⟨some 31, some (28, false), .nilchk (.tmp 30)⟩,
      ⟨some 32, some (28, false), .faddr 1 (.tmp 31)⟩,
      ⟨some 33, some (28, false), .load1 (.tmp 32)⟩,
      ⟨some 34, some (28, false), .mov (.tmp 0)⟩,
      ⟨some 35, some (28, false), .nilchk (.tmp 34)⟩,
      ⟨some 36, some (28, false), .faddr 0 (.tmp 35)⟩,
      ⟨some 37, some (28, false), .load1 (.tmp 36)⟩,
      ⟨some 38, some (28, false), .bin .add (.tmp 33) (.tmp 37)⟩,
      ⟨some 39, some (28, false), .bin .gtr (.tmp 29) (.tmp 38)⟩,
      ⟨some 40, none, .pick (.tmp 28) (.const (.bool true)) (.tmp 39)⟩] [])
    (.cond (.tmp 40)
     (.seq
      (.ops [⟨some 6, none, .mov (.const (.string ⟨⟨[]⟩⟩))⟩,
        ⟨some 7, none, .mov (.const (.bool false))⟩])
      .ret)
     .skip))
   (.seq
    (.ops [⟨some 8, none, .mov (.const (.slice none 0 0))⟩])
    (.seq
     (.seq
      (.ops [⟨some 41, none, .mov (.tmp 1)⟩,
        ⟨some 9, none, .mov (.tmp 41)⟩])
      (.block 0
       (.loop
        (.seq
         (.seq
          (.ops [⟨some 42, none, .mov (.tmp 9)⟩,
            ⟨some 43, none, .mov (.tmp 1)⟩,
            ⟨some 44, none, .mov (.tmp 2)⟩,
            ⟨some 45, none, .bin .add (.tmp 43) (.tmp 44)⟩,
            ⟨some 46, none, .bin .lss (.tmp 42) (.tmp 45)⟩])
          (.cond (.tmp 46)
           .skip
           (.exit 0)))
         (.seq
          (.block 1
           (.seq
            (.seq
             (.ops [⟨some 49, none, .mov (.tmp 0)⟩,
               ⟨some 50, none, .mov (.tmp 9)⟩,
               ⟨some 51, none, .call 115 [(.tmp 49), (.tmp 50)]⟩,
               ⟨some 52, none, .un .not (.tmp 51)⟩])
             (.cond (.tmp 52)
              (.seq
               (.ops [⟨some 6, none, .mov (.const (.string ⟨⟨[]⟩⟩))⟩,
                 ⟨some 7, none, .mov (.const (.bool false))⟩])
               .ret)
              .skip))
            (.opsD [⟨some 53, none, .mov (.tmp 8)⟩,
              ⟨some 54, none, .mov (.tmp 0)⟩,
              ⟨some 55, none, .nilchk (.tmp 54)⟩,
              ⟨some 56, none, .faddr 2 (.tmp 55)⟩,
              ⟨some 57, none, .load1 (.tmp 56)⟩,
              ⟨some 58, none, .mov (.tmp 9)⟩,
              ⟨some 59, none, .mov (.tmp 0)⟩,
              ⟨some 60, none, .nilchk (.tmp 59)⟩,
              ⟨some 61, none, .faddr 1 (.tmp 60)⟩,
              ⟨some 62, none, .load1 (.tmp 61)⟩,
              ⟨some 63, none, .bin .sub (.tmp 58) (.tmp 62)⟩,
              ⟨some 64, none, .iaddrS 1 (.tmp 57) (.tmp 63)⟩,
              ⟨some 65, none, .load1 (.tmp 64)⟩,
              ⟨some 66, none, .cvInt .u8 (.tmp 65)⟩,
              ⟨some 67, none, .bslice 5 1 [.int .u8 (0)] [(0, 1, (.tmp 66))]⟩,
              ⟨some 68, none, .append 5 1 1 (.tmp 53) (.tmp 67)⟩,
              ⟨some 8, none, .mov (.tmp 68)⟩] [])))
          (.ops [⟨some 47, none, .mov (.tmp 9)⟩,
            ⟨some 48, none, .bin .add (.tmp 47) (.const (.int .i64 (1)))⟩,
            ⟨some 9, none, .mov (.tmp 48)⟩]))))))
     (.seq
      (.ops [⟨some 69, none, .mov (.tmp 8)⟩,
        ⟨some 70, none, .cvB2S (.tmp 69)⟩,
        ⟨some 6, none, .mov (.tmp 70)⟩,
        ⟨some 7, none, .mov (.const (.bool true))⟩])
      .ret)))))⟩
theorem t78 : T 78 = some c78 := by kernel_rfl

/-- plait/plaitref20.Sum -/
def c79 : AFunc := ⟨21, 3, [.inl 6],
 (.seq
  (.ops [⟨some 4, none, .box 58 4 (.tmp 1)⟩,
    ⟨some 6, none, .mov (.const (.int .u16 (0)))⟩])
  (.seq
   (.ops [⟨some 7, none, .mov (.tmp 0)⟩,
     ⟨some 8, none, .bin .add (.tmp 7) (.const (.int .u64 (1)))⟩,
     ⟨some 9, none, .faddr 1 (.tmp 4)⟩,
     ⟨some 10, none, .load1 (.tmp 9)⟩,
     ⟨some 11, none, .cvInt .u64 (.tmp 10)⟩,
     ⟨some 12, none, .bin .add (.tmp 8) (.tmp 11)⟩,
     ⟨some 13, none, .faddr 0 (.tmp 4)⟩,
     ⟨some 14, none, .load1 (.tmp 13)⟩,
     ⟨some 15, none, .bin .add (.const (.int .i64 (1))) (.tmp 14)⟩,
     ⟨some 16, none, .cvInt .u32 (.tmp 15)⟩,
     ⟨some 17, none, .faddr 2 (.tmp 4)⟩,
     ⟨some 18, none, .load1 (.tmp 17)⟩,
     ⟨some 19, none, .mov (.tmp 2)⟩,
     ⟨some 20, none, .call 116 [(.tmp 12), (.tmp 16), (.tmp 18), (.tmp 19)]⟩,
     ⟨some 6, none, .mov (.tmp 20)⟩])
   .ret))⟩
theorem t79 : T 79 = some c79 := by kernel_rfl

/-- (*plait/plaitref20.In).Skip -/
def c80 : AFunc := ⟨17, 2, [],
 (.seq
  (.ops [⟨some 4, none, .mov (.tmp 0)⟩,
    ⟨some 5, none, .nilchk (.tmp 4)⟩,
    ⟨some 6, none, .faddr 0 (.tmp 5)⟩,
    ⟨some 7, none, .load1 (.tmp 6)⟩,
    ⟨some 8, none, .mov (.tmp 1)⟩,
    ⟨some 9, none, .call 117 [(.tmp 7), (.tmp 8)]⟩])
  (.opsD [⟨some 10, none, .mov (.tmp 0)⟩,
    ⟨some 11, none, .nilchk (.tmp 10)⟩,
    ⟨some 12, none, .faddr 1 (.tmp 11)⟩,
    ⟨some 13, none, .load1 (.tmp 12)⟩,
    ⟨some 14, none, .mov (.tmp 0)⟩,
    ⟨some 15, none, .call 76 [(.tmp 14)]⟩,
    ⟨some 16, none, .call 118 [(.tmp 13), (.tmp 15)]⟩] [(3, 5), (3, 6)]))⟩
theorem t80 : T 80 = some c80 := by kernel_rfl

/-- (*plait/plaitref20.In).Next -/
def c82 : AFunc := ⟨75, 1, [.inl 2, .inr (3, 4, true), .inl 4],
 (.seq
  (.ops [⟨some 2, none, .mov (.const (.int .i64 (0)))⟩,
    ⟨some 3, none, .alloc 58 [.int .i64 (0), .int .i64 (0), .int .i64 (0), .int .u16 (0)]⟩,
    ⟨some 4, none, .mov (.const (.string ⟨⟨[]⟩⟩))⟩])
  (.seq
   (.opsD [⟨some 10, none, .mov (.tmp 0)⟩,
     ⟨some 11, none, .nilchk (.tmp 10)⟩,
     ⟨some 12, none, .faddr 1 (.tmp 11)⟩,
     ⟨some 13, none, .load1 (.tmp 12)⟩,
     ⟨some 14, none, .mov (.tmp 0)⟩,
     ⟨some 15, none, .call 76 [(.tmp 14)]⟩,
     ⟨some 16, none, .call 114 [(.tmp 13), (.tmp 15)]⟩,
     ⟨some 9, none, .mov (.tmp 16)⟩,
     ⟨some 17, none, .ext (.tmp 9) 0⟩,
     ⟨some 18, none, .ext (.tmp 9) 1⟩,
     ⟨some 5, none, .alloc 58 [.int .i64 (0), .int .i64 (0), .int .i64 (0), .int .u16 (0)]⟩,
     ⟨none, none, .store 4 (.tmp 5) (.tmp 17)⟩,
     ⟨some 6, none, .mov (.tmp 18)⟩] [(3, 5), (3, 6)])
   (.seq
    (.seq
     (.ops [⟨some 19, none, .mov (.tmp 6)⟩,
       ⟨some 20, none, .un .not (.tmp 19)⟩])
     (.cond (.tmp 20)
      (.seq
       (.seq
        (.opsD [⟨some 21, none, .mov (.tmp 0)⟩,
          ⟨some 22, none, .nilchk (.tmp 21)⟩,
          ⟨some 23, none, .faddr 0 (.tmp 22)⟩,
          ⟨some 24, none, .load1 (.tmp 23)⟩,
          ⟨some 25, none, .mov (.tmp 0)⟩,
          ⟨some 26, none, .call 76 [(.tmp 25)]⟩,
          ⟨some 27, none, .call 115 [(.tmp 24), (.tmp 26)]⟩] [(3, 5), (3, 6)])
        (.cond (.tmp 27)
         (.seq
          (.ops [⟨some 28, none, .build [.int .i64 (0), .int .i64 (0), .int .i64 (0), .int .u16 (0)] []⟩,
            ⟨some 2, none, .mov (.const (.int .i64 (3)))⟩,
            ⟨none, none, .store 4 (.tmp 3) (.tmp 28)⟩,
            ⟨some 4, none, .mov (.const (.string ⟨⟨[]⟩⟩))⟩])
          .ret)
         .skip))
       (.seq
        (.ops [⟨some 29, none, .build [.int .i64 (0), .int .i64 (0), .int .i64 (0), .int .u16 (0)] []⟩,
          ⟨some 2, none, .mov (.const (.int .i64 (0)))⟩,
          ⟨none, none, .store 4 (.tmp 3) (.tmp 29)⟩,
          ⟨some 4, none, .mov (.const (.string ⟨⟨[]⟩⟩))⟩])
        .ret))
      .skip))
    (.seq
     (.opsD [⟨some 31, none, .mov (.tmp 0)⟩,
       ⟨some 32, none, .nilchk (.tmp 31)⟩,
       ⟨some 33, none, .faddr 0 (.tmp 32)⟩,
       ⟨some 34, none, .load1 (.tmp 33)⟩,
       ⟨some 35, none, .faddr 0 (.tmp 5)⟩,
       ⟨some 36, none, .load1 (.tmp 35)⟩,
       ⟨some 37, none, .faddr 2 (.tmp 5)⟩,
       ⟨some 38, none, .load1 (.tmp 37)⟩,
       ⟨some 39, none, .call 78 [(.tmp 34), (.tmp 36), (.tmp 38)]⟩,
       ⟨some 30, none, .mov (.tmp 39)⟩,
       ⟨some 40, none, .ext (.tmp 30) 0⟩,
       ⟨some 41, none, .ext (.tmp 30) 1⟩,
       ⟨some 7, none, .mov (.tmp 40)⟩,
       ⟨some 8, none, .mov (.tmp 41)⟩] [])
     (.seq
      (.seq
       (.ops [⟨some 42, none, .mov (.tmp 8)⟩,
         ⟨some 43, none, .un .not (.tmp 42)⟩])
       (.cond (.tmp 43)
        (.seq
         (.ops [⟨some 44, none, .build [.int .i64 (0), .int .i64 (0), .int .i64 (0), .int .u16 (0)] []⟩,
           ⟨some 2, none, .mov (.const (.int .i64 (0)))⟩,
           ⟨none, none, .store 4 (.tmp 3) (.tmp 44)⟩,
           ⟨some 4, none, .mov (.const (.string ⟨⟨[]⟩⟩))⟩])
         .ret)
        .skip))
      (.seq
       (.seq
        (.opsD [⟨some 45, none, .mov (.tmp 0)⟩,
          ⟨some 46, none, .nilchk (.tmp 45)⟩,
          ⟨some 47, none, .faddr 2 (.tmp 46)⟩,
          ⟨some 48, none, .load1 (.tmp 47)⟩,
          ⟨some 49, none, .mov (.tmp 48)⟩,
          ⟨some 50, some (49, true), .mov (.tmp 0)⟩,
          ⟨some 51, some (49, true), .nilchk (.tmp 50)⟩,
          ⟨some 52, some (49, true), .faddr 3 (.tmp 51)⟩,
          ⟨some 53, some (49, true), .load1 (.tmp 52)⟩,
          ⟨some 54, some (49, true), .bin .add (.tmp 53) (.const (.int .u64 (1)))⟩,
          ⟨some 55, some (49, true), .faddr 1 (.tmp 5)⟩,
          ⟨some 56, some (49, true), .load1 (.tmp 55)⟩,
          ⟨some 57, some (49, true), .cvInt .u64 (.tmp 56)⟩,
          ⟨some 58, some (49, true), .bin .add (.tmp 54) (.tmp 57)⟩,
          ⟨some 59, some (49, true), .faddr 0 (.tmp 5)⟩,
          ⟨some 60, some (49, true), .load1 (.tmp 59)⟩,
          ⟨some 61, some (49, true), .bin .add (.const (.int .i64 (1))) (.tmp 60)⟩,
          ⟨some 62, some (49, true), .cvInt .u32 (.tmp 61)⟩,
          ⟨some 63, some (49, true), .faddr 2 (.tmp 5)⟩,
          ⟨some 64, some (49, true), .load1 (.tmp 63)⟩,
          ⟨some 65, some (49, true), .mov (.tmp 7)⟩,
          ⟨some 66, some (49, true), .faddr 3 (.tmp 5)⟩,
          ⟨some 67, some (49, true), .load1 (.tmp 66)⟩,
          ⟨some 68, some (49, true), .call 123 [(.tmp 58), (.tmp 62), (.tmp 64), (.tmp 65), (.tmp 67)]⟩,
          ⟨some 69, some (49, true), .un .not (.tmp 68)⟩,
          ⟨some 70, none, .pick (.tmp 49) (.tmp 69) (.const (.bool false))⟩] [])
        (.cond (.tmp 70)
         (.seq
          (.opsD [⟨some 71, none, .loadN 4 (.tmp 5)⟩,
            ⟨some 72, none, .mov (.tmp 7)⟩,
            ⟨some 2, none, .mov (.const (.int .i64 (2)))⟩,
            ⟨none, none, .store 4 (.tmp 3) (.tmp 71)⟩,
            ⟨some 4, none, .mov (.tmp 72)⟩] [])
          .ret)
         .skip))
       (.seq
        (.opsD [⟨some 73, none, .loadN 4 (.tmp 5)⟩,
          ⟨some 74, none, .mov (.tmp 7)⟩,
          ⟨some 2, none, .mov (.const (.int .i64 (1)))⟩,
          ⟨none, none, .store 4 (.tmp 3) (.tmp 73)⟩,
          ⟨some 4, none, .mov (.tmp 74)⟩] [])
        .ret)))))))⟩
theorem t82 : T 82 = some c82 := by kernel_rfl

/-- (*plait/plaitref20.In).Raw -/
def c83 : AFunc := ⟨41, 2, [.inl 4],
 (.seq
  (.ops [⟨some 4, none, .mov (.const (.string ⟨⟨[]⟩⟩))⟩])
  (.seq
   (.ops [⟨some 5, none, .mov (.const (.string ⟨⟨[]⟩⟩))⟩])
   (.seq
    (.block 0
     (.loop
      (.seq
       (.seq
        (.opsD [⟨some 8, none, .mov (.tmp 5)⟩,
          ⟨some 9, none, .lenS (.tmp 8)⟩,
          ⟨some 10, none, .mov (.tmp 1)⟩,
          ⟨some 11, none, .bin .lss (.tmp 9) (.tmp 10)⟩,
          ⟨some 12, none, .mov (.tmp 11)⟩,
          ⟨some 13, some (12, true), .mov (.tmp 0)⟩,
          ⟨some 14, some (12, true), .nilchk (.tmp 13)⟩,
          ⟨some 15, some (12, true), .faddr 0 (.tmp 14)⟩,
          ⟨some 16, some (12, true), .load1 (.tmp 15)⟩,
          ⟨some 17, some (12, true), .mov (.tmp 0)⟩,
          ⟨some 18, some (12, true), .call 76 [(.tmp 17)]⟩,
          ⟨some 19, some (12, true), .mov (.tmp 5)⟩,
          ⟨some 20, some (12, true), .lenS (.tmp 19)⟩,
          ⟨some 21, some (12, true), .bin .add (.tmp 18) (.tmp 20)⟩,
          ⟨some 22, some (12, true), .call 115 [(.tmp 16), (.tmp 21)]⟩,
          ⟨some 23, none, .pick (.tmp 12) (.tmp 22) (.const (.bool false))⟩] [(8, 10), (8, 11)])
        (.cond (.tmp 23)
         .skip
         (.exit 0)))
       (.block 1
        (.seq
         (.opsD [⟨some 25, none, .mov (.tmp 0)⟩,
           ⟨some 26, none, .nilchk (.tmp 25)⟩,
           ⟨some 27, none, .faddr 0 (.tmp 26)⟩,
           ⟨some 28, none, .load1 (.tmp 27)⟩,
           ⟨some 29, none, .mov (.tmp 0)⟩,
           ⟨some 30, none, .call 76 [(.tmp 29)]⟩,
           ⟨some 31, none, .mov (.tmp 5)⟩,
           ⟨some 32, none, .lenS (.tmp 31)⟩,
           ⟨some 33, none, .bin .add (.tmp 30) (.tmp 32)⟩,
           ⟨some 34, none, .call 78 [(.tmp 28), (.tmp 33), (.const (.int .i64 (1)))]⟩,
           ⟨some 24, none, .mov (.tmp 34)⟩,
           ⟨some 35, none, .ext (.tmp 24) 0⟩,
           ⟨some 36, none, .ext (.tmp 24) 1⟩,
           ⟨some 6, none, .mov (.tmp 35)⟩,
           ⟨some 7, none, .mov (.tmp 36)⟩] [(3, 5), (3, 6)])
         (.ops [⟨some 37, none, .mov (.tmp 5)⟩,
           ⟨some 38, none, .mov (.tmp 6)⟩,
           ⟨some 39, none, .bin .add (.tmp 37) (.tmp 38)⟩,
           ⟨some 5, none, .mov (.tmp 39)⟩]))))))
    (.seq
     (.ops [⟨some 40, none, .mov (.tmp 5)⟩,
       ⟨some 4, none, .mov (.tmp 40)⟩])
     .ret))))⟩
theorem t83 : T 83 = some c83 := by kernel_rfl

/-- plait/plaitref17.empty -/
def c113 : AFunc := ⟨16, 1, [.inl 2],
 (.seq
  (.ops [⟨some 2, none, .mov (.const (.slice none 0 0))⟩])
  (.seq
   (.ops [⟨some 5, none, .mov (.tmp 0)⟩,
     ⟨some 6, none, .mkS 3 1 8 [.int .i64 (0)] (.tmp 5) (.tmp 5)⟩,
     ⟨some 3, none, .mov (.tmp 6)⟩])
   (.seq
    (.seq
     (.ops [⟨some 4, none, .mov (.const (.int .i64 (0)))⟩])
     (.block 0
      (.loop
       (.seq
        (.seq
         (.ops [⟨some 7, none, .mov (.tmp 4)⟩,
           ⟨some 8, none, .mov (.tmp 0)⟩,
           ⟨some 9, none, .bin .lss (.tmp 7) (.tmp 8)⟩])
         (.cond (.tmp 9)
          .skip
          (.exit 0)))
        (.seq
         (.block 1
          (.ops [⟨some 12, none, .mov (.tmp 3)⟩,
            ⟨some 13, none, .mov (.tmp 4)⟩,
            ⟨some 14, none, .iaddrS 1 (.tmp 12) (.tmp 13)⟩,
            ⟨none, none, .store 1 (.tmp 14) (.const (.int .i64 (-1)))⟩]))
         (.ops [⟨some 10, none, .mov (.tmp 4)⟩,
           ⟨some 11, none, .bin .add (.tmp 10) (.const (.int .i64 (1)))⟩,
           ⟨some 4, none, .mov (.tmp 11)⟩]))))))
    (.seq
     (.ops [⟨some 15, none, .mov (.tmp 3)⟩,
       ⟨some 2, none, .mov (.tmp 15)⟩])
     .ret))))⟩
theorem t113 : T 113 = some c113 := by kernel_rfl

/-- (*plait/plaitref18.Table).At -/
def c114 : AFunc := ⟨34, 2, [.inr (4, 4, true), .inl 5],
 (.seq
  (.ops [⟨some 4, none, .alloc 58 [.int .i64 (0), .int .i64 (0), .int .i64 (0), .int .u16 (0)]⟩,
    ⟨some 5, none, .mov (.const (.bool false))⟩])
  (.seq
   (.seq
    (.ops [⟨some 6, none, .mov (.const (.int .i64 (0)))⟩])
    (.block 0
     (.loop
      (.seq
       (.seq
        (.ops [⟨some 7, none, .mov (.tmp 6)⟩,
          ⟨some 8, none, .mov (.tmp 0)⟩,
          ⟨some 9, none, .nilchk (.tmp 8)⟩,
          ⟨some 10, none, .faddr 2 (.tmp 9)⟩,
          ⟨some 11, none, .load1 (.tmp 10)⟩,
          ⟨some 12, none, .lenV (.tmp 11)⟩,
          ⟨some 13, none, .bin .lss (.tmp 7) (.tmp 12)⟩])
        (.cond (.tmp 13)
         .skip
         (.exit 0)))
       (.seq
        (.block 1
         (.seq
          (.ops [⟨some 16, none, .mov (.tmp 0)⟩,
            ⟨some 17, none, .nilchk (.tmp 16)⟩,
            ⟨some 18, none, .faddr 2 (.tmp 17)⟩,
            ⟨some 19, none, .load1 (.tmp 18)⟩,
            ⟨some 20, none, .mov (.tmp 6)⟩,
            ⟨some 21, none, .iaddrS 4 (.tmp 19) (.tmp 20)⟩,
            ⟨some 22, none, .faddr 0 (.tmp 21)⟩,
            ⟨some 23, none, .load1 (.tmp 22)⟩,
            ⟨some 24, none, .mov (.tmp 1)⟩,
            ⟨some 25, none, .bin .eql (.tmp 23) (.tmp 24)⟩])
          (.cond (.tmp 25)
           (.seq
            (.ops [⟨some 26, none, .mov (.tmp 0)⟩,
              ⟨some 27, none, .nilchk (.tmp 26)⟩,
              ⟨some 28, none, .faddr 2 (.tmp 27)⟩,
              ⟨some 29, none, .load1 (.tmp 28)⟩,
              ⟨some 30, none, .mov (.tmp 6)⟩,
              ⟨some 31, none, .iaddrS 4 (.tmp 29) (.tmp 30)⟩,
              ⟨some 32, none, .loadN 4 (.tmp 31)⟩,
              ⟨none, none, .store 4 (.tmp 4) (.tmp 32)⟩,
              ⟨some 5, none, .mov (.const (.bool true))⟩])
            .ret)
           .skip)))
        (.ops [⟨some 14, none, .mov (.tmp 6)⟩,
          ⟨some 15, none, .bin .add (.tmp 14) (.const (.int .i64 (1)))⟩,
          ⟨some 6, none, .mov (.tmp 15)⟩]))))))
   (.seq
    (.ops [⟨some 33, none, .build [.int .i64 (0), .int .i64 (0), .int .i64 (0), .int .u16 (0)] []⟩,
      ⟨none, none, .store 4 (.tmp 4) (.tmp 33)⟩,
      ⟨some 5, none, .mov (.const (.bool false))⟩])
    .ret)))⟩
theorem t114 : T 114 = some c114 := by kernel_rfl

/-- (*plait/plaitref17.Hole).Has -/
def c115 : AFunc := ⟨39, 2, [.inl 4],
 (.seq
  (.ops [⟨some 4, none, .mov (.const (.bool false))⟩])
  (.seq
   (.opsD [⟨some 5, none, .mov (.tmp 1)⟩,
     ⟨some 6, none, .mov (.tmp 0)⟩,
     ⟨some 7, none, .nilchk (.tmp 6)⟩,
     ⟨some 8, none, .faddr 1 (.tmp 7)⟩,
     ⟨some 9, none, .load1 (.tmp 8)⟩,
     ⟨some 10, none, .bin .geq (.tmp 5) (.tmp 9)⟩,
     ⟨some 11, none, .mov (.tmp 10)⟩,
     ⟨some 12, some (11, true), .mov (.tmp 1)⟩,
     ⟨some 13, some (11, true), .mov (.tmp 0)⟩,
     ⟨some 14, some (11, true), .nilchk (.tmp 13)⟩,
     ⟨some 15, some (11, true), .faddr 1 (.tmp 14)⟩,
     ⟨some 16, some (11, true), .load1 (.tmp 15)⟩,
     ⟨some 17, some (11, true), .mov (.tmp 0)⟩,
     ⟨some 18, some (11, true), .nilchk (.tmp 17)⟩,
     ⟨some 19, some (11, true), .faddr 0 (.tmp 18)⟩,
     ⟨some 20, some (11, true), .load1 (.tmp 19)⟩,
     ⟨some 21, some (11, true), .bin .add (.tmp 16) (.tmp 20)⟩,
     ⟨some 22, some (11, true), .bin .lss (.tmp 12) (.tmp 21)⟩,
     ⟨some 23, none, .pick (.tmp 11) (.tmp 22) (.const (.bool false))⟩,
     ⟨some 24, none, .mov (.tmp 23)⟩,
     ⟨some 25, some (24, true), .mov (.tmp 0)⟩,
     ⟨some 26, some (24, true), .nilchk (.tmp 25)⟩,
     ⟨some 27, some (24, true), .faddr 2 (.tmp 26)⟩,
     ⟨some 28, some (24, true), .load1 (.tmp 27)⟩,
     ⟨some 29, some (24, true), .mov (.tmp 1)⟩,
     ⟨some 30, some (24, true), .mov (.tmp 0)⟩,
     ⟨some 31, some (24, true), .nilchk (.tmp 30)⟩,
     ⟨some 32, some (24, true), .faddr 1 (.tmp 31)⟩,
     ⟨some 33, some (24, true), .load1 (.tmp 32)⟩,
     ⟨some 34, some (24, true), .bin .sub (.tmp 29) (.tmp 33)⟩,
     ⟨some 35, some (24, true), .iaddrS 1 (.tmp 28) (.tmp 34)⟩,
     ⟨some 36, some (24, true), .load1 (.tmp 35)⟩,
     ⟨some 37, some (24, true), .bin .geq (.tmp 36) (.const (.int .i64 (0)))⟩,
     ⟨some 38, none, .pick (.tmp 24) (.tmp 37) (.const (.bool false))⟩,
     ⟨some 4, none, .mov (.tmp 38)⟩] [])
   .ret))⟩
theorem t115 : T 115 = some c115 := by kernel_rfl

/-- plait/plaitref19.Of -/
def c116 : AFunc := ⟨16, 4, [.inl 8],
 (.seq
  (.ops [⟨some 8, none, .mov (.const (.int .u16 (0)))⟩])
  (.seq
   (.ops [⟨some 9, none, .mov (.tmp 0)⟩,
     ⟨some 10, none, .mov (.tmp 1)⟩,
     ⟨some 11, none, .mov (.tmp 2)⟩,
     ⟨some 12, none, .mov (.tmp 3)⟩,
     ⟨some 13, none, .call 150 [(.tmp 9), (.tmp 10), (.tmp 11), (.tmp 12), (.const (.int .u16 (0)))]⟩,
     ⟨some 14, none, .call 149 [(.tmp 13)]⟩,
     ⟨some 15, none, .call 148 [(.tmp 14)]⟩,
     ⟨some 8, none, .mov (.tmp 15)⟩])
   .ret))⟩
theorem t116 : T 116 = some c116 := by kernel_rfl

/-- (*plait/plaitref17.Hole).Skip -/
def c117 : AFunc := ⟨45, 2, [],
 (.seq
  (.ops [⟨some 4, none, .mov (.tmp 1)⟩,
    ⟨some 5, none, .mov (.tmp 0)⟩,
    ⟨some 6, none, .nilchk (.tmp 5)⟩,
    ⟨some 7, none, .faddr 1 (.tmp 6)⟩,
    ⟨some 8, none, .load1 (.tmp 7)⟩,
    ⟨some 9, none, .bin .sub (.const (.int .i64 (2305843009213693952))) (.tmp 8)⟩,
    ⟨some 10, none, .min [(.tmp 4), (.tmp 9)]⟩,
    ⟨some 11, none, .max [(.const (.int .i64 (0))), (.tmp 10)]⟩,
    ⟨some 1, none, .mov (.tmp 11)⟩])
  (.seq
   (.opsD [⟨some 12, none, .mov (.tmp 0)⟩,
     ⟨some 13, none, .bslice 3 0 [] []⟩,
     ⟨some 14, none, .mov (.tmp 0)⟩,
     ⟨some 15, none, .nilchk (.tmp 14)⟩,
     ⟨some 16, none, .faddr 2 (.tmp 15)⟩,
     ⟨some 17, none, .load1 (.tmp 16)⟩,
     ⟨some 18, none, .mov (.tmp 1)⟩,
     ⟨some 19, none, .mov (.tmp 0)⟩,
     ⟨some 20, none, .nilchk (.tmp 19)⟩,
     ⟨some 21, none, .faddr 0 (.tmp 20)⟩,
     ⟨some 22, none, .load1 (.tmp 21)⟩,
     ⟨some 23, none, .min [(.tmp 18), (.tmp 22)]⟩,
     ⟨some 24, none, .sliceV 1 (.tmp 17) (some (.tmp 23)) none none⟩,
     ⟨some 25, none, .append 3 1 8 (.tmp 13) (.tmp 24)⟩,
     ⟨some 26, none, .mov (.tmp 1)⟩,
     ⟨some 27, none, .mov (.tmp 0)⟩,
     ⟨some 28, none, .nilchk (.tmp 27)⟩,
     ⟨some 29, none, .faddr 0 (.tmp 28)⟩,
     ⟨some 30, none, .load1 (.tmp 29)⟩,
     ⟨some 31, none, .min [(.tmp 26), (.tmp 30)]⟩,
     ⟨some 32, none, .call 113 [(.tmp 31)]⟩,
     ⟨some 33, none, .append 3 1 8 (.tmp 25) (.tmp 32)⟩,
     ⟨some 34, none, .nilchk (.tmp 12)⟩,
     ⟨some 35, none, .faddr 2 (.tmp 34)⟩,
     ⟨none, none, .store 1 (.tmp 35) (.tmp 33)⟩] [(18, 13), (18, 14)])
   (.ops [⟨some 36, none, .mov (.tmp 0)⟩,
     ⟨some 37, none, .mov (.tmp 0)⟩,
     ⟨some 38, none, .nilchk (.tmp 37)⟩,
     ⟨some 39, none, .faddr 1 (.tmp 38)⟩,
     ⟨some 40, none, .load1 (.tmp 39)⟩,
     ⟨some 41, none, .mov (.tmp 1)⟩,
     ⟨some 42, none, .bin .add (.tmp 40) (.tmp 41)⟩,
     ⟨some 43, none, .nilchk (.tmp 36)⟩,
     ⟨some 44, none, .faddr 1 (.tmp 43)⟩,
     ⟨none, none, .store 1 (.tmp 44) (.tmp 42)⟩])))⟩
theorem t117 : T 117 = some c117 := by kernel_rfl

/-- (*plait/plaitref18.Table).Cut -/
def c118 : AFunc := ⟨52, 2, [],
 (.seq
  (.ops [⟨some 6, none, .mov (.tmp 0)⟩,
    ⟨some 7, none, .mov (.tmp 0)⟩,
    ⟨some 8, none, .nilchk (.tmp 7)⟩,
    ⟨some 9, none, .faddr 1 (.tmp 8)⟩,
    ⟨some 10, none, .load1 (.tmp 9)⟩,
    ⟨some 11, none, .mov (.tmp 1)⟩,
    ⟨some 12, none, .min [(.tmp 11), (.const (.int .i64 (2305843009213693952)))]⟩,
    ⟨some 13, none, .max [(.tmp 10), (.tmp 12)]⟩,
    ⟨some 14, none, .nilchk (.tmp 6)⟩,
    ⟨some 15, none, .faddr 1 (.tmp 14)⟩,
    ⟨none, none, .store 1 (.tmp 15) (.tmp 13)⟩])
  (.seq
   (.ops [⟨some 4, none, .mov (.const (.slice none 0 0))⟩])
   (.seq
    (.seq
     (.ops [⟨some 5, none, .mov (.const (.int .i64 (0)))⟩])
     (.block 0
      (.loop
       (.seq
        (.seq
         (.ops [⟨some 16, none, .mov (.tmp 5)⟩,
           ⟨some 17, none, .mov (.tmp 0)⟩,
           ⟨some 18, none, .nilchk (.tmp 17)⟩,
           ⟨some 19, none, .faddr 2 (.tmp 18)⟩,
           ⟨some 20, none, .load1 (.tmp 19)⟩,
           ⟨some 21, none, .lenV (.tmp 20)⟩,
           ⟨some 22, none, .bin .lss (.tmp 16) (.tmp 21)⟩])
         (.cond (.tmp 22)
          .skip
          (.exit 0)))
        (.seq
         (.block 1
          (.seq
           (.opsD [⟨some 25, none, .mov (.tmp 0)⟩,
             ⟨some 26, none, .nilchk (.tmp 25)⟩,
             ⟨some 27, none, .faddr 2 (.tmp 26)⟩,
             ⟨some 28, none, .load1 (.tmp 27)⟩,
             ⟨some 29, none, .mov (.tmp 5)⟩,
             ⟨some 30, none, .iaddrS 4 (.tmp 28) (.tmp 29)⟩,
             ⟨some 31, none, .faddr 0 (.tmp 30)⟩,
             ⟨some 32, none, .load1 (.tmp 31)⟩,
             ⟨some 33, none, .mov (.tmp 0)⟩,
             ⟨some 34, none, .nilchk (.tmp 33)⟩,
             ⟨some 35, none, .faddr 1 (.tmp 34)⟩,
             ⟨some 36, none, .load1 (.tmp 35)⟩,
             ⟨some 37, none, .bin .geq (.tmp 32) (.tmp 36)⟩] [])
           (.cond (.tmp 37)
            (.ops [⟨some 38, none, .mov (.tmp 4)⟩,
              ⟨some 39, none, .mov (.tmp 0)⟩,
              ⟨some 40, none, .nilchk (.tmp 39)⟩,
              ⟨some 41, none, .faddr 2 (.tmp 40)⟩,
              ⟨some 42, none, .load1 (.tmp 41)⟩,
              ⟨some 43, none, .mov (.tmp 5)⟩,
              ⟨some 44, none, .iaddrS 4 (.tmp 42) (.tmp 43)⟩,
              ⟨some 45, none, .loadN 4 (.tmp 44)⟩,
              ⟨some 46, none, .bslice 58 1 [.int .i64 (0), .int .i64 (0), .int .i64 (0), .int .u16 (0)] [(0, 4, (.tmp 45))]⟩,
              ⟨some 47, none, .append 58 4 32 (.tmp 38) (.tmp 46)⟩,
              ⟨some 4, none, .mov (.tmp 47)⟩])
            .skip)))
         (.ops [⟨some 23, none, .mov (.tmp 5)⟩,
           ⟨some 24, none, .bin .add (.tmp 23) (.const (.int .i64 (1)))⟩,
           ⟨some 5, none, .mov (.tmp 24)⟩]))))))
    (.ops [⟨some 48, none, .mov (.tmp 0)⟩,
      ⟨some 49, none, .mov (.tmp 4)⟩,
      ⟨some 50, none, .nilchk (.tmp 48)⟩,
      ⟨some 51, none, .faddr 2 (.tmp 50)⟩,
      ⟨none, none, .store 1 (.tmp 51) (.tmp 49)⟩]))))⟩
theorem t118 : T 118 = some c118 := by kernel_rfl

/-- plait/plaitref19.Right -/
def c123 : AFunc := ⟨19, 5, [.inl 10],
 (.seq
  (.ops [⟨some 10, none, .mov (.const (.bool false))⟩])
  (.seq
   (.ops [⟨some 11, none, .mov (.tmp 0)⟩,
     ⟨some 12, none, .mov (.tmp 1)⟩,
     ⟨some 13, none, .mov (.tmp 2)⟩,
     ⟨some 14, none, .mov (.tmp 3)⟩,
     ⟨some 15, none, .mov (.tmp 4)⟩,
     ⟨some 16, none, .call 150 [(.tmp 11), (.tmp 12), (.tmp 13), (.tmp 14), (.tmp 15)]⟩,
     ⟨some 17, none, .call 149 [(.tmp 16)]⟩,
     ⟨some 18, none, .bin .eql (.tmp 17) (.const (.int .u16 (65535)))⟩,
     ⟨some 10, none, .mov (.tmp 18)⟩])
   .ret))⟩
theorem t123 : T 123 = some c123 := by kernel_rfl

/-- plait/plaitref03.Not -/
def c148 : AFunc := ⟨5, 1, [.inl 2],
 (.seq
  (.ops [⟨some 2, none, .mov (.const (.int .u16 (0)))⟩])
  (.seq
   (.ops [⟨some 3, none, .mov (.tmp 0)⟩,
     ⟨some 4, none, .bin .sub (.const (.int .u16 (65535))) (.tmp 3)⟩,
     ⟨some 2, none, .mov (.tmp 4)⟩])
   .ret))⟩
theorem t148 : T 148 = some c148 := by kernel_rfl

def c149b : ACode :=
 (.seq
    (.ops [⟨some 3, none, .mov (.const (.int .u64 (0)))⟩])
    (.seq
     (.seq
      (.ops [⟨some 4, none, .mov (.const (.int .i64 (0)))⟩])
      (.block 0
       (.loop
        (.seq
         (.seq
          (.ops [⟨some 11, none, .mov (.tmp 4)⟩,
            ⟨some 12, none, .mov (.tmp 0)⟩,
            ⟨some 13, none, .lenS (.tmp 12)⟩,
            ⟨some 14, none, .bin .lss (.tmp 11) (.tmp 13)⟩])
          (.cond (.tmp 14)
           .skip
           (.exit 0)))
         (.seq
          (.block 1
           (.opsD [⟨some 17, none, .mov (.tmp 3)⟩,
             ⟨some 18, none, .mov (.tmp 0)⟩,
             ⟨some 19, none, .mov (.tmp 4)⟩,
             ⟨some 20, none, .idxS (.tmp 18) (.tmp 19)⟩,
             ⟨some 21, none, .cvInt .u64 (.tmp 20)⟩,
             ⟨some 22, none, .bin .mul (.const (.int .u64 (256))) (.tmp 21)⟩,
             ⟨some 23, none, .bin .add (.tmp 17) (.tmp 22)⟩,
             ⟨some 24, none, .mov (.tmp 0)⟩,
             ⟨some 25, none, .mov (.tmp 4)⟩,
             ⟨some 26, none, .bin .add (.tmp 25) (.const (.int .i64 (1)))⟩,
             ⟨some 27, none, .idxS (.tmp 24) (.tmp 26)⟩,
             ⟨some 28, none, .cvInt .u64 (.tmp 27)⟩,
             ⟨some 29, none, .bin .add (.tmp 23) (.tmp 28)⟩,
             ⟨some 3, none, .mov (.tmp 29)⟩] []))
          (.ops [⟨some 15, none, .mov (.tmp 4)⟩,
            ⟨some 16, none, .bin .add (.tmp 15) (.const (.int .i64 (2)))⟩,
            ⟨some 4, none, .mov (.tmp 16)⟩]))))))
     (.seq
      (.ops [⟨some 30, none, .mov (.tmp 3)⟩,
        ⟨some 31, none, .call 168 [(.tmp 30)]⟩,
        ⟨some 2, none, .mov (.tmp 31)⟩])
      .ret)))
/-- plait/plaitref03.Of -/
def c149 : AFunc := ⟨32, 1, [.inl 2],
 (.seq
  (.ops [⟨some 2, none, .mov (.const (.int .u16 (0)))⟩])
  (.seq
   (.seq
    (.ops [⟨some 5, none, .mov (.tmp 0)⟩,
      ⟨some 6, none, .lenS (.tmp 5)⟩,
      ⟨some 7, none, .bin .rem (.tmp 6) (.const (.int .i64 (2)))⟩,
      ⟨some 8, none, .bin .eql (.tmp 7) (.const (.int .i64 (1)))⟩])
    (.cond (.tmp 8)
     (.ops [⟨some 9, none, .mov (.tmp 0)⟩,
       ⟨some 10, none, .bin .add (.tmp 9) (.const (.string ⟨⟨[0]⟩⟩))⟩,
       ⟨some 0, none, .mov (.tmp 10)⟩])
     .skip))
   c149b))⟩
theorem t149 : T 149 = some c149 := by kernel_rfl

/-- plait/plaitref19.all -/
def c150 : AFunc := ⟨27, 5, [.inl 10],
 (.seq
  (.ops [⟨some 10, none, .mov (.const (.string ⟨⟨[]⟩⟩))⟩])
  (.seq
   (.ops [⟨some 11, none, .mov (.tmp 0)⟩,
     ⟨some 12, none, .call 169 [(.tmp 11), (.const (.int .i64 (8)))]⟩,
     ⟨some 13, none, .mov (.tmp 1)⟩,
     ⟨some 14, none, .cvInt .u64 (.tmp 13)⟩,
     ⟨some 15, none, .call 169 [(.tmp 14), (.const (.int .i64 (4)))]⟩,
     ⟨some 16, none, .bin .add (.tmp 12) (.tmp 15)⟩,
     ⟨some 17, none, .mov (.tmp 2)⟩,
     ⟨some 18, none, .cvInt .u64 (.tmp 17)⟩,
     ⟨some 19, none, .call 169 [(.tmp 18), (.const (.int .i64 (2)))]⟩,
     ⟨some 20, none, .bin .add (.tmp 16) (.tmp 19)⟩,
     ⟨some 21, none, .mov (.tmp 4)⟩,
     ⟨some 22, none, .cvInt .u64 (.tmp 21)⟩,
     ⟨some 23, none, .call 169 [(.tmp 22), (.const (.int .i64 (2)))]⟩,
     ⟨some 24, none, .bin .add (.tmp 20) (.tmp 23)⟩,
     ⟨some 25, none, .mov (.tmp 3)⟩,
     ⟨some 26, none, .bin .add (.tmp 24) (.tmp 25)⟩,
     ⟨some 10, none, .mov (.tmp 26)⟩])
   .ret))⟩
theorem t150 : T 150 = some c150 := by kernel_rfl

/-- plait/plaitref03.Fold -/
def c168 : AFunc := ⟨10, 1, [.inl 2],
 (.seq
  (.ops [⟨some 2, none, .mov (.const (.int .u16 (0)))⟩])
  (.seq
   (.seq
    (.ops [⟨some 3, none, .mov (.tmp 0)⟩,
      ⟨some 4, none, .bin .eql (.tmp 3) (.const (.int .u64 (0)))⟩])
    (.cond (.tmp 4)
     (.seq
      (.ops [⟨some 2, none, .mov (.const (.int .u16 (0)))⟩])
      .ret)
     .skip))
   (.seq
    (.ops [⟨some 5, none, .mov (.tmp 0)⟩,
      ⟨some 6, none, .bin .sub (.tmp 5) (.const (.int .u64 (1)))⟩,
      ⟨some 7, none, .bin .rem (.tmp 6) (.const (.int .u64 (65535)))⟩,
      ⟨some 8, none, .bin .add (.tmp 7) (.const (.int .u64 (1)))⟩,
      ⟨some 9, none, .cvInt .u16 (.tmp 8)⟩,
      ⟨some 2, none, .mov (.tmp 9)⟩])
    .ret)))⟩
theorem t168 : T 168 = some c168 := by kernel_rfl

/-- plait/plaitref01.Laid -/
def c169 : AFunc := ⟨24, 2, [.inl 4],
 (.seq
  (.ops [⟨some 4, none, .mov (.const (.string ⟨⟨[]⟩⟩))⟩])
  (.seq
   (.ops [⟨some 5, none, .mov (.const (.slice none 0 0))⟩])
   (.seq
    (.seq
     (.ops [⟨some 7, none, .mov (.tmp 1)⟩,
       ⟨some 8, none, .bin .sub (.tmp 7) (.const (.int .i64 (1)))⟩,
       ⟨some 6, none, .mov (.tmp 8)⟩])
     (.block 0
      (.loop
       (.seq
        (.seq
         (.ops [⟨some 9, none, .mov (.tmp 6)⟩,
           ⟨some 10, none, .bin .geq (.tmp 9) (.const (.int .i64 (0)))⟩])
         (.cond (.tmp 10)
          .skip
          (.exit 0)))
        (.seq
         (.block 1
          (.ops [⟨some 13, none, .mov (.tmp 5)⟩,
            ⟨some 14, none, .mov (.tmp 0)⟩,
            ⟨some 15, none, .mov (.tmp 6)⟩,
            ⟨some 16, none, .bin .mul (.const (.int .i64 (8))) (.tmp 15)⟩,
            ⟨some 17, none, .cvInt .u64 (.tmp 16)⟩,
            ⟨some 18, none, .bin .shr (.tmp 14) (.tmp 17)⟩,
            ⟨some 19, none, .cvInt .u8 (.tmp 18)⟩,
            ⟨some 20, none, .bslice 5 1 [.int .u8 (0)] [(0, 1, (.tmp 19))]⟩,
            ⟨some 21, none, .append 5 1 1 (.tmp 13) (.tmp 20)⟩,
            ⟨some 5, none, .mov (.tmp 21)⟩]))
         (.ops [⟨some 11, none, .mov (.tmp 6)⟩,
           ⟨some 12, none, .bin .sub (.tmp 11) (.const (.int .i64 (1)))⟩,
           ⟨some 6, none, .mov (.tmp 12)⟩]))))))
    (.seq
     (.ops [⟨some 22, none, .mov (.tmp 5)⟩,
       ⟨some 23, none, .cvB2S (.tmp 22)⟩,
       ⟨some 4, none, .mov (.tmp 23)⟩])
     .ret))))⟩
theorem t169 : T 169 = some c169 := by kernel_rfl

end Go.Proofs.Ytidgbapgedegbaa

