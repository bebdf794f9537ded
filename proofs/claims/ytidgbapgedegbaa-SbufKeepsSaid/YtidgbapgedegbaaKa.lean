/- The code of functions, as the framework reads it. -/
import Derived.Test.YtidgbapgedegbaaTab
import Derived.KernelRfl
namespace Go.Proofs.Ytidgbapgedegbaa
open Go Go.AS
set_option maxRecDepth 100000
def tab8 : List UInt8 := [0, 1, 2, 2, 3, 3, 3, 3, 4, 4, 4, 4, 4, 4, 4, 4, 5, 5, 5, 5, 5, 5, 5, 5, 5, 5, 5, 5, 5, 5, 5, 5, 6, 6, 6, 6, 6, 6, 6, 6, 6, 6, 6, 6, 6, 6, 6, 6, 6, 6, 6, 6, 6, 6, 6, 6, 6, 6, 6, 6, 6, 6, 6, 6, 7, 7, 7, 7, 7, 7, 7, 7, 7, 7, 7, 7, 7, 7, 7, 7, 7, 7, 7, 7, 7, 7, 7, 7, 7, 7, 7, 7, 7, 7, 7, 7, 7, 7, 7, 7, 7, 7, 7, 7, 7, 7, 7, 7, 7, 7, 7, 7, 7, 7, 7, 7, 7, 7, 7, 7, 7, 7, 7, 7, 7, 7, 7, 7, 8, 8, 8, 8, 8, 8, 8, 8, 8, 8, 8, 8, 8, 8, 8, 8, 8, 8, 8, 8, 8, 8, 8, 8, 8, 8, 8, 8, 8, 8, 8, 8, 8, 8, 8, 8, 8, 8, 8, 8, 8, 8, 8, 8, 8, 8, 8, 8, 8, 8, 8, 8, 8, 8, 8, 8, 8, 8, 8, 8, 8, 8, 8, 8, 8, 8, 8, 8, 8, 8, 8, 8, 8, 8, 8, 8, 8, 8, 8, 8, 8, 8, 8, 8, 8, 8, 8, 8, 8, 8, 8, 8, 8, 8, 8, 8, 8, 8, 8, 8, 8, 8, 8, 8, 8, 8, 8, 8, 8, 8, 8, 8, 8, 8, 8, 8, 8, 8, 8, 8, 8, 8, 8, 8, 8, 8, 8, 8]

def c4e : ACode :=
 (.seq
           (.ops [⟨some 94, none, .mov (.tmp 9)⟩,
             ⟨some 95, none, .call 20 [(.tmp 94)]⟩])
           (.seq
            (.ops [⟨some 97, none, .mov (.tmp 9)⟩,
              ⟨some 98, none, .call 17 [(.tmp 97), (.const (.int .i64 (1000)))]⟩,
              ⟨some 96, none, .mov (.tmp 98)⟩,
              ⟨some 99, none, .ext (.tmp 96) 0⟩,
              ⟨some 100, none, .ext (.tmp 96) 1⟩,
              ⟨some 12, none, .mov (.tmp 99)⟩,
              ⟨some 13, none, .mov (.tmp 100)⟩])
            (.seq
             (.ops [⟨some 101, none, .mov (.tmp 9)⟩,
               ⟨some 102, none, .call 19 [(.tmp 101)]⟩,
               ⟨some 14, none, .mov (.tmp 102)⟩])
             (.seq
              (.opsD [⟨some 103, none, .mov (.tmp 12)⟩,
                ⟨some 104, none, .mov (.tmp 11)⟩,
                ⟨some 105, none, .bin .eql (.tmp 103) (.tmp 104)⟩,
                ⟨some 106, none, .mov (.tmp 105)⟩,
                ⟨some 107, some (106, true), .mov (.tmp 13)⟩,
                ⟨some 108, some (106, true), .mov (.tmp 0)⟩,
                ⟨some 109, some (106, true), .mov (.tmp 11)⟩,
                ⟨some 110, some (106, true), .sliceS (.tmp 108) (some (.tmp 109)) none⟩,
                ⟨some 111, some (106, true), .bin .eql (.tmp 107) (.tmp 110)⟩,
                ⟨some 112, none, .pick (.tmp 106) (.tmp 111) (.const (.bool false))⟩,
                ⟨some 113, none, .mov (.tmp 112)⟩,
                ⟨some 114, some (113, true), .mov (.tmp 9)⟩,
                ⟨some 115, some (113, true), .call 21 [(.tmp 114)]⟩,
                ⟨some 116, none, .pick (.tmp 113) (.tmp 115) (.const (.bool false))⟩,
                ⟨some 117, none, .mov (.tmp 116)⟩,
                ⟨some 118, some (117, true), .mov (.tmp 9)⟩,
                ⟨some 119, some (117, true), .call 16 [(.tmp 118), (.const (.string ⟨⟨[109, 111, 114, 101]⟩⟩))]⟩,
                ⟨some 120, some (117, true), .bin .eql (.tmp 119) (.const (.int .i64 (0)))⟩,
                ⟨some 121, none, .pick (.tmp 117) (.tmp 120) (.const (.bool false))⟩,
                ⟨some 122, none, .mov (.tmp 121)⟩,
                ⟨some 123, some (122, true), .mov (.tmp 9)⟩,
                ⟨some 124, some (122, true), .call 22 [(.tmp 123)]⟩,
                ⟨some 125, some (122, true), .mov (.tmp 0)⟩,
                ⟨some 126, some (122, true), .lenS (.tmp 125)⟩,
                ⟨some 127, some (122, true), .bin .eql (.tmp 124) (.tmp 126)⟩,
                ⟨some 128, none, .pick (.tmp 122) (.tmp 127) (.const (.bool false))⟩,
                ⟨some 129, none, .mov (.tmp 128)⟩,
                ⟨some 130, some (129, true), .mov (.tmp 14)⟩,
                ⟨some 131, some (129, true), .bin .eql (.tmp 130) (.const (.int .i64 (0)))⟩,
                ⟨some 132, some (129, true), .mov (.tmp 131)⟩,
                ⟨some 133, some (132, false), .mov (.tmp 9)⟩,
                ⟨some 134, some (132, false), .mov (.tmp 14)⟩,
                ⟨some 135, some (132, false), .bin .sub (.tmp 134) (.const (.int .i64 (1)))⟩,
                ⟨some 136, some (132, false), .call 23 [(.tmp 133), (.tmp 135), (.const (.int .i64 (1)))]⟩,
                ⟨some 137, some (132, false), .bin .eql (.tmp 136) (.const (.string ⟨⟨[]⟩⟩))⟩,
                ⟨some 138, some (129, true), .pick (.tmp 132) (.const (.bool true)) (.tmp 137)⟩,
                ⟨some 139, none, .pick (.tmp 129) (.tmp 138) (.const (.bool false))⟩,
                ⟨some 140, none, .mov (.tmp 139)⟩,
                ⟨some 141, some (140, true), .mov (.tmp 9)⟩,
                ⟨some 142, some (140, true), .mov (.tmp 14)⟩,
                ⟨some 143, some (140, true), .mov (.tmp 0)⟩,
                ⟨some 144, some (140, true), .lenS (.tmp 143)⟩,
                ⟨some 145, some (140, true), .mov (.tmp 14)⟩,
                ⟨some 146, some (140, true), .bin .sub (.tmp 144) (.tmp 145)⟩,
                ⟨some 147, some (140, true), .call 23 [(.tmp 141), (.tmp 142), (.tmp 146)]⟩,
                ⟨some 148, some (140, true), .mov (.tmp 0)⟩,
                ⟨some 149, some (140, true), .mov (.tmp 14)⟩,
                ⟨some 150, some (140, true), .sliceS (.tmp 148) (some (.tmp 149)) none⟩,
                ⟨some 151, some (140, true), .bin .eql (.tmp 147) (.tmp 150)⟩,
                ⟨some 152, none, .pick (.tmp 140) (.tmp 151) (.const (.bool false))⟩,
                ⟨some 8, none, .mov (.tmp 152)⟩] [])
              .ret))))

/-- plait/plaitlaw16.SbufKeeps -/
def c4 : AFunc := ⟨153, 4, [.inl 8],
 (.seq
  (.ops [⟨some 8, none, .mov (.const (.bool false))⟩])
  (.seq
   (.seq
    (.ops [⟨some 15, none, .call 14 []⟩,
      ⟨some 16, none, .un .not (.tmp 15)⟩])
    (.cond (.tmp 16)
     (.seq
      (.ops [⟨some 8, none, .mov (.const (.bool false))⟩])
      .ret)
     .skip))
   (.seq
    (.ops [⟨some 17, none, .mov (.tmp 0)⟩,
      ⟨some 18, none, .bin .add (.tmp 17) (.const (.string ⟨⟨[120]⟩⟩))⟩,
      ⟨some 19, none, .mov (.tmp 0)⟩,
      ⟨some 20, none, .lenS (.tmp 19)⟩,
      ⟨some 21, none, .bin .add (.tmp 20) (.const (.int .i64 (1)))⟩,
      ⟨some 22, none, .min [(.tmp 21), (.const (.int .i64 (100)))]⟩,
      ⟨some 23, none, .sliceS (.tmp 18) none (some (.tmp 22))⟩,
      ⟨some 0, none, .mov (.tmp 23)⟩])
    (.seq
     (.ops [⟨some 25, none, .call 15 [(.const (.int .i64 (150)))]⟩,
       ⟨some 24, none, .mov (.tmp 25)⟩,
       ⟨some 26, none, .ext (.tmp 24) 0⟩,
       ⟨some 27, none, .ext (.tmp 24) 1⟩,
       ⟨some 9, none, .mov (.tmp 26)⟩,
       ⟨some 10, none, .mov (.tmp 27)⟩])
     (.seq
      (.seq
       (.ops [⟨some 28, none, .mov (.tmp 9)⟩,
         ⟨some 29, none, .eq false true .ptr (.tmp 28) (.const (.pointer none))⟩,
         ⟨some 30, none, .mov (.tmp 29)⟩,
         ⟨some 31, some (30, false), .mov (.tmp 10)⟩,
         ⟨some 32, some (30, false), .bin .neq (.tmp 31) (.const (.int .i64 (0)))⟩,
         ⟨some 33, none, .pick (.tmp 30) (.const (.bool true)) (.tmp 32)⟩,
         ⟨some 34, none, .mov (.tmp 33)⟩,
         ⟨some 35, some (34, false), .mov (.tmp 9)⟩,
         ⟨some 36, some (34, false), .mov (.tmp 0)⟩,
         ⟨some 37, some (34, false), .call 16 [(.tmp 35), (.tmp 36)]⟩,
         ⟨some 38, some (34, false), .mov (.tmp 0)⟩,
         ⟨some 39, some (34, false), .lenS (.tmp 38)⟩,
         ⟨some 40, some (34, false), .bin .neq (.tmp 37) (.tmp 39)⟩,
         ⟨some 41, none, .pick (.tmp 34) (.const (.bool true)) (.tmp 40)⟩])
       (.cond (.tmp 41)
        (.seq
         (.ops [⟨some 8, none, .mov (.const (.bool false))⟩])
         .ret)
        .skip))
      (.seq
       (.ops [⟨some 42, none, .mov (.tmp 1)⟩,
         ⟨some 43, none, .cvInt .i64 (.tmp 42)⟩,
         ⟨some 44, none, .mov (.tmp 0)⟩,
         ⟨some 45, none, .lenS (.tmp 44)⟩,
         ⟨some 46, none, .bin .add (.tmp 45) (.const (.int .i64 (1)))⟩,
         ⟨some 47, none, .bin .rem (.tmp 43) (.tmp 46)⟩,
         ⟨some 11, none, .mov (.tmp 47)⟩])
       (.seq
        (.ops [⟨some 48, none, .mov (.tmp 9)⟩,
          ⟨some 49, none, .mov (.tmp 11)⟩,
          ⟨some 50, none, .call 17 [(.tmp 48), (.tmp 49)]⟩])
        (.seq
         (.ops [⟨some 51, none, .mov (.tmp 9)⟩,
           ⟨some 52, none, .mov (.tmp 2)⟩,
           ⟨some 53, none, .mov (.tmp 3)⟩,
           ⟨some 54, none, .call 18 [(.tmp 51), (.tmp 52), (.tmp 53)]⟩])
         (.seq
          (.seq
           (.ops [⟨some 55, none, .mov (.tmp 9)⟩,
             ⟨some 56, none, .call 19 [(.tmp 55)]⟩,
             ⟨some 57, none, .mov (.tmp 11)⟩,
             ⟨some 58, none, .bin .gtr (.tmp 56) (.tmp 57)⟩,
             ⟨some 59, none, .mov (.tmp 58)⟩,
             ⟨some 60, some (59, false), .mov (.tmp 9)⟩,
             ⟨some 61, some (59, false), .call 19 [(.tmp 60)]⟩,
             ⟨some 62, some (59, false), .bin .gtr (.tmp 61) (.const (.int .i64 (0)))⟩,
             ⟨some 63, some (59, false), .mov (.tmp 62)⟩,
             ⟨some 64, some (63, true), .mov (.tmp 2)⟩,
             ⟨some 65, some (63, true), .bin .gtr (.tmp 64) (.const (.int .i64 (0)))⟩,
             ⟨some 66, some (63, true), .mov (.tmp 65)⟩,
             ⟨some 67, some (66, false), .mov (.tmp 3)⟩,
             ⟨some 68, some (66, false), .bin .lss (.tmp 67) (.const (.int .i64 (1)))⟩,
             ⟨some 69, some (63, true), .pick (.tmp 66) (.const (.bool true)) (.tmp 68)⟩,
             ⟨some 70, some (59, false), .pick (.tmp 63) (.tmp 69) (.const (.bool false))⟩,
             ⟨some 71, none, .pick (.tmp 59) (.const (.bool true)) (.tmp 70)⟩,
             ⟨some 72, none, .mov (.tmp 71)⟩,
             ⟨some 73, some (72, false), .mov (.tmp 2)⟩,
             ⟨some 74, some (72, false), .bin .leq (.tmp 73) (.const (.int .i64 (0)))⟩,
             ⟨some 75, some (72, false), .mov (.tmp 74)⟩,
             ⟨some 76, some (75, true), .mov (.tmp 3)⟩,
             ⟨some 77, some (75, true), .bin .gtr (.tmp 76) (.const (.int .i64 (0)))⟩,
             ⟨some 78, some (72, false), .pick (.tmp 75) (.tmp 77) (.const (.bool false))⟩,
             ⟨some 79, some (72, false), .mov (.tmp 78)⟩,
             ⟨some 80, some (79, true), .mov (.tmp 9)⟩,
             ⟨some 81, some (79, true), .call 19 [(.tmp 80)]⟩,
             ⟨some 82, some (79, true), .mov (.tmp 11)⟩,
             ⟨some 83, some (79, true), .mov (.tmp 3)⟩,
             ⟨some 84, some (79, true), .mov (.tmp 2)⟩,
             ⟨some 85, some (79, true), .mov (.tmp 3)⟩,
             ⟨some 86, some (79, true), .un .neg (.tmp 85)⟩,
             ⟨some 87, some (79, true), .max [(.tmp 84), (.tmp 86)]⟩,
             ⟨some 88, some (79, true), .bin .add (.tmp 83) (.tmp 87)⟩,
             ⟨some 89, some (79, true), .max [(.const (.int .i64 (0))), (.tmp 88)]⟩,
             ⟨some 90, some (79, true), .min [(.tmp 82), (.tmp 89)]⟩,
             ⟨some 91, some (79, true), .bin .neq (.tmp 81) (.tmp 90)⟩,
             ⟨some 92, some (72, false), .pick (.tmp 79) (.tmp 91) (.const (.bool false))⟩,
             ⟨some 93, none, .pick (.tmp 72) (.const (.bool true)) (.tmp 92)⟩])
           (.cond (.tmp 93)
            (.seq
             (.ops [⟨some 8, none, .mov (.const (.bool false))⟩])
             .ret)
            .skip))
          c4e)))))))))⟩
theorem t4 : T 4 = some c4 := by kernel_rfl

/-- plait/sbuf.New -/
def c15 : AFunc := ⟨13, 1, [.inl 2, .inl 3],
 (.seq
  (.ops [⟨some 2, none, .mov (.const (.pointer none))⟩,
    ⟨some 3, none, .mov (.const (.int .i64 (0)))⟩])
  (.seq
   (.seq
    (.ops [⟨some 4, none, .mov (.tmp 0)⟩,
      ⟨some 5, none, .bin .lss (.tmp 4) (.const (.int .i64 (1)))⟩,
      ⟨some 6, none, .mov (.tmp 5)⟩,
      ⟨some 7, some (6, false), .mov (.tmp 0)⟩,
      ⟨some 8, some (6, false), .bin .gtr (.tmp 7) (.const (.int .i64 (2048)))⟩,
      ⟨some 9, none, .pick (.tmp 6) (.const (.bool true)) (.tmp 8)⟩])
    (.cond (.tmp 9)
     (.seq
      (.ops [⟨some 2, none, .mov (.const (.pointer none))⟩,
        ⟨some 3, none, .mov (.const (.int .i64 (2)))⟩])
      .ret)
     .skip))
   (.seq
    (.ops [⟨some 10, none, .mov (.tmp 0)⟩,
      ⟨some 11, none, .build [.int .i64 (0), .int .i64 (0), .int .i64 (0), .string ⟨⟨[]⟩⟩, .slice none 0 0, .bool false] [(0, 1, (.tmp 10))]⟩,
      ⟨some 12, none, .box 114 6 (.tmp 11)⟩,
      ⟨some 2, none, .mov (.tmp 12)⟩,
      ⟨some 3, none, .mov (.const (.int .i64 (0)))⟩])
    .ret)))⟩
theorem t15 : T 15 = some c15 := by kernel_rfl

/-- (*plait/sbuf.Buf).Write -/
def c16 : AFunc := ⟨38, 2, [.inl 4],
 (.seq
  (.ops [⟨some 4, none, .mov (.const (.int .i64 (0)))⟩])
  (.seq
   (.seq
    (.ops [⟨some 6, none, .mov (.tmp 0)⟩,
      ⟨some 7, none, .eq false true .ptr (.tmp 6) (.const (.pointer none))⟩,
      ⟨some 8, none, .mov (.tmp 7)⟩,
      ⟨some 9, some (8, false), .mov (.tmp 0)⟩,
      ⟨some 10, some (8, false), .nilchk (.tmp 9)⟩,
      ⟨some 11, some (8, false), .faddr 5 (.tmp 10)⟩,
      ⟨some 12, some (8, false), .load1 (.tmp 11)⟩,
      ⟨some 13, none, .pick (.tmp 8) (.const (.bool true)) (.tmp 12)⟩])
    (.cond (.tmp 13)
     (.seq
      (.ops [⟨some 4, none, .mov (.const (.int .i64 (0)))⟩])
      .ret)
     .skip))
   (.seq
    (.opsD [⟨some 14, none, .mov (.tmp 1)⟩,
      ⟨some 15, none, .lenS (.tmp 14)⟩,
      ⟨some 16, none, .mov (.tmp 0)⟩,
      ⟨some 17, none, .nilchk (.tmp 16)⟩,
      ⟨some 18, none, .faddr 0 (.tmp 17)⟩,
      ⟨some 19, none, .load1 (.tmp 18)⟩,
      ⟨some 20, none, .mov (.tmp 0)⟩,
      ⟨some 21, none, .nilchk (.tmp 20)⟩,
      ⟨some 22, none, .faddr 3 (.tmp 21)⟩,
      ⟨some 23, none, .load1 (.tmp 22)⟩,
      ⟨some 24, none, .lenS (.tmp 23)⟩,
      ⟨some 25, none, .bin .sub (.tmp 19) (.tmp 24)⟩,
      ⟨some 26, none, .min [(.tmp 15), (.tmp 25)]⟩,
      ⟨some 5, none, .mov (.tmp 26)⟩] [])
    (.seq
     (.opsD [⟨some 27, none, .mov (.tmp 0)⟩,
       ⟨some 28, none, .nilchk (.tmp 27)⟩,
       ⟨some 29, none, .faddr 3 (.tmp 28)⟩,
       ⟨some 30, none, .load1 (.tmp 29)⟩,
       ⟨some 31, none, .mov (.tmp 1)⟩,
       ⟨some 32, none, .mov (.tmp 5)⟩,
       ⟨some 33, none, .sliceS (.tmp 31) none (some (.tmp 32))⟩,
       ⟨some 34, none, .bin .add (.tmp 30) (.tmp 33)⟩,
       ⟨some 35, none, .nilchk (.tmp 27)⟩,
       ⟨some 36, none, .faddr 3 (.tmp 35)⟩,
       ⟨none, none, .store 1 (.tmp 36) (.tmp 34)⟩] [])
     (.seq
      (.ops [⟨some 37, none, .mov (.tmp 5)⟩,
        ⟨some 4, none, .mov (.tmp 37)⟩])
      .ret)))))⟩
theorem t16 : T 16 = some c16 := by kernel_rfl

def c18e : ACode :=
 (.seq
            (.opsD [⟨some 89, none, .mov (.tmp 0)⟩,
              ⟨some 90, none, .mov (.tmp 0)⟩,
              ⟨some 91, none, .nilchk (.tmp 90)⟩,
              ⟨some 92, none, .faddr 4 (.tmp 91)⟩,
              ⟨some 93, none, .load1 (.tmp 92)⟩,
              ⟨some 94, none, .load1 (.tmp 7)⟩,
              ⟨some 95, none, .sliceV 2 (.tmp 93) (some (.tmp 94)) none none⟩,
              ⟨some 96, none, .nilchk (.tmp 89)⟩,
              ⟨some 97, none, .faddr 4 (.tmp 96)⟩,
              ⟨none, none, .store 1 (.tmp 97) (.tmp 95)⟩] [])
            (.seq
             (.opsD [⟨some 98, none, .mov (.tmp 0)⟩,
               ⟨some 99, none, .mov (.tmp 0)⟩,
               ⟨some 100, none, .nilchk (.tmp 99)⟩,
               ⟨some 101, none, .faddr 3 (.tmp 100)⟩,
               ⟨some 102, none, .load1 (.tmp 101)⟩,
               ⟨some 103, none, .faddr 1 (.tmp 6)⟩,
               ⟨some 104, none, .load1 (.tmp 103)⟩,
               ⟨some 105, none, .mov (.tmp 0)⟩,
               ⟨some 106, none, .nilchk (.tmp 105)⟩,
               ⟨some 107, none, .faddr 1 (.tmp 106)⟩,
               ⟨some 108, none, .load1 (.tmp 107)⟩,
               ⟨some 109, none, .bin .sub (.tmp 104) (.tmp 108)⟩,
               ⟨some 110, none, .sliceS (.tmp 102) (some (.tmp 109)) none⟩,
               ⟨some 111, none, .nilchk (.tmp 98)⟩,
               ⟨some 112, none, .faddr 3 (.tmp 111)⟩,
               ⟨none, none, .store 1 (.tmp 112) (.tmp 110)⟩] [])
             (.ops [⟨some 113, none, .mov (.tmp 0)⟩,
               ⟨some 114, none, .faddr 1 (.tmp 6)⟩,
               ⟨some 115, none, .load1 (.tmp 114)⟩,
               ⟨some 116, none, .nilchk (.tmp 113)⟩,
               ⟨some 117, none, .faddr 1 (.tmp 116)⟩,
               ⟨none, none, .store 1 (.tmp 117) (.tmp 115)⟩])))

/-- (*plait/sbuf.Buf).Next -/
def c17 : AFunc := ⟨47, 2, [.inl 4, .inl 5],
 (.seq
  (.ops [⟨some 4, none, .mov (.const (.int .i64 (0)))⟩,
    ⟨some 5, none, .mov (.const (.string ⟨⟨[]⟩⟩))⟩])
  (.seq
   (.seq
    (.ops [⟨some 6, none, .mov (.tmp 0)⟩,
      ⟨some 7, none, .eq false true .ptr (.tmp 6) (.const (.pointer none))⟩])
    (.cond (.tmp 7)
     (.seq
      (.ops [⟨some 4, none, .mov (.const (.int .i64 (0)))⟩,
        ⟨some 5, none, .mov (.const (.string ⟨⟨[]⟩⟩))⟩])
      .ret)
     .skip))
   (.seq
    (.ops [⟨some 8, none, .mov (.tmp 0)⟩,
      ⟨some 9, none, .nilchk (.tmp 8)⟩,
      ⟨some 10, none, .faddr 2 (.tmp 9)⟩,
      ⟨some 11, none, .load1 (.tmp 10)⟩,
      ⟨some 4, none, .mov (.tmp 11)⟩])
    (.seq
     (.opsD [⟨some 12, none, .mov (.tmp 0)⟩,
       ⟨some 13, none, .nilchk (.tmp 12)⟩,
       ⟨some 14, none, .faddr 2 (.tmp 13)⟩,
       ⟨some 15, none, .load1 (.tmp 14)⟩,
       ⟨some 16, none, .mov (.tmp 1)⟩,
       ⟨some 17, none, .mov (.tmp 0)⟩,
       ⟨some 18, none, .call 22 [(.tmp 17)]⟩,
       ⟨some 19, none, .mov (.tmp 4)⟩,
       ⟨some 20, none, .bin .sub (.tmp 18) (.tmp 19)⟩,
       ⟨some 21, none, .min [(.tmp 16), (.tmp 20)]⟩,
       ⟨some 22, none, .max [(.const (.int .i64 (0))), (.tmp 21)]⟩,
       ⟨some 23, none, .bin .add (.tmp 15) (.tmp 22)⟩,
       ⟨some 24, none, .nilchk (.tmp 12)⟩,
       ⟨some 25, none, .faddr 2 (.tmp 24)⟩,
       ⟨none, none, .store 1 (.tmp 25) (.tmp 23)⟩] [(3, 6), (3, 7)])
     (.seq
      (.opsD [⟨some 26, none, .mov (.tmp 4)⟩,
        ⟨some 27, none, .mov (.tmp 0)⟩,
        ⟨some 28, none, .nilchk (.tmp 27)⟩,
        ⟨some 29, none, .faddr 3 (.tmp 28)⟩,
        ⟨some 30, none, .load1 (.tmp 29)⟩,
        ⟨some 31, none, .mov (.tmp 4)⟩,
        ⟨some 32, none, .mov (.tmp 0)⟩,
        ⟨some 33, none, .nilchk (.tmp 32)⟩,
        ⟨some 34, none, .faddr 1 (.tmp 33)⟩,
        ⟨some 35, none, .load1 (.tmp 34)⟩,
        ⟨some 36, none, .bin .sub (.tmp 31) (.tmp 35)⟩,
        ⟨some 37, none, .mov (.tmp 0)⟩,
        ⟨some 38, none, .nilchk (.tmp 37)⟩,
        ⟨some 39, none, .faddr 2 (.tmp 38)⟩,
        ⟨some 40, none, .load1 (.tmp 39)⟩,
        ⟨some 41, none, .mov (.tmp 0)⟩,
        ⟨some 42, none, .nilchk (.tmp 41)⟩,
        ⟨some 43, none, .faddr 1 (.tmp 42)⟩,
        ⟨some 44, none, .load1 (.tmp 43)⟩,
        ⟨some 45, none, .bin .sub (.tmp 40) (.tmp 44)⟩,
        ⟨some 46, none, .sliceS (.tmp 30) (some (.tmp 36)) (some (.tmp 45))⟩,
        ⟨some 4, none, .mov (.tmp 26)⟩,
        ⟨some 5, none, .mov (.tmp 46)⟩] [])
      .ret)))))⟩
theorem t17 : T 17 = some c17 := by kernel_rfl

def c18r : ACode :=
 (.seq
    (.ops [⟨some 31, none, .mov (.tmp 2)⟩,
      ⟨some 32, none, .mov (.tmp 0)⟩,
      ⟨some 33, none, .nilchk (.tmp 32)⟩,
      ⟨some 34, none, .faddr 2 (.tmp 33)⟩,
      ⟨some 35, none, .load1 (.tmp 34)⟩,
      ⟨some 36, none, .mov (.tmp 1)⟩,
      ⟨some 37, none, .bin .sub (.tmp 35) (.tmp 36)⟩,
      ⟨some 38, none, .min [(.tmp 31), (.tmp 37)]⟩,
      ⟨some 2, none, .mov (.tmp 38)⟩])
    (.seq
     (.seq
      (.ops [⟨some 39, none, .mov (.tmp 2)⟩,
        ⟨some 40, none, .bin .lss (.tmp 39) (.const (.int .i64 (1)))⟩])
      (.cond (.tmp 40)
       .ret
       .skip))
     (.seq
      (.ops [⟨some 41, none, .mov (.tmp 0)⟩,
        ⟨some 42, none, .mov (.tmp 0)⟩,
        ⟨some 43, none, .nilchk (.tmp 42)⟩,
        ⟨some 44, none, .faddr 4 (.tmp 43)⟩,
        ⟨some 45, none, .load1 (.tmp 44)⟩,
        ⟨some 46, none, .mov (.tmp 1)⟩,
        ⟨some 47, none, .mov (.tmp 1)⟩,
        ⟨some 48, none, .mov (.tmp 2)⟩,
        ⟨some 49, none, .bin .add (.tmp 47) (.tmp 48)⟩,
        ⟨some 50, none, .build [.int .i64 (0), .int .i64 (0)] [(0, 1, (.tmp 46)), (1, 1, (.tmp 49))]⟩,
        ⟨some 51, none, .bslice 116 1 [.int .i64 (0), .int .i64 (0)] [(0, 2, (.tmp 50))]⟩,
        ⟨some 52, none, .append 116 2 16 (.tmp 45) (.tmp 51)⟩,
        ⟨some 53, none, .nilchk (.tmp 41)⟩,
        ⟨some 54, none, .faddr 4 (.tmp 53)⟩,
        ⟨none, none, .store 1 (.tmp 54) (.tmp 52)⟩])
      (.seq
       (.ops [⟨some 55, none, .mov (.tmp 0)⟩,
         ⟨some 56, none, .nilchk (.tmp 55)⟩,
         ⟨some 57, none, .faddr 4 (.tmp 56)⟩,
         ⟨some 58, none, .load1 (.tmp 57)⟩,
         ⟨some 59, none, .call 60 [(.tmp 58), (.func 61)]⟩])
       (.seq
        (.opsD [⟨some 60, none, .mov (.tmp 0)⟩,
          ⟨some 61, none, .nilchk (.tmp 60)⟩,
          ⟨some 62, none, .faddr 1 (.tmp 61)⟩,
          ⟨some 63, none, .load1 (.tmp 62)⟩,
          ⟨some 64, none, .mov (.tmp 0)⟩,
          ⟨some 65, none, .nilchk (.tmp 64)⟩,
          ⟨some 66, none, .faddr 1 (.tmp 65)⟩,
          ⟨some 67, none, .load1 (.tmp 66)⟩,
          ⟨some 68, none, .build [.int .i64 (0), .int .i64 (0)] [(0, 1, (.tmp 63)), (1, 1, (.tmp 67))]⟩,
          ⟨some 6, none, .alloc 116 [.int .i64 (0), .int .i64 (0)]⟩,
          ⟨some 7, none, .alloc 3 [.int .i64 (0)]⟩,
          ⟨none, none, .store 2 (.tmp 6) (.tmp 68)⟩,
          ⟨none, none, .store 1 (.tmp 7) (.const (.int .i64 (0)))⟩] [])
        (.seq
         (.ops [⟨some 69, none, .mkF 62 [] [(.tmp 6), (.tmp 7)]⟩,
           ⟨some 8, none, .mov (.tmp 69)⟩])
         (.seq
          .skip
          (.seq
           (.seq
            (.ops [⟨some 70, none, .mov (.tmp 0)⟩,
              ⟨some 71, none, .nilchk (.tmp 70)⟩,
              ⟨some 72, none, .faddr 4 (.tmp 71)⟩,
              ⟨some 73, none, .load1 (.tmp 72)⟩,
              ⟨some 74, none, .lenV (.tmp 73)⟩,
              ⟨some 75, none, .mov (.const (.int .i64 (0)))⟩])
            (.block 0
             (.loop
              (.seq
               (.ops [⟨some 76, none, .bin .lss (.tmp 75) (.tmp 74)⟩])
               (.seq
                (.cond (.tmp 76)
                 .skip
                 (.exit 0))
                (.seq
                 (.block 1
                  (.seq
                   (.ops [⟨some 77, none, .iaddrS 2 (.tmp 73) (.tmp 75)⟩,
                     ⟨some 78, none, .loadN 2 (.tmp 77)⟩,
                     ⟨some 10, none, .alloc 116 [.int .i64 (0), .int .i64 (0)]⟩,
                     ⟨none, none, .store 2 (.tmp 10) (.tmp 78)⟩])
                   (.seq
                    (.ops [⟨some 79, none, .loadN 2 (.tmp 6)⟩,
                      ⟨some 80, none, .mkF 63 [(.tmp 79)] []⟩,
                      ⟨some 11, none, .mov (.tmp 80)⟩])
                    (.seq
                     (.seq
                      (.ops [⟨some 81, none, .mov (.tmp 11)⟩,
                        ⟨some 82, none, .loadN 2 (.tmp 10)⟩,
                        ⟨some 83, none, .callv (.tmp 81) [(.tmp 82)]⟩,
                        ⟨some 84, none, .un .not (.tmp 83)⟩])
                      (.cond (.tmp 84)
                       (.exit 0)
                       .skip))
                     (.ops [⟨some 85, none, .mov (.tmp 8)⟩,
                       ⟨some 86, none, .loadN 2 (.tmp 10)⟩,
                       ⟨some 87, none, .callv (.tmp 85) [(.tmp 86)]⟩])))))
                 (.ops [⟨some 88, none, .bin .add (.tmp 75) (.const (.int .i64 (1)))⟩,
                   ⟨some 75, none, .mov (.tmp 88)⟩])))))))
           c18e))))))))

/-- (*plait/sbuf.Buf).Ack -/
def c18 : AFunc := ⟨118, 3, [],
 (.seq
  (.seq
   (.ops [⟨some 12, none, .mov (.tmp 0)⟩,
     ⟨some 13, none, .eq false true .ptr (.tmp 12) (.const (.pointer none))⟩,
     ⟨some 14, none, .mov (.tmp 13)⟩,
     ⟨some 15, some (14, false), .mov (.tmp 2)⟩,
     ⟨some 16, some (14, false), .bin .lss (.tmp 15) (.const (.int .i64 (1)))⟩,
     ⟨some 17, none, .pick (.tmp 14) (.const (.bool true)) (.tmp 16)⟩,
     ⟨some 18, none, .mov (.tmp 17)⟩,
     ⟨some 19, some (18, false), .mov (.tmp 1)⟩,
     ⟨some 20, some (18, false), .mov (.tmp 0)⟩,
     ⟨some 21, some (18, false), .nilchk (.tmp 20)⟩,
     ⟨some 22, some (18, false), .faddr 2 (.tmp 21)⟩,
     ⟨some 23, some (18, false), .load1 (.tmp 22)⟩,
     ⟨some 24, some (18, false), .bin .geq (.tmp 19) (.tmp 23)⟩,
     ⟨some 25, none, .pick (.tmp 18) (.const (.bool true)) (.tmp 24)⟩])
   (.cond (.tmp 25)
    .ret
    .skip))
  (.seq
   (.seq
    (.ops [⟨some 26, none, .mov (.tmp 1)⟩,
      ⟨some 27, none, .bin .lss (.tmp 26) (.const (.int .i64 (0)))⟩])
    (.cond (.tmp 27)
     (.seq
      (.ops [⟨some 28, none, .mov (.tmp 2)⟩,
        ⟨some 29, none, .mov (.tmp 1)⟩,
        ⟨some 30, none, .bin .add (.tmp 28) (.tmp 29)⟩,
        ⟨some 2, none, .mov (.tmp 30)⟩])
      (.ops [⟨some 1, none, .mov (.const (.int .i64 (0)))⟩]))
     .skip))
   c18r))⟩
theorem t18 : T 18 = some c18 := by kernel_rfl

/-- (*plait/sbuf.Buf).Una -/
def c19 : AFunc := ⟨9, 1, [.inl 2],
 (.seq
  (.ops [⟨some 2, none, .mov (.const (.int .i64 (0)))⟩])
  (.seq
   (.seq
    (.ops [⟨some 3, none, .mov (.tmp 0)⟩,
      ⟨some 4, none, .eq false true .ptr (.tmp 3) (.const (.pointer none))⟩])
    (.cond (.tmp 4)
     (.seq
      (.ops [⟨some 2, none, .mov (.const (.int .i64 (0)))⟩])
      .ret)
     .skip))
   (.seq
    (.ops [⟨some 5, none, .mov (.tmp 0)⟩,
      ⟨some 6, none, .nilchk (.tmp 5)⟩,
      ⟨some 7, none, .faddr 1 (.tmp 6)⟩,
      ⟨some 8, none, .load1 (.tmp 7)⟩,
      ⟨some 2, none, .mov (.tmp 8)⟩])
    .ret)))⟩
theorem t19 : T 19 = some c19 := by kernel_rfl

/-- (*plait/sbuf.Buf).Finish -/
def c20 : AFunc := ⟨7, 1, [],
 (.seq
  (.ops [⟨some 2, none, .mov (.tmp 0)⟩,
    ⟨some 3, none, .eq true true .ptr (.tmp 2) (.const (.pointer none))⟩])
  (.cond (.tmp 3)
   (.ops [⟨some 4, none, .mov (.tmp 0)⟩,
     ⟨some 5, none, .nilchk (.tmp 4)⟩,
     ⟨some 6, none, .faddr 5 (.tmp 5)⟩,
     ⟨none, none, .store 1 (.tmp 6) (.const (.bool true))⟩])
   .skip))⟩
theorem t20 : T 20 = some c20 := by kernel_rfl

/-- (*plait/sbuf.Buf).Ended -/
def c21 : AFunc := ⟨20, 1, [.inl 2],
 (.seq
  (.ops [⟨some 2, none, .mov (.const (.bool false))⟩])
  (.seq
   (.opsD [⟨some 3, none, .mov (.tmp 0)⟩,
     ⟨some 4, none, .eq true true .ptr (.tmp 3) (.const (.pointer none))⟩,
     ⟨some 5, none, .mov (.tmp 4)⟩,
     ⟨some 6, some (5, true), .mov (.tmp 0)⟩,
     ⟨some 7, some (5, true), .nilchk (.tmp 6)⟩,
     ⟨some 8, some (5, true), .faddr 5 (.tmp 7)⟩,
     ⟨some 9, some (5, true), .load1 (.tmp 8)⟩,
     ⟨some 10, none, .pick (.tmp 5) (.tmp 9) (.const (.bool false))⟩,
     ⟨some 11, none, .mov (.tmp 10)⟩,
     ⟨some 12, some (11, true), .mov (.tmp 0)⟩,
     ⟨some 13, some (11, true), .nilchk (.tmp 12)⟩,
     ⟨some 14, some (11, true), .faddr 2 (.tmp 13)⟩,
     ⟨some 15, some (11, true), .load1 (.tmp 14)⟩,
     ⟨some 16, some (11, true), .mov (.tmp 0)⟩,
     ⟨some 17, some (11, true), .call 22 [(.tmp 16)]⟩,
     ⟨some 18, some (11, true), .bin .eql (.tmp 15) (.tmp 17)⟩,
     ⟨some 19, none, .pick (.tmp 11) (.tmp 18) (.const (.bool false))⟩,
     ⟨some 2, none, .mov (.tmp 19)⟩] [(12, 14), (12, 15)])
   .ret))⟩
theorem t21 : T 21 = some c21 := by kernel_rfl

/-- (*plait/sbuf.Buf).Written -/
def c22 : AFunc := ⟨15, 1, [.inl 2],
 (.seq
  (.ops [⟨some 2, none, .mov (.const (.int .i64 (0)))⟩])
  (.seq
   (.seq
    (.ops [⟨some 3, none, .mov (.tmp 0)⟩,
      ⟨some 4, none, .eq false true .ptr (.tmp 3) (.const (.pointer none))⟩])
    (.cond (.tmp 4)
     (.seq
      (.ops [⟨some 2, none, .mov (.const (.int .i64 (0)))⟩])
      .ret)
     .skip))
   (.seq
    (.opsD [⟨some 5, none, .mov (.tmp 0)⟩,
      ⟨some 6, none, .nilchk (.tmp 5)⟩,
      ⟨some 7, none, .faddr 1 (.tmp 6)⟩,
      ⟨some 8, none, .load1 (.tmp 7)⟩,
      ⟨some 9, none, .mov (.tmp 0)⟩,
      ⟨some 10, none, .nilchk (.tmp 9)⟩,
      ⟨some 11, none, .faddr 3 (.tmp 10)⟩,
      ⟨some 12, none, .load1 (.tmp 11)⟩,
      ⟨some 13, none, .lenS (.tmp 12)⟩,
      ⟨some 14, none, .bin .add (.tmp 8) (.tmp 13)⟩,
      ⟨some 2, none, .mov (.tmp 14)⟩] [])
    .ret)))⟩
theorem t22 : T 22 = some c22 := by kernel_rfl

/-- (*plait/sbuf.Buf).Text -/
def c23 : AFunc := ⟨54, 3, [.inl 6],
 (.seq
  (.ops [⟨some 6, none, .mov (.const (.string ⟨⟨[]⟩⟩))⟩])
  (.seq
   (.seq
    (.ops [⟨some 7, none, .mov (.tmp 0)⟩,
      ⟨some 8, none, .eq false true .ptr (.tmp 7) (.const (.pointer none))⟩,
      ⟨some 9, none, .mov (.tmp 8)⟩,
      ⟨some 10, some (9, false), .mov (.tmp 2)⟩,
      ⟨some 11, some (9, false), .bin .lss (.tmp 10) (.const (.int .i64 (0)))⟩,
      ⟨some 12, none, .pick (.tmp 9) (.const (.bool true)) (.tmp 11)⟩,
      ⟨some 13, none, .mov (.tmp 12)⟩,
      ⟨some 14, some (13, false), .mov (.tmp 1)⟩,
      ⟨some 15, some (13, false), .mov (.tmp 0)⟩,
      ⟨some 16, some (13, false), .nilchk (.tmp 15)⟩,
      ⟨some 17, some (13, false), .faddr 1 (.tmp 16)⟩,
      ⟨some 18, some (13, false), .load1 (.tmp 17)⟩,
      ⟨some 19, some (13, false), .bin .lss (.tmp 14) (.tmp 18)⟩,
      ⟨some 20, none, .pick (.tmp 13) (.const (.bool true)) (.tmp 19)⟩,
      ⟨some 21, none, .mov (.tmp 20)⟩,
      ⟨some 22, some (21, false), .mov (.tmp 1)⟩,
      ⟨some 23, some (21, false), .mov (.tmp 0)⟩,
      ⟨some 24, some (21, false), .call 22 [(.tmp 23)]⟩,
      ⟨some 25, some (21, false), .bin .gtr (.tmp 22) (.tmp 24)⟩,
      ⟨some 26, none, .pick (.tmp 21) (.const (.bool true)) (.tmp 25)⟩,
      ⟨some 27, none, .mov (.tmp 26)⟩,
      ⟨some 28, some (27, false), .mov (.tmp 2)⟩,
      ⟨some 29, some (27, false), .mov (.tmp 0)⟩,
      ⟨some 30, some (27, false), .call 22 [(.tmp 29)]⟩,
      ⟨some 31, some (27, false), .mov (.tmp 1)⟩,
      ⟨some 32, some (27, false), .bin .sub (.tmp 30) (.tmp 31)⟩,
      ⟨some 33, some (27, false), .bin .gtr (.tmp 28) (.tmp 32)⟩,
      ⟨some 34, none, .pick (.tmp 27) (.const (.bool true)) (.tmp 33)⟩])
    (.cond (.tmp 34)
     (.seq
      (.ops [⟨some 6, none, .mov (.const (.string ⟨⟨[]⟩⟩))⟩])
      .ret)
     .skip))
   (.seq
    (.opsD [⟨some 35, none, .mov (.tmp 0)⟩,
      ⟨some 36, none, .nilchk (.tmp 35)⟩,
      ⟨some 37, none, .faddr 3 (.tmp 36)⟩,
      ⟨some 38, none, .load1 (.tmp 37)⟩,
      ⟨some 39, none, .mov (.tmp 1)⟩,
      ⟨some 40, none, .mov (.tmp 0)⟩,
      ⟨some 41, none, .nilchk (.tmp 40)⟩,
      ⟨some 42, none, .faddr 1 (.tmp 41)⟩,
      ⟨some 43, none, .load1 (.tmp 42)⟩,
      ⟨some 44, none, .bin .sub (.tmp 39) (.tmp 43)⟩,
      ⟨some 45, none, .mov (.tmp 1)⟩,
      ⟨some 46, none, .mov (.tmp 0)⟩,
      ⟨some 47, none, .nilchk (.tmp 46)⟩,
      ⟨some 48, none, .faddr 1 (.tmp 47)⟩,
      ⟨some 49, none, .load1 (.tmp 48)⟩,
      ⟨some 50, none, .bin .sub (.tmp 45) (.tmp 49)⟩,
      ⟨some 51, none, .mov (.tmp 2)⟩,
      ⟨some 52, none, .bin .add (.tmp 50) (.tmp 51)⟩,
      ⟨some 53, none, .sliceS (.tmp 38) (some (.tmp 44)) (some (.tmp 52))⟩,
      ⟨some 6, none, .mov (.tmp 53)⟩] [])
    .ret)))⟩
theorem t23 : T 23 = some c23 := by kernel_rfl

/-- (*plait/sbuf.Buf).Sent -/
def c26 : AFunc := ⟨9, 1, [.inl 2],
 (.seq
  (.ops [⟨some 2, none, .mov (.const (.int .i64 (0)))⟩])
  (.seq
   (.seq
    (.ops [⟨some 3, none, .mov (.tmp 0)⟩,
      ⟨some 4, none, .eq false true .ptr (.tmp 3) (.const (.pointer none))⟩])
    (.cond (.tmp 4)
     (.seq
      (.ops [⟨some 2, none, .mov (.const (.int .i64 (0)))⟩])
      .ret)
     .skip))
   (.seq
    (.ops [⟨some 5, none, .mov (.tmp 0)⟩,
      ⟨some 6, none, .nilchk (.tmp 5)⟩,
      ⟨some 7, none, .faddr 2 (.tmp 6)⟩,
      ⟨some 8, none, .load1 (.tmp 7)⟩,
      ⟨some 2, none, .mov (.tmp 8)⟩])
    .ret)))⟩
theorem t26 : T 26 = some c26 := by kernel_rfl

/-- (*plait/sbuf.Buf).Ack$1 -/
def c61 : AFunc := ⟨10, 2, [.inl 4],
 (.seq
  (.ops [⟨some 2, none, .box 116 2 (.tmp 0)⟩,
    ⟨some 3, none, .box 116 2 (.tmp 1)⟩,
    ⟨some 4, none, .mov (.const (.int .i64 (0)))⟩])
  (.seq
   (.ops [⟨some 5, none, .faddr 0 (.tmp 2)⟩,
     ⟨some 6, none, .load1 (.tmp 5)⟩,
     ⟨some 7, none, .faddr 0 (.tmp 3)⟩,
     ⟨some 8, none, .load1 (.tmp 7)⟩,
     ⟨some 9, none, .bin .sub (.tmp 6) (.tmp 8)⟩,
     ⟨some 4, none, .mov (.tmp 9)⟩])
   .ret))⟩
theorem t61 : T 61 = some c61 := by kernel_rfl

/-- (*plait/sbuf.Buf).Ack$2 -/
def c62 : AFunc := ⟨12, 3, [],
 (.seq
  (.ops [⟨some 3, none, .box 116 2 (.tmp 0)⟩])
  (.seq
   (.ops [⟨some 4, none, .faddr 1 (.tmp 1)⟩,
     ⟨some 5, none, .load1 (.tmp 4)⟩,
     ⟨some 6, none, .faddr 1 (.tmp 3)⟩,
     ⟨some 7, none, .load1 (.tmp 6)⟩,
     ⟨some 8, none, .max [(.tmp 5), (.tmp 7)]⟩,
     ⟨some 9, none, .faddr 1 (.tmp 1)⟩,
     ⟨none, none, .store 1 (.tmp 9) (.tmp 8)⟩])
   (.ops [⟨some 10, none, .load1 (.tmp 2)⟩,
     ⟨some 11, none, .bin .add (.tmp 10) (.const (.int .i64 (1)))⟩,
     ⟨none, none, .store 1 (.tmp 2) (.tmp 11)⟩])))⟩
theorem t62 : T 62 = some c62 := by kernel_rfl

/-- (plait/sbuf.span).behind -/
def c63 : AFunc := ⟨10, 2, [.inl 4],
 (.seq
  (.ops [⟨some 2, none, .box 116 2 (.tmp 0)⟩,
    ⟨some 3, none, .box 116 2 (.tmp 1)⟩,
    ⟨some 4, none, .mov (.const (.bool false))⟩])
  (.seq
   (.ops [⟨some 5, none, .faddr 0 (.tmp 3)⟩,
     ⟨some 6, none, .load1 (.tmp 5)⟩,
     ⟨some 7, none, .faddr 1 (.tmp 2)⟩,
     ⟨some 8, none, .load1 (.tmp 7)⟩,
     ⟨some 9, none, .bin .leq (.tmp 6) (.tmp 8)⟩,
     ⟨some 4, none, .mov (.tmp 9)⟩])
   .ret))⟩
theorem t63 : T 63 = some c63 := by kernel_rfl

/-- slices.SortFunc[[]plait/sbuf.span,plait/sbuf.span] -/
def c60 : AFunc := ⟨14, 2, [],
 (.seq
  (.ops [⟨some 5, none, .mov (.tmp 0)⟩,
    ⟨some 6, none, .lenV (.tmp 5)⟩,
    ⟨some 4, none, .mov (.tmp 6)⟩])
  (.ops [⟨some 7, none, .mov (.tmp 0)⟩,
    ⟨some 8, none, .mov (.tmp 4)⟩,
    ⟨some 9, none, .mov (.tmp 4)⟩,
    ⟨some 10, none, .cvInt .u64 (.tmp 9)⟩,
    ⟨some 11, none, .call 112 [(.tmp 10)]⟩,
    ⟨some 12, none, .mov (.tmp 1)⟩,
    ⟨some 13, none, .call 111 [(.tmp 7), (.const (.int .i64 (0))), (.tmp 8), (.tmp 11), (.tmp 12)]⟩]))⟩
theorem t60 : T 60 = some c60 := by kernel_rfl

/-- slices.pdqsortCmpFunc[plait/sbuf.span] -/
def c111 : AFunc := ⟨148, 5, [],
 (.seq
  (.ops [⟨some 10, none, .mov (.const (.bool true))⟩])
  (.seq
   (.ops [⟨some 11, none, .mov (.const (.bool true))⟩])
   (.block 0
    (.loop
     (.block 1
      (.seq
       (.ops [⟨some 21, none, .mov (.tmp 2)⟩,
         ⟨some 22, none, .mov (.tmp 1)⟩,
         ⟨some 23, none, .bin .sub (.tmp 21) (.tmp 22)⟩,
         ⟨some 12, none, .mov (.tmp 23)⟩])
       (.seq
        (.seq
         (.ops [⟨some 24, none, .mov (.tmp 12)⟩,
           ⟨some 25, none, .bin .leq (.tmp 24) (.const (.int .i64 (12)))⟩])
         (.cond (.tmp 25)
          (.seq
           (.ops [⟨some 26, none, .mov (.tmp 0)⟩,
             ⟨some 27, none, .mov (.tmp 1)⟩,
             ⟨some 28, none, .mov (.tmp 2)⟩,
             ⟨some 29, none, .mov (.tmp 4)⟩,
             ⟨some 30, none, .call 138 [(.tmp 26), (.tmp 27), (.tmp 28), (.tmp 29)]⟩])
           .ret)
          .skip))
        (.seq
         (.seq
          (.ops [⟨some 31, none, .mov (.tmp 3)⟩,
            ⟨some 32, none, .bin .eql (.tmp 31) (.const (.int .i64 (0)))⟩])
          (.cond (.tmp 32)
           (.seq
            (.ops [⟨some 33, none, .mov (.tmp 0)⟩,
              ⟨some 34, none, .mov (.tmp 1)⟩,
              ⟨some 35, none, .mov (.tmp 2)⟩,
              ⟨some 36, none, .mov (.tmp 4)⟩,
              ⟨some 37, none, .call 139 [(.tmp 33), (.tmp 34), (.tmp 35), (.tmp 36)]⟩])
            .ret)
           .skip))
         (.seq
          (.seq
           (.ops [⟨some 38, none, .mov (.tmp 10)⟩,
             ⟨some 39, none, .un .not (.tmp 38)⟩])
           (.cond (.tmp 39)
            (.seq
             (.ops [⟨some 40, none, .mov (.tmp 0)⟩,
               ⟨some 41, none, .mov (.tmp 1)⟩,
               ⟨some 42, none, .mov (.tmp 2)⟩,
               ⟨some 43, none, .mov (.tmp 4)⟩,
               ⟨some 44, none, .call 140 [(.tmp 40), (.tmp 41), (.tmp 42), (.tmp 43)]⟩])
             (.ops [⟨some 45, none, .mov (.tmp 3)⟩,
               ⟨some 46, none, .bin .sub (.tmp 45) (.const (.int .i64 (1)))⟩,
               ⟨some 3, none, .mov (.tmp 46)⟩]))
            .skip))
          (.seq
           (.ops [⟨some 48, none, .mov (.tmp 0)⟩,
             ⟨some 49, none, .mov (.tmp 1)⟩,
             ⟨some 50, none, .mov (.tmp 2)⟩,
             ⟨some 51, none, .mov (.tmp 4)⟩,
             ⟨some 52, none, .call 141 [(.tmp 48), (.tmp 49), (.tmp 50), (.tmp 51)]⟩,
             ⟨some 47, none, .mov (.tmp 52)⟩,
             ⟨some 53, none, .ext (.tmp 47) 0⟩,
             ⟨some 54, none, .ext (.tmp 47) 1⟩,
             ⟨some 13, none, .mov (.tmp 53)⟩,
             ⟨some 14, none, .mov (.tmp 54)⟩])
           (.seq
            (.seq
             (.ops [⟨some 55, none, .mov (.tmp 14)⟩,
               ⟨some 56, none, .bin .eql (.tmp 55) (.const (.int .i64 (2)))⟩])
             (.cond (.tmp 56)
              (.seq
               (.ops [⟨some 57, none, .mov (.tmp 0)⟩,
                 ⟨some 58, none, .mov (.tmp 1)⟩,
                 ⟨some 59, none, .mov (.tmp 2)⟩,
                 ⟨some 60, none, .mov (.tmp 4)⟩,
                 ⟨some 61, none, .call 142 [(.tmp 57), (.tmp 58), (.tmp 59), (.tmp 60)]⟩])
               (.seq
                (.ops [⟨some 62, none, .mov (.tmp 2)⟩,
                  ⟨some 63, none, .bin .sub (.tmp 62) (.const (.int .i64 (1)))⟩,
                  ⟨some 64, none, .mov (.tmp 13)⟩,
                  ⟨some 65, none, .mov (.tmp 1)⟩,
                  ⟨some 66, none, .bin .sub (.tmp 64) (.tmp 65)⟩,
                  ⟨some 67, none, .bin .sub (.tmp 63) (.tmp 66)⟩,
                  ⟨some 13, none, .mov (.tmp 67)⟩])
                (.ops [⟨some 14, none, .mov (.const (.int .i64 (1)))⟩])))
              .skip))
            (.seq
             (.seq
              (.ops [⟨some 68, none, .mov (.tmp 10)⟩,
                ⟨some 69, none, .mov (.tmp 68)⟩,
                ⟨some 70, some (69, true), .mov (.tmp 11)⟩,
                ⟨some 71, none, .pick (.tmp 69) (.tmp 70) (.const (.bool false))⟩,
                ⟨some 72, none, .mov (.tmp 71)⟩,
                ⟨some 73, some (72, true), .mov (.tmp 14)⟩,
                ⟨some 74, some (72, true), .bin .eql (.tmp 73) (.const (.int .i64 (1)))⟩,
                ⟨some 75, none, .pick (.tmp 72) (.tmp 74) (.const (.bool false))⟩])
              (.cond (.tmp 75)
               (.seq
                (.ops [⟨some 76, none, .mov (.tmp 0)⟩,
                  ⟨some 77, none, .mov (.tmp 1)⟩,
                  ⟨some 78, none, .mov (.tmp 2)⟩,
                  ⟨some 79, none, .mov (.tmp 4)⟩,
                  ⟨some 80, none, .call 143 [(.tmp 76), (.tmp 77), (.tmp 78), (.tmp 79)]⟩])
                (.cond (.tmp 80)
                 .ret
                 .skip))
               .skip))
             (.seq
              (.seq
               (.opsD [⟨some 81, none, .mov (.tmp 1)⟩,
                 ⟨some 82, none, .bin .gtr (.tmp 81) (.const (.int .i64 (0)))⟩,
                 ⟨some 83, none, .mov (.tmp 82)⟩,
                 ⟨some 84, some (83, true), .mov (.tmp 4)⟩,
                 ⟨some 85, some (83, true), .mov (.tmp 0)⟩,
                 ⟨some 86, some (83, true), .mov (.tmp 1)⟩,
                 ⟨some 87, some (83, true), .bin .sub (.tmp 86) (.const (.int .i64 (1)))⟩,
                 ⟨some 88, some (83, true), .iaddrS 2 (.tmp 85) (.tmp 87)⟩,
                 ⟨some 89, some (83, true), .loadN 2 (.tmp 88)⟩,
                 ⟨some 90, some (83, true), .mov (.tmp 0)⟩,
                 ⟨some 91, some (83, true), .mov (.tmp 13)⟩,
                 ⟨some 92, some (83, true), .iaddrS 2 (.tmp 90) (.tmp 91)⟩,
                 ⟨some 93, some (83, true), .loadN 2 (.tmp 92)⟩,
                 ⟨some 94, some (83, true), .callv (.tmp 84) [(.tmp 89), (.tmp 93)]⟩,
                 ⟨some 95, some (83, true), .bin .lss (.tmp 94) (.const (.int .i64 (0)))⟩,
                 ⟨some 96, some (83, true), .un .not (.tmp 95)⟩,
                 ⟨some 97, none, .pick (.tmp 83) (.tmp 96) (.const (.bool false))⟩] [])
               (.cond (.tmp 97)
                (.seq
                 (.ops [⟨some 98, none, .mov (.tmp 0)⟩,
                   ⟨some 99, none, .mov (.tmp 1)⟩,
                   ⟨some 100, none, .mov (.tmp 2)⟩,
                   ⟨some 101, none, .mov (.tmp 13)⟩,
                   ⟨some 102, none, .mov (.tmp 4)⟩,
                   ⟨some 103, none, .call 144 [(.tmp 98), (.tmp 99), (.tmp 100), (.tmp 101), (.tmp 102)]⟩,
                   ⟨some 15, none, .mov (.tmp 103)⟩])
                 (.seq
                  (.ops [⟨some 104, none, .mov (.tmp 15)⟩,
                    ⟨some 1, none, .mov (.tmp 104)⟩])
                  (.exit 1)))
                .skip))
              (.seq
               (.ops [⟨some 106, none, .mov (.tmp 0)⟩,
                 ⟨some 107, none, .mov (.tmp 1)⟩,
                 ⟨some 108, none, .mov (.tmp 2)⟩,
                 ⟨some 109, none, .mov (.tmp 13)⟩,
                 ⟨some 110, none, .mov (.tmp 4)⟩,
                 ⟨some 111, none, .call 145 [(.tmp 106), (.tmp 107), (.tmp 108), (.tmp 109), (.tmp 110)]⟩,
                 ⟨some 105, none, .mov (.tmp 111)⟩,
                 ⟨some 112, none, .ext (.tmp 105) 0⟩,
                 ⟨some 113, none, .ext (.tmp 105) 1⟩,
                 ⟨some 16, none, .mov (.tmp 112)⟩,
                 ⟨some 17, none, .mov (.tmp 113)⟩])
               (.seq
                (.ops [⟨some 114, none, .mov (.tmp 17)⟩,
                  ⟨some 11, none, .mov (.tmp 114)⟩])
                (.seq
                 (.ops [⟨some 115, none, .mov (.tmp 16)⟩,
                   ⟨some 116, none, .mov (.tmp 1)⟩,
                   ⟨some 117, none, .bin .sub (.tmp 115) (.tmp 116)⟩,
                   ⟨some 118, none, .mov (.tmp 2)⟩,
                   ⟨some 119, none, .mov (.tmp 16)⟩,
                   ⟨some 120, none, .bin .sub (.tmp 118) (.tmp 119)⟩,
                   ⟨some 18, none, .mov (.tmp 117)⟩,
                   ⟨some 19, none, .mov (.tmp 120)⟩])
                 (.seq
                  (.ops [⟨some 121, none, .mov (.tmp 12)⟩,
                    ⟨some 122, none, .bin .quo (.tmp 121) (.const (.int .i64 (8)))⟩,
                    ⟨some 20, none, .mov (.tmp 122)⟩])
                  (.seq
                   (.ops [⟨some 123, none, .mov (.tmp 18)⟩,
                     ⟨some 124, none, .mov (.tmp 19)⟩,
                     ⟨some 125, none, .bin .lss (.tmp 123) (.tmp 124)⟩])
                   (.cond (.tmp 125)
                    (.seq
                     (.ops [⟨some 126, none, .mov (.tmp 18)⟩,
                       ⟨some 127, none, .mov (.tmp 20)⟩,
                       ⟨some 128, none, .bin .geq (.tmp 126) (.tmp 127)⟩,
                       ⟨some 10, none, .mov (.tmp 128)⟩])
                     (.seq
                      (.ops [⟨some 129, none, .mov (.tmp 0)⟩,
                        ⟨some 130, none, .mov (.tmp 1)⟩,
                        ⟨some 131, none, .mov (.tmp 16)⟩,
                        ⟨some 132, none, .mov (.tmp 3)⟩,
                        ⟨some 133, none, .mov (.tmp 4)⟩,
                        ⟨some 134, none, .call 111 [(.tmp 129), (.tmp 130), (.tmp 131), (.tmp 132), (.tmp 133)]⟩])
                      (.ops [⟨some 135, none, .mov (.tmp 16)⟩,
                        ⟨some 136, none, .bin .add (.tmp 135) (.const (.int .i64 (1)))⟩,
                        ⟨some 1, none, .mov (.tmp 136)⟩])))
                    (.seq
                     (.ops [⟨some 137, none, .mov (.tmp 19)⟩,
                       ⟨some 138, none, .mov (.tmp 20)⟩,
                       ⟨some 139, none, .bin .geq (.tmp 137) (.tmp 138)⟩,
                       ⟨some 10, none, .mov (.tmp 139)⟩])
                     (.seq
                      (.ops [⟨some 140, none, .mov (.tmp 0)⟩,
                        ⟨some 141, none, .mov (.tmp 16)⟩,
                        ⟨some 142, none, .bin .add (.tmp 141) (.const (.int .i64 (1)))⟩,
                        ⟨some 143, none, .mov (.tmp 2)⟩,
                        ⟨some 144, none, .mov (.tmp 3)⟩,
                        ⟨some 145, none, .mov (.tmp 4)⟩,
                        ⟨some 146, none, .call 111 [(.tmp 140), (.tmp 142), (.tmp 143), (.tmp 144), (.tmp 145)]⟩])
                      (.ops [⟨some 147, none, .mov (.tmp 16)⟩,
                        ⟨some 2, none, .mov (.tmp 147)⟩]))))))))))))))))))))))⟩
theorem t111 : T 111 = some c111 := by kernel_rfl

/-- math/bits.Len -/
def c112 : AFunc := ⟨8, 1, [.inl 2],
 (.seq
  (.ops [⟨some 2, none, .mov (.const (.int .i64 (0)))⟩])
  (.seq
   (.cond (.const (.bool false))
    (.seq
     (.ops [⟨some 3, none, .mov (.tmp 0)⟩,
       ⟨some 4, none, .cvInt .u32 (.tmp 3)⟩,
       ⟨some 5, none, .call 146 [(.tmp 4)]⟩,
       ⟨some 2, none, .mov (.tmp 5)⟩])
     .ret)
    .skip)
   (.seq
    (.ops [⟨some 6, none, .mov (.tmp 0)⟩,
      ⟨some 7, none, .call 147 [(.tmp 6)]⟩,
      ⟨some 2, none, .mov (.tmp 7)⟩])
    .ret)))⟩
theorem t112 : T 112 = some c112 := by kernel_rfl

/-- math/bits.Len64 -/
def c147 : AFunc := ⟨25, 1, [.inl 2],
 (.seq
  (.ops [⟨some 2, none, .mov (.const (.int .i64 (0)))⟩])
  (.seq
   (.seq
    (.ops [⟨some 3, none, .mov (.tmp 0)⟩,
      ⟨some 4, none, .bin .geq (.tmp 3) (.const (.int .u64 (4294967296)))⟩])
    (.cond (.tmp 4)
     (.seq
      (.ops [⟨some 5, none, .mov (.tmp 0)⟩,
        ⟨some 6, none, .bin .shr (.tmp 5) (.const (.int .u64 (32)))⟩,
        ⟨some 0, none, .mov (.tmp 6)⟩])
      (.ops [⟨some 2, none, .mov (.const (.int .i64 (32)))⟩]))
     .skip))
   (.seq
    (.seq
     (.ops [⟨some 7, none, .mov (.tmp 0)⟩,
       ⟨some 8, none, .bin .geq (.tmp 7) (.const (.int .u64 (65536)))⟩])
     (.cond (.tmp 8)
      (.seq
       (.ops [⟨some 9, none, .mov (.tmp 0)⟩,
         ⟨some 10, none, .bin .shr (.tmp 9) (.const (.int .u64 (16)))⟩,
         ⟨some 0, none, .mov (.tmp 10)⟩])
       (.ops [⟨some 11, none, .mov (.tmp 2)⟩,
         ⟨some 12, none, .bin .add (.tmp 11) (.const (.int .i64 (16)))⟩,
         ⟨some 2, none, .mov (.tmp 12)⟩]))
      .skip))
    (.seq
     (.seq
      (.ops [⟨some 13, none, .mov (.tmp 0)⟩,
        ⟨some 14, none, .bin .geq (.tmp 13) (.const (.int .u64 (256)))⟩])
      (.cond (.tmp 14)
       (.seq
        (.ops [⟨some 15, none, .mov (.tmp 0)⟩,
          ⟨some 16, none, .bin .shr (.tmp 15) (.const (.int .u64 (8)))⟩,
          ⟨some 0, none, .mov (.tmp 16)⟩])
        (.ops [⟨some 17, none, .mov (.tmp 2)⟩,
          ⟨some 18, none, .bin .add (.tmp 17) (.const (.int .i64 (8)))⟩,
          ⟨some 2, none, .mov (.tmp 18)⟩]))
       .skip))
     (.seq
      (.ops [⟨some 19, none, .mov (.tmp 2)⟩,
        ⟨some 20, none, .mov (.tmp 0)⟩,
        ⟨some 21, none, .cvInt .u8 (.tmp 20)⟩,
        ⟨some 22, none, .idxS (.const (.string ⟨⟨tab8⟩⟩)) (.tmp 21)⟩,
        ⟨some 23, none, .cvInt .i64 (.tmp 22)⟩,
        ⟨some 24, none, .bin .add (.tmp 19) (.tmp 23)⟩,
        ⟨some 2, none, .mov (.tmp 24)⟩])
      .ret)))))⟩
theorem t147 : T 147 = some c147 := by kernel_rfl

/-- slices.insertionSortCmpFunc[plait/sbuf.span] -/
def c138 : AFunc := ⟨53, 4, [],
 (.seq
  (.ops [⟨some 10, none, .mov (.tmp 1)⟩,
    ⟨some 11, none, .bin .add (.tmp 10) (.const (.int .i64 (1)))⟩,
    ⟨some 8, none, .mov (.tmp 11)⟩])
  (.block 0
   (.loop
    (.seq
     (.seq
      (.ops [⟨some 12, none, .mov (.tmp 8)⟩,
        ⟨some 13, none, .mov (.tmp 2)⟩,
        ⟨some 14, none, .bin .lss (.tmp 12) (.tmp 13)⟩])
      (.cond (.tmp 14)
       .skip
       (.exit 0)))
     (.seq
      (.block 1
       (.seq
        (.ops [⟨some 17, none, .mov (.tmp 8)⟩,
          ⟨some 9, none, .mov (.tmp 17)⟩])
        (.block 2
         (.loop
          (.seq
           (.seq
            (.opsD [⟨some 18, none, .mov (.tmp 9)⟩,
              ⟨some 19, none, .mov (.tmp 1)⟩,
              ⟨some 20, none, .bin .gtr (.tmp 18) (.tmp 19)⟩,
              ⟨some 21, none, .mov (.tmp 20)⟩,
              ⟨some 22, some (21, true), .mov (.tmp 3)⟩,
              ⟨some 23, some (21, true), .mov (.tmp 0)⟩,
              ⟨some 24, some (21, true), .mov (.tmp 9)⟩,
              ⟨some 25, some (21, true), .iaddrS 2 (.tmp 23) (.tmp 24)⟩,
              ⟨some 26, some (21, true), .loadN 2 (.tmp 25)⟩,
              ⟨some 27, some (21, true), .mov (.tmp 0)⟩,
              ⟨some 28, some (21, true), .mov (.tmp 9)⟩,
              ⟨some 29, some (21, true), .bin .sub (.tmp 28) (.const (.int .i64 (1)))⟩,
              ⟨some 30, some (21, true), .iaddrS 2 (.tmp 27) (.tmp 29)⟩,
              ⟨some 31, some (21, true), .loadN 2 (.tmp 30)⟩,
              ⟨some 32, some (21, true), .callv (.tmp 22) [(.tmp 26), (.tmp 31)]⟩,
              ⟨some 33, some (21, true), .bin .lss (.tmp 32) (.const (.int .i64 (0)))⟩,
              ⟨some 34, none, .pick (.tmp 21) (.tmp 33) (.const (.bool false))⟩] [])
            (.cond (.tmp 34)
             .skip
             (.exit 2)))
           (.seq
            (.block 3
             (.opsD [⟨some 37, none, .mov (.tmp 0)⟩,
               ⟨some 38, none, .mov (.tmp 9)⟩,
               ⟨some 39, none, .mov (.tmp 0)⟩,
               ⟨some 40, none, .mov (.tmp 9)⟩,
               ⟨some 41, none, .bin .sub (.tmp 40) (.const (.int .i64 (1)))⟩,
               ⟨some 42, none, .mov (.tmp 0)⟩,
               ⟨some 43, none, .mov (.tmp 9)⟩,
               ⟨some 44, none, .bin .sub (.tmp 43) (.const (.int .i64 (1)))⟩,
               ⟨some 45, none, .iaddrS 2 (.tmp 42) (.tmp 44)⟩,
               ⟨some 46, none, .loadN 2 (.tmp 45)⟩,
               ⟨some 47, none, .mov (.tmp 0)⟩,
               ⟨some 48, none, .mov (.tmp 9)⟩,
               ⟨some 49, none, .iaddrS 2 (.tmp 47) (.tmp 48)⟩,
               ⟨some 50, none, .loadN 2 (.tmp 49)⟩,
               ⟨some 51, none, .iaddrS 2 (.tmp 37) (.tmp 38)⟩,
               ⟨none, none, .store 2 (.tmp 51) (.tmp 46)⟩,
               ⟨some 52, none, .iaddrS 2 (.tmp 39) (.tmp 41)⟩,
               ⟨none, none, .store 2 (.tmp 52) (.tmp 50)⟩] []))
            (.ops [⟨some 35, none, .mov (.tmp 9)⟩,
              ⟨some 36, none, .bin .sub (.tmp 35) (.const (.int .i64 (1)))⟩,
              ⟨some 9, none, .mov (.tmp 36)⟩])))))))
      (.ops [⟨some 15, none, .mov (.tmp 8)⟩,
        ⟨some 16, none, .bin .add (.tmp 15) (.const (.int .i64 (1)))⟩,
        ⟨some 8, none, .mov (.tmp 16)⟩]))))))⟩
theorem t138 : T 138 = some c138 := by kernel_rfl

end Go.Proofs.Ytidgbapgedegbaa

