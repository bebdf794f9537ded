/- The code of InletSpoilt, in pieces. -/
import Derived.Test.YtidgbapgedegbaaKq
namespace Go.Proofs.Ytidgbapgedegbaa
open Go Go.AS
set_option maxRecDepth 100000
def d10l : ACode :=
 (.seq
            (.ops [⟨some 14, none, .mov (.const (.int .i64 (0)))⟩])
            (.block 0
             (.loop
              (.seq
               (.seq
                (.ops [⟨some 67, none, .mov (.tmp 14)⟩,
                  ⟨some 68, none, .mov (.tmp 9)⟩,
                  ⟨some 69, none, .lenV (.tmp 68)⟩,
                  ⟨some 70, none, .bin .lss (.tmp 67) (.tmp 69)⟩])
                (.cond (.tmp 70)
                 .skip
                 (.exit 0)))
               (.seq
                (.block 1
                 (.seq
                  (.seq
                   (.ops [⟨some 73, none, .mov (.tmp 14)⟩,
                     ⟨some 74, none, .mov (.tmp 12)⟩,
                     ⟨some 75, none, .bin .neq (.tmp 73) (.tmp 74)⟩,
                     ⟨some 76, none, .mov (.tmp 75)⟩,
                     ⟨some 77, some (76, false), .mov (.tmp 3)⟩,
                     ⟨some 78, some (76, false), .un .not (.tmp 77)⟩,
                     ⟨some 79, none, .pick (.tmp 76) (.const (.bool true)) (.tmp 78)⟩])
                   (.cond (.tmp 79)
                    (.ops [⟨some 80, none, .mov (.tmp 11)⟩,
                      ⟨some 81, none, .mov (.tmp 9)⟩,
                      ⟨some 82, none, .mov (.tmp 14)⟩,
                      ⟨some 83, none, .iaddrS 4 (.tmp 81) (.tmp 82)⟩,
                      ⟨some 84, none, .loadN 4 (.tmp 83)⟩,
                      ⟨some 85, none, .call 32 [(.tmp 80), (.tmp 84)]⟩])
                    .skip))
                  (.seq
                   (.ops [⟨some 86, none, .mov (.tmp 10)⟩,
                     ⟨some 87, none, .mov (.tmp 14)⟩,
                     ⟨some 88, none, .iaddrS 1 (.tmp 86) (.tmp 87)⟩,
                     ⟨some 89, none, .load1 (.tmp 88)⟩,
                     ⟨some 15, none, .mov (.tmp 89)⟩])
                   (.seq
                    (.seq
                     (.ops [⟨some 90, none, .mov (.tmp 14)⟩,
                       ⟨some 91, none, .mov (.tmp 12)⟩,
                       ⟨some 92, none, .bin .eql (.tmp 90) (.tmp 91)⟩,
                       ⟨some 93, none, .mov (.tmp 92)⟩,
                       ⟨some 94, some (93, true), .mov (.tmp 3)⟩,
                       ⟨some 95, some (93, true), .un .not (.tmp 94)⟩,
                       ⟨some 96, none, .pick (.tmp 93) (.tmp 95) (.const (.bool false))⟩])
                     (.cond (.tmp 96)
                      (.ops [⟨some 97, none, .mov (.tmp 13)⟩,
                        ⟨some 98, none, .cvB2S (.tmp 97)⟩,
                        ⟨some 15, none, .mov (.tmp 98)⟩])
                      .skip))
                    (.ops [⟨some 99, none, .mov (.tmp 11)⟩,
                      ⟨some 100, none, .mov (.tmp 9)⟩,
                      ⟨some 101, none, .mov (.tmp 14)⟩,
                      ⟨some 102, none, .iaddrS 4 (.tmp 100) (.tmp 101)⟩,
                      ⟨some 103, none, .faddr 0 (.tmp 102)⟩,
                      ⟨some 104, none, .load1 (.tmp 103)⟩,
                      ⟨some 105, none, .mov (.tmp 15)⟩,
                      ⟨some 106, none, .call 31 [(.tmp 99), (.tmp 104), (.tmp 105)]⟩])))))
                (.ops [⟨some 71, none, .mov (.tmp 14)⟩,
                  ⟨some 72, none, .bin .add (.tmp 71) (.const (.int .i64 (1)))⟩,
                  ⟨some 14, none, .mov (.tmp 72)⟩]))))))
def d10m : ACode :=
 (.seq
             (.ops [⟨some 16, none, .mov (.const (.int .i64 (0)))⟩])
             (.block 2
              (.loop
               (.seq
                (.seq
                 (.ops [⟨some 107, none, .mov (.tmp 16)⟩,
                   ⟨some 108, none, .mov (.tmp 12)⟩,
                   ⟨some 109, none, .bin .lss (.tmp 107) (.tmp 108)⟩])
                 (.cond (.tmp 109)
                  .skip
                  (.exit 2)))
                (.seq
                 (.block 3
                  (.seq
                   (.seq
                    (.opsD [⟨some 112, none, .mov (.tmp 11)⟩,
                      ⟨some 113, none, .mov (.tmp 9)⟩,
                      ⟨some 114, none, .mov (.tmp 16)⟩,
                      ⟨some 115, none, .iaddrS 4 (.tmp 113) (.tmp 114)⟩,
                      ⟨some 116, none, .loadN 4 (.tmp 115)⟩,
                      ⟨some 117, none, .mov (.tmp 10)⟩,
                      ⟨some 118, none, .mov (.tmp 16)⟩,
                      ⟨some 119, none, .iaddrS 1 (.tmp 117) (.tmp 118)⟩,
                      ⟨some 120, none, .load1 (.tmp 119)⟩,
                      ⟨some 121, none, .call 33 [(.tmp 112), (.const (.int .i64 (1))), (.tmp 116), (.tmp 120)]⟩,
                      ⟨some 122, none, .un .not (.tmp 121)⟩] [])
                    (.cond (.tmp 122)
                     (.seq
                      (.ops [⟨some 8, none, .mov (.const (.bool false))⟩])
                      .ret)
                     .skip))
                   (.ops [⟨some 123, none, .mov (.tmp 11)⟩,
                     ⟨some 124, none, .mov (.tmp 9)⟩,
                     ⟨some 125, none, .mov (.tmp 16)⟩,
                     ⟨some 126, none, .iaddrS 4 (.tmp 124) (.tmp 125)⟩,
                     ⟨some 127, none, .faddr 2 (.tmp 126)⟩,
                     ⟨some 128, none, .load1 (.tmp 127)⟩,
                     ⟨some 129, none, .call 38 [(.tmp 123), (.tmp 128)]⟩])))
                 (.ops [⟨some 110, none, .mov (.tmp 16)⟩,
                   ⟨some 111, none, .bin .add (.tmp 110) (.const (.int .i64 (1)))⟩,
                   ⟨some 16, none, .mov (.tmp 111)⟩]))))))
def d10e : ACode :=
 (.seq
             (.seq
              (.ops [⟨some 130, none, .mov (.tmp 3)⟩])
              (.cond (.tmp 130)
               (.seq
                (.opsD [⟨some 131, none, .mov (.tmp 11)⟩,
                  ⟨some 132, none, .build [.int .i64 (0), .int .i64 (0), .int .i64 (0), .int .u16 (0)] []⟩,
                  ⟨some 133, none, .call 33 [(.tmp 131), (.const (.int .i64 (3))), (.tmp 132), (.const (.string ⟨⟨[]⟩⟩))]⟩,
                  ⟨some 134, none, .mov (.tmp 133)⟩,
                  ⟨some 135, some (134, true), .mov (.tmp 11)⟩,
                  ⟨some 136, some (134, true), .mov (.tmp 10)⟩,
                  ⟨some 137, some (134, true), .mov (.tmp 12)⟩,
                  ⟨some 138, some (134, true), .iaddrS 1 (.tmp 136) (.tmp 137)⟩,
                  ⟨some 139, some (134, true), .load1 (.tmp 138)⟩,
                  ⟨some 140, some (134, true), .lenS (.tmp 139)⟩,
                  ⟨some 141, some (134, true), .call 34 [(.tmp 135), (.tmp 140)]⟩,
                  ⟨some 142, some (134, true), .mov (.tmp 10)⟩,
                  ⟨some 143, some (134, true), .mov (.tmp 12)⟩,
                  ⟨some 144, some (134, true), .iaddrS 1 (.tmp 142) (.tmp 143)⟩,
                  ⟨some 145, some (134, true), .load1 (.tmp 144)⟩,
                  ⟨some 146, some (134, true), .bin .eql (.tmp 141) (.tmp 145)⟩,
                  ⟨some 147, none, .pick (.tmp 134) (.tmp 146) (.const (.bool false))⟩,
                  ⟨some 148, none, .mov (.tmp 147)⟩,
                  ⟨some 149, some (148, true), .mov (.tmp 11)⟩,
                  ⟨some 150, some (148, true), .call 35 [(.tmp 149)]⟩,
                  ⟨some 151, some (148, true), .mov (.tmp 9)⟩,
                  ⟨some 152, some (148, true), .mov (.tmp 12)⟩,
                  ⟨some 153, some (148, true), .iaddrS 4 (.tmp 151) (.tmp 152)⟩,
                  ⟨some 154, some (148, true), .faddr 0 (.tmp 153)⟩,
                  ⟨some 155, some (148, true), .load1 (.tmp 154)⟩,
                  ⟨some 156, some (148, true), .bin .eql (.tmp 150) (.tmp 155)⟩,
                  ⟨some 157, none, .pick (.tmp 148) (.tmp 156) (.const (.bool false))⟩,
                  ⟨some 8, none, .mov (.tmp 157)⟩] [(14, 10), (14, 11), (24, 19), (24, 20)])
                .ret)
               .skip))
             (.seq
              (.ops [⟨some 17, none, .mov (.const (.int .i64 (1)))⟩])
              (.seq
               (.seq
                (.ops [⟨some 158, none, .faddr 3 (.tmp 4)⟩,
                  ⟨some 159, none, .load1 (.tmp 158)⟩])
                (.cond (.tmp 159)
                 (.ops [⟨some 17, none, .mov (.const (.int .i64 (2)))⟩])
                 .skip))
               (.seq
                (.opsD [⟨some 160, none, .mov (.tmp 11)⟩,
                  ⟨some 161, none, .mov (.tmp 17)⟩,
                  ⟨some 162, none, .mov (.tmp 9)⟩,
                  ⟨some 163, none, .mov (.tmp 12)⟩,
                  ⟨some 164, none, .iaddrS 4 (.tmp 162) (.tmp 163)⟩,
                  ⟨some 165, none, .loadN 4 (.tmp 164)⟩,
                  ⟨some 166, none, .mov (.tmp 13)⟩,
                  ⟨some 167, none, .cvB2S (.tmp 166)⟩,
                  ⟨some 168, none, .call 33 [(.tmp 160), (.tmp 161), (.tmp 165), (.tmp 167)]⟩,
                  ⟨some 169, none, .mov (.tmp 168)⟩,
                  ⟨some 170, some (169, true), .mov (.tmp 11)⟩,
                  ⟨some 171, some (169, true), .mov (.tmp 13)⟩,
                  ⟨some 172, some (169, true), .lenV (.tmp 171)⟩,
                  ⟨some 173, some (169, true), .call 34 [(.tmp 170), (.tmp 172)]⟩,
                  ⟨some 174, some (169, true), .mov (.tmp 13)⟩,
                  ⟨some 175, some (169, true), .cvB2S (.tmp 174)⟩,
                  ⟨some 176, some (169, true), .bin .eql (.tmp 173) (.tmp 175)⟩,
                  ⟨some 177, none, .pick (.tmp 169) (.tmp 176) (.const (.bool false))⟩,
                  ⟨some 8, none, .mov (.tmp 177)⟩] [(15, 13), (15, 14)])
                .ret))))
def d10' : AFunc := ⟨178, 4, [.inl 8],
 (.seq
  (.ops [⟨some 4, none, .box 69 4 (.tmp 0)⟩,
    ⟨some 8, none, .mov (.const (.bool false))⟩])
  (.seq
   (.seq
    (.ops [⟨some 18, none, .call 29 []⟩,
      ⟨some 19, none, .un .not (.tmp 18)⟩])
    (.cond (.tmp 19)
     (.seq
      (.ops [⟨some 8, none, .mov (.const (.bool false))⟩])
      .ret)
     .skip))
   (.seq
    (.ops [⟨some 21, none, .loadN 4 (.tmp 4)⟩,
      ⟨some 22, none, .call 36 [(.tmp 21)]⟩,
      ⟨some 20, none, .mov (.tmp 22)⟩,
      ⟨some 23, none, .ext (.tmp 20) 0⟩,
      ⟨some 24, none, .ext (.tmp 20) 1⟩,
      ⟨some 9, none, .mov (.tmp 23)⟩,
      ⟨some 10, none, .mov (.tmp 24)⟩])
    (.seq
     (.ops [⟨some 25, none, .faddr 3 (.tmp 4)⟩,
       ⟨some 26, none, .load1 (.tmp 25)⟩,
       ⟨some 27, none, .faddr 2 (.tmp 4)⟩,
       ⟨some 28, none, .load1 (.tmp 27)⟩,
       ⟨some 29, none, .call 27 [(.const (.int .i64 (2048))), (.tmp 26), (.tmp 28)]⟩,
       ⟨some 11, none, .mov (.tmp 29)⟩])
     (.seq
      (.seq
       (.ops [⟨some 30, none, .mov (.tmp 11)⟩,
         ⟨some 31, none, .eq false true .ptr (.tmp 30) (.const (.pointer none))⟩])
       (.cond (.tmp 31)
        (.seq
         (.ops [⟨some 8, none, .mov (.const (.bool false))⟩])
         .ret)
        .skip))
      (.seq
       (.seq
        (.ops [⟨some 32, none, .mov (.tmp 9)⟩,
          ⟨some 33, none, .lenV (.tmp 32)⟩,
          ⟨some 34, none, .bin .eql (.tmp 33) (.const (.int .i64 (0)))⟩])
        (.cond (.tmp 34)
         (.seq
          (.ops [⟨some 35, none, .mov (.tmp 11)⟩,
            ⟨some 36, none, .build [.int .i64 (0), .int .i64 (0), .int .i64 (0), .int .u16 (0)] []⟩,
            ⟨some 37, none, .call 33 [(.tmp 35), (.const (.int .i64 (0))), (.tmp 36), (.const (.string ⟨⟨[]⟩⟩))]⟩,
            ⟨some 38, none, .mov (.tmp 37)⟩,
            ⟨some 39, some (38, true), .mov (.tmp 11)⟩,
            ⟨some 40, some (38, true), .call 34 [(.tmp 39), (.const (.int .i64 (5)))]⟩,
            ⟨some 41, some (38, true), .bin .eql (.tmp 40) (.const (.string ⟨⟨[]⟩⟩))⟩,
            ⟨some 42, none, .pick (.tmp 38) (.tmp 41) (.const (.bool false))⟩,
            ⟨some 8, none, .mov (.tmp 42)⟩])
          .ret)
         .skip))
       (.seq
        (.ops [⟨some 43, none, .mov (.tmp 1)⟩,
          ⟨some 44, none, .cvInt .i64 (.tmp 43)⟩,
          ⟨some 45, none, .mov (.tmp 9)⟩,
          ⟨some 46, none, .lenV (.tmp 45)⟩,
          ⟨some 47, none, .bin .rem (.tmp 44) (.tmp 46)⟩,
          ⟨some 12, none, .mov (.tmp 47)⟩])
        (.seq
         (.ops [⟨some 48, none, .mov (.tmp 10)⟩,
           ⟨some 49, none, .mov (.tmp 12)⟩,
           ⟨some 50, none, .iaddrS 1 (.tmp 48) (.tmp 49)⟩,
           ⟨some 51, none, .load1 (.tmp 50)⟩,
           ⟨some 52, none, .cvS2B 5 (.tmp 51)⟩,
           ⟨some 13, none, .mov (.tmp 52)⟩])
         (.seq
          (.ops [⟨some 53, none, .mov (.tmp 13)⟩,
            ⟨some 54, none, .mov (.tmp 1)⟩,
            ⟨some 55, none, .bin .quo (.tmp 54) (.const (.int .u16 (7)))⟩,
            ⟨some 56, none, .cvInt .i64 (.tmp 55)⟩,
            ⟨some 57, none, .mov (.tmp 13)⟩,
            ⟨some 58, none, .lenV (.tmp 57)⟩,
            ⟨some 59, none, .bin .rem (.tmp 56) (.tmp 58)⟩,
            ⟨some 60, none, .iaddrS 1 (.tmp 53) (.tmp 59)⟩,
            ⟨some 61, none, .load1 (.tmp 60)⟩,
            ⟨some 62, none, .mov (.tmp 2)⟩,
            ⟨some 63, none, .bin .rem (.tmp 62) (.const (.int .u8 (255)))⟩,
            ⟨some 64, none, .bin .add (.const (.int .u8 (1))) (.tmp 63)⟩,
            ⟨some 65, none, .bin .xor (.tmp 61) (.tmp 64)⟩,
            ⟨some 66, none, .iaddrS 1 (.tmp 53) (.tmp 59)⟩,
            ⟨none, none, .store 1 (.tmp 66) (.tmp 65)⟩])
          (.seq d10l (.seq d10m d10e)))))))))))⟩
theorem u10' : T 10 = some d10' := by kernel_rfl
end Go.Proofs.Ytidgbapgedegbaa
