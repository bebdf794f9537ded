/- The code of InletKnown, in pieces. -/
import Derived.Test.YtidgbapgedegbaaKq
namespace Go.Proofs.Ytidgbapgedegbaa
open Go Go.AS
set_option maxRecDepth 100000
def d11f : ACode :=
 (.seq
               (.ops [⟨some 8, none, .mov (.const (.pointer none))⟩])
               (.seq
                (.ops [⟨some 95, none, .mov (.tmp 8)⟩,
                  ⟨some 96, none, .call 38 [(.tmp 95), (.const (.int .i64 (1)))]⟩])
                (.seq
                 (.ops [⟨some 97, none, .mov (.const (.bool true))⟩,
                   ⟨some 98, some (97, true), .call 29 []⟩,
                   ⟨some 99, none, .pick (.tmp 97) (.tmp 98) (.const (.bool false))⟩,
                   ⟨some 100, none, .mov (.tmp 99)⟩,
                   ⟨some 101, some (100, true), .mov (.tmp 3)⟩,
                   ⟨some 102, none, .pick (.tmp 100) (.tmp 101) (.const (.bool false))⟩,
                   ⟨some 103, none, .mov (.tmp 102)⟩,
                   ⟨some 104, some (103, true), .mov (.tmp 4)⟩,
                   ⟨some 105, none, .pick (.tmp 103) (.tmp 104) (.const (.bool false))⟩,
                   ⟨some 106, none, .mov (.tmp 105)⟩,
                   ⟨some 107, some (106, true), .mov (.tmp 5)⟩,
                   ⟨some 108, none, .pick (.tmp 106) (.tmp 107) (.const (.bool false))⟩,
                   ⟨some 109, none, .mov (.tmp 108)⟩,
                   ⟨some 110, some (109, true), .mov (.tmp 7)⟩,
                   ⟨some 111, none, .pick (.tmp 109) (.tmp 110) (.const (.bool false))⟩,
                   ⟨some 112, none, .mov (.tmp 111)⟩,
                   ⟨some 113, some (112, true), .mov (.tmp 8)⟩,
                   ⟨some 114, some (112, true), .call 31 [(.tmp 113), (.const (.int .i64 (0))), (.const (.string ⟨⟨[97]⟩⟩))]⟩,
                   ⟨some 115, some (112, true), .bin .eql (.tmp 114) (.const (.int .i64 (0)))⟩,
                   ⟨some 116, none, .pick (.tmp 112) (.tmp 115) (.const (.bool false))⟩,
                   ⟨some 117, none, .mov (.tmp 116)⟩,
                   ⟨some 118, some (117, true), .mov (.tmp 8)⟩,
                   ⟨some 119, some (117, true), .loadN 4 (.tmp 2)⟩,
                   ⟨some 120, some (117, true), .call 32 [(.tmp 118), (.tmp 119)]⟩,
                   ⟨some 121, some (117, true), .un .not (.tmp 120)⟩,
                   ⟨some 122, none, .pick (.tmp 117) (.tmp 121) (.const (.bool false))⟩,
                   ⟨some 123, none, .mov (.tmp 122)⟩,
                   ⟨some 124, some (123, true), .mov (.tmp 8)⟩,
                   ⟨some 125, some (123, true), .build [.int .i64 (0), .int .i64 (0), .int .i64 (0), .int .u16 (0)] []⟩,
                   ⟨some 126, some (123, true), .call 33 [(.tmp 124), (.const (.int .i64 (0))), (.tmp 125), (.const (.string ⟨⟨[]⟩⟩))]⟩,
                   ⟨some 127, none, .pick (.tmp 123) (.tmp 126) (.const (.bool false))⟩,
                   ⟨some 128, none, .mov (.tmp 127)⟩,
                   ⟨some 129, some (128, true), .mov (.tmp 8)⟩,
                   ⟨some 130, some (128, true), .call 34 [(.tmp 129), (.const (.int .i64 (3)))]⟩,
                   ⟨some 131, some (128, true), .bin .eql (.tmp 130) (.const (.string ⟨⟨[]⟩⟩))⟩,
                   ⟨some 132, none, .pick (.tmp 128) (.tmp 131) (.const (.bool false))⟩,
                   ⟨some 133, none, .mov (.tmp 132)⟩,
                   ⟨some 134, some (133, true), .mov (.tmp 8)⟩,
                   ⟨some 135, some (133, true), .call 35 [(.tmp 134)]⟩,
                   ⟨some 136, some (133, true), .bin .eql (.tmp 135) (.const (.int .i64 (0)))⟩,
                   ⟨some 137, none, .pick (.tmp 133) (.tmp 136) (.const (.bool false))⟩,
                   ⟨some 0, none, .mov (.tmp 137)⟩])
                 .ret)))
def d11c : ACode :=
 (.seq
            (.ops [⟨some 73, none, .call 27 [(.const (.int .i64 (1))), (.const (.bool false)), (.const (.int .u64 (0)))]⟩,
              ⟨some 6, none, .mov (.tmp 73)⟩])
            (.seq
             (.seq
              (.ops [⟨some 74, none, .mov (.tmp 6)⟩,
                ⟨some 75, none, .eq false true .ptr (.tmp 74) (.const (.pointer none))⟩])
              (.cond (.tmp 75)
               (.seq
                (.ops [⟨some 0, none, .mov (.const (.bool false))⟩])
                .ret)
               .skip))
             (.seq
              (.ops [⟨some 76, none, .mov (.tmp 6)⟩,
                ⟨some 77, none, .call 31 [(.tmp 76), (.const (.int .i64 (0))), (.const (.string ⟨⟨[120, 121, 122]⟩⟩))]⟩,
                ⟨some 78, none, .bin .eql (.tmp 77) (.const (.int .i64 (1)))⟩,
                ⟨some 79, none, .mov (.tmp 78)⟩,
                ⟨some 80, some (79, true), .mov (.tmp 6)⟩,
                ⟨some 81, some (79, true), .build [.int .i64 (0), .int .i64 (0), .int .i64 (0), .int .u16 (0)] [(2, 1, (.const (.int .i64 (2))))]⟩,
                ⟨some 82, some (79, true), .call 32 [(.tmp 80), (.tmp 81)]⟩,
                ⟨some 83, some (79, true), .un .not (.tmp 82)⟩,
                ⟨some 84, none, .pick (.tmp 79) (.tmp 83) (.const (.bool false))⟩,
                ⟨some 85, none, .mov (.tmp 84)⟩,
                ⟨some 86, some (85, true), .mov (.tmp 6)⟩,
                ⟨some 87, some (85, true), .build [.int .i64 (0), .int .i64 (0), .int .i64 (0), .int .u16 (0)] [(2, 1, (.const (.int .i64 (1))))]⟩,
                ⟨some 88, some (85, true), .call 32 [(.tmp 86), (.tmp 87)]⟩,
                ⟨some 89, none, .pick (.tmp 85) (.tmp 88) (.const (.bool false))⟩,
                ⟨some 90, none, .mov (.tmp 89)⟩,
                ⟨some 91, some (90, true), .mov (.tmp 6)⟩,
                ⟨some 92, some (90, true), .build [.int .i64 (0), .int .i64 (0), .int .i64 (0), .int .u16 (0)] [(2, 1, (.const (.int .i64 (1))))]⟩,
                ⟨some 93, some (90, true), .call 33 [(.tmp 91), (.const (.int .i64 (1))), (.tmp 92), (.const (.string ⟨⟨[120]⟩⟩))]⟩,
                ⟨some 94, none, .pick (.tmp 90) (.tmp 93) (.const (.bool false))⟩,
                ⟨some 7, none, .mov (.tmp 94)⟩])
              d11f)))
def d11e : ACode :=
 (.seq
          (.ops [⟨some 42, none, .mov (.tmp 1)⟩,
            ⟨some 43, none, .call 38 [(.tmp 42), (.const (.int .i64 (9223372036854775807)))]⟩])
          (.seq
           (.ops [⟨some 44, none, .mov (.tmp 1)⟩,
             ⟨some 45, none, .call 35 [(.tmp 44)]⟩,
             ⟨some 46, none, .bin .eql (.tmp 45) (.const (.int .i64 (2305843009213693952)))⟩,
             ⟨some 47, none, .mov (.tmp 46)⟩,
             ⟨some 48, some (47, true), .mov (.tmp 1)⟩,
             ⟨some 49, some (47, true), .build [.int .i64 (0), .int .i64 (0), .int .i64 (0), .int .u16 (0)] []⟩,
             ⟨some 50, some (47, true), .call 33 [(.tmp 48), (.const (.int .i64 (0))), (.tmp 49), (.const (.string ⟨⟨[]⟩⟩))]⟩,
             ⟨some 51, none, .pick (.tmp 47) (.tmp 50) (.const (.bool false))⟩,
             ⟨some 52, none, .mov (.tmp 51)⟩,
             ⟨some 53, some (52, true), .mov (.tmp 1)⟩,
             ⟨some 54, some (52, true), .loadN 4 (.tmp 2)⟩,
             ⟨some 55, some (52, true), .call 32 [(.tmp 53), (.tmp 54)]⟩,
             ⟨some 56, some (52, true), .un .not (.tmp 55)⟩,
             ⟨some 57, none, .pick (.tmp 52) (.tmp 56) (.const (.bool false))⟩,
             ⟨some 58, none, .mov (.tmp 57)⟩,
             ⟨some 59, some (58, true), .mov (.tmp 1)⟩,
             ⟨some 60, some (58, true), .call 31 [(.tmp 59), (.const (.int .i64 (1))), (.const (.string ⟨⟨[122]⟩⟩))]⟩,
             ⟨some 61, some (58, true), .bin .eql (.tmp 60) (.const (.int .i64 (0)))⟩,
             ⟨some 62, none, .pick (.tmp 58) (.tmp 61) (.const (.bool false))⟩,
             ⟨some 63, none, .mov (.tmp 62)⟩,
             ⟨some 64, some (63, true), .mov (.tmp 1)⟩,
             ⟨some 65, some (63, true), .call 31 [(.tmp 64), (.const (.int .i64 (2305843009213693952))), (.const (.string ⟨⟨[113]⟩⟩))]⟩,
             ⟨some 66, some (63, true), .bin .eql (.tmp 65) (.const (.int .i64 (1)))⟩,
             ⟨some 67, none, .pick (.tmp 63) (.tmp 66) (.const (.bool false))⟩,
             ⟨some 68, none, .mov (.tmp 67)⟩,
             ⟨some 69, some (68, true), .mov (.tmp 1)⟩,
             ⟨some 70, some (68, true), .build [.int .i64 (0), .int .i64 (0), .int .i64 (0), .int .u16 (0)] []⟩,
             ⟨some 71, some (68, true), .call 33 [(.tmp 69), (.const (.int .i64 (3))), (.tmp 70), (.const (.string ⟨⟨[]⟩⟩))]⟩,
             ⟨some 72, none, .pick (.tmp 68) (.tmp 71) (.const (.bool false))⟩,
             ⟨some 5, none, .mov (.tmp 72)⟩])
           d11c))
def d11b : ACode :=
 (.seq
      (.ops [⟨some 22, none, .mov (.tmp 1)⟩,
        ⟨some 23, none, .call 38 [(.tmp 22), (.const (.int .i64 (1)))]⟩])
      (.seq
       (.ops [⟨some 24, none, .mov (.tmp 1)⟩,
         ⟨some 25, none, .loadN 4 (.tmp 2)⟩,
         ⟨some 26, none, .call 32 [(.tmp 24), (.tmp 25)]⟩,
         ⟨some 27, none, .mov (.tmp 26)⟩,
         ⟨some 28, some (27, true), .mov (.tmp 1)⟩,
         ⟨some 29, some (27, true), .call 31 [(.tmp 28), (.const (.int .i64 (1))), (.const (.string ⟨⟨[122]⟩⟩))]⟩,
         ⟨some 30, some (27, true), .bin .eql (.tmp 29) (.const (.int .i64 (1)))⟩,
         ⟨some 31, none, .pick (.tmp 27) (.tmp 30) (.const (.bool false))⟩,
         ⟨some 32, none, .mov (.tmp 31)⟩,
         ⟨some 33, some (32, true), .mov (.tmp 1)⟩,
         ⟨some 34, some (32, true), .loadN 4 (.tmp 2)⟩,
         ⟨some 35, some (32, true), .call 33 [(.tmp 33), (.const (.int .i64 (1))), (.tmp 34), (.const (.string ⟨⟨[122]⟩⟩))]⟩,
         ⟨some 36, none, .pick (.tmp 32) (.tmp 35) (.const (.bool false))⟩,
         ⟨some 3, none, .mov (.tmp 36)⟩])
       (.seq
        (.ops [⟨some 37, none, .mov (.tmp 1)⟩,
          ⟨some 38, none, .call 38 [(.tmp 37), (.const (.int .i64 (-3)))]⟩])
        (.seq
         (.ops [⟨some 39, none, .mov (.tmp 1)⟩,
           ⟨some 40, none, .call 35 [(.tmp 39)]⟩,
           ⟨some 41, none, .bin .eql (.tmp 40) (.const (.int .i64 (1)))⟩,
           ⟨some 4, none, .mov (.tmp 41)⟩])
         d11e))))
def d11' : AFunc := ⟨138, 0, [.inl 0],
 (.seq
  (.ops [⟨some 0, none, .mov (.const (.bool false))⟩])
  (.seq
   (.ops [⟨some 9, none, .call 27 [(.const (.int .i64 (2048))), (.const (.bool true)), (.const (.int .u64 (18446744073709551615)))]⟩,
     ⟨some 1, none, .mov (.tmp 9)⟩])
   (.seq
    (.seq
     (.ops [⟨some 10, none, .mov (.tmp 1)⟩,
       ⟨some 11, none, .eq false true .ptr (.tmp 10) (.const (.pointer none))⟩,
       ⟨some 12, none, .mov (.tmp 11)⟩,
       ⟨some 13, some (12, false), .call 27 [(.const (.int .i64 (2049))), (.const (.bool false)), (.const (.int .u64 (0)))]⟩,
       ⟨some 14, some (12, false), .eq true true .ptr (.tmp 13) (.const (.pointer none))⟩,
       ⟨some 15, none, .pick (.tmp 12) (.const (.bool true)) (.tmp 14)⟩,
       ⟨some 16, none, .mov (.tmp 15)⟩,
       ⟨some 17, some (16, false), .call 27 [(.const (.int .i64 (-1))), (.const (.bool false)), (.const (.int .u64 (0)))]⟩,
       ⟨some 18, some (16, false), .eq true true .ptr (.tmp 17) (.const (.pointer none))⟩,
       ⟨some 19, none, .pick (.tmp 16) (.const (.bool true)) (.tmp 18)⟩])
     (.cond (.tmp 19)
      (.seq
       (.ops [⟨some 0, none, .mov (.const (.bool false))⟩])
       .ret)
      .skip))
    (.seq
     (.ops [⟨some 20, none, .call 39 [(.const (.int .u64 (0))), (.const (.int .u32 (2))), (.const (.int .i64 (1))), (.const (.string ⟨⟨[122]⟩⟩))]⟩,
       ⟨some 21, none, .build [.int .i64 (0), .int .i64 (0), .int .i64 (0), .int .u16 (0)] [(0, 1, (.const (.int .i64 (1)))), (1, 1, (.const (.int .i64 (0)))), (2, 1, (.const (.int .i64 (1)))), (3, 1, (.tmp 20))]⟩,
       ⟨some 2, none, .alloc 58 [.int .i64 (0), .int .i64 (0), .int .i64 (0), .int .u16 (0)]⟩,
       ⟨none, none, .store 4 (.tmp 2) (.tmp 21)⟩])
     d11b))))⟩
theorem u11' : T 11 = some d11' := by kernel_rfl
end Go.Proofs.Ytidgbapgedegbaa
