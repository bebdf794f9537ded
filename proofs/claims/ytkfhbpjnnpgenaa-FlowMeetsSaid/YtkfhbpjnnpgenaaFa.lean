/- The code of the functions, as the framework reads it. -/
import Derived.Test.YtkfhbpjnnpgenaaAsZF
import Derived.Test.YtkfhbpjnnpgenaaChecked
import Derived.KernelRfl
namespace Go.Proofs.Ytkfhbpjnnpgenaa
open Go Go.AS
set_option maxRecDepth 100000

/-- plait/plaitlaw26.FlowMeets -/
def c3 : AFunc := ⟨158, 3, [.inl 6],
 (.seq
  (.ops [⟨some 3, none, .box 23 2 (.tmp 0)⟩,
    ⟨some 6, none, .mov (.const (.bool false))⟩])
  (.seq
   (.seq
    (.ops [⟨some 16, none, .call 7 []⟩,
      ⟨some 17, none, .un .not (.tmp 16)⟩])
    (.cond (.tmp 17)
     (.seq
      (.ops [⟨some 6, none, .mov (.const (.bool false))⟩])
      .ret)
     .skip))
   (.seq
    (.ops [⟨some 18, none, .mov (.tmp 1)⟩,
      ⟨some 19, none, .bin .rem (.tmp 18) (.const (.int .u8 (4)))⟩,
      ⟨some 20, none, .cvInt .i64 (.tmp 19)⟩,
      ⟨some 7, none, .mov (.tmp 20)⟩])
    (.seq
     (.ops [⟨some 21, none, .mov (.tmp 7)⟩,
       ⟨some 22, none, .iaddrA 2 1 (.tmp 3) (.const (.int .i64 (0)))⟩,
       ⟨some 23, none, .load1 (.tmp 22)⟩,
       ⟨some 24, none, .call 8 [(.tmp 21), (.tmp 23)]⟩,
       ⟨some 8, none, .mov (.tmp 24)⟩])
     (.seq
      (.seq
       (.ops [⟨some 25, none, .mov (.tmp 8)⟩,
         ⟨some 26, none, .eq false true .ptr (.tmp 25) (.const (.pointer none))⟩])
       (.cond (.tmp 26)
        (.seq
         (.ops [⟨some 6, none, .mov (.const (.bool false))⟩])
         .ret)
        .skip))
      (.seq
       (.ops [⟨some 27, none, .mov (.tmp 8)⟩,
         ⟨some 28, none, .call 9 [(.tmp 27), (.const (.bool true)), (.const (.bool false))]⟩,
         ⟨some 9, none, .alloc 29 [.int .i64 (0), .int .u16 (0), .int .u16 (0), .int .u32 (0), .int .u32 (0), .bool false, .bool false, .bool false, .bool false, .int .u16 (0), .string ⟨⟨[]⟩⟩, .string ⟨⟨[]⟩⟩]⟩,
         ⟨none, none, .store 12 (.tmp 9) (.tmp 28)⟩])
       (.seq
        (.ops [⟨some 29, none, .loadN 12 (.tmp 9)⟩,
          ⟨some 30, none, .mov (.tmp 7)⟩,
          ⟨some 31, none, .iaddrA 2 1 (.tmp 3) (.const (.int .i64 (1)))⟩,
          ⟨some 32, none, .load1 (.tmp 31)⟩,
          ⟨some 33, none, .call 10 [(.tmp 29), (.tmp 30), (.tmp 32)]⟩,
          ⟨some 10, none, .mov (.tmp 33)⟩])
        (.seq
         (.ops [⟨some 34, none, .mov (.tmp 7)⟩,
           ⟨some 35, none, .bin .add (.tmp 34) (.const (.int .i64 (1)))⟩,
           ⟨some 36, none, .bin .rem (.tmp 35) (.const (.int .i64 (4)))⟩,
           ⟨some 37, none, .iaddrA 2 1 (.tmp 3) (.const (.int .i64 (0)))⟩,
           ⟨some 38, none, .load1 (.tmp 37)⟩,
           ⟨some 39, none, .call 8 [(.tmp 36), (.tmp 38)]⟩,
           ⟨some 11, none, .mov (.tmp 39)⟩])
         (.seq
          (.seq
           (.ops [⟨some 40, none, .mov (.tmp 10)⟩,
             ⟨some 41, none, .eq false true .ptr (.tmp 40) (.const (.pointer none))⟩,
             ⟨some 42, none, .mov (.tmp 41)⟩,
             ⟨some 43, some (42, false), .mov (.tmp 11)⟩,
             ⟨some 44, some (42, false), .eq false true .ptr (.tmp 43) (.const (.pointer none))⟩,
             ⟨some 45, none, .pick (.tmp 42) (.const (.bool true)) (.tmp 44)⟩])
           (.cond (.tmp 45)
            (.seq
             (.ops [⟨some 6, none, .mov (.const (.bool false))⟩])
             .ret)
            .skip))
          (.seq
           (.ops [⟨some 46, none, .mov (.tmp 10)⟩,
             ⟨some 47, none, .call 9 [(.tmp 46), (.const (.bool true)), (.const (.bool true))]⟩,
             ⟨some 12, none, .alloc 29 [.int .i64 (0), .int .u16 (0), .int .u16 (0), .int .u32 (0), .int .u32 (0), .bool false, .bool false, .bool false, .bool false, .int .u16 (0), .string ⟨⟨[]⟩⟩, .string ⟨⟨[]⟩⟩]⟩,
             ⟨none, none, .store 12 (.tmp 12) (.tmp 47)⟩])
           (.seq
            (.ops [⟨some 48, none, .loadN 12 (.tmp 12)⟩,
              ⟨some 13, none, .alloc 29 [.int .i64 (0), .int .u16 (0), .int .u16 (0), .int .u32 (0), .int .u32 (0), .bool false, .bool false, .bool false, .bool false, .int .u16 (0), .string ⟨⟨[]⟩⟩, .string ⟨⟨[]⟩⟩]⟩,
              ⟨none, none, .store 12 (.tmp 13) (.tmp 48)⟩])
            (.seq
             (.ops [⟨some 49, none, .faddr 4 (.tmp 13)⟩,
               ⟨some 50, none, .load1 (.tmp 49)⟩,
               ⟨some 51, none, .bin .add (.tmp 50) (.const (.int .u32 (1)))⟩,
               ⟨some 52, none, .mov (.tmp 2)⟩,
               ⟨some 53, none, .bin .rem (.tmp 52) (.const (.int .u32 (4294967295)))⟩,
               ⟨some 54, none, .bin .add (.tmp 51) (.tmp 53)⟩,
               ⟨some 55, none, .faddr 4 (.tmp 13)⟩,
               ⟨none, none, .store 1 (.tmp 55) (.tmp 54)⟩])
             (.seq
              (.ops [⟨some 56, none, .loadN 12 (.tmp 12)⟩,
                ⟨some 14, none, .alloc 29 [.int .i64 (0), .int .u16 (0), .int .u16 (0), .int .u32 (0), .int .u32 (0), .bool false, .bool false, .bool false, .bool false, .int .u16 (0), .string ⟨⟨[]⟩⟩, .string ⟨⟨[]⟩⟩]⟩,
                ⟨none, none, .store 12 (.tmp 14) (.tmp 56)⟩])
              (.seq
               (.ops [⟨some 57, none, .faddr 6 (.tmp 14)⟩,
                 ⟨none, none, .store 1 (.tmp 57) (.const (.bool false))⟩])
               (.seq
                (.seq
                 (.ops [⟨some 58, none, .mov (.tmp 10)⟩,
                   ⟨some 59, none, .loadN 12 (.tmp 9)⟩,
                   ⟨some 60, none, .call 11 [(.tmp 58), (.tmp 59)]⟩,
                   ⟨some 61, none, .un .not (.tmp 60)⟩,
                   ⟨some 62, none, .mov (.tmp 61)⟩,
                   ⟨some 63, some (62, false), .mov (.tmp 8)⟩,
                   ⟨some 64, some (62, false), .loadN 12 (.tmp 12)⟩,
                   ⟨some 65, some (62, false), .call 11 [(.tmp 63), (.tmp 64)]⟩,
                   ⟨some 66, some (62, false), .un .not (.tmp 65)⟩,
                   ⟨some 67, none, .pick (.tmp 62) (.const (.bool true)) (.tmp 66)⟩,
                   ⟨some 68, none, .mov (.tmp 67)⟩,
                   ⟨some 69, some (68, false), .mov (.tmp 11)⟩,
                   ⟨some 70, some (68, false), .loadN 12 (.tmp 12)⟩,
                   ⟨some 71, some (68, false), .call 11 [(.tmp 69), (.tmp 70)]⟩,
                   ⟨some 72, none, .pick (.tmp 68) (.const (.bool true)) (.tmp 71)⟩,
                   ⟨some 73, none, .mov (.tmp 72)⟩,
                   ⟨some 74, some (73, false), .mov (.tmp 8)⟩,
                   ⟨some 75, some (73, false), .loadN 12 (.tmp 9)⟩,
                   ⟨some 76, some (73, false), .call 11 [(.tmp 74), (.tmp 75)]⟩,
                   ⟨some 77, none, .pick (.tmp 73) (.const (.bool true)) (.tmp 76)⟩,
                   ⟨some 78, none, .mov (.tmp 77)⟩,
                   ⟨some 79, some (78, false), .mov (.tmp 8)⟩,
                   ⟨some 80, some (78, false), .loadN 12 (.tmp 13)⟩,
                   ⟨some 81, some (78, false), .call 12 [(.tmp 79), (.tmp 80)]⟩,
                   ⟨some 82, none, .pick (.tmp 78) (.const (.bool true)) (.tmp 81)⟩,
                   ⟨some 83, none, .mov (.tmp 82)⟩,
                   ⟨some 84, some (83, false), .mov (.tmp 8)⟩,
                   ⟨some 85, some (83, false), .loadN 12 (.tmp 14)⟩,
                   ⟨some 86, some (83, false), .call 12 [(.tmp 84), (.tmp 85)]⟩,
                   ⟨some 87, none, .pick (.tmp 83) (.const (.bool true)) (.tmp 86)⟩,
                   ⟨some 88, none, .mov (.tmp 87)⟩,
                   ⟨some 89, some (88, false), .mov (.tmp 8)⟩,
                   ⟨some 90, some (88, false), .loadN 12 (.tmp 9)⟩,
                   ⟨some 91, some (88, false), .call 12 [(.tmp 89), (.tmp 90)]⟩,
                   ⟨some 92, none, .pick (.tmp 88) (.const (.bool true)) (.tmp 91)⟩,
                   ⟨some 93, none, .mov (.tmp 92)⟩,
                   ⟨some 94, some (93, false), .mov (.tmp 8)⟩,
                   ⟨some 95, some (93, false), .loadN 12 (.tmp 12)⟩,
                   ⟨some 96, some (93, false), .call 12 [(.tmp 94), (.tmp 95)]⟩,
                   ⟨some 97, some (93, false), .un .not (.tmp 96)⟩,
                   ⟨some 98, none, .pick (.tmp 93) (.const (.bool true)) (.tmp 97)⟩,
                   ⟨some 99, none, .mov (.tmp 98)⟩,
                   ⟨some 100, some (99, false), .mov (.tmp 10)⟩,
                   ⟨some 101, some (99, false), .loadN 12 (.tmp 12)⟩,
                   ⟨some 102, some (99, false), .call 12 [(.tmp 100), (.tmp 101)]⟩,
                   ⟨some 103, none, .pick (.tmp 99) (.const (.bool true)) (.tmp 102)⟩])
                 (.cond (.tmp 103)
                  (.seq
                   (.ops [⟨some 6, none, .mov (.const (.bool false))⟩])
                   .ret)
                  .skip))
                (.seq
                 (.ops [⟨some 104, none, .mov (.tmp 8)⟩,
                   ⟨some 105, none, .call 9 [(.tmp 104), (.const (.bool false)), (.const (.bool true))]⟩,
                   ⟨some 15, none, .alloc 29 [.int .i64 (0), .int .u16 (0), .int .u16 (0), .int .u32 (0), .int .u32 (0), .bool false, .bool false, .bool false, .bool false, .int .u16 (0), .string ⟨⟨[]⟩⟩, .string ⟨⟨[]⟩⟩]⟩,
                   ⟨none, none, .store 12 (.tmp 15) (.tmp 105)⟩])
                 (.seq
                  (.ops [⟨some 106, none, .mov (.tmp 10)⟩,
                    ⟨some 107, none, .loadN 12 (.tmp 15)⟩,
                    ⟨some 108, none, .call 13 [(.tmp 106), (.tmp 107)]⟩,
                    ⟨some 109, none, .mov (.tmp 108)⟩,
                    ⟨some 110, some (109, true), .mov (.tmp 10)⟩,
                    ⟨some 111, some (109, true), .loadN 12 (.tmp 9)⟩,
                    ⟨some 112, some (109, true), .call 13 [(.tmp 110), (.tmp 111)]⟩,
                    ⟨some 113, some (109, true), .un .not (.tmp 112)⟩,
                    ⟨some 114, none, .pick (.tmp 109) (.tmp 113) (.const (.bool false))⟩,
                    ⟨some 115, none, .mov (.tmp 114)⟩,
                    ⟨some 116, some (115, true), .faddr 4 (.tmp 15)⟩,
                    ⟨some 117, some (115, true), .load1 (.tmp 116)⟩,
                    ⟨some 118, some (115, true), .iaddrA 2 1 (.tmp 3) (.const (.int .i64 (1)))⟩,
                    ⟨some 119, some (115, true), .load1 (.tmp 118)⟩,
                    ⟨some 120, some (115, true), .bin .add (.tmp 119) (.const (.int .u32 (1)))⟩,
                    ⟨some 121, some (115, true), .bin .eql (.tmp 117) (.tmp 120)⟩,
                    ⟨some 122, none, .pick (.tmp 115) (.tmp 121) (.const (.bool false))⟩,
                    ⟨some 123, none, .mov (.tmp 122)⟩,
                    ⟨some 124, some (123, true), .faddr 3 (.tmp 15)⟩,
                    ⟨some 125, some (123, true), .load1 (.tmp 124)⟩,
                    ⟨some 126, some (123, true), .iaddrA 2 1 (.tmp 3) (.const (.int .i64 (0)))⟩,
                    ⟨some 127, some (123, true), .load1 (.tmp 126)⟩,
                    ⟨some 128, some (123, true), .bin .add (.tmp 127) (.const (.int .u32 (1)))⟩,
                    ⟨some 129, some (123, true), .bin .eql (.tmp 125) (.tmp 128)⟩,
                    ⟨some 130, none, .pick (.tmp 123) (.tmp 129) (.const (.bool false))⟩,
                    ⟨some 131, none, .mov (.tmp 130)⟩,
                    ⟨some 132, some (131, true), .faddr 4 (.tmp 12)⟩,
                    ⟨some 133, some (131, true), .load1 (.tmp 132)⟩,
                    ⟨some 134, some (131, true), .faddr 3 (.tmp 15)⟩,
                    ⟨some 135, some (131, true), .load1 (.tmp 134)⟩,
                    ⟨some 136, some (131, true), .bin .eql (.tmp 133) (.tmp 135)⟩,
                    ⟨some 137, none, .pick (.tmp 131) (.tmp 136) (.const (.bool false))⟩,
                    ⟨some 138, none, .mov (.tmp 137)⟩,
                    ⟨some 139, some (138, true), .mov (.tmp 8)⟩,
                    ⟨some 140, some (138, true), .call 14 [(.tmp 139)]⟩,
                    ⟨some 141, some (138, true), .bin .eql (.tmp 140) (.const (.int .i64 (0)))⟩,
                    ⟨some 142, none, .pick (.tmp 138) (.tmp 141) (.const (.bool false))⟩,
                    ⟨some 143, none, .mov (.tmp 142)⟩,
                    ⟨some 144, some (143, true), .mov (.tmp 10)⟩,
                    ⟨some 145, some (143, true), .call 14 [(.tmp 144)]⟩,
                    ⟨some 146, some (143, true), .bin .eql (.tmp 145) (.const (.int .i64 (1)))⟩,
                    ⟨some 147, none, .pick (.tmp 143) (.tmp 146) (.const (.bool false))⟩,
                    ⟨some 148, none, .mov (.tmp 147)⟩,
                    ⟨some 149, some (148, true), .mov (.tmp 8)⟩,
                    ⟨some 150, some (148, true), .call 15 [(.tmp 149), (.const (.int .i64 (3)))]⟩,
                    ⟨some 151, none, .pick (.tmp 148) (.tmp 150) (.const (.bool false))⟩,
                    ⟨some 152, none, .mov (.tmp 151)⟩,
                    ⟨some 153, some (152, true), .mov (.tmp 8)⟩,
                    ⟨some 154, some (152, true), .loadN 12 (.tmp 12)⟩,
                    ⟨some 155, some (152, true), .call 12 [(.tmp 153), (.tmp 154)]⟩,
                    ⟨some 156, some (152, true), .un .not (.tmp 155)⟩,
                    ⟨some 157, none, .pick (.tmp 152) (.tmp 156) (.const (.bool false))⟩,
                    ⟨some 6, none, .mov (.tmp 157)⟩])
                  .ret)))))))))))))))))⟩

/-- plait/flow.Open -/
def c8 : AFunc := ⟨9, 2, [.inl 4],
 (.seq
  (.ops [⟨some 4, none, .mov (.const (.pointer none))⟩])
  (.seq
   (.ops [⟨some 5, none, .mov (.tmp 0)⟩,
     ⟨some 6, none, .mov (.tmp 1)⟩,
     ⟨some 7, none, .build [.int .u32 (0), .int .u32 (0)] [(0, 1, (.tmp 6))]⟩,
     ⟨some 8, none, .call 39 [(.tmp 5), (.const (.int .i64 (0))), (.const (.int .i64 (1000))), (.const (.int .i64 (2000))), (.tmp 7)]⟩,
     ⟨some 4, none, .mov (.tmp 8)⟩])
   .ret))⟩

def c9t : ACode :=
 (.seq
      (.seq
       (.ops [⟨some 39, none, .mov (.tmp 2)⟩])
       (.cond (.tmp 39)
        (.opsD [⟨some 40, none, .mov (.tmp 0)⟩,
          ⟨some 41, none, .nilchk (.tmp 40)⟩,
          ⟨some 42, none, .faddr 0 (.tmp 41)⟩,
          ⟨some 43, none, .loadN 2 (.tmp 42)⟩,
          ⟨some 44, none, .mov (.tmp 0)⟩,
          ⟨some 45, none, .nilchk (.tmp 44)⟩,
          ⟨some 46, none, .faddr 7 (.tmp 45)⟩,
          ⟨some 47, none, .load1 (.tmp 46)⟩,
          ⟨some 48, none, .call 27 [(.tmp 47)]⟩,
          ⟨some 49, none, .call 42 [(.tmp 43), (.tmp 48)]⟩,
          ⟨some 50, none, .faddr 4 (.tmp 6)⟩,
          ⟨none, none, .store 1 (.tmp 50) (.tmp 49)⟩] [(3, 8), (3, 9)])
        .skip))
      (.seq
       (.seq
        (.ops [⟨some 51, none, .mov (.tmp 2)⟩,
          ⟨some 52, none, .mov (.tmp 51)⟩,
          ⟨some 53, some (52, true), .mov (.tmp 0)⟩,
          ⟨some 54, some (52, true), .nilchk (.tmp 53)⟩,
          ⟨some 55, some (52, true), .faddr 10 (.tmp 54)⟩,
          ⟨some 56, some (52, true), .load1 (.tmp 55)⟩,
          ⟨some 57, none, .pick (.tmp 52) (.tmp 56) (.const (.bool false))⟩])
        (.cond (.tmp 57)
         (.ops [⟨some 58, none, .faddr 4 (.tmp 6)⟩,
           ⟨some 59, none, .load1 (.tmp 58)⟩,
           ⟨some 60, none, .bin .add (.tmp 59) (.const (.int .u32 (1)))⟩,
           ⟨some 61, none, .faddr 4 (.tmp 6)⟩,
           ⟨none, none, .store 1 (.tmp 61) (.tmp 60)⟩])
         .skip))
       (.seq
        (.ops [⟨some 62, none, .loadN 12 (.tmp 6)⟩,
          ⟨none, none, .store 12 (.tmp 6) (.tmp 62)⟩])
        .ret)))

/-- (*plait/flow.Flow).Seg -/
def c9 : AFunc := ⟨63, 3, [.inr (6, 12, true)],
 (.seq
  (.ops [⟨some 6, none, .alloc 29 [.int .i64 (0), .int .u16 (0), .int .u16 (0), .int .u32 (0), .int .u32 (0), .bool false, .bool false, .bool false, .bool false, .int .u16 (0), .string ⟨⟨[]⟩⟩, .string ⟨⟨[]⟩⟩]⟩])
  (.seq
   (.seq
    (.ops [⟨some 7, none, .mov (.tmp 0)⟩,
      ⟨some 8, none, .eq false true .ptr (.tmp 7) (.const (.pointer none))⟩])
    (.cond (.tmp 8)
     (.seq
      (.ops [⟨some 9, none, .loadN 12 (.tmp 6)⟩,
        ⟨none, none, .store 12 (.tmp 6) (.tmp 9)⟩])
      .ret)
     .skip))
   (.seq
    (.opsD [⟨some 10, none, .mov (.tmp 0)⟩,
      ⟨some 11, none, .nilchk (.tmp 10)⟩,
      ⟨some 12, none, .faddr 2 (.tmp 11)⟩,
      ⟨some 13, none, .load1 (.tmp 12)⟩,
      ⟨some 14, none, .mov (.tmp 0)⟩,
      ⟨some 15, none, .nilchk (.tmp 14)⟩,
      ⟨some 16, none, .faddr 4 (.tmp 15)⟩,
      ⟨some 17, none, .load1 (.tmp 16)⟩,
      ⟨some 18, none, .mov (.tmp 0)⟩,
      ⟨some 19, none, .nilchk (.tmp 18)⟩,
      ⟨some 20, none, .faddr 5 (.tmp 19)⟩,
      ⟨some 21, none, .load1 (.tmp 20)⟩,
      ⟨some 22, none, .mov (.tmp 0)⟩,
      ⟨some 23, none, .nilchk (.tmp 22)⟩,
      ⟨some 24, none, .faddr 0 (.tmp 23)⟩,
      ⟨some 25, none, .loadN 2 (.tmp 24)⟩,
      ⟨some 26, none, .mov (.tmp 0)⟩,
      ⟨some 27, none, .call 41 [(.tmp 26)]⟩,
      ⟨some 28, none, .call 40 [(.tmp 25), (.tmp 27)]⟩,
      ⟨some 29, none, .mov (.tmp 1)⟩,
      ⟨some 30, none, .mov (.tmp 2)⟩,
      ⟨some 31, none, .build [.int .i64 (0), .int .u16 (0), .int .u16 (0), .int .u32 (0), .int .u32 (0), .bool false, .bool false, .bool false, .bool false, .int .u16 (0), .string ⟨⟨[]⟩⟩, .string ⟨⟨[]⟩⟩] [(0, 1, (.tmp 13)), (1, 1, (.tmp 17)), (2, 1, (.tmp 21)), (3, 1, (.tmp 28)), (5, 1, (.tmp 29)), (6, 1, (.tmp 30))]⟩,
      ⟨none, none, .store 12 (.tmp 6) (.tmp 31)⟩] [(3, 17), (3, 18), (3, 18), (3, 19), (7, 17), (7, 18), (7, 18), (7, 19), (11, 17), (11, 18), (11, 18), (11, 19), (15, 17), (15, 18)])
    (.seq
     (.seq
      (.ops [⟨some 32, none, .mov (.tmp 1)⟩])
      (.cond (.tmp 32)
       (.ops [⟨some 33, none, .mov (.tmp 0)⟩,
         ⟨some 34, none, .nilchk (.tmp 33)⟩,
         ⟨some 35, none, .faddr 0 (.tmp 34)⟩,
         ⟨some 36, none, .faddr 0 (.tmp 35)⟩,
         ⟨some 37, none, .load1 (.tmp 36)⟩,
         ⟨some 38, none, .faddr 3 (.tmp 6)⟩,
         ⟨none, none, .store 1 (.tmp 38) (.tmp 37)⟩])
       .skip))
     c9t))))⟩

/-- plait/flow.Accept -/
def c10 : AFunc := ⟨24, 3, [.inl 6],
 (.seq
  (.ops [⟨some 3, none, .box 29 12 (.tmp 0)⟩,
    ⟨some 6, none, .mov (.const (.pointer none))⟩])
  (.seq
   (.seq
    (.ops [⟨some 7, none, .faddr 5 (.tmp 3)⟩,
      ⟨some 8, none, .load1 (.tmp 7)⟩,
      ⟨some 9, none, .un .not (.tmp 8)⟩,
      ⟨some 10, none, .mov (.tmp 9)⟩,
      ⟨some 11, some (10, false), .faddr 6 (.tmp 3)⟩,
      ⟨some 12, some (10, false), .load1 (.tmp 11)⟩,
      ⟨some 13, none, .pick (.tmp 10) (.const (.bool true)) (.tmp 12)⟩,
      ⟨some 14, none, .mov (.tmp 13)⟩,
      ⟨some 15, some (14, false), .faddr 8 (.tmp 3)⟩,
      ⟨some 16, some (14, false), .load1 (.tmp 15)⟩,
      ⟨some 17, none, .pick (.tmp 14) (.const (.bool true)) (.tmp 16)⟩])
    (.cond (.tmp 17)
     (.seq
      (.ops [⟨some 6, none, .mov (.const (.pointer none))⟩])
      .ret)
     .skip))
   (.seq
    (.ops [⟨some 18, none, .mov (.tmp 1)⟩,
      ⟨some 19, none, .mov (.tmp 2)⟩,
      ⟨some 20, none, .faddr 3 (.tmp 3)⟩,
      ⟨some 21, none, .load1 (.tmp 20)⟩,
      ⟨some 22, none, .build [.int .u32 (0), .int .u32 (0)] [(0, 1, (.tmp 19)), (1, 1, (.tmp 21))]⟩,
      ⟨some 23, none, .call 39 [(.tmp 18), (.const (.int .i64 (1))), (.const (.int .i64 (2000))), (.const (.int .i64 (1000))), (.tmp 22)]⟩,
      ⟨some 6, none, .mov (.tmp 23)⟩])
    .ret)))⟩

/-- (*plait/flow.Flow).Fits -/
def c11 : AFunc := ⟨34, 2, [.inl 4],
 (.seq
  (.ops [⟨some 3, none, .box 29 12 (.tmp 1)⟩,
    ⟨some 4, none, .mov (.const (.bool false))⟩])
  (.seq
   (.opsD [⟨some 5, none, .mov (.tmp 0)⟩,
     ⟨some 6, none, .eq true true .ptr (.tmp 5) (.const (.pointer none))⟩,
     ⟨some 7, none, .mov (.tmp 6)⟩,
     ⟨some 8, some (7, true), .faddr 0 (.tmp 3)⟩,
     ⟨some 9, some (7, true), .load1 (.tmp 8)⟩,
     ⟨some 10, some (7, true), .mov (.tmp 0)⟩,
     ⟨some 11, some (7, true), .nilchk (.tmp 10)⟩,
     ⟨some 12, some (7, true), .faddr 2 (.tmp 11)⟩,
     ⟨some 13, some (7, true), .load1 (.tmp 12)⟩,
     ⟨some 14, some (7, true), .bin .eql (.tmp 9) (.tmp 13)⟩,
     ⟨some 15, none, .pick (.tmp 7) (.tmp 14) (.const (.bool false))⟩,
     ⟨some 16, none, .mov (.tmp 15)⟩,
     ⟨some 17, some (16, true), .faddr 1 (.tmp 3)⟩,
     ⟨some 18, some (16, true), .load1 (.tmp 17)⟩,
     ⟨some 19, some (16, true), .mov (.tmp 0)⟩,
     ⟨some 20, some (16, true), .nilchk (.tmp 19)⟩,
     ⟨some 21, some (16, true), .faddr 5 (.tmp 20)⟩,
     ⟨some 22, some (16, true), .load1 (.tmp 21)⟩,
     ⟨some 23, some (16, true), .bin .eql (.tmp 18) (.tmp 22)⟩,
     ⟨some 24, none, .pick (.tmp 16) (.tmp 23) (.const (.bool false))⟩,
     ⟨some 25, none, .mov (.tmp 24)⟩,
     ⟨some 26, some (25, true), .faddr 2 (.tmp 3)⟩,
     ⟨some 27, some (25, true), .load1 (.tmp 26)⟩,
     ⟨some 28, some (25, true), .mov (.tmp 0)⟩,
     ⟨some 29, some (25, true), .nilchk (.tmp 28)⟩,
     ⟨some 30, some (25, true), .faddr 4 (.tmp 29)⟩,
     ⟨some 31, some (25, true), .load1 (.tmp 30)⟩,
     ⟨some 32, some (25, true), .bin .eql (.tmp 27) (.tmp 31)⟩,
     ⟨some 33, none, .pick (.tmp 25) (.tmp 32) (.const (.bool false))⟩,
     ⟨some 4, none, .mov (.tmp 33)⟩] [])
   .ret))⟩

/-- (*plait/flow.Flow).Answered -/
def c12 : AFunc := ⟨44, 2, [.inl 4],
 (.seq
  (.ops [⟨some 3, none, .box 29 12 (.tmp 1)⟩,
    ⟨some 4, none, .mov (.const (.bool false))⟩])
  (.seq
   (.seq
    (.opsD [⟨some 5, none, .mov (.tmp 0)⟩,
      ⟨some 6, none, .eq false true .ptr (.tmp 5) (.const (.pointer none))⟩,
      ⟨some 7, none, .mov (.tmp 6)⟩,
      ⟨some 8, some (7, false), .mov (.tmp 0)⟩,
      ⟨some 9, some (7, false), .nilchk (.tmp 8)⟩,
      ⟨some 10, some (7, false), .faddr 3 (.tmp 9)⟩,
      ⟨some 11, some (7, false), .load1 (.tmp 10)⟩,
      ⟨some 12, some (7, false), .bin .neq (.tmp 11) (.const (.int .i64 (0)))⟩,
      ⟨some 13, none, .pick (.tmp 7) (.const (.bool true)) (.tmp 12)⟩,
      ⟨some 14, none, .mov (.tmp 13)⟩,
      ⟨some 15, some (14, false), .faddr 5 (.tmp 3)⟩,
      ⟨some 16, some (14, false), .load1 (.tmp 15)⟩,
      ⟨some 17, some (14, false), .un .not (.tmp 16)⟩,
      ⟨some 18, none, .pick (.tmp 14) (.const (.bool true)) (.tmp 17)⟩,
      ⟨some 19, none, .mov (.tmp 18)⟩,
      ⟨some 20, some (19, false), .faddr 6 (.tmp 3)⟩,
      ⟨some 21, some (19, false), .load1 (.tmp 20)⟩,
      ⟨some 22, some (19, false), .un .not (.tmp 21)⟩,
      ⟨some 23, none, .pick (.tmp 19) (.const (.bool true)) (.tmp 22)⟩,
      ⟨some 24, none, .mov (.tmp 23)⟩,
      ⟨some 25, some (24, false), .faddr 8 (.tmp 3)⟩,
      ⟨some 26, some (24, false), .load1 (.tmp 25)⟩,
      ⟨some 27, none, .pick (.tmp 24) (.const (.bool true)) (.tmp 26)⟩,
      ⟨some 28, none, .mov (.tmp 27)⟩,
      ⟨some 29, some (28, false), .faddr 4 (.tmp 3)⟩,
      ⟨some 30, some (28, false), .load1 (.tmp 29)⟩,
      ⟨some 31, some (28, false), .mov (.tmp 0)⟩,
      ⟨some 32, some (28, false), .nilchk (.tmp 31)⟩,
      ⟨some 33, some (28, false), .faddr 0 (.tmp 32)⟩,
      ⟨some 34, some (28, false), .loadN 2 (.tmp 33)⟩,
      ⟨some 35, some (28, false), .call 40 [(.tmp 34), (.const (.int .i64 (0)))]⟩,
      ⟨some 36, some (28, false), .bin .neq (.tmp 30) (.tmp 35)⟩,
      ⟨some 37, none, .pick (.tmp 28) (.const (.bool true)) (.tmp 36)⟩] [(25, 30), (25, 31)])
    (.cond (.tmp 37)
     (.seq
      (.ops [⟨some 4, none, .mov (.const (.bool false))⟩])
      .ret)
     .skip))
   (.seq
    (.ops [⟨some 38, none, .mov (.tmp 0)⟩,
      ⟨some 39, none, .faddr 3 (.tmp 3)⟩,
      ⟨some 40, none, .load1 (.tmp 39)⟩,
      ⟨some 41, none, .nilchk (.tmp 38)⟩,
      ⟨some 42, none, .faddr 0 (.tmp 41)⟩,
      ⟨some 43, none, .faddr 1 (.tmp 42)⟩,
      ⟨none, none, .store 1 (.tmp 43) (.tmp 40)⟩])
    (.seq
     (.ops [⟨some 4, none, .mov (.const (.bool true))⟩])
     .ret))))⟩

/-- (*plait/flow.Flow).Acks -/
def c13 : AFunc := ⟨24, 2, [.inl 4],
 (.seq
  (.ops [⟨some 3, none, .box 29 12 (.tmp 1)⟩,
    ⟨some 4, none, .mov (.const (.bool false))⟩])
  (.seq
   (.seq
    (.ops [⟨some 6, none, .mov (.tmp 0)⟩,
      ⟨some 7, none, .eq false true .ptr (.tmp 6) (.const (.pointer none))⟩,
      ⟨some 8, none, .mov (.tmp 7)⟩,
      ⟨some 9, some (8, false), .faddr 6 (.tmp 3)⟩,
      ⟨some 10, some (8, false), .load1 (.tmp 9)⟩,
      ⟨some 11, some (8, false), .un .not (.tmp 10)⟩,
      ⟨some 12, none, .pick (.tmp 8) (.const (.bool true)) (.tmp 11)⟩])
    (.cond (.tmp 12)
     (.seq
      (.ops [⟨some 4, none, .mov (.const (.bool false))⟩])
      .ret)
     .skip))
   (.seq
    (.ops [⟨some 13, none, .mov (.tmp 0)⟩,
      ⟨some 14, none, .loadN 12 (.tmp 3)⟩,
      ⟨some 15, none, .call 43 [(.tmp 13), (.tmp 14)]⟩,
      ⟨some 5, none, .mov (.tmp 15)⟩])
    (.seq
     (.ops [⟨some 16, none, .mov (.tmp 5)⟩,
       ⟨some 17, none, .bin .geq (.tmp 16) (.const (.int .i64 (0)))⟩,
       ⟨some 18, none, .mov (.tmp 17)⟩,
       ⟨some 19, some (18, true), .mov (.tmp 5)⟩,
       ⟨some 20, some (18, true), .mov (.tmp 0)⟩,
       ⟨some 21, some (18, true), .call 41 [(.tmp 20)]⟩,
       ⟨some 22, some (18, true), .bin .leq (.tmp 19) (.tmp 21)⟩,
       ⟨some 23, none, .pick (.tmp 18) (.tmp 22) (.const (.bool false))⟩,
       ⟨some 4, none, .mov (.tmp 23)⟩])
     .ret))))⟩

/-- (*plait/flow.Flow).State -/
def c14 : AFunc := ⟨9, 1, [.inl 2],
 (.seq
  (.ops [⟨some 2, none, .mov (.const (.int .i64 (0)))⟩])
  (.seq
   (.seq
    (.ops [⟨some 3, none, .mov (.tmp 0)⟩,
      ⟨some 4, none, .eq false true .ptr (.tmp 3) (.const (.pointer none))⟩])
    (.cond (.tmp 4)
     (.seq
      (.ops [⟨some 2, none, .mov (.const (.int .i64 (4)))⟩])
      .ret)
     .skip))
   (.seq
    (.ops [⟨some 5, none, .mov (.tmp 0)⟩,
      ⟨some 6, none, .nilchk (.tmp 5)⟩,
      ⟨some 7, none, .faddr 3 (.tmp 6)⟩,
      ⟨some 8, none, .load1 (.tmp 7)⟩,
      ⟨some 2, none, .mov (.tmp 8)⟩])
    .ret)))⟩

/-- (*plait/flow.Flow).Set -/
def c15 : AFunc := ⟨19, 2, [.inl 4],
 (.seq
  (.ops [⟨some 4, none, .mov (.const (.bool false))⟩])
  (.seq
   (.seq
    (.ops [⟨some 5, none, .mov (.tmp 0)⟩,
      ⟨some 6, none, .eq false true .ptr (.tmp 5) (.const (.pointer none))⟩,
      ⟨some 7, none, .mov (.tmp 6)⟩,
      ⟨some 8, some (7, false), .mov (.tmp 1)⟩,
      ⟨some 9, some (7, false), .bin .lss (.tmp 8) (.const (.int .i64 (0)))⟩,
      ⟨some 10, none, .pick (.tmp 7) (.const (.bool true)) (.tmp 9)⟩,
      ⟨some 11, none, .mov (.tmp 10)⟩,
      ⟨some 12, some (11, false), .mov (.tmp 1)⟩,
      ⟨some 13, some (11, false), .bin .geq (.tmp 12) (.const (.int .i64 (5)))⟩,
      ⟨some 14, none, .pick (.tmp 11) (.const (.bool true)) (.tmp 13)⟩])
    (.cond (.tmp 14)
     (.seq
      (.ops [⟨some 4, none, .mov (.const (.bool false))⟩])
      .ret)
     .skip))
   (.seq
    (.ops [⟨some 15, none, .mov (.tmp 0)⟩,
      ⟨some 16, none, .mov (.tmp 1)⟩,
      ⟨some 17, none, .nilchk (.tmp 15)⟩,
      ⟨some 18, none, .faddr 3 (.tmp 17)⟩,
      ⟨none, none, .store 1 (.tmp 18) (.tmp 16)⟩])
    (.seq
     (.ops [⟨some 4, none, .mov (.const (.bool true))⟩])
     .ret))))⟩

/-- (*plait/inlet.In).N -/
def c27 : AFunc := ⟨10, 1, [.inl 2],
 (.seq
  (.ops [⟨some 2, none, .mov (.const (.int .i64 (0)))⟩])
  (.seq
   (.seq
    (.ops [⟨some 3, none, .mov (.tmp 0)⟩,
      ⟨some 4, none, .eq false true .ptr (.tmp 3) (.const (.pointer none))⟩])
    (.cond (.tmp 4)
     (.seq
      (.ops [⟨some 2, none, .mov (.const (.int .i64 (0)))⟩])
      .ret)
     .skip))
   (.seq
    (.ops [⟨some 5, none, .mov (.tmp 0)⟩,
      ⟨some 6, none, .nilchk (.tmp 5)⟩,
      ⟨some 7, none, .faddr 0 (.tmp 6)⟩,
      ⟨some 8, none, .load1 (.tmp 7)⟩,
      ⟨some 9, none, .call 54 [(.tmp 8)]⟩,
      ⟨some 2, none, .mov (.tmp 9)⟩])
    .ret)))⟩

/-- plait/flow.made -/
def c39 : AFunc := ⟨31, 5, [.inl 10],
 (.seq
  (.ops [⟨some 9, none, .box 68 2 (.tmp 4)⟩,
    ⟨some 10, none, .mov (.const (.pointer none))⟩])
  (.seq
   (.seq
    (.ops [⟨some 11, none, .mov (.tmp 0)⟩,
      ⟨some 12, none, .bin .lss (.tmp 11) (.const (.int .i64 (0)))⟩,
      ⟨some 13, none, .mov (.tmp 12)⟩,
      ⟨some 14, some (13, false), .mov (.tmp 0)⟩,
      ⟨some 15, some (13, false), .bin .geq (.tmp 14) (.const (.int .i64 (4)))⟩,
      ⟨some 16, none, .pick (.tmp 13) (.const (.bool true)) (.tmp 15)⟩])
    (.cond (.tmp 16)
     (.seq
      (.ops [⟨some 10, none, .mov (.const (.pointer none))⟩])
      .ret)
     .skip))
   (.seq
    (.opsD [⟨some 17, none, .loadN 2 (.tmp 9)⟩,
      ⟨some 18, none, .mov (.tmp 0)⟩,
      ⟨some 19, none, .mov (.tmp 1)⟩,
      ⟨some 20, none, .mov (.tmp 2)⟩,
      ⟨some 21, none, .mov (.tmp 0)⟩,
      ⟨some 22, none, .bin .add (.tmp 20) (.tmp 21)⟩,
      ⟨some 23, none, .cvInt .u16 (.tmp 22)⟩,
      ⟨some 24, none, .mov (.tmp 3)⟩,
      ⟨some 25, none, .mov (.tmp 0)⟩,
      ⟨some 26, none, .bin .add (.tmp 24) (.tmp 25)⟩,
      ⟨some 27, none, .cvInt .u16 (.tmp 26)⟩,
      ⟨some 28, none, .call 58 []⟩,
      ⟨some 29, none, .build [.int .u32 (0), .int .u32 (0), .int .i64 (0), .int .i64 (0), .int .u16 (0), .int .u16 (0), .pointer none, .pointer none, .bool false, .bool false, .bool false] [(0, 2, (.tmp 17)), (2, 1, (.tmp 18)), (3, 1, (.tmp 19)), (4, 1, (.tmp 23)), (5, 1, (.tmp 27)), (6, 1, (.tmp 28))]⟩,
      ⟨some 30, none, .box 71 11 (.tmp 29)⟩,
      ⟨some 10, none, .mov (.tmp 30)⟩] [(0, 11), (0, 12)])
    .ret)))⟩

/-- (plait/flow.numbers).own -/
def c40 : AFunc := ⟨10, 2, [.inl 4],
 (.seq
  (.ops [⟨some 2, none, .box 68 2 (.tmp 0)⟩,
    ⟨some 4, none, .mov (.const (.int .u32 (0)))⟩])
  (.seq
   (.ops [⟨some 5, none, .faddr 0 (.tmp 2)⟩,
     ⟨some 6, none, .load1 (.tmp 5)⟩,
     ⟨some 7, none, .bin .add (.tmp 6) (.const (.int .u32 (1)))⟩,
     ⟨some 8, none, .mov (.tmp 1)⟩,
     ⟨some 9, none, .call 59 [(.tmp 7), (.tmp 8)]⟩,
     ⟨some 4, none, .mov (.tmp 9)⟩])
   .ret))⟩

/-- (*plait/flow.Flow).end -/
def c41 : AFunc := ⟨18, 1, [.inl 2],
 (.seq
  (.ops [⟨some 2, none, .mov (.const (.int .i64 (0)))⟩])
  (.seq
   (.seq
    (.ops [⟨some 3, none, .mov (.tmp 0)⟩,
      ⟨some 4, none, .nilchk (.tmp 3)⟩,
      ⟨some 5, none, .faddr 8 (.tmp 4)⟩,
      ⟨some 6, none, .load1 (.tmp 5)⟩])
    (.cond (.tmp 6)
     (.seq
      (.ops [⟨some 7, none, .mov (.tmp 0)⟩,
        ⟨some 8, none, .nilchk (.tmp 7)⟩,
        ⟨some 9, none, .faddr 6 (.tmp 8)⟩,
        ⟨some 10, none, .load1 (.tmp 9)⟩,
        ⟨some 11, none, .call 46 [(.tmp 10)]⟩,
        ⟨some 12, none, .bin .add (.tmp 11) (.const (.int .i64 (1)))⟩,
        ⟨some 2, none, .mov (.tmp 12)⟩])
      .ret)
     .skip))
   (.seq
    (.ops [⟨some 13, none, .mov (.tmp 0)⟩,
      ⟨some 14, none, .nilchk (.tmp 13)⟩,
      ⟨some 15, none, .faddr 6 (.tmp 14)⟩,
      ⟨some 16, none, .load1 (.tmp 15)⟩,
      ⟨some 17, none, .call 46 [(.tmp 16)]⟩,
      ⟨some 2, none, .mov (.tmp 17)⟩])
    .ret)))⟩

/-- (plait/flow.numbers).other -/
def c42 : AFunc := ⟨10, 2, [.inl 4],
 (.seq
  (.ops [⟨some 2, none, .box 68 2 (.tmp 0)⟩,
    ⟨some 4, none, .mov (.const (.int .u32 (0)))⟩])
  (.seq
   (.ops [⟨some 5, none, .faddr 1 (.tmp 2)⟩,
     ⟨some 6, none, .load1 (.tmp 5)⟩,
     ⟨some 7, none, .bin .add (.tmp 6) (.const (.int .u32 (1)))⟩,
     ⟨some 8, none, .mov (.tmp 1)⟩,
     ⟨some 9, none, .call 59 [(.tmp 7), (.tmp 8)]⟩,
     ⟨some 4, none, .mov (.tmp 9)⟩])
   .ret))⟩

/-- (*plait/flow.Flow).points -/
def c43 : AFunc := ⟨22, 2, [.inl 4],
 (.seq
  (.ops [⟨some 3, none, .box 29 12 (.tmp 1)⟩,
    ⟨some 4, none, .mov (.const (.int .i64 (0)))⟩])
  (.seq
   (.ops [⟨some 6, none, .mov (.tmp 0)⟩,
     ⟨some 7, none, .nilchk (.tmp 6)⟩,
     ⟨some 8, none, .faddr 6 (.tmp 7)⟩,
     ⟨some 9, none, .load1 (.tmp 8)⟩,
     ⟨some 10, none, .call 60 [(.tmp 9)]⟩,
     ⟨some 5, none, .mov (.tmp 10)⟩])
   (.seq
    (.opsD [⟨some 11, none, .mov (.tmp 5)⟩,
      ⟨some 12, none, .mov (.tmp 0)⟩,
      ⟨some 13, none, .nilchk (.tmp 12)⟩,
      ⟨some 14, none, .faddr 0 (.tmp 13)⟩,
      ⟨some 15, none, .loadN 2 (.tmp 14)⟩,
      ⟨some 16, none, .mov (.tmp 5)⟩,
      ⟨some 17, none, .call 40 [(.tmp 15), (.tmp 16)]⟩,
      ⟨some 18, none, .faddr 4 (.tmp 3)⟩,
      ⟨some 19, none, .load1 (.tmp 18)⟩,
      ⟨some 20, none, .call 61 [(.tmp 17), (.tmp 19)]⟩,
      ⟨some 21, none, .bin .add (.tmp 11) (.tmp 20)⟩,
      ⟨some 4, none, .mov (.tmp 21)⟩] [(8, 6), (8, 7)])
    .ret)))⟩

/-- (*plait/outlet.Out).End -/
def c46 : AFunc := ⟨9, 1, [.inl 2],
 (.seq
  (.ops [⟨some 2, none, .mov (.const (.int .i64 (0)))⟩])
  (.seq
   (.seq
    (.ops [⟨some 3, none, .mov (.tmp 0)⟩,
      ⟨some 4, none, .eq false true .ptr (.tmp 3) (.const (.pointer none))⟩])
    (.cond (.tmp 4)
     (.seq
      (.ops [⟨some 2, none, .mov (.const (.int .i64 (0)))⟩])
      .ret)
     .skip))
   (.seq
    (.ops [⟨some 5, none, .mov (.tmp 0)⟩,
      ⟨some 6, none, .nilchk (.tmp 5)⟩,
      ⟨some 7, none, .faddr 1 (.tmp 6)⟩,
      ⟨some 8, none, .load1 (.tmp 7)⟩,
      ⟨some 2, none, .mov (.tmp 8)⟩])
    .ret)))⟩

/-- plait/outlet.New -/
def c58 : AFunc := ⟨3, 0, [.inl 0],
 (.seq
  (.ops [⟨some 0, none, .mov (.const (.pointer none))⟩])
  (.seq
   (.ops [⟨some 1, none, .build [.slice none 0 0, .int .i64 (0), .int .i64 (0)] []⟩,
     ⟨some 2, none, .box 91 3 (.tmp 1)⟩,
     ⟨some 0, none, .mov (.tmp 2)⟩])
   .ret))⟩

/-- plait/seq.Plus -/
def c59 : AFunc := ⟨9, 2, [.inl 4],
 (.seq
  (.ops [⟨some 4, none, .mov (.const (.int .u32 (0)))⟩])
  (.seq
   (.ops [⟨some 5, none, .mov (.tmp 0)⟩,
     ⟨some 6, none, .mov (.tmp 1)⟩,
     ⟨some 7, none, .cvInt .u32 (.tmp 6)⟩,
     ⟨some 8, none, .bin .add (.tmp 5) (.tmp 7)⟩,
     ⟨some 4, none, .mov (.tmp 8)⟩])
   .ret))⟩

/-- (*plait/outlet.Out).Una -/
def c60 : AFunc := ⟨9, 1, [.inl 2],
 (.seq
  (.ops [⟨some 2, none, .mov (.const (.int .i64 (0)))⟩])
  (.seq
   (.seq
    (.ops [⟨some 3, none, .mov (.tmp 0)⟩,
      ⟨some 4, none, .eq false true .ptr (.tmp 3) (.const (.pointer none))⟩])
    (.cond (.tmp 4)
     (.seq
      (.ops [⟨some 2, none, .mov (.const (.int .i64 (0)))⟩])
      .ret)
     .skip))
   (.seq
    (.ops [⟨some 5, none, .mov (.tmp 0)⟩,
      ⟨some 6, none, .nilchk (.tmp 5)⟩,
      ⟨some 7, none, .faddr 2 (.tmp 6)⟩,
      ⟨some 8, none, .load1 (.tmp 7)⟩,
      ⟨some 2, none, .mov (.tmp 8)⟩])
    .ret)))⟩

/-- plait/seq.Gap -/
def c61 : AFunc := ⟨10, 2, [.inl 4],
 (.seq
  (.ops [⟨some 4, none, .mov (.const (.int .i64 (0)))⟩])
  (.seq
   (.ops [⟨some 5, none, .mov (.tmp 0)⟩,
     ⟨some 6, none, .mov (.tmp 1)⟩,
     ⟨some 7, none, .call 70 [(.tmp 5), (.tmp 6)]⟩,
     ⟨some 8, none, .cvInt .i32 (.tmp 7)⟩,
     ⟨some 9, none, .cvInt .i64 (.tmp 8)⟩,
     ⟨some 4, none, .mov (.tmp 9)⟩])
   .ret))⟩

/-- plait/seq.way[uint32] -/
def c70 : AFunc := ⟨8, 2, [.inl 4],
 (.seq
  (.ops [⟨some 4, none, .mov (.const (.int .u32 (0)))⟩])
  (.seq
   (.ops [⟨some 5, none, .mov (.tmp 1)⟩,
     ⟨some 6, none, .mov (.tmp 0)⟩,
     ⟨some 7, none, .bin .sub (.tmp 5) (.tmp 6)⟩,
     ⟨some 4, none, .mov (.tmp 7)⟩])
   .ret))⟩

noncomputable def T : FTab := tabYes Try.prog [7]
theorem t3 : T 3 = some c3 := by kernel_rfl
theorem t8 : T 8 = some c8 := by kernel_rfl
theorem t9 : T 9 = some c9 := by kernel_rfl
theorem t10 : T 10 = some c10 := by kernel_rfl
theorem t11 : T 11 = some c11 := by kernel_rfl
theorem t12 : T 12 = some c12 := by kernel_rfl
theorem t13 : T 13 = some c13 := by kernel_rfl
theorem t14 : T 14 = some c14 := by kernel_rfl
theorem t15 : T 15 = some c15 := by kernel_rfl
theorem t27 : T 27 = some c27 := by kernel_rfl
theorem t39 : T 39 = some c39 := by kernel_rfl
theorem t40 : T 40 = some c40 := by kernel_rfl
theorem t41 : T 41 = some c41 := by kernel_rfl
theorem t42 : T 42 = some c42 := by kernel_rfl
theorem t43 : T 43 = some c43 := by kernel_rfl
theorem t46 : T 46 = some c46 := by kernel_rfl
theorem t58 : T 58 = some c58 := by kernel_rfl
theorem t59 : T 59 = some c59 := by kernel_rfl
theorem t60 : T 60 = some c60 := by kernel_rfl
theorem t61 : T 61 = some c61 := by kernel_rfl
theorem t70 : T 70 = some c70 := by kernel_rfl
theorem t7 : T 7 = some sayYes := by kernel_rfl
end Go.Proofs.Ytkfhbpjnnpgenaa

