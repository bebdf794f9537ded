/- The code of functions, as the framework reads it. -/
import Derived.Test.YtidgbapgedegbaaTab
import Derived.KernelRfl
namespace Go.Proofs.Ytidgbapgedegbaa
open Go Go.AS
set_option maxRecDepth 100000

/-- plait/rmap.New -/
def c72 : AFunc := ⟨13, 1, [.inl 2, .inl 3],
 (.seq
  (.ops [⟨some 2, none, .mov (.const (.pointer none))⟩,
    ⟨some 3, none, .mov (.const (.int .i64 (0)))⟩])
  (.seq
   (.seq
    (.ops [⟨some 4, none, .mov (.tmp 0)⟩,
      ⟨some 5, none, .bin .lss (.tmp 4) (.const (.int .i64 (1)))⟩,
      ⟨some 6, none, .mov (.tmp 5)⟩,
      ⟨some 7, some (6, false), .mov (.tmp 0)⟩,
      ⟨some 8, some (6, false), .bin .gtr (.tmp 7) (.const (.int .i64 (2048)))⟩,
      ⟨some 9, none, .pick (.tmp 6) (.const (.bool true)) (.tmp 8)⟩])
    (.cond (.tmp 9)
     (.seq
      (.ops [⟨some 2, none, .mov (.const (.pointer none))⟩,
        ⟨some 3, none, .mov (.const (.int .i64 (2)))⟩])
      .ret)
     .skip))
   (.seq
    (.ops [⟨some 10, none, .mov (.tmp 0)⟩,
      ⟨some 11, none, .build [.int .i64 (0), .int .i64 (0), .slice none 0 0] [(0, 1, (.tmp 10))]⟩,
      ⟨some 12, none, .box 172 3 (.tmp 11)⟩,
      ⟨some 2, none, .mov (.tmp 12)⟩,
      ⟨some 3, none, .mov (.const (.int .i64 (0)))⟩])
    .ret)))⟩
theorem t72 : T 72 = some c72 := by kernel_rfl

/-- (*plait/rmap.Table).Put -/
def c85 : AFunc := ⟨79, 2, [.inl 4],
 (.seq
  (.ops [⟨some 3, none, .box 58 4 (.tmp 1)⟩,
    ⟨some 4, none, .mov (.const (.bool false))⟩])
  (.seq
   (.seq
    (.opsD [⟨some 7, none, .mov (.tmp 0)⟩,
      ⟨some 8, none, .eq false true .ptr (.tmp 7) (.const (.pointer none))⟩,
      ⟨some 9, none, .mov (.tmp 8)⟩,
      ⟨some 10, some (9, false), .faddr 2 (.tmp 3)⟩,
      ⟨some 11, some (9, false), .load1 (.tmp 10)⟩,
      ⟨some 12, some (9, false), .bin .lss (.tmp 11) (.const (.int .i64 (1)))⟩,
      ⟨some 13, none, .pick (.tmp 9) (.const (.bool true)) (.tmp 12)⟩,
      ⟨some 14, none, .mov (.tmp 13)⟩,
      ⟨some 15, some (14, false), .faddr 2 (.tmp 3)⟩,
      ⟨some 16, some (14, false), .load1 (.tmp 15)⟩,
      ⟨some 17, some (14, false), .mov (.tmp 0)⟩,
      ⟨some 18, some (14, false), .nilchk (.tmp 17)⟩,
      ⟨some 19, some (14, false), .faddr 0 (.tmp 18)⟩,
      ⟨some 20, some (14, false), .load1 (.tmp 19)⟩,
      ⟨some 21, some (14, false), .bin .gtr (.tmp 16) (.tmp 20)⟩,
      ⟨some 22, none, .pick (.tmp 14) (.const (.bool true)) (.tmp 21)⟩,
      ⟨some 23, none, .mov (.tmp 22)⟩,
      ⟨some 24, some (23, false), .faddr 1 (.tmp 3)⟩,
      ⟨some 25, some (23, false), .load1 (.tmp 24)⟩,
      ⟨some 26, some (23, false), .bin .lss (.tmp 25) (.const (.int .i64 (0)))⟩,
      ⟨some 27, none, .pick (.tmp 23) (.const (.bool true)) (.tmp 26)⟩,
      ⟨some 28, none, .mov (.tmp 27)⟩,
      ⟨some 29, some (28, false), .faddr 0 (.tmp 3)⟩,
      ⟨some 30, some (28, false), .load1 (.tmp 29)⟩,
      ⟨some 31, some (28, false), .mov (.tmp 0)⟩,
      ⟨some 32, some (28, false), .nilchk (.tmp 31)⟩,
      ⟨some 33, some (28, false), .faddr 1 (.tmp 32)⟩,
      ⟨some 34, some (28, false), .load1 (.tmp 33)⟩,
      ⟨some 35, some (28, false), .bin .lss (.tmp 30) (.tmp 34)⟩,
      ⟨some 36, none, .pick (.tmp 28) (.const (.bool true)) (.tmp 35)⟩,
      ⟨some 37, none, .mov (.tmp 36)⟩,
      ⟨some 38, some (37, false), .faddr 0 (.tmp 3)⟩,
      ⟨some 39, some (37, false), .load1 (.tmp 38)⟩,
      ⟨some 40, some (37, false), .mov (.tmp 0)⟩,
      ⟨some 41, some (37, false), .nilchk (.tmp 40)⟩,
      ⟨some 42, some (37, false), .faddr 1 (.tmp 41)⟩,
      ⟨some 43, some (37, false), .load1 (.tmp 42)⟩,
      ⟨some 44, some (37, false), .bin .sub (.tmp 39) (.tmp 43)⟩,
      ⟨some 45, some (37, false), .mov (.tmp 0)⟩,
      ⟨some 46, some (37, false), .nilchk (.tmp 45)⟩,
      ⟨some 47, some (37, false), .faddr 0 (.tmp 46)⟩,
      ⟨some 48, some (37, false), .load1 (.tmp 47)⟩,
      ⟨some 49, some (37, false), .bin .geq (.tmp 44) (.tmp 48)⟩,
      ⟨some 50, none, .pick (.tmp 37) (.const (.bool true)) (.tmp 49)⟩] [])
    (.cond (.tmp 50)
     (.seq
      (.ops [⟨some 4, none, .mov (.const (.bool false))⟩])
      .ret)
     .skip))
   (.seq
    (.ops [⟨some 52, none, .mov (.tmp 0)⟩,
      ⟨some 53, none, .faddr 0 (.tmp 3)⟩,
      ⟨some 54, none, .load1 (.tmp 53)⟩,
      ⟨some 55, none, .call 125 [(.tmp 52), (.tmp 54)]⟩,
      ⟨some 51, none, .mov (.tmp 55)⟩,
      ⟨some 56, none, .ext (.tmp 51) 0⟩,
      ⟨some 57, none, .ext (.tmp 51) 1⟩,
      ⟨some 5, none, .mov (.tmp 56)⟩,
      ⟨some 6, none, .mov (.tmp 57)⟩])
    (.seq
     (.seq
      (.ops [⟨some 58, none, .mov (.tmp 6)⟩])
      (.cond (.tmp 58)
       (.seq
        (.ops [⟨some 4, none, .mov (.const (.bool false))⟩])
        .ret)
       .skip))
     (.seq
      (.opsD [⟨some 59, none, .mov (.tmp 0)⟩,
        ⟨some 60, none, .mov (.tmp 0)⟩,
        ⟨some 61, none, .nilchk (.tmp 60)⟩,
        ⟨some 62, none, .faddr 2 (.tmp 61)⟩,
        ⟨some 63, none, .load1 (.tmp 62)⟩,
        ⟨some 64, none, .mov (.tmp 5)⟩,
        ⟨some 65, none, .mov (.tmp 5)⟩,
        ⟨some 66, none, .sliceV 4 (.tmp 63) none (some (.tmp 64)) (some (.tmp 65))⟩,
        ⟨some 67, none, .loadN 4 (.tmp 3)⟩,
        ⟨some 68, none, .bslice 58 1 [.int .i64 (0), .int .i64 (0), .int .i64 (0), .int .u16 (0)] [(0, 4, (.tmp 67))]⟩,
        ⟨some 69, none, .append 58 4 32 (.tmp 66) (.tmp 68)⟩,
        ⟨some 70, none, .mov (.tmp 0)⟩,
        ⟨some 71, none, .nilchk (.tmp 70)⟩,
        ⟨some 72, none, .faddr 2 (.tmp 71)⟩,
        ⟨some 73, none, .load1 (.tmp 72)⟩,
        ⟨some 74, none, .mov (.tmp 5)⟩,
        ⟨some 75, none, .sliceV 4 (.tmp 73) (some (.tmp 74)) none none⟩,
        ⟨some 76, none, .append 58 4 32 (.tmp 69) (.tmp 75)⟩,
        ⟨some 77, none, .nilchk (.tmp 59)⟩,
        ⟨some 78, none, .faddr 2 (.tmp 77)⟩,
        ⟨none, none, .store 1 (.tmp 78) (.tmp 76)⟩] [(14, 10), (14, 11), (16, 10), (16, 11)])
      (.seq
       (.ops [⟨some 4, none, .mov (.const (.bool true))⟩])
       .ret))))))⟩
theorem t85 : T 85 = some c85 := by kernel_rfl

/-- (*plait/rmap.Table).Cut -/
def c90 : AFunc := ⟨36, 2, [],
 (.seq
  (.seq
   (.ops [⟨some 6, none, .mov (.tmp 0)⟩,
     ⟨some 7, none, .eq false true .ptr (.tmp 6) (.const (.pointer none))⟩])
   (.cond (.tmp 7)
    .ret
    .skip))
  (.seq
   (.ops [⟨some 8, none, .mov (.tmp 0)⟩,
     ⟨some 9, none, .mov (.tmp 0)⟩,
     ⟨some 10, none, .nilchk (.tmp 9)⟩,
     ⟨some 11, none, .faddr 1 (.tmp 10)⟩,
     ⟨some 12, none, .load1 (.tmp 11)⟩,
     ⟨some 13, none, .mov (.tmp 1)⟩,
     ⟨some 14, none, .min [(.tmp 13), (.const (.int .i64 (2305843009213693952)))]⟩,
     ⟨some 15, none, .max [(.tmp 12), (.tmp 14)]⟩,
     ⟨some 16, none, .nilchk (.tmp 8)⟩,
     ⟨some 17, none, .faddr 1 (.tmp 16)⟩,
     ⟨none, none, .store 1 (.tmp 17) (.tmp 15)⟩])
   (.seq
    (.ops [⟨some 19, none, .mov (.tmp 0)⟩,
      ⟨some 20, none, .mov (.tmp 0)⟩,
      ⟨some 21, none, .nilchk (.tmp 20)⟩,
      ⟨some 22, none, .faddr 1 (.tmp 21)⟩,
      ⟨some 23, none, .load1 (.tmp 22)⟩,
      ⟨some 24, none, .call 125 [(.tmp 19), (.tmp 23)]⟩,
      ⟨some 18, none, .mov (.tmp 24)⟩,
      ⟨some 25, none, .ext (.tmp 18) 0⟩,
      ⟨some 26, none, .ext (.tmp 18) 1⟩,
      ⟨some 4, none, .mov (.tmp 25)⟩,
      ⟨some 5, none, .mov (.tmp 26)⟩])
    (.ops [⟨some 27, none, .mov (.tmp 0)⟩,
      ⟨some 28, none, .mov (.tmp 0)⟩,
      ⟨some 29, none, .nilchk (.tmp 28)⟩,
      ⟨some 30, none, .faddr 2 (.tmp 29)⟩,
      ⟨some 31, none, .load1 (.tmp 30)⟩,
      ⟨some 32, none, .mov (.tmp 4)⟩,
      ⟨some 33, none, .sliceV 4 (.tmp 31) (some (.tmp 32)) none none⟩,
      ⟨some 34, none, .nilchk (.tmp 27)⟩,
      ⟨some 35, none, .faddr 2 (.tmp 34)⟩,
      ⟨none, none, .store 1 (.tmp 35) (.tmp 33)⟩]))))⟩
theorem t90 : T 90 = some c90 := by kernel_rfl

/-- (*plait/rmap.Table).At -/
def c119 : AFunc := ⟨26, 2, [.inr (4, 4, true), .inl 5],
 (.seq
  (.ops [⟨some 4, none, .alloc 58 [.int .i64 (0), .int .i64 (0), .int .i64 (0), .int .u16 (0)]⟩,
    ⟨some 5, none, .mov (.const (.bool false))⟩])
  (.seq
   (.seq
    (.ops [⟨some 7, none, .mov (.tmp 0)⟩,
      ⟨some 8, none, .eq false true .ptr (.tmp 7) (.const (.pointer none))⟩])
    (.cond (.tmp 8)
     (.seq
      (.ops [⟨some 9, none, .loadN 4 (.tmp 4)⟩,
        ⟨none, none, .store 4 (.tmp 4) (.tmp 9)⟩,
        ⟨some 5, none, .mov (.const (.bool false))⟩])
      .ret)
     .skip))
   (.seq
    (.ops [⟨some 11, none, .mov (.tmp 0)⟩,
      ⟨some 12, none, .mov (.tmp 1)⟩,
      ⟨some 13, none, .call 125 [(.tmp 11), (.tmp 12)]⟩,
      ⟨some 10, none, .mov (.tmp 13)⟩,
      ⟨some 14, none, .ext (.tmp 10) 0⟩,
      ⟨some 15, none, .ext (.tmp 10) 1⟩,
      ⟨some 6, none, .mov (.tmp 14)⟩,
      ⟨some 5, none, .mov (.tmp 15)⟩])
    (.seq
     (.seq
      (.ops [⟨some 16, none, .mov (.tmp 5)⟩])
      (.cond (.tmp 16)
       (.ops [⟨some 17, none, .mov (.tmp 0)⟩,
         ⟨some 18, none, .nilchk (.tmp 17)⟩,
         ⟨some 19, none, .faddr 2 (.tmp 18)⟩,
         ⟨some 20, none, .load1 (.tmp 19)⟩,
         ⟨some 21, none, .mov (.tmp 6)⟩,
         ⟨some 22, none, .iaddrS 4 (.tmp 20) (.tmp 21)⟩,
         ⟨some 23, none, .loadN 4 (.tmp 22)⟩,
         ⟨none, none, .store 4 (.tmp 4) (.tmp 23)⟩])
       .skip))
     (.seq
      (.ops [⟨some 24, none, .loadN 4 (.tmp 4)⟩,
        ⟨some 25, none, .mov (.tmp 5)⟩,
        ⟨none, none, .store 4 (.tmp 4) (.tmp 24)⟩,
        ⟨some 5, none, .mov (.tmp 25)⟩])
      .ret)))))⟩
theorem t119 : T 119 = some c119 := by kernel_rfl

/-- (*plait/rmap.Table).find -/
def c125 : AFunc := ⟨33, 2, [.inl 4, .inl 5],
 (.seq
  (.ops [⟨some 3, none, .box 3 1 (.tmp 1)⟩,
    ⟨some 4, none, .mov (.const (.int .i64 (0)))⟩,
    ⟨some 5, none, .mov (.const (.bool false))⟩])
  (.seq
   (.ops [⟨some 7, none, .mov (.tmp 0)⟩,
     ⟨some 8, none, .nilchk (.tmp 7)⟩,
     ⟨some 9, none, .faddr 2 (.tmp 8)⟩,
     ⟨some 10, none, .load1 (.tmp 9)⟩,
     ⟨some 11, none, .mkF 154 [] [(.tmp 3)]⟩,
     ⟨some 12, none, .call 153 [(.tmp 10), (.tmp 11)]⟩,
     ⟨some 6, none, .mov (.tmp 12)⟩])
   (.seq
    (.opsD [⟨some 13, none, .mov (.tmp 6)⟩,
      ⟨some 14, none, .mov (.tmp 6)⟩,
      ⟨some 15, none, .mov (.tmp 0)⟩,
      ⟨some 16, none, .nilchk (.tmp 15)⟩,
      ⟨some 17, none, .faddr 2 (.tmp 16)⟩,
      ⟨some 18, none, .load1 (.tmp 17)⟩,
      ⟨some 19, none, .lenV (.tmp 18)⟩,
      ⟨some 20, none, .bin .lss (.tmp 14) (.tmp 19)⟩,
      ⟨some 21, none, .mov (.tmp 20)⟩,
      ⟨some 22, some (21, true), .mov (.tmp 0)⟩,
      ⟨some 23, some (21, true), .nilchk (.tmp 22)⟩,
      ⟨some 24, some (21, true), .faddr 2 (.tmp 23)⟩,
      ⟨some 25, some (21, true), .load1 (.tmp 24)⟩,
      ⟨some 26, some (21, true), .mov (.tmp 6)⟩,
      ⟨some 27, some (21, true), .iaddrS 4 (.tmp 25) (.tmp 26)⟩,
      ⟨some 28, some (21, true), .faddr 0 (.tmp 27)⟩,
      ⟨some 29, some (21, true), .load1 (.tmp 28)⟩,
      ⟨some 30, some (21, true), .load1 (.tmp 3)⟩,
      ⟨some 31, some (21, true), .bin .eql (.tmp 29) (.tmp 30)⟩,
      ⟨some 32, none, .pick (.tmp 21) (.tmp 31) (.const (.bool false))⟩,
      ⟨some 4, none, .mov (.tmp 13)⟩,
      ⟨some 5, none, .mov (.tmp 32)⟩] [])
    .ret)))⟩
theorem t125 : T 125 = some c125 := by kernel_rfl

/-- plait/rmap.place[plait/api.Map] -/
def c153 : AFunc := ⟨9, 2, [.inl 4],
 (.seq
  (.ops [⟨some 2, none, .box 71 1 (.tmp 0)⟩,
    ⟨some 3, none, .box 64 1 (.tmp 1)⟩,
    ⟨some 4, none, .mov (.const (.int .i64 (0)))⟩])
  (.seq
   (.ops [⟨some 5, none, .load1 (.tmp 2)⟩,
     ⟨some 6, none, .lenV (.tmp 5)⟩,
     ⟨some 7, none, .mkF 171 [] [(.tmp 3), (.tmp 2)]⟩,
     ⟨some 8, none, .call 170 [(.tmp 6), (.tmp 7)]⟩,
     ⟨some 4, none, .mov (.tmp 8)⟩])
   .ret))⟩
theorem t153 : T 153 = some c153 := by kernel_rfl

/-- (*plait/rmap.Table).find$1 -/
def c154 : AFunc := ⟨8, 2, [.inl 3],
 (.seq
  (.ops [⟨some 2, none, .box 58 4 (.tmp 0)⟩,
    ⟨some 3, none, .mov (.const (.bool false))⟩])
  (.seq
   (.ops [⟨some 4, none, .faddr 0 (.tmp 2)⟩,
     ⟨some 5, none, .load1 (.tmp 4)⟩,
     ⟨some 6, none, .load1 (.tmp 1)⟩,
     ⟨some 7, none, .bin .lss (.tmp 5) (.tmp 6)⟩,
     ⟨some 3, none, .mov (.tmp 7)⟩])
   .ret))⟩
theorem t154 : T 154 = some c154 := by kernel_rfl

/-- plait/rmap.place[plait/api.Map]$1 -/
def c171 : AFunc := ⟨12, 3, [.inl 4],
 (.seq
  (.ops [⟨some 4, none, .mov (.const (.bool false))⟩])
  (.seq
   (.opsD [⟨some 5, none, .load1 (.tmp 1)⟩,
     ⟨some 6, none, .load1 (.tmp 2)⟩,
     ⟨some 7, none, .mov (.tmp 0)⟩,
     ⟨some 8, none, .iaddrS 4 (.tmp 6) (.tmp 7)⟩,
     ⟨some 9, none, .loadN 4 (.tmp 8)⟩,
     ⟨some 10, none, .callv (.tmp 5) [(.tmp 9)]⟩,
     ⟨some 11, none, .un .not (.tmp 10)⟩,
     ⟨some 4, none, .mov (.tmp 11)⟩] [])
   .ret))⟩
theorem t171 : T 171 = some c171 := by kernel_rfl

/-- sort.Search -/
def c170 : AFunc := ⟨26, 2, [.inl 4],
 (.seq
  (.ops [⟨some 4, none, .mov (.const (.int .i64 (0)))⟩])
  (.seq
   (.ops [⟨some 8, none, .mov (.tmp 0)⟩,
     ⟨some 5, none, .mov (.const (.int .i64 (0)))⟩,
     ⟨some 6, none, .mov (.tmp 8)⟩])
   (.seq
    (.block 0
     (.loop
      (.seq
       (.seq
        (.ops [⟨some 9, none, .mov (.tmp 5)⟩,
          ⟨some 10, none, .mov (.tmp 6)⟩,
          ⟨some 11, none, .bin .lss (.tmp 9) (.tmp 10)⟩])
        (.cond (.tmp 11)
         .skip
         (.exit 0)))
       (.block 1
        (.seq
         (.ops [⟨some 12, none, .mov (.tmp 5)⟩,
           ⟨some 13, none, .mov (.tmp 6)⟩,
           ⟨some 14, none, .bin .add (.tmp 12) (.tmp 13)⟩,
           ⟨some 15, none, .cvInt .u64 (.tmp 14)⟩,
           ⟨some 16, none, .bin .shr (.tmp 15) (.const (.int .u64 (1)))⟩,
           ⟨some 17, none, .cvInt .i64 (.tmp 16)⟩,
           ⟨some 7, none, .mov (.tmp 17)⟩])
         (.seq
          (.ops [⟨some 18, none, .mov (.tmp 1)⟩,
            ⟨some 19, none, .mov (.tmp 7)⟩,
            ⟨some 20, none, .callv (.tmp 18) [(.tmp 19)]⟩,
            ⟨some 21, none, .un .not (.tmp 20)⟩])
          (.cond (.tmp 21)
           (.ops [⟨some 22, none, .mov (.tmp 7)⟩,
             ⟨some 23, none, .bin .add (.tmp 22) (.const (.int .i64 (1)))⟩,
             ⟨some 5, none, .mov (.tmp 23)⟩])
           (.ops [⟨some 24, none, .mov (.tmp 7)⟩,
             ⟨some 6, none, .mov (.tmp 24)⟩]))))))))
    (.seq
     (.ops [⟨some 25, none, .mov (.tmp 5)⟩,
       ⟨some 4, none, .mov (.tmp 25)⟩])
     .ret))))⟩
theorem t170 : T 170 = some c170 := by kernel_rfl

end Go.Proofs.Ytidgbapgedegbaa

