/- The code of functions, as the framework reads it. -/
import Derived.Test.YtidgbapgedegbaaTab
import Derived.KernelRfl
namespace Go.Proofs.Ytidgbapgedegbaa
open Go Go.AS
set_option maxRecDepth 100000

/-- plait/hole.New -/
def c71 : AFunc := ⟨14, 1, [.inl 2, .inl 3],
 (.seq
  (.ops [⟨some 2, none, .mov (.const (.pointer none))⟩,
    ⟨some 3, none, .mov (.const (.int .i64 (0)))⟩])
  (.seq
   (.seq
    (.ops [⟨some 4, none, .mov (.tmp 0)⟩,
      ⟨some 5, none, .bin .lss (.tmp 4) (.const (.int .i64 (1)))⟩,
      ⟨some 6, none, .mov (.tmp 5)⟩,
      ⟨some 7, some (6, false), .mov (.tmp 0)⟩,
      ⟨some 8, some (6, false), .bin .gtr (.tmp 7) (.const (.int .i64 (2048)))⟩,
      ⟨some 9, none, .pick (.tmp 6) (.const (.bool true)) (.tmp 8)⟩])
    (.cond (.tmp 9)
     (.seq
      (.ops [⟨some 2, none, .mov (.const (.pointer none))⟩,
        ⟨some 3, none, .mov (.const (.int .i64 (2)))⟩])
      .ret)
     .skip))
   (.seq
    (.ops [⟨some 10, none, .mov (.tmp 0)⟩,
      ⟨some 11, none, .mkMap none⟩,
      ⟨some 12, none, .build [.int .i64 (0), .int .i64 (0), .map none] [(0, 1, (.tmp 10)), (2, 1, (.tmp 11))]⟩,
      ⟨some 13, none, .box 170 3 (.tmp 12)⟩,
      ⟨some 2, none, .mov (.tmp 13)⟩,
      ⟨some 3, none, .mov (.const (.int .i64 (0)))⟩])
    .ret)))⟩
theorem t71 : T 71 = some c71 := by kernel_rfl

def c84a : ACode :=
 (.seq
        (.ops [⟨some 7, none, .mov (.tmp 15)⟩])
        (.ops [⟨some 8, none, .mov (.tmp 16)⟩]))

def c84b : ACode :=
 (.seq
         (.ops [⟨some 17, none, .load1 (.tmp 3)⟩,
           ⟨some 18, none, .mov (.tmp 7)⟩,
           ⟨some 19, none, .call 122 [(.tmp 17), (.tmp 18)]⟩,
           ⟨some 20, none, .un .not (.tmp 19)⟩])
         (.cond (.tmp 20)
          (.seq
           (.ops [⟨some 21, none, .load1 (.tmp 3)⟩,
             ⟨some 22, none, .nilchk (.tmp 21)⟩,
             ⟨some 23, none, .faddr 2 (.tmp 22)⟩,
             ⟨some 24, none, .load1 (.tmp 23)⟩,
             ⟨some 25, none, .mov (.tmp 7)⟩,
             ⟨some 26, none, .mov (.tmp 8)⟩,
             ⟨none, none, .mapPut .i64 (.tmp 24) (.tmp 25) (.tmp 26)⟩])
           (.ops [⟨some 27, none, .load1 (.tmp 6)⟩,
             ⟨some 28, none, .bin .add (.tmp 27) (.const (.int .i64 (1)))⟩,
             ⟨none, none, .store 1 (.tmp 6) (.tmp 28)⟩]))
          .skip))

/-- (*plait/hole.Hole).Put -/
def c84 : AFunc := ⟨30, 3, [.inr (6, 1, false)],
 (.seq
  (.ops [⟨some 3, none, .box 125 1 (.tmp 0)⟩,
    ⟨some 6, none, .alloc 3 [.int .i64 (0)]⟩])
  (.seq
   (.seq
    (.ops [⟨some 9, none, .load1 (.tmp 3)⟩,
      ⟨some 10, none, .eq false true .ptr (.tmp 9) (.const (.pointer none))⟩])
    (.cond (.tmp 10)
     (.seq
      (.ops [⟨none, none, .store 1 (.tmp 6) (.const (.int .i64 (0)))⟩])
      .ret)
     .skip))
   (.seq
    (.seq
     (.ops [⟨some 11, none, .load1 (.tmp 3)⟩,
       ⟨some 12, none, .mov (.tmp 1)⟩,
       ⟨some 13, none, .mov (.tmp 2)⟩,
       ⟨some 14, none, .call 124 [(.tmp 11), (.tmp 12), (.tmp 13)]⟩])
     (.block 0
      (.rangeFunc (.tmp 14) [15, 16]
       c84a
       (.block 1
        c84b))))
    (.seq
     (.ops [⟨some 29, none, .load1 (.tmp 6)⟩,
       ⟨none, none, .store 1 (.tmp 6) (.tmp 29)⟩])
     .ret))))⟩
theorem t84 : T 84 = some c84 := by kernel_rfl

/-- (*plait/hole.Hole).within -/
def c124 : AFunc := ⟨8, 3, [.inl 6],
 (.seq
  (.ops [⟨some 3, none, .box 125 1 (.tmp 0)⟩,
    ⟨some 4, none, .box 3 1 (.tmp 1)⟩,
    ⟨some 5, none, .box 9 1 (.tmp 2)⟩,
    ⟨some 6, none, .mov (.const (.nilFunc))⟩])
  (.seq
   (.ops [⟨some 7, none, .mkF 152 [] [(.tmp 4), (.tmp 5), (.tmp 3)]⟩,
     ⟨some 6, none, .mov (.tmp 7)⟩])
   .ret))⟩
theorem t124 : T 124 = some c124 := by kernel_rfl

/-- (*plait/hole.Hole).within$1 -/
def c152 : AFunc := ⟨59, 4, [],
 (.seq
  (.seq
   (.opsD [⟨some 6, none, .load1 (.tmp 1)⟩,
     ⟨some 7, none, .load1 (.tmp 2)⟩,
     ⟨some 8, none, .lenS (.tmp 7)⟩,
     ⟨some 9, none, .bin .sub (.const (.int .i64 (4611686018427387904))) (.tmp 8)⟩,
     ⟨some 10, none, .bin .geq (.tmp 6) (.tmp 9)⟩,
     ⟨some 11, none, .mov (.tmp 10)⟩,
     ⟨some 12, some (11, false), .load1 (.tmp 1)⟩,
     ⟨some 13, some (11, false), .load1 (.tmp 3)⟩,
     ⟨some 14, some (11, false), .nilchk (.tmp 13)⟩,
     ⟨some 15, some (11, false), .faddr 1 (.tmp 14)⟩,
     ⟨some 16, some (11, false), .load1 (.tmp 15)⟩,
     ⟨some 17, some (11, false), .load1 (.tmp 2)⟩,
     ⟨some 18, some (11, false), .lenS (.tmp 17)⟩,
     ⟨some 19, some (11, false), .bin .sub (.tmp 16) (.tmp 18)⟩,
     ⟨some 20, some (11, false), .bin .lss (.tmp 12) (.tmp 19)⟩,
     ⟨some 21, none, .pick (.tmp 11) (.const (.bool true)) (.tmp 20)⟩] [])
   (.cond (.tmp 21)
    .ret
    .skip))
  (.seq
   (.opsD [⟨some 22, none, .load1 (.tmp 3)⟩,
     ⟨some 23, none, .nilchk (.tmp 22)⟩,
     ⟨some 24, none, .faddr 1 (.tmp 23)⟩,
     ⟨some 25, none, .load1 (.tmp 24)⟩,
     ⟨some 26, none, .load1 (.tmp 1)⟩,
     ⟨some 27, none, .bin .sub (.tmp 25) (.tmp 26)⟩,
     ⟨some 28, none, .max [(.const (.int .i64 (0))), (.tmp 27)]⟩,
     ⟨some 5, none, .mov (.tmp 28)⟩] [])
   (.block 0
    (.loop
     (.seq
      (.seq
       (.opsD [⟨some 29, none, .mov (.tmp 5)⟩,
         ⟨some 30, none, .load1 (.tmp 2)⟩,
         ⟨some 31, none, .lenS (.tmp 30)⟩,
         ⟨some 32, none, .bin .lss (.tmp 29) (.tmp 31)⟩,
         ⟨some 33, none, .mov (.tmp 32)⟩,
         ⟨some 34, some (33, true), .load1 (.tmp 1)⟩,
         ⟨some 35, some (33, true), .mov (.tmp 5)⟩,
         ⟨some 36, some (33, true), .bin .add (.tmp 34) (.tmp 35)⟩,
         ⟨some 37, some (33, true), .load1 (.tmp 3)⟩,
         ⟨some 38, some (33, true), .nilchk (.tmp 37)⟩,
         ⟨some 39, some (33, true), .faddr 1 (.tmp 38)⟩,
         ⟨some 40, some (33, true), .load1 (.tmp 39)⟩,
         ⟨some 41, some (33, true), .load1 (.tmp 3)⟩,
         ⟨some 42, some (33, true), .nilchk (.tmp 41)⟩,
         ⟨some 43, some (33, true), .faddr 0 (.tmp 42)⟩,
         ⟨some 44, some (33, true), .load1 (.tmp 43)⟩,
         ⟨some 45, some (33, true), .bin .add (.tmp 40) (.tmp 44)⟩,
         ⟨some 46, some (33, true), .bin .lss (.tmp 36) (.tmp 45)⟩,
         ⟨some 47, none, .pick (.tmp 33) (.tmp 46) (.const (.bool false))⟩] [])
       (.cond (.tmp 47)
        .skip
        (.exit 0)))
      (.seq
       (.block 1
        (.seq
         (.opsD [⟨some 50, none, .mov (.tmp 0)⟩,
           ⟨some 51, none, .load1 (.tmp 1)⟩,
           ⟨some 52, none, .mov (.tmp 5)⟩,
           ⟨some 53, none, .bin .add (.tmp 51) (.tmp 52)⟩,
           ⟨some 54, none, .load1 (.tmp 2)⟩,
           ⟨some 55, none, .mov (.tmp 5)⟩,
           ⟨some 56, none, .idxS (.tmp 54) (.tmp 55)⟩,
           ⟨some 57, none, .callv (.tmp 50) [(.tmp 53), (.tmp 56)]⟩,
           ⟨some 58, none, .un .not (.tmp 57)⟩] [])
         (.cond (.tmp 58)
          .ret
          .skip)))
       (.ops [⟨some 48, none, .mov (.tmp 5)⟩,
         ⟨some 49, none, .bin .add (.tmp 48) (.const (.int .i64 (1)))⟩,
         ⟨some 5, none, .mov (.tmp 49)⟩])))))))⟩
theorem t152 : T 152 = some c152 := by kernel_rfl

/-- (*plait/hole.Hole).Text -/
def c86 : AFunc := ⟨52, 3, [.inl 6, .inl 7],
 (.seq
  (.ops [⟨some 6, none, .mov (.const (.string ⟨⟨[]⟩⟩))⟩,
    ⟨some 7, none, .mov (.const (.bool false))⟩])
  (.seq
   (.seq
    (.ops [⟨some 12, none, .mov (.tmp 0)⟩,
      ⟨some 13, none, .mov (.tmp 1)⟩,
      ⟨some 14, none, .mov (.tmp 2)⟩,
      ⟨some 15, none, .call 126 [(.tmp 12), (.tmp 13), (.tmp 14)]⟩,
      ⟨some 16, none, .un .not (.tmp 15)⟩,
      ⟨some 17, none, .mov (.tmp 16)⟩,
      ⟨some 18, some (17, false), .mov (.tmp 1)⟩,
      ⟨some 19, some (17, false), .mov (.tmp 0)⟩,
      ⟨some 20, some (17, false), .nilchk (.tmp 19)⟩,
      ⟨some 21, some (17, false), .faddr 1 (.tmp 20)⟩,
      ⟨some 22, some (17, false), .load1 (.tmp 21)⟩,
      ⟨some 23, some (17, false), .bin .lss (.tmp 18) (.tmp 22)⟩,
      ⟨some 24, none, .pick (.tmp 17) (.const (.bool true)) (.tmp 23)⟩])
    (.cond (.tmp 24)
     (.seq
      (.ops [⟨some 6, none, .mov (.const (.string ⟨⟨[]⟩⟩))⟩,
        ⟨some 7, none, .mov (.const (.bool false))⟩])
      .ret)
     .skip))
   (.seq
    (.ops [⟨some 25, none, .mov (.tmp 2)⟩,
      ⟨some 26, none, .mkS 5 1 1 [.int .u8 (0)] (.const (.int .i64 (0))) (.tmp 25)⟩,
      ⟨some 8, none, .mov (.tmp 26)⟩])
    (.seq
     (.seq
      (.ops [⟨some 27, none, .mov (.tmp 1)⟩,
        ⟨some 9, none, .mov (.tmp 27)⟩])
      (.block 0
       (.loop
        (.seq
         (.seq
          (.ops [⟨some 28, none, .mov (.tmp 9)⟩,
            ⟨some 29, none, .mov (.tmp 1)⟩,
            ⟨some 30, none, .mov (.tmp 2)⟩,
            ⟨some 31, none, .bin .add (.tmp 29) (.tmp 30)⟩,
            ⟨some 32, none, .bin .lss (.tmp 28) (.tmp 31)⟩])
          (.cond (.tmp 32)
           .skip
           (.exit 0)))
         (.seq
          (.block 1
           (.seq
            (.ops [⟨some 36, none, .mov (.tmp 0)⟩,
              ⟨some 37, none, .nilchk (.tmp 36)⟩,
              ⟨some 38, none, .faddr 2 (.tmp 37)⟩,
              ⟨some 39, none, .load1 (.tmp 38)⟩,
              ⟨some 40, none, .mov (.tmp 9)⟩,
              ⟨some 41, none, .mapGet .i64 true (.int .u8 (0)) (.tmp 39) (.tmp 40)⟩,
              ⟨some 35, none, .mov (.tmp 41)⟩,
              ⟨some 42, none, .ext (.tmp 35) 0⟩,
              ⟨some 43, none, .ext (.tmp 35) 1⟩,
              ⟨some 10, none, .mov (.tmp 42)⟩,
              ⟨some 11, none, .mov (.tmp 43)⟩])
            (.seq
             (.seq
              (.ops [⟨some 44, none, .mov (.tmp 11)⟩,
                ⟨some 45, none, .un .not (.tmp 44)⟩])
              (.cond (.tmp 45)
               (.seq
                (.ops [⟨some 6, none, .mov (.const (.string ⟨⟨[]⟩⟩))⟩,
                  ⟨some 7, none, .mov (.const (.bool false))⟩])
                .ret)
               .skip))
             (.ops [⟨some 46, none, .mov (.tmp 8)⟩,
               ⟨some 47, none, .mov (.tmp 10)⟩,
               ⟨some 48, none, .bslice 5 1 [.int .u8 (0)] [(0, 1, (.tmp 47))]⟩,
               ⟨some 49, none, .append 5 1 1 (.tmp 46) (.tmp 48)⟩,
               ⟨some 8, none, .mov (.tmp 49)⟩]))))
          (.ops [⟨some 33, none, .mov (.tmp 9)⟩,
            ⟨some 34, none, .bin .add (.tmp 33) (.const (.int .i64 (1)))⟩,
            ⟨some 9, none, .mov (.tmp 34)⟩]))))))
     (.seq
      (.ops [⟨some 50, none, .mov (.tmp 8)⟩,
        ⟨some 51, none, .cvB2S (.tmp 50)⟩,
        ⟨some 6, none, .mov (.tmp 51)⟩,
        ⟨some 7, none, .mov (.const (.bool true))⟩])
      .ret)))))⟩
theorem t86 : T 86 = some c86 := by kernel_rfl

/-- (*plait/hole.Hole).Has -/
def c122 : AFunc := ⟨19, 2, [.inl 4],
 (.seq
  (.ops [⟨some 4, none, .mov (.const (.bool false))⟩])
  (.seq
   (.seq
    (.ops [⟨some 7, none, .mov (.tmp 0)⟩,
      ⟨some 8, none, .eq false true .ptr (.tmp 7) (.const (.pointer none))⟩])
    (.cond (.tmp 8)
     (.seq
      (.ops [⟨some 4, none, .mov (.const (.bool false))⟩])
      .ret)
     .skip))
   (.seq
    (.ops [⟨some 10, none, .mov (.tmp 0)⟩,
      ⟨some 11, none, .nilchk (.tmp 10)⟩,
      ⟨some 12, none, .faddr 2 (.tmp 11)⟩,
      ⟨some 13, none, .load1 (.tmp 12)⟩,
      ⟨some 14, none, .mov (.tmp 1)⟩,
      ⟨some 15, none, .mapGet .i64 true (.int .u8 (0)) (.tmp 13) (.tmp 14)⟩,
      ⟨some 9, none, .mov (.tmp 15)⟩,
      ⟨some 16, none, .ext (.tmp 9) 0⟩,
      ⟨some 17, none, .ext (.tmp 9) 1⟩,
      ⟨some 5, none, .mov (.tmp 16)⟩,
      ⟨some 6, none, .mov (.tmp 17)⟩])
    (.seq
     (.ops [⟨some 18, none, .mov (.tmp 6)⟩,
       ⟨some 4, none, .mov (.tmp 18)⟩])
     .ret))))⟩
theorem t122 : T 122 = some c122 := by kernel_rfl

/-- (*plait/hole.Hole).Next -/
def c87 : AFunc := ⟨12, 1, [.inl 2],
 (.seq
  (.ops [⟨some 2, none, .mov (.const (.int .i64 (0)))⟩])
  (.seq
   (.ops [⟨some 4, none, .mov (.tmp 0)⟩,
     ⟨some 5, none, .call 88 [(.tmp 4)]⟩,
     ⟨some 3, none, .mov (.tmp 5)⟩])
   (.seq
    (.block 0
     (.loop
      (.seq
       (.seq
        (.ops [⟨some 6, none, .mov (.tmp 0)⟩,
          ⟨some 7, none, .mov (.tmp 3)⟩,
          ⟨some 8, none, .call 122 [(.tmp 6), (.tmp 7)]⟩])
        (.cond (.tmp 8)
         .skip
         (.exit 0)))
       (.block 1
        (.ops [⟨some 9, none, .mov (.tmp 3)⟩,
          ⟨some 10, none, .bin .add (.tmp 9) (.const (.int .i64 (1)))⟩,
          ⟨some 3, none, .mov (.tmp 10)⟩])))))
    (.seq
     (.ops [⟨some 11, none, .mov (.tmp 3)⟩,
       ⟨some 2, none, .mov (.tmp 11)⟩])
     .ret))))⟩
theorem t87 : T 87 = some c87 := by kernel_rfl

/-- (*plait/hole.Hole).Base -/
def c88 : AFunc := ⟨9, 1, [.inl 2],
 (.seq
  (.ops [⟨some 2, none, .mov (.const (.int .i64 (0)))⟩])
  (.seq
   (.seq
    (.ops [⟨some 3, none, .mov (.tmp 0)⟩,
      ⟨some 4, none, .eq false true .ptr (.tmp 3) (.const (.pointer none))⟩])
    (.cond (.tmp 4)
     (.seq
      (.ops [⟨some 2, none, .mov (.const (.int .i64 (0)))⟩])
      .ret)
     .skip))
   (.seq
    (.ops [⟨some 5, none, .mov (.tmp 0)⟩,
      ⟨some 6, none, .nilchk (.tmp 5)⟩,
      ⟨some 7, none, .faddr 1 (.tmp 6)⟩,
      ⟨some 8, none, .load1 (.tmp 7)⟩,
      ⟨some 2, none, .mov (.tmp 8)⟩])
    .ret)))⟩
theorem t88 : T 88 = some c88 := by kernel_rfl

/-- (*plait/hole.Hole).Skip -/
def c89 : AFunc := ⟨49, 2, [],
 (.seq
  (.seq
   (.ops [⟨some 6, none, .mov (.tmp 0)⟩,
     ⟨some 7, none, .eq false true .ptr (.tmp 6) (.const (.pointer none))⟩])
   (.cond (.tmp 7)
    .ret
    .skip))
  (.seq
   (.opsD [⟨some 8, none, .mov (.tmp 0)⟩,
     ⟨some 9, none, .nilchk (.tmp 8)⟩,
     ⟨some 10, none, .faddr 1 (.tmp 9)⟩,
     ⟨some 11, none, .load1 (.tmp 10)⟩,
     ⟨some 12, none, .mov (.tmp 1)⟩,
     ⟨some 13, none, .mov (.tmp 0)⟩,
     ⟨some 14, none, .nilchk (.tmp 13)⟩,
     ⟨some 15, none, .faddr 1 (.tmp 14)⟩,
     ⟨some 16, none, .load1 (.tmp 15)⟩,
     ⟨some 17, none, .bin .sub (.const (.int .i64 (2305843009213693952))) (.tmp 16)⟩,
     ⟨some 18, none, .min [(.tmp 12), (.tmp 17)]⟩,
     ⟨some 19, none, .max [(.const (.int .i64 (0))), (.tmp 18)]⟩,
     ⟨some 20, none, .bin .add (.tmp 11) (.tmp 19)⟩,
     ⟨some 4, none, .mov (.tmp 20)⟩] [])
   (.seq
    (.seq
     (.ops [⟨some 21, none, .mov (.tmp 0)⟩,
       ⟨some 22, none, .nilchk (.tmp 21)⟩,
       ⟨some 23, none, .faddr 1 (.tmp 22)⟩,
       ⟨some 24, none, .load1 (.tmp 23)⟩,
       ⟨some 5, none, .mov (.tmp 24)⟩])
     (.block 0
      (.loop
       (.seq
        (.seq
         (.opsD [⟨some 25, none, .mov (.tmp 5)⟩,
           ⟨some 26, none, .mov (.tmp 4)⟩,
           ⟨some 27, none, .mov (.tmp 0)⟩,
           ⟨some 28, none, .nilchk (.tmp 27)⟩,
           ⟨some 29, none, .faddr 1 (.tmp 28)⟩,
           ⟨some 30, none, .load1 (.tmp 29)⟩,
           ⟨some 31, none, .mov (.tmp 0)⟩,
           ⟨some 32, none, .nilchk (.tmp 31)⟩,
           ⟨some 33, none, .faddr 0 (.tmp 32)⟩,
           ⟨some 34, none, .load1 (.tmp 33)⟩,
           ⟨some 35, none, .bin .add (.tmp 30) (.tmp 34)⟩,
           ⟨some 36, none, .min [(.tmp 26), (.tmp 35)]⟩,
           ⟨some 37, none, .bin .lss (.tmp 25) (.tmp 36)⟩] [])
         (.cond (.tmp 37)
          .skip
          (.exit 0)))
        (.seq
         (.block 1
          (.ops [⟨some 40, none, .mov (.tmp 0)⟩,
            ⟨some 41, none, .nilchk (.tmp 40)⟩,
            ⟨some 42, none, .faddr 2 (.tmp 41)⟩,
            ⟨some 43, none, .load1 (.tmp 42)⟩,
            ⟨some 44, none, .mov (.tmp 5)⟩,
            ⟨none, none, .mapDel .i64 (.tmp 43) (.tmp 44)⟩]))
         (.ops [⟨some 38, none, .mov (.tmp 5)⟩,
           ⟨some 39, none, .bin .add (.tmp 38) (.const (.int .i64 (1)))⟩,
           ⟨some 5, none, .mov (.tmp 39)⟩]))))))
    (.ops [⟨some 45, none, .mov (.tmp 0)⟩,
      ⟨some 46, none, .mov (.tmp 4)⟩,
      ⟨some 47, none, .nilchk (.tmp 45)⟩,
      ⟨some 48, none, .faddr 1 (.tmp 47)⟩,
      ⟨none, none, .store 1 (.tmp 48) (.tmp 46)⟩]))))⟩
theorem t89 : T 89 = some c89 := by kernel_rfl

/-- (*plait/hole.Hole).Fits -/
def c126 : AFunc := ⟨45, 3, [.inl 6],
 (.seq
  (.ops [⟨some 6, none, .mov (.const (.bool false))⟩])
  (.seq
   (.opsD [⟨some 7, none, .mov (.tmp 0)⟩,
     ⟨some 8, none, .eq true true .ptr (.tmp 7) (.const (.pointer none))⟩,
     ⟨some 9, none, .mov (.tmp 8)⟩,
     ⟨some 10, some (9, true), .mov (.tmp 1)⟩,
     ⟨some 11, some (9, true), .bin .geq (.tmp 10) (.const (.int .i64 (0)))⟩,
     ⟨some 12, none, .pick (.tmp 9) (.tmp 11) (.const (.bool false))⟩,
     ⟨some 13, none, .mov (.tmp 12)⟩,
     ⟨some 14, some (13, true), .mov (.tmp 2)⟩,
     ⟨some 15, some (13, true), .bin .geq (.tmp 14) (.const (.int .i64 (0)))⟩,
     ⟨some 16, none, .pick (.tmp 13) (.tmp 15) (.const (.bool false))⟩,
     ⟨some 17, none, .mov (.tmp 16)⟩,
     ⟨some 18, some (17, true), .mov (.tmp 1)⟩,
     ⟨some 19, some (17, true), .mov (.tmp 0)⟩,
     ⟨some 20, some (17, true), .nilchk (.tmp 19)⟩,
     ⟨some 21, some (17, true), .faddr 1 (.tmp 20)⟩,
     ⟨some 22, some (17, true), .load1 (.tmp 21)⟩,
     ⟨some 23, some (17, true), .mov (.tmp 0)⟩,
     ⟨some 24, some (17, true), .nilchk (.tmp 23)⟩,
     ⟨some 25, some (17, true), .faddr 0 (.tmp 24)⟩,
     ⟨some 26, some (17, true), .load1 (.tmp 25)⟩,
     ⟨some 27, some (17, true), .bin .add (.tmp 22) (.tmp 26)⟩,
     ⟨some 28, some (17, true), .bin .leq (.tmp 18) (.tmp 27)⟩,
     ⟨some 29, none, .pick (.tmp 17) (.tmp 28) (.const (.bool false))⟩,
     ⟨some 30, none, .mov (.tmp 29)⟩,
     ⟨some 31, some (30, true), .mov (.tmp 2)⟩,
     ⟨some 32, some (30, true), .mov (.tmp 0)⟩,
     ⟨some 33, some (30, true), .nilchk (.tmp 32)⟩,
     ⟨some 34, some (30, true), .faddr 1 (.tmp 33)⟩,
     ⟨some 35, some (30, true), .load1 (.tmp 34)⟩,
     ⟨some 36, some (30, true), .mov (.tmp 0)⟩,
     ⟨some 37, some (30, true), .nilchk (.tmp 36)⟩,
     ⟨some 38, some (30, true), .faddr 0 (.tmp 37)⟩,
     ⟨some 39, some (30, true), .load1 (.tmp 38)⟩,
     ⟨some 40, some (30, true), .bin .add (.tmp 35) (.tmp 39)⟩,
     ⟨some 41, some (30, true), .mov (.tmp 1)⟩,
     ⟨some 42, some (30, true), .bin .sub (.tmp 40) (.tmp 41)⟩,
     ⟨some 43, some (30, true), .bin .leq (.tmp 31) (.tmp 42)⟩,
     ⟨some 44, none, .pick (.tmp 30) (.tmp 43) (.const (.bool false))⟩,
     ⟨some 6, none, .mov (.tmp 44)⟩] [])
   .ret))⟩
theorem t126 : T 126 = some c126 := by kernel_rfl

end Go.Proofs.Ytidgbapgedegbaa

