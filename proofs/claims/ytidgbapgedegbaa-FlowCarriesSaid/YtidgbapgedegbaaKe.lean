/- The code of functions, as the framework reads it. -/
import Derived.Test.YtidgbapgedegbaaTab
import Derived.KernelRfl
namespace Go.Proofs.Ytidgbapgedegbaa
open Go Go.AS
set_option maxRecDepth 100000

/-- (*plait/outlet.Out).Push -/
def c100 : AFunc := ⟨36, 3, [.inl 6],
 (.seq
  (.ops [⟨some 6, none, .mov (.const (.int .i64 (0)))⟩])
  (.seq
   (.seq
    (.ops [⟨some 8, none, .mov (.tmp 0)⟩,
      ⟨some 9, none, .eq false true .ptr (.tmp 8) (.const (.pointer none))⟩])
    (.cond (.tmp 9)
     (.seq
      (.ops [⟨some 6, none, .mov (.const (.int .i64 (0)))⟩])
      .ret)
     .skip))
   (.seq
    (.ops [⟨some 10, none, .mov (.tmp 0)⟩,
      ⟨some 11, none, .nilchk (.tmp 10)⟩,
      ⟨some 12, none, .faddr 1 (.tmp 11)⟩,
      ⟨some 13, none, .load1 (.tmp 12)⟩,
      ⟨some 14, none, .mov (.tmp 2)⟩,
      ⟨some 15, none, .mov (.tmp 1)⟩,
      ⟨some 16, none, .build [.int .i64 (0), .int .i64 (0), .string ⟨⟨[]⟩⟩] [(0, 1, (.tmp 13)), (1, 1, (.tmp 14)), (2, 1, (.tmp 15))]⟩,
      ⟨some 7, none, .alloc 163 [.int .i64 (0), .int .i64 (0), .string ⟨⟨[]⟩⟩]⟩,
      ⟨none, none, .store 3 (.tmp 7) (.tmp 16)⟩])
    (.seq
     (.seq
      (.ops [⟨some 17, none, .mov (.tmp 0)⟩,
        ⟨some 18, none, .loadN 3 (.tmp 7)⟩,
        ⟨some 19, none, .call 133 [(.tmp 18)]⟩,
        ⟨some 20, none, .nilchk (.tmp 17)⟩,
        ⟨some 21, none, .faddr 1 (.tmp 20)⟩,
        ⟨none, none, .store 1 (.tmp 21) (.tmp 19)⟩])
      (.seq
       (.ops [⟨some 22, none, .mov (.tmp 1)⟩,
         ⟨some 23, none, .bin .neq (.tmp 22) (.const (.string ⟨⟨[]⟩⟩))⟩])
       (.cond (.tmp 23)
        (.opsD [⟨some 24, none, .mov (.tmp 0)⟩,
          ⟨some 25, none, .mov (.tmp 0)⟩,
          ⟨some 26, none, .nilchk (.tmp 25)⟩,
          ⟨some 27, none, .faddr 0 (.tmp 26)⟩,
          ⟨some 28, none, .load1 (.tmp 27)⟩,
          ⟨some 29, none, .loadN 3 (.tmp 7)⟩,
          ⟨some 30, none, .bslice 163 1 [.int .i64 (0), .int .i64 (0), .string ⟨⟨[]⟩⟩] [(0, 3, (.tmp 29))]⟩,
          ⟨some 31, none, .append 163 3 32 (.tmp 28) (.tmp 30)⟩,
          ⟨some 32, none, .nilchk (.tmp 24)⟩,
          ⟨some 33, none, .faddr 0 (.tmp 32)⟩,
          ⟨none, none, .store 1 (.tmp 33) (.tmp 31)⟩] [])
        .skip)))
     (.seq
      (.ops [⟨some 34, none, .faddr 0 (.tmp 7)⟩,
        ⟨some 35, none, .load1 (.tmp 34)⟩,
        ⟨some 6, none, .mov (.tmp 35)⟩])
      .ret)))))⟩
theorem t100 : T 100 = some c100 := by kernel_rfl

/-- (*plait/outlet.Out).Due -/
def c105 : AFunc := ⟨10, 1, [.inl 2],
 (.seq
  (.ops [⟨some 2, none, .mov (.const (.slice none 0 0))⟩])
  (.seq
   (.seq
    (.ops [⟨some 3, none, .mov (.tmp 0)⟩,
      ⟨some 4, none, .eq false true .ptr (.tmp 3) (.const (.pointer none))⟩])
    (.cond (.tmp 4)
     (.seq
      (.ops [⟨some 2, none, .mov (.const (.slice none 0 0))⟩])
      .ret)
     .skip))
   (.seq
    (.ops [⟨some 5, none, .mov (.tmp 0)⟩,
      ⟨some 6, none, .nilchk (.tmp 5)⟩,
      ⟨some 7, none, .faddr 0 (.tmp 6)⟩,
      ⟨some 8, none, .load1 (.tmp 7)⟩,
      ⟨some 9, none, .append 163 3 32 (.const (.slice none 0 0)) (.tmp 8)⟩,
      ⟨some 2, none, .mov (.tmp 9)⟩])
    .ret)))⟩
theorem t105 : T 105 = some c105 := by kernel_rfl

/-- (*plait/outlet.Out).End -/
def c106 : AFunc := ⟨9, 1, [.inl 2],
 (.seq
  (.ops [⟨some 2, none, .mov (.const (.int .i64 (0)))⟩])
  (.seq
   (.seq
    (.ops [⟨some 3, none, .mov (.tmp 0)⟩,
      ⟨some 4, none, .eq false true .ptr (.tmp 3) (.const (.pointer none))⟩])
    (.cond (.tmp 4)
     (.seq
      (.ops [⟨some 2, none, .mov (.const (.int .i64 (0)))⟩])
      .ret)
     .skip))
   (.seq
    (.ops [⟨some 5, none, .mov (.tmp 0)⟩,
      ⟨some 6, none, .nilchk (.tmp 5)⟩,
      ⟨some 7, none, .faddr 1 (.tmp 6)⟩,
      ⟨some 8, none, .load1 (.tmp 7)⟩,
      ⟨some 2, none, .mov (.tmp 8)⟩])
    .ret)))⟩
theorem t106 : T 106 = some c106 := by kernel_rfl

/-- (*plait/outlet.Out).Ack -/
def c108 : AFunc := ⟨58, 2, [.inr (4, 1, false)],
 (.seq
  (.ops [⟨some 4, none, .alloc 93 [.slice none 0 0]⟩])
  (.seq
   (.seq
    (.ops [⟨some 6, none, .mov (.tmp 0)⟩,
      ⟨some 7, none, .eq false true .ptr (.tmp 6) (.const (.pointer none))⟩,
      ⟨some 8, none, .mov (.tmp 7)⟩,
      ⟨some 9, some (8, false), .mov (.tmp 1)⟩,
      ⟨some 10, some (8, false), .mov (.tmp 0)⟩,
      ⟨some 11, some (8, false), .nilchk (.tmp 10)⟩,
      ⟨some 12, some (8, false), .faddr 2 (.tmp 11)⟩,
      ⟨some 13, some (8, false), .load1 (.tmp 12)⟩,
      ⟨some 14, some (8, false), .bin .leq (.tmp 9) (.tmp 13)⟩,
      ⟨some 15, none, .pick (.tmp 8) (.const (.bool true)) (.tmp 14)⟩,
      ⟨some 16, none, .mov (.tmp 15)⟩,
      ⟨some 17, some (16, false), .mov (.tmp 1)⟩,
      ⟨some 18, some (16, false), .mov (.tmp 0)⟩,
      ⟨some 19, some (16, false), .nilchk (.tmp 18)⟩,
      ⟨some 20, some (16, false), .faddr 1 (.tmp 19)⟩,
      ⟨some 21, some (16, false), .load1 (.tmp 20)⟩,
      ⟨some 22, some (16, false), .bin .gtr (.tmp 17) (.tmp 21)⟩,
      ⟨some 23, none, .pick (.tmp 16) (.const (.bool true)) (.tmp 22)⟩])
    (.cond (.tmp 23)
     (.seq
      (.ops [⟨none, none, .store 1 (.tmp 4) (.const (.slice none 0 0))⟩])
      .ret)
     .skip))
   (.seq
    (.seq
     (.ops [⟨some 24, none, .mov (.tmp 0)⟩,
       ⟨some 25, none, .mov (.tmp 1)⟩,
       ⟨some 26, none, .call 137 [(.tmp 24), (.tmp 25)]⟩])
     (.block 0
      (.rangeFunc (.tmp 26) [27]
       (.ops [⟨some 5, none, .alloc 163 [.int .i64 (0), .int .i64 (0), .string ⟨⟨[]⟩⟩]⟩,
         ⟨none, none, .store 3 (.tmp 5) (.tmp 27)⟩])
       (.block 1
        (.ops [⟨some 28, none, .load1 (.tmp 4)⟩,
          ⟨some 29, none, .faddr 1 (.tmp 5)⟩,
          ⟨some 30, none, .load1 (.tmp 29)⟩,
          ⟨some 31, none, .bslice 3 1 [.int .i64 (0)] [(0, 1, (.tmp 30))]⟩,
          ⟨some 32, none, .append 3 1 8 (.tmp 28) (.tmp 31)⟩,
          ⟨none, none, .store 1 (.tmp 4) (.tmp 32)⟩])))))
    (.seq
     (.opsD [⟨some 33, none, .mov (.tmp 0)⟩,
       ⟨some 34, none, .mov (.tmp 0)⟩,
       ⟨some 35, none, .nilchk (.tmp 34)⟩,
       ⟨some 36, none, .faddr 0 (.tmp 35)⟩,
       ⟨some 37, none, .load1 (.tmp 36)⟩,
       ⟨some 38, none, .load1 (.tmp 4)⟩,
       ⟨some 39, none, .lenV (.tmp 38)⟩,
       ⟨some 40, none, .mov (.tmp 0)⟩,
       ⟨some 41, none, .nilchk (.tmp 40)⟩,
       ⟨some 42, none, .faddr 0 (.tmp 41)⟩,
       ⟨some 43, none, .load1 (.tmp 42)⟩,
       ⟨some 44, none, .lenV (.tmp 43)⟩,
       ⟨some 45, none, .mov (.tmp 0)⟩,
       ⟨some 46, none, .nilchk (.tmp 45)⟩,
       ⟨some 47, none, .faddr 0 (.tmp 46)⟩,
       ⟨some 48, none, .load1 (.tmp 47)⟩,
       ⟨some 49, none, .lenV (.tmp 48)⟩,
       ⟨some 50, none, .sliceV 3 (.tmp 37) (some (.tmp 39)) (some (.tmp 44)) (some (.tmp 49))⟩,
       ⟨some 51, none, .nilchk (.tmp 33)⟩,
       ⟨some 52, none, .faddr 0 (.tmp 51)⟩,
       ⟨none, none, .store 1 (.tmp 52) (.tmp 50)⟩] [])
     (.seq
      (.ops [⟨some 53, none, .mov (.tmp 0)⟩,
        ⟨some 54, none, .mov (.tmp 1)⟩,
        ⟨some 55, none, .nilchk (.tmp 53)⟩,
        ⟨some 56, none, .faddr 2 (.tmp 55)⟩,
        ⟨none, none, .store 1 (.tmp 56) (.tmp 54)⟩])
      (.seq
       (.ops [⟨some 57, none, .load1 (.tmp 4)⟩,
         ⟨none, none, .store 1 (.tmp 4) (.tmp 57)⟩])
       .ret))))))⟩
theorem t108 : T 108 = some c108 := by kernel_rfl

/-- (*plait/outlet.Out).Flight -/
def c110 : AFunc := ⟨10, 1, [.inl 2],
 (.seq
  (.ops [⟨some 2, none, .mov (.const (.int .i64 (0)))⟩])
  (.seq
   (.seq
    (.ops [⟨some 3, none, .mov (.tmp 0)⟩,
      ⟨some 4, none, .eq false true .ptr (.tmp 3) (.const (.pointer none))⟩])
    (.cond (.tmp 4)
     (.seq
      (.ops [⟨some 2, none, .mov (.const (.int .i64 (0)))⟩])
      .ret)
     .skip))
   (.seq
    (.ops [⟨some 5, none, .mov (.tmp 0)⟩,
      ⟨some 6, none, .nilchk (.tmp 5)⟩,
      ⟨some 7, none, .faddr 0 (.tmp 6)⟩,
      ⟨some 8, none, .load1 (.tmp 7)⟩,
      ⟨some 9, none, .lenV (.tmp 8)⟩,
      ⟨some 2, none, .mov (.tmp 9)⟩])
    .ret)))⟩
theorem t110 : T 110 = some c110 := by kernel_rfl

/-- (plait/outlet.Piece).end -/
def c133 : AFunc := ⟨9, 1, [.inl 2],
 (.seq
  (.ops [⟨some 1, none, .box 163 3 (.tmp 0)⟩,
    ⟨some 2, none, .mov (.const (.int .i64 (0)))⟩])
  (.seq
   (.ops [⟨some 3, none, .faddr 0 (.tmp 1)⟩,
     ⟨some 4, none, .load1 (.tmp 3)⟩,
     ⟨some 5, none, .faddr 2 (.tmp 1)⟩,
     ⟨some 6, none, .load1 (.tmp 5)⟩,
     ⟨some 7, none, .lenS (.tmp 6)⟩,
     ⟨some 8, none, .bin .add (.tmp 4) (.tmp 7)⟩,
     ⟨some 2, none, .mov (.tmp 8)⟩])
   .ret))⟩
theorem t133 : T 133 = some c133 := by kernel_rfl

/-- (*plait/outlet.Out).Una -/
def c135 : AFunc := ⟨9, 1, [.inl 2],
 (.seq
  (.ops [⟨some 2, none, .mov (.const (.int .i64 (0)))⟩])
  (.seq
   (.seq
    (.ops [⟨some 3, none, .mov (.tmp 0)⟩,
      ⟨some 4, none, .eq false true .ptr (.tmp 3) (.const (.pointer none))⟩])
    (.cond (.tmp 4)
     (.seq
      (.ops [⟨some 2, none, .mov (.const (.int .i64 (0)))⟩])
      .ret)
     .skip))
   (.seq
    (.ops [⟨some 5, none, .mov (.tmp 0)⟩,
      ⟨some 6, none, .nilchk (.tmp 5)⟩,
      ⟨some 7, none, .faddr 2 (.tmp 6)⟩,
      ⟨some 8, none, .load1 (.tmp 7)⟩,
      ⟨some 2, none, .mov (.tmp 8)⟩])
    .ret)))⟩
theorem t135 : T 135 = some c135 := by kernel_rfl

/-- (*plait/outlet.Out).over -/
def c137 : AFunc := ⟨6, 2, [.inl 4],
 (.seq
  (.ops [⟨some 2, none, .box 156 1 (.tmp 0)⟩,
    ⟨some 3, none, .box 3 1 (.tmp 1)⟩,
    ⟨some 4, none, .mov (.const (.nilFunc))⟩])
  (.seq
   (.ops [⟨some 5, none, .mkF 162 [] [(.tmp 2), (.tmp 3)]⟩,
     ⟨some 4, none, .mov (.tmp 5)⟩])
   .ret))⟩
theorem t137 : T 137 = some c137 := by kernel_rfl

/-- plait/outlet.New -/
def c160 : AFunc := ⟨3, 0, [.inl 0],
 (.seq
  (.ops [⟨some 0, none, .mov (.const (.pointer none))⟩])
  (.seq
   (.ops [⟨some 1, none, .build [.slice none 0 0, .int .i64 (0), .int .i64 (0)] []⟩,
     ⟨some 2, none, .box 196 3 (.tmp 1)⟩,
     ⟨some 0, none, .mov (.tmp 2)⟩])
   .ret))⟩
theorem t160 : T 160 = some c160 := by kernel_rfl

/-- (*plait/outlet.Out).over$1 -/
def c162 : AFunc := ⟨26, 3, [],
 (.seq
  (.ops [⟨some 6, none, .load1 (.tmp 1)⟩,
    ⟨some 7, none, .nilchk (.tmp 6)⟩,
    ⟨some 8, none, .faddr 0 (.tmp 7)⟩,
    ⟨some 9, none, .load1 (.tmp 8)⟩,
    ⟨some 10, none, .lenV (.tmp 9)⟩,
    ⟨some 11, none, .mov (.const (.int .i64 (0)))⟩])
  (.block 0
   (.loop
    (.seq
     (.ops [⟨some 12, none, .bin .lss (.tmp 11) (.tmp 10)⟩])
     (.seq
      (.cond (.tmp 12)
       .skip
       (.exit 0))
      (.seq
       (.block 1
        (.seq
         (.ops [⟨some 13, none, .iaddrS 3 (.tmp 9) (.tmp 11)⟩,
           ⟨some 14, none, .loadN 3 (.tmp 13)⟩,
           ⟨some 5, none, .alloc 163 [.int .i64 (0), .int .i64 (0), .string ⟨⟨[]⟩⟩]⟩,
           ⟨none, none, .store 3 (.tmp 5) (.tmp 14)⟩])
         (.seq
          (.opsD [⟨some 15, none, .loadN 3 (.tmp 5)⟩,
            ⟨some 16, none, .call 133 [(.tmp 15)]⟩,
            ⟨some 17, none, .load1 (.tmp 2)⟩,
            ⟨some 18, none, .bin .gtr (.tmp 16) (.tmp 17)⟩,
            ⟨some 19, none, .mov (.tmp 18)⟩,
            ⟨some 20, some (19, false), .mov (.tmp 0)⟩,
            ⟨some 21, some (19, false), .loadN 3 (.tmp 5)⟩,
            ⟨some 22, some (19, false), .callv (.tmp 20) [(.tmp 21)]⟩,
            ⟨some 23, some (19, false), .un .not (.tmp 22)⟩,
            ⟨some 24, none, .pick (.tmp 19) (.const (.bool true)) (.tmp 23)⟩] [(2, 1), (2, 2)])
          (.cond (.tmp 24)
           .ret
           .skip))))
       (.ops [⟨some 25, none, .bin .add (.tmp 11) (.const (.int .i64 (1)))⟩,
         ⟨some 11, none, .mov (.tmp 25)⟩])))))))⟩
theorem t162 : T 162 = some c162 := by kernel_rfl

/-- plait/plaitref21.Ints -/
def c99 : AFunc := ⟨26, 2, [.inl 4],
 (.seq
  (.ops [⟨some 4, none, .mov (.const (.bool false))⟩])
  (.seq
   (.seq
    (.ops [⟨some 6, none, .mov (.tmp 0)⟩,
      ⟨some 7, none, .lenV (.tmp 6)⟩,
      ⟨some 8, none, .mov (.tmp 1)⟩,
      ⟨some 9, none, .lenV (.tmp 8)⟩,
      ⟨some 10, none, .bin .neq (.tmp 7) (.tmp 9)⟩])
    (.cond (.tmp 10)
     (.seq
      (.ops [⟨some 4, none, .mov (.const (.bool false))⟩])
      .ret)
     .skip))
   (.seq
    (.seq
     (.ops [⟨some 5, none, .mov (.const (.int .i64 (0)))⟩])
     (.block 0
      (.loop
       (.seq
        (.seq
         (.ops [⟨some 11, none, .mov (.tmp 5)⟩,
           ⟨some 12, none, .mov (.tmp 0)⟩,
           ⟨some 13, none, .lenV (.tmp 12)⟩,
           ⟨some 14, none, .bin .lss (.tmp 11) (.tmp 13)⟩])
         (.cond (.tmp 14)
          .skip
          (.exit 0)))
        (.seq
         (.block 1
          (.seq
           (.opsD [⟨some 17, none, .mov (.tmp 0)⟩,
             ⟨some 18, none, .mov (.tmp 5)⟩,
             ⟨some 19, none, .iaddrS 1 (.tmp 17) (.tmp 18)⟩,
             ⟨some 20, none, .load1 (.tmp 19)⟩,
             ⟨some 21, none, .mov (.tmp 1)⟩,
             ⟨some 22, none, .mov (.tmp 5)⟩,
             ⟨some 23, none, .iaddrS 1 (.tmp 21) (.tmp 22)⟩,
             ⟨some 24, none, .load1 (.tmp 23)⟩,
             ⟨some 25, none, .bin .neq (.tmp 20) (.tmp 24)⟩] [])
           (.cond (.tmp 25)
            (.seq
             (.ops [⟨some 4, none, .mov (.const (.bool false))⟩])
             .ret)
            .skip)))
         (.ops [⟨some 15, none, .mov (.tmp 5)⟩,
           ⟨some 16, none, .bin .add (.tmp 15) (.const (.int .i64 (1)))⟩,
           ⟨some 5, none, .mov (.tmp 16)⟩]))))))
    (.seq
     (.ops [⟨some 4, none, .mov (.const (.bool true))⟩])
     .ret))))⟩
theorem t99 : T 99 = some c99 := by kernel_rfl

end Go.Proofs.Ytidgbapgedegbaa

