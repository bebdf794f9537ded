/- The code of functions, as the framework reads it. -/
import Derived.Test.YtidgbapgedegbaaTab
import Derived.KernelRfl
namespace Go.Proofs.Ytidgbapgedegbaa
open Go Go.AS
set_option maxRecDepth 100000

/-- plait/dsum.Of -/
def c39 : AFunc := ⟨17, 4, [.inl 8],
 (.seq
  (.ops [⟨some 8, none, .mov (.const (.int .u16 (0)))⟩])
  (.seq
   (.ops [⟨some 9, none, .mov (.tmp 0)⟩,
     ⟨some 10, none, .mov (.tmp 1)⟩,
     ⟨some 11, none, .mov (.tmp 2)⟩,
     ⟨some 12, none, .mov (.tmp 3)⟩,
     ⟨some 13, none, .bslice 9 1 [.string ⟨⟨[]⟩⟩] [(0, 1, (.tmp 12))]⟩,
     ⟨some 14, none, .call 93 [(.tmp 9), (.tmp 10), (.tmp 11), (.const (.int .u16 (0))), (.tmp 13)]⟩,
     ⟨some 15, none, .call 92 [(.tmp 14)]⟩,
     ⟨some 16, none, .call 91 [(.tmp 15)]⟩,
     ⟨some 8, none, .mov (.tmp 16)⟩])
   .ret))⟩
theorem t39 : T 39 = some c39 := by kernel_rfl

/-- plait/sum.Not -/
def c91 : AFunc := ⟨5, 1, [.inl 2],
 (.seq
  (.ops [⟨some 2, none, .mov (.const (.int .u16 (0)))⟩])
  (.seq
   (.ops [⟨some 3, none, .mov (.tmp 0)⟩,
     ⟨some 4, none, .un .xor (.tmp 3)⟩,
     ⟨some 2, none, .mov (.tmp 4)⟩])
   .ret))⟩
theorem t91 : T 91 = some c91 := by kernel_rfl

/-- plait/sum.Of -/
def c92 : AFunc := ⟨14, 1, [.inl 2],
 (.seq
  (.ops [⟨some 2, none, .mov (.const (.int .u16 (0)))⟩])
  (.seq
   (.ops [⟨some 3, none, .alloc 50 [.int .u64 (0)]⟩,
     ⟨none, none, .store 1 (.tmp 3) (.const (.int .u64 (0)))⟩])
   (.seq
    (.seq
     (.ops [⟨some 5, none, .mov (.tmp 0)⟩,
       ⟨some 6, none, .call 127 [(.tmp 5)]⟩])
     (.block 0
      (.rangeFunc (.tmp 6) [7]
       (.ops [⟨some 4, none, .mov (.tmp 7)⟩])
       (.block 1
        (.ops [⟨some 8, none, .load1 (.tmp 3)⟩,
          ⟨some 9, none, .mov (.tmp 4)⟩,
          ⟨some 10, none, .cvInt .u64 (.tmp 9)⟩,
          ⟨some 11, none, .bin .add (.tmp 8) (.tmp 10)⟩,
          ⟨none, none, .store 1 (.tmp 3) (.tmp 11)⟩])))))
    (.seq
     (.ops [⟨some 12, none, .load1 (.tmp 3)⟩,
       ⟨some 13, none, .call 128 [(.tmp 12)]⟩,
       ⟨some 2, none, .mov (.tmp 13)⟩])
     .ret))))⟩
theorem t92 : T 92 = some c92 := by kernel_rfl

/-- plait/dsum.parts -/
def c93 : AFunc := ⟨25, 5, [.inl 10],
 (.seq
  (.ops [⟨some 10, none, .mov (.const (.slice none 0 0))⟩])
  (.seq
   (.ops [⟨some 12, none, .mov (.tmp 0)⟩,
     ⟨some 13, none, .call 129 [(.const (.string ⟨⟨[]⟩⟩)), (.tmp 12)]⟩,
     ⟨some 14, none, .mov (.tmp 1)⟩,
     ⟨some 15, none, .call 130 [(.const (.string ⟨⟨[]⟩⟩)), (.tmp 14)]⟩,
     ⟨some 16, none, .mov (.tmp 2)⟩,
     ⟨some 17, none, .cvInt .u16 (.tmp 16)⟩,
     ⟨some 18, none, .call 131 [(.const (.string ⟨⟨[]⟩⟩)), (.tmp 17)]⟩,
     ⟨some 19, none, .mov (.tmp 3)⟩,
     ⟨some 20, none, .call 131 [(.const (.string ⟨⟨[]⟩⟩)), (.tmp 19)]⟩,
     ⟨some 21, none, .build [.string ⟨⟨[]⟩⟩, .string ⟨⟨[]⟩⟩, .string ⟨⟨[]⟩⟩, .string ⟨⟨[]⟩⟩] [(0, 1, (.tmp 13)), (1, 1, (.tmp 15)), (2, 1, (.tmp 18)), (3, 1, (.tmp 20))]⟩,
     ⟨some 11, none, .alloc 193 [.string ⟨⟨[]⟩⟩, .string ⟨⟨[]⟩⟩, .string ⟨⟨[]⟩⟩, .string ⟨⟨[]⟩⟩]⟩,
     ⟨none, none, .store 4 (.tmp 11) (.tmp 21)⟩])
   (.seq
    (.ops [⟨some 22, none, .sliceA 4 1 (.tmp 11) none none none⟩,
      ⟨some 23, none, .mov (.tmp 4)⟩,
      ⟨some 24, none, .append 9 1 16 (.tmp 22) (.tmp 23)⟩,
      ⟨some 10, none, .mov (.tmp 24)⟩])
    .ret)))⟩
theorem t93 : T 93 = some c93 := by kernel_rfl

/-- plait/dsum.Right -/
def c121 : AFunc := ⟨19, 5, [.inl 10],
 (.seq
  (.ops [⟨some 10, none, .mov (.const (.bool false))⟩])
  (.seq
   (.ops [⟨some 11, none, .mov (.tmp 0)⟩,
     ⟨some 12, none, .mov (.tmp 1)⟩,
     ⟨some 13, none, .mov (.tmp 2)⟩,
     ⟨some 14, none, .mov (.tmp 4)⟩,
     ⟨some 15, none, .mov (.tmp 3)⟩,
     ⟨some 16, none, .bslice 9 1 [.string ⟨⟨[]⟩⟩] [(0, 1, (.tmp 15))]⟩,
     ⟨some 17, none, .call 93 [(.tmp 11), (.tmp 12), (.tmp 13), (.tmp 14), (.tmp 16)]⟩,
     ⟨some 18, none, .call 151 [(.tmp 17)]⟩,
     ⟨some 10, none, .mov (.tmp 18)⟩])
   .ret))⟩
theorem t121 : T 121 = some c121 := by kernel_rfl

/-- plait/sum.words -/
def c127 : AFunc := ⟨4, 1, [.inl 2],
 (.seq
  (.ops [⟨some 1, none, .box 72 1 (.tmp 0)⟩,
    ⟨some 2, none, .mov (.const (.nilFunc))⟩])
  (.seq
   (.ops [⟨some 3, none, .mkF 155 [] [(.tmp 1)]⟩,
     ⟨some 2, none, .mov (.tmp 3)⟩])
   .ret))⟩
theorem t127 : T 127 = some c127 := by kernel_rfl

/-- plait/sum.Fold -/
def c128 : AFunc := ⟨12, 1, [.inl 2],
 (.seq
  (.ops [⟨some 2, none, .mov (.const (.int .u16 (0)))⟩])
  (.seq
   (.block 0
    (.loop
     (.seq
      (.seq
       (.ops [⟨some 3, none, .mov (.tmp 0)⟩,
         ⟨some 4, none, .bin .gtr (.tmp 3) (.const (.int .u64 (65535)))⟩])
       (.cond (.tmp 4)
        .skip
        (.exit 0)))
      (.block 1
       (.ops [⟨some 5, none, .mov (.tmp 0)⟩,
         ⟨some 6, none, .bin .shr (.tmp 5) (.const (.int .u64 (16)))⟩,
         ⟨some 7, none, .mov (.tmp 0)⟩,
         ⟨some 8, none, .bin .and (.tmp 7) (.const (.int .u64 (65535)))⟩,
         ⟨some 9, none, .bin .add (.tmp 6) (.tmp 8)⟩,
         ⟨some 0, none, .mov (.tmp 9)⟩])))))
   (.seq
    (.ops [⟨some 10, none, .mov (.tmp 0)⟩,
      ⟨some 11, none, .cvInt .u16 (.tmp 10)⟩,
      ⟨some 2, none, .mov (.tmp 11)⟩])
    .ret)))⟩
theorem t128 : T 128 = some c128 := by kernel_rfl

/-- plait/cursor.Put64 -/
def c129 : AFunc := ⟨8, 2, [.inl 4],
 (.seq
  (.ops [⟨some 4, none, .mov (.const (.string ⟨⟨[]⟩⟩))⟩])
  (.seq
   (.ops [⟨some 5, none, .mov (.tmp 0)⟩,
     ⟨some 6, none, .mov (.tmp 1)⟩,
     ⟨some 7, none, .call 157 [(.tmp 5), (.tmp 6), (.const (.int .i64 (8)))]⟩,
     ⟨some 4, none, .mov (.tmp 7)⟩])
   .ret))⟩
theorem t129 : T 129 = some c129 := by kernel_rfl

/-- plait/cursor.Put32 -/
def c130 : AFunc := ⟨8, 2, [.inl 4],
 (.seq
  (.ops [⟨some 4, none, .mov (.const (.string ⟨⟨[]⟩⟩))⟩])
  (.seq
   (.ops [⟨some 5, none, .mov (.tmp 0)⟩,
     ⟨some 6, none, .mov (.tmp 1)⟩,
     ⟨some 7, none, .call 158 [(.tmp 5), (.tmp 6), (.const (.int .i64 (4)))]⟩,
     ⟨some 4, none, .mov (.tmp 7)⟩])
   .ret))⟩
theorem t130 : T 130 = some c130 := by kernel_rfl

/-- plait/cursor.Put16 -/
def c131 : AFunc := ⟨8, 2, [.inl 4],
 (.seq
  (.ops [⟨some 4, none, .mov (.const (.string ⟨⟨[]⟩⟩))⟩])
  (.seq
   (.ops [⟨some 5, none, .mov (.tmp 0)⟩,
     ⟨some 6, none, .mov (.tmp 1)⟩,
     ⟨some 7, none, .call 159 [(.tmp 5), (.tmp 6), (.const (.int .i64 (2)))]⟩,
     ⟨some 4, none, .mov (.tmp 7)⟩])
   .ret))⟩
theorem t131 : T 131 = some c131 := by kernel_rfl

/-- plait/sum.Whole -/
def c151 : AFunc := ⟨6, 1, [.inl 2],
 (.seq
  (.ops [⟨some 2, none, .mov (.const (.bool false))⟩])
  (.seq
   (.ops [⟨some 3, none, .mov (.tmp 0)⟩,
     ⟨some 4, none, .call 92 [(.tmp 3)]⟩,
     ⟨some 5, none, .bin .eql (.tmp 4) (.const (.int .u16 (65535)))⟩,
     ⟨some 2, none, .mov (.tmp 5)⟩])
   .ret))⟩
theorem t151 : T 151 = some c151 := by kernel_rfl

/-- plait/sum.words$1 -/
def c155 : AFunc := ⟨33, 2, [],
 (.seq
  (.ops [⟨some 2, none, .box 216 1 (.tmp 0)⟩])
  (.seq
   (.ops [⟨some 3, none, .alloc 56 [.int .u16 (0)]⟩,
     ⟨some 4, none, .alloc 4 [.bool false]⟩,
     ⟨none, none, .store 1 (.tmp 3) (.const (.int .u16 (0)))⟩,
     ⟨none, none, .store 1 (.tmp 4) (.const (.bool false))⟩])
   (.seq
    (.ops [⟨some 9, none, .mkF 156 [] [(.tmp 4), (.tmp 3), (.tmp 2)]⟩,
      ⟨some 5, none, .mov (.tmp 9)⟩])
    (.seq
     (.seq
      (.ops [⟨some 10, none, .load1 (.tmp 1)⟩,
        ⟨some 11, none, .lenV (.tmp 10)⟩,
        ⟨some 12, none, .mov (.const (.int .i64 (0)))⟩])
      (.block 0
       (.loop
        (.seq
         (.ops [⟨some 13, none, .bin .lss (.tmp 12) (.tmp 11)⟩])
         (.seq
          (.cond (.tmp 13)
           .skip
           (.exit 0))
          (.seq
           (.block 1
            (.seq
             (.ops [⟨some 14, none, .iaddrS 1 (.tmp 10) (.tmp 12)⟩,
               ⟨some 15, none, .load1 (.tmp 14)⟩,
               ⟨some 7, none, .mov (.tmp 15)⟩])
             (.seq
              (.ops [⟨some 16, none, .mov (.tmp 7)⟩,
                ⟨some 17, none, .lenS (.tmp 16)⟩,
                ⟨some 18, none, .mov (.const (.int .i64 (0)))⟩])
              (.block 2
               (.loop
                (.seq
                 (.ops [⟨some 19, none, .bin .lss (.tmp 18) (.tmp 17)⟩])
                 (.seq
                  (.cond (.tmp 19)
                   .skip
                   (.exit 2))
                  (.seq
                   (.block 3
                    (.seq
                     (.ops [⟨some 20, none, .mov (.tmp 18)⟩,
                       ⟨some 8, none, .mov (.tmp 20)⟩])
                     (.seq
                      (.ops [⟨some 21, none, .mov (.tmp 5)⟩,
                        ⟨some 22, none, .mov (.tmp 7)⟩,
                        ⟨some 23, none, .mov (.tmp 8)⟩,
                        ⟨some 24, none, .idxS (.tmp 22) (.tmp 23)⟩,
                        ⟨some 25, none, .callv (.tmp 21) [(.tmp 24)]⟩,
                        ⟨some 26, none, .un .not (.tmp 25)⟩])
                      (.cond (.tmp 26)
                       .ret
                       .skip))))
                   (.ops [⟨some 27, none, .bin .add (.tmp 18) (.const (.int .i64 (1)))⟩,
                     ⟨some 18, none, .mov (.tmp 27)⟩])))))))))
           (.ops [⟨some 28, none, .bin .add (.tmp 12) (.const (.int .i64 (1)))⟩,
             ⟨some 12, none, .mov (.tmp 28)⟩])))))))
     (.seq
      (.ops [⟨some 29, none, .load1 (.tmp 4)⟩])
      (.cond (.tmp 29)
       (.ops [⟨some 30, none, .load1 (.tmp 2)⟩,
         ⟨some 31, none, .load1 (.tmp 3)⟩,
         ⟨some 32, none, .callv (.tmp 30) [(.tmp 31)]⟩])
       .skip))))))⟩
theorem t155 : T 155 = some c155 := by kernel_rfl

/-- plait/sum.words$1$1 -/
def c156 : AFunc := ⟨18, 4, [.inl 5],
 (.seq
  (.ops [⟨some 5, none, .mov (.const (.bool false))⟩])
  (.seq
   (.seq
    (.ops [⟨some 6, none, .load1 (.tmp 1)⟩,
      ⟨some 7, none, .un .not (.tmp 6)⟩,
      ⟨none, none, .store 1 (.tmp 1) (.tmp 7)⟩])
    (.seq
     (.ops [⟨some 8, none, .load1 (.tmp 1)⟩])
     (.cond (.tmp 8)
      (.seq
       (.ops [⟨some 9, none, .mov (.tmp 0)⟩,
         ⟨some 10, none, .cvInt .u16 (.tmp 9)⟩,
         ⟨some 11, none, .bin .shl (.tmp 10) (.const (.int .u64 (8)))⟩,
         ⟨none, none, .store 1 (.tmp 2) (.tmp 11)⟩])
       (.seq
        (.ops [⟨some 5, none, .mov (.const (.bool true))⟩])
        .ret))
      .skip)))
   (.seq
    (.ops [⟨some 12, none, .load1 (.tmp 3)⟩,
      ⟨some 13, none, .load1 (.tmp 2)⟩,
      ⟨some 14, none, .mov (.tmp 0)⟩,
      ⟨some 15, none, .cvInt .u16 (.tmp 14)⟩,
      ⟨some 16, none, .bin .or (.tmp 13) (.tmp 15)⟩,
      ⟨some 17, none, .callv (.tmp 12) [(.tmp 16)]⟩,
      ⟨some 5, none, .mov (.tmp 17)⟩])
    .ret)))⟩
theorem t156 : T 156 = some c156 := by kernel_rfl

/-- plait/cursor.put[uint64] -/
def c157 : AFunc := ⟨28, 3, [.inl 6],
 (.seq
  (.ops [⟨some 6, none, .mov (.const (.string ⟨⟨[]⟩⟩))⟩])
  (.seq
   (.ops [⟨some 7, none, .alloc 232 [.int .u8 (0), .int .u8 (0), .int .u8 (0), .int .u8 (0), .int .u8 (0), .int .u8 (0), .int .u8 (0), .int .u8 (0)]⟩])
   (.seq
    (.ops [⟨some 10, none, .mov (.tmp 1)⟩,
      ⟨some 8, none, .mov (.tmp 10)⟩])
    (.seq
     (.seq
      (.ops [⟨some 11, none, .mov (.const (.int .i64 (0)))⟩])
      (.block 0
       (.loop
        (.seq
         (.ops [⟨some 12, none, .bin .lss (.tmp 11) (.const (.int .i64 (8)))⟩])
         (.seq
          (.cond (.tmp 12)
           .skip
           (.exit 0))
          (.seq
           (.block 1
            (.seq
             (.ops [⟨some 13, none, .mov (.tmp 11)⟩,
               ⟨some 9, none, .mov (.tmp 13)⟩])
             (.seq
              (.ops [⟨some 14, none, .mov (.tmp 9)⟩,
                ⟨some 15, none, .bin .sub (.const (.int .i64 (7))) (.tmp 14)⟩,
                ⟨some 16, none, .mov (.tmp 8)⟩,
                ⟨some 17, none, .cvInt .u8 (.tmp 16)⟩,
                ⟨some 18, none, .iaddrA 8 1 (.tmp 7) (.tmp 15)⟩,
                ⟨none, none, .store 1 (.tmp 18) (.tmp 17)⟩])
              (.ops [⟨some 19, none, .mov (.tmp 8)⟩,
                ⟨some 20, none, .bin .shr (.tmp 19) (.const (.int .u64 (8)))⟩,
                ⟨some 8, none, .mov (.tmp 20)⟩]))))
           (.ops [⟨some 21, none, .bin .add (.tmp 11) (.const (.int .i64 (1)))⟩,
             ⟨some 11, none, .mov (.tmp 21)⟩])))))))
     (.seq
      (.ops [⟨some 22, none, .mov (.tmp 0)⟩,
        ⟨some 23, none, .mov (.tmp 2)⟩,
        ⟨some 24, none, .bin .sub (.const (.int .i64 (8))) (.tmp 23)⟩,
        ⟨some 25, none, .sliceA 8 1 (.tmp 7) (some (.tmp 24)) none none⟩,
        ⟨some 26, none, .cvB2S (.tmp 25)⟩,
        ⟨some 27, none, .bin .add (.tmp 22) (.tmp 26)⟩,
        ⟨some 6, none, .mov (.tmp 27)⟩])
      .ret)))))⟩
theorem t157 : T 157 = some c157 := by kernel_rfl

/-- plait/cursor.put[uint32] -/
def c158 : AFunc := ⟨29, 3, [.inl 6],
 (.seq
  (.ops [⟨some 6, none, .mov (.const (.string ⟨⟨[]⟩⟩))⟩])
  (.seq
   (.ops [⟨some 7, none, .alloc 232 [.int .u8 (0), .int .u8 (0), .int .u8 (0), .int .u8 (0), .int .u8 (0), .int .u8 (0), .int .u8 (0), .int .u8 (0)]⟩])
   (.seq
    (.ops [⟨some 10, none, .mov (.tmp 1)⟩,
      ⟨some 11, none, .cvInt .u64 (.tmp 10)⟩,
      ⟨some 8, none, .mov (.tmp 11)⟩])
    (.seq
     (.seq
      (.ops [⟨some 12, none, .mov (.const (.int .i64 (0)))⟩])
      (.block 0
       (.loop
        (.seq
         (.ops [⟨some 13, none, .bin .lss (.tmp 12) (.const (.int .i64 (8)))⟩])
         (.seq
          (.cond (.tmp 13)
           .skip
           (.exit 0))
          (.seq
           (.block 1
            (.seq
             (.ops [⟨some 14, none, .mov (.tmp 12)⟩,
               ⟨some 9, none, .mov (.tmp 14)⟩])
             (.seq
              (.ops [⟨some 15, none, .mov (.tmp 9)⟩,
                ⟨some 16, none, .bin .sub (.const (.int .i64 (7))) (.tmp 15)⟩,
                ⟨some 17, none, .mov (.tmp 8)⟩,
                ⟨some 18, none, .cvInt .u8 (.tmp 17)⟩,
                ⟨some 19, none, .iaddrA 8 1 (.tmp 7) (.tmp 16)⟩,
                ⟨none, none, .store 1 (.tmp 19) (.tmp 18)⟩])
              (.ops [⟨some 20, none, .mov (.tmp 8)⟩,
                ⟨some 21, none, .bin .shr (.tmp 20) (.const (.int .u64 (8)))⟩,
                ⟨some 8, none, .mov (.tmp 21)⟩]))))
           (.ops [⟨some 22, none, .bin .add (.tmp 12) (.const (.int .i64 (1)))⟩,
             ⟨some 12, none, .mov (.tmp 22)⟩])))))))
     (.seq
      (.ops [⟨some 23, none, .mov (.tmp 0)⟩,
        ⟨some 24, none, .mov (.tmp 2)⟩,
        ⟨some 25, none, .bin .sub (.const (.int .i64 (8))) (.tmp 24)⟩,
        ⟨some 26, none, .sliceA 8 1 (.tmp 7) (some (.tmp 25)) none none⟩,
        ⟨some 27, none, .cvB2S (.tmp 26)⟩,
        ⟨some 28, none, .bin .add (.tmp 23) (.tmp 27)⟩,
        ⟨some 6, none, .mov (.tmp 28)⟩])
      .ret)))))⟩
theorem t158 : T 158 = some c158 := by kernel_rfl

/-- plait/cursor.put[uint16] -/
def c159 : AFunc := ⟨29, 3, [.inl 6],
 (.seq
  (.ops [⟨some 6, none, .mov (.const (.string ⟨⟨[]⟩⟩))⟩])
  (.seq
   (.ops [⟨some 7, none, .alloc 232 [.int .u8 (0), .int .u8 (0), .int .u8 (0), .int .u8 (0), .int .u8 (0), .int .u8 (0), .int .u8 (0), .int .u8 (0)]⟩])
   (.seq
    (.ops [⟨some 10, none, .mov (.tmp 1)⟩,
      ⟨some 11, none, .cvInt .u64 (.tmp 10)⟩,
      ⟨some 8, none, .mov (.tmp 11)⟩])
    (.seq
     (.seq
      (.ops [⟨some 12, none, .mov (.const (.int .i64 (0)))⟩])
      (.block 0
       (.loop
        (.seq
         (.ops [⟨some 13, none, .bin .lss (.tmp 12) (.const (.int .i64 (8)))⟩])
         (.seq
          (.cond (.tmp 13)
           .skip
           (.exit 0))
          (.seq
           (.block 1
            (.seq
             (.ops [⟨some 14, none, .mov (.tmp 12)⟩,
               ⟨some 9, none, .mov (.tmp 14)⟩])
             (.seq
              (.ops [⟨some 15, none, .mov (.tmp 9)⟩,
                ⟨some 16, none, .bin .sub (.const (.int .i64 (7))) (.tmp 15)⟩,
                ⟨some 17, none, .mov (.tmp 8)⟩,
                ⟨some 18, none, .cvInt .u8 (.tmp 17)⟩,
                ⟨some 19, none, .iaddrA 8 1 (.tmp 7) (.tmp 16)⟩,
                ⟨none, none, .store 1 (.tmp 19) (.tmp 18)⟩])
              (.ops [⟨some 20, none, .mov (.tmp 8)⟩,
                ⟨some 21, none, .bin .shr (.tmp 20) (.const (.int .u64 (8)))⟩,
                ⟨some 8, none, .mov (.tmp 21)⟩]))))
           (.ops [⟨some 22, none, .bin .add (.tmp 12) (.const (.int .i64 (1)))⟩,
             ⟨some 12, none, .mov (.tmp 22)⟩])))))))
     (.seq
      (.ops [⟨some 23, none, .mov (.tmp 0)⟩,
        ⟨some 24, none, .mov (.tmp 2)⟩,
        ⟨some 25, none, .bin .sub (.const (.int .i64 (8))) (.tmp 24)⟩,
        ⟨some 26, none, .sliceA 8 1 (.tmp 7) (some (.tmp 25)) none none⟩,
        ⟨some 27, none, .cvB2S (.tmp 26)⟩,
        ⟨some 28, none, .bin .add (.tmp 23) (.tmp 27)⟩,
        ⟨some 6, none, .mov (.tmp 28)⟩])
      .ret)))))⟩
theorem t159 : T 159 = some c159 := by kernel_rfl

end Go.Proofs.Ytidgbapgedegbaa

