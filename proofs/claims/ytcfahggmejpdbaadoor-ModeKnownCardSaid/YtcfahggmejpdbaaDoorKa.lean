/- The code of functions, as the framework reads it. -/
import Derived.Test.YtcfahggmejpdbaaDoorTab
import Derived.KernelRfl
namespace Go.Proofs.YtcfahggmejpdbaaDoor
open Go Go.AS
set_option maxRecDepth 100000

/-- (plait/plaitref28.Draft).Turns -/
def c10 : AFunc := ⟨73, 1, [.inl 2, .inl 3],
 (.seq
  (.ops [⟨some 1, none, .box 24 2 (.tmp 0)⟩,
    ⟨some 2, none, .mov (.const (.int .i64 (0)))⟩,
    ⟨some 3, none, .mov (.const (.slice none 0 0))⟩])
  (.seq
   (.ops [⟨some 10, none, .faddr 0 (.tmp 1)⟩,
     ⟨some 11, none, .load1 (.tmp 10)⟩,
     ⟨some 12, none, .bin .rem (.tmp 11) (.const (.int .u8 (2)))⟩,
     ⟨some 13, none, .cvInt .i64 (.tmp 12)⟩,
     ⟨some 4, none, .mov (.tmp 13)⟩])
   (.seq
    (.ops [⟨some 14, none, .mov (.tmp 4)⟩,
      ⟨some 15, none, .call 24 [(.tmp 14)]⟩,
      ⟨some 5, none, .alloc 53 [.int .i64 (0), .int .i64 (0), .bool false, .bool false, .bool false, .bool false, .bool false, .bool false, .bool false, .bool false, .bool false, .bool false, .bool false, .bool false, .bool false]⟩,
      ⟨none, none, .store 15 (.tmp 5) (.tmp 15)⟩])
    (.seq
     (.ops [⟨some 6, none, .mov (.const (.slice none 0 0))⟩])
     (.seq
      (.seq
       (.ops [⟨some 7, none, .mov (.const (.int .i64 (0)))⟩])
       (.block 0
        (.loop
         (.seq
          (.seq
           (.ops [⟨some 16, none, .mov (.tmp 7)⟩,
             ⟨some 17, none, .faddr 1 (.tmp 1)⟩,
             ⟨some 18, none, .load1 (.tmp 17)⟩,
             ⟨some 19, none, .lenV (.tmp 18)⟩,
             ⟨some 20, none, .bin .lss (.tmp 16) (.tmp 19)⟩,
             ⟨some 21, none, .mov (.tmp 20)⟩,
             ⟨some 22, some (21, true), .mov (.tmp 7)⟩,
             ⟨some 23, some (21, true), .bin .lss (.tmp 22) (.const (.int .i64 (40)))⟩,
             ⟨some 24, none, .pick (.tmp 21) (.tmp 23) (.const (.bool false))⟩])
           (.cond (.tmp 24)
            .skip
            (.exit 0)))
          (.seq
           (.block 1
            (.seq
             (.ops [⟨some 27, none, .loadN 15 (.tmp 5)⟩,
               ⟨some 28, none, .call 25 [(.tmp 27)]⟩,
               ⟨some 8, none, .mov (.tmp 28)⟩])
             (.seq
              (.seq
               (.ops [⟨some 29, none, .mov (.tmp 8)⟩,
                 ⟨some 30, none, .lenV (.tmp 29)⟩,
                 ⟨some 31, none, .bin .eql (.tmp 30) (.const (.int .i64 (0)))⟩])
               (.cond (.tmp 31)
                (.seq
                 (.ops [⟨some 32, none, .mov (.tmp 4)⟩,
                   ⟨some 33, none, .mov (.tmp 6)⟩,
                   ⟨some 2, none, .mov (.tmp 32)⟩,
                   ⟨some 3, none, .mov (.tmp 33)⟩])
                 .ret)
                .skip))
              (.seq
               (.ops [⟨some 34, none, .mov (.tmp 8)⟩,
                 ⟨some 35, none, .faddr 1 (.tmp 1)⟩,
                 ⟨some 36, none, .load1 (.tmp 35)⟩,
                 ⟨some 37, none, .mov (.tmp 7)⟩,
                 ⟨some 38, none, .iaddrS 1 (.tmp 36) (.tmp 37)⟩,
                 ⟨some 39, none, .load1 (.tmp 38)⟩,
                 ⟨some 40, none, .cvInt .i64 (.tmp 39)⟩,
                 ⟨some 41, none, .mov (.tmp 8)⟩,
                 ⟨some 42, none, .lenV (.tmp 41)⟩,
                 ⟨some 43, none, .bin .rem (.tmp 40) (.tmp 42)⟩,
                 ⟨some 44, none, .iaddrS 3 (.tmp 34) (.tmp 43)⟩,
                 ⟨some 45, none, .loadN 3 (.tmp 44)⟩,
                 ⟨some 9, none, .alloc 31 [.int .i64 (0), .int .i64 (0), .int .i64 (0)]⟩,
                 ⟨none, none, .store 3 (.tmp 9) (.tmp 45)⟩])
               (.seq
                (.seq
                 (.ops [⟨some 46, none, .faddr 2 (.tmp 9)⟩,
                   ⟨some 47, none, .load1 (.tmp 46)⟩,
                   ⟨some 48, none, .bin .geq (.tmp 47) (.const (.int .i64 (4)))⟩,
                   ⟨some 49, none, .mov (.tmp 48)⟩,
                   ⟨some 50, some (49, true), .faddr 1 (.tmp 1)⟩,
                   ⟨some 51, some (49, true), .load1 (.tmp 50)⟩,
                   ⟨some 52, some (49, true), .mov (.tmp 7)⟩,
                   ⟨some 53, some (49, true), .iaddrS 1 (.tmp 51) (.tmp 52)⟩,
                   ⟨some 54, some (49, true), .load1 (.tmp 53)⟩,
                   ⟨some 55, some (49, true), .bin .rem (.tmp 54) (.const (.int .u8 (4)))⟩,
                   ⟨some 56, some (49, true), .bin .gtr (.tmp 55) (.const (.int .u8 (0)))⟩,
                   ⟨some 57, none, .pick (.tmp 49) (.tmp 56) (.const (.bool false))⟩])
                 (.cond (.tmp 57)
                  (.ops [⟨some 58, none, .mov (.tmp 8)⟩,
                    ⟨some 59, none, .iaddrS 3 (.tmp 58) (.const (.int .i64 (0)))⟩,
                    ⟨some 60, none, .loadN 3 (.tmp 59)⟩,
                    ⟨none, none, .store 3 (.tmp 9) (.tmp 60)⟩])
                  .skip))
                (.seq
                 (.ops [⟨some 62, none, .loadN 15 (.tmp 5)⟩,
                   ⟨some 63, none, .loadN 3 (.tmp 9)⟩,
                   ⟨some 64, none, .call 26 [(.tmp 62), (.tmp 63)]⟩,
                   ⟨some 61, none, .mov (.tmp 64)⟩,
                   ⟨some 65, none, .ext (.tmp 61) 0⟩,
                   ⟨some 66, none, .ext (.tmp 61) 1⟩,
                   ⟨none, none, .store 15 (.tmp 5) (.tmp 65)⟩])
                 (.ops [⟨some 67, none, .mov (.tmp 6)⟩,
                   ⟨some 68, none, .loadN 3 (.tmp 9)⟩,
                   ⟨some 69, none, .bslice 31 1 [.int .i64 (0), .int .i64 (0), .int .i64 (0)] [(0, 3, (.tmp 68))]⟩,
                   ⟨some 70, none, .append 31 3 24 (.tmp 67) (.tmp 69)⟩,
                   ⟨some 6, none, .mov (.tmp 70)⟩])))))))
           (.ops [⟨some 25, none, .mov (.tmp 7)⟩,
             ⟨some 26, none, .bin .add (.tmp 25) (.const (.int .i64 (1)))⟩,
             ⟨some 7, none, .mov (.tmp 26)⟩]))))))
      (.seq
       (.ops [⟨some 71, none, .mov (.tmp 4)⟩,
         ⟨some 72, none, .mov (.tmp 6)⟩,
         ⟨some 2, none, .mov (.tmp 71)⟩,
         ⟨some 3, none, .mov (.tmp 72)⟩])
       .ret))))))⟩
theorem t10 : T 10 = some c10 := by kernel_rfl

/-- plait/mode.Last -/
def c11 : AFunc := ⟨20, 2, [.inr (4, 15, true), .inl 5],
 (.seq
  (.ops [⟨some 4, none, .alloc 34 [.int .i64 (0), .int .i64 (0), .bool false, .bool false, .bool false, .bool false, .bool false, .bool false, .bool false, .bool false, .bool false, .bool false, .bool false, .bool false, .bool false]⟩,
    ⟨some 5, none, .mov (.const (.bool false))⟩])
  (.seq
   (.ops [⟨some 10, none, .mov (.tmp 0)⟩,
     ⟨some 11, none, .mov (.tmp 1)⟩,
     ⟨some 12, none, .call 27 [(.tmp 10), (.tmp 11)]⟩,
     ⟨some 9, none, .mov (.tmp 12)⟩,
     ⟨some 13, none, .ext (.tmp 9) 0⟩,
     ⟨some 14, none, .ext (.tmp 9) 1⟩,
     ⟨some 6, none, .alloc 34 [.int .i64 (0), .int .i64 (0), .bool false, .bool false, .bool false, .bool false, .bool false, .bool false, .bool false, .bool false, .bool false, .bool false, .bool false, .bool false, .bool false]⟩,
     ⟨none, none, .store 15 (.tmp 6) (.tmp 13)⟩,
     ⟨some 7, none, .mov (.tmp 14)⟩])
   (.seq
    (.ops [⟨some 8, none, .alloc 70 [.pointer none]⟩])
    (.seq
     (.opsD [⟨some 15, none, .loadN 15 (.tmp 6)⟩,
       ⟨some 16, none, .mov (.tmp 7)⟩,
       ⟨some 17, none, .mkI 72 (.tmp 8)⟩,
       ⟨some 18, none, .call 28 [(.tmp 16), (.tmp 17)]⟩,
       ⟨some 19, none, .un .not (.tmp 18)⟩,
       ⟨none, none, .store 15 (.tmp 4) (.tmp 15)⟩,
       ⟨some 5, none, .mov (.tmp 19)⟩] [(0, 3), (0, 4)])
     .ret))))⟩
theorem t11 : T 11 = some c11 := by kernel_rfl

/-- plait/mode.Begin -/
def c12 : AFunc := ⟨5, 1, [.inr (2, 15, true)],
 (.seq
  (.ops [⟨some 2, none, .alloc 34 [.int .i64 (0), .int .i64 (0), .bool false, .bool false, .bool false, .bool false, .bool false, .bool false, .bool false, .bool false, .bool false, .bool false, .bool false, .bool false, .bool false]⟩])
  (.seq
   (.ops [⟨some 3, none, .mov (.tmp 0)⟩,
     ⟨some 4, none, .build [.int .i64 (0), .int .i64 (0), .bool false, .bool false, .bool false, .bool false, .bool false, .bool false, .bool false, .bool false, .bool false, .bool false, .bool false, .bool false, .bool false] [(0, 1, (.tmp 3)), (1, 1, (.const (.int .i64 (0)))), (2, 1, (.const (.bool true)))]⟩,
     ⟨none, none, .store 15 (.tmp 2) (.tmp 4)⟩])
   .ret))⟩
theorem t12 : T 12 = some c12 := by kernel_rfl

/-- plait/mode.Next -/
def c13 : AFunc := ⟨57, 2, [.inr (4, 15, true), .inl 5],
 (.seq
  (.ops [⟨some 2, none, .box 34 15 (.tmp 0)⟩,
    ⟨some 3, none, .box 31 3 (.tmp 1)⟩,
    ⟨some 4, none, .alloc 34 [.int .i64 (0), .int .i64 (0), .bool false, .bool false, .bool false, .bool false, .bool false, .bool false, .bool false, .bool false, .bool false, .bool false, .bool false, .bool false, .bool false]⟩,
    ⟨some 5, none, .mov (.const (.bool false))⟩])
  (.seq
   (.seq
    (.ops [⟨some 7, none, .faddr 0 (.tmp 3)⟩,
      ⟨some 8, none, .load1 (.tmp 7)⟩,
      ⟨some 9, none, .bin .lss (.tmp 8) (.const (.int .i64 (0)))⟩,
      ⟨some 10, none, .mov (.tmp 9)⟩,
      ⟨some 11, some (10, false), .faddr 0 (.tmp 3)⟩,
      ⟨some 12, some (10, false), .load1 (.tmp 11)⟩,
      ⟨some 13, some (10, false), .bin .geq (.tmp 12) (.const (.int .i64 (18)))⟩,
      ⟨some 14, none, .pick (.tmp 10) (.const (.bool true)) (.tmp 13)⟩,
      ⟨some 15, none, .mov (.tmp 14)⟩,
      ⟨some 16, some (15, false), .faddr 1 (.tmp 3)⟩,
      ⟨some 17, some (15, false), .load1 (.tmp 16)⟩,
      ⟨some 18, some (15, false), .bin .lss (.tmp 17) (.const (.int .i64 (0)))⟩,
      ⟨some 19, none, .pick (.tmp 15) (.const (.bool true)) (.tmp 18)⟩,
      ⟨some 20, none, .mov (.tmp 19)⟩,
      ⟨some 21, some (20, false), .faddr 1 (.tmp 3)⟩,
      ⟨some 22, some (20, false), .load1 (.tmp 21)⟩,
      ⟨some 23, some (20, false), .bin .geq (.tmp 22) (.const (.int .i64 (4)))⟩,
      ⟨some 24, none, .pick (.tmp 20) (.const (.bool true)) (.tmp 23)⟩])
    (.cond (.tmp 24)
     (.seq
      (.ops [⟨some 25, none, .loadN 15 (.tmp 2)⟩,
        ⟨none, none, .store 15 (.tmp 4) (.tmp 25)⟩,
        ⟨some 5, none, .mov (.const (.bool false))⟩])
      .ret)
     .skip))
   (.seq
    (.opsD [⟨some 26, none, .call 29 []⟩,
      ⟨some 27, none, .faddr 0 (.tmp 3)⟩,
      ⟨some 28, none, .load1 (.tmp 27)⟩,
      ⟨some 29, none, .idxN 18 3 (.tmp 26) (.tmp 28)⟩,
      ⟨some 6, none, .alloc 76 [.nilFunc, .int .i64 (0), .nilFunc]⟩,
      ⟨none, none, .store 3 (.tmp 6) (.tmp 29)⟩] [(2, 0), (2, 1)])
    (.seq
     (.seq
      (.ops [⟨some 30, none, .faddr 2 (.tmp 3)⟩,
        ⟨some 31, none, .load1 (.tmp 30)⟩,
        ⟨some 32, none, .faddr 1 (.tmp 6)⟩,
        ⟨some 33, none, .load1 (.tmp 32)⟩,
        ⟨some 34, none, .bin .neq (.tmp 31) (.tmp 33)⟩,
        ⟨some 35, none, .mov (.tmp 34)⟩,
        ⟨some 36, some (35, false), .faddr 0 (.tmp 6)⟩,
        ⟨some 37, some (35, false), .load1 (.tmp 36)⟩,
        ⟨some 38, some (35, false), .loadN 15 (.tmp 2)⟩,
        ⟨some 39, some (35, false), .faddr 1 (.tmp 3)⟩,
        ⟨some 40, some (35, false), .load1 (.tmp 39)⟩,
        ⟨some 41, some (35, false), .callv (.tmp 37) [(.tmp 38), (.tmp 40)]⟩,
        ⟨some 42, some (35, false), .un .not (.tmp 41)⟩,
        ⟨some 43, none, .pick (.tmp 35) (.const (.bool true)) (.tmp 42)⟩])
      (.cond (.tmp 43)
       (.seq
        (.ops [⟨some 44, none, .loadN 15 (.tmp 2)⟩,
          ⟨none, none, .store 15 (.tmp 4) (.tmp 44)⟩,
          ⟨some 5, none, .mov (.const (.bool false))⟩])
        .ret)
       .skip))
     (.seq
      (.ops [⟨some 45, none, .faddr 1 (.tmp 6)⟩,
        ⟨some 46, none, .load1 (.tmp 45)⟩,
        ⟨some 47, none, .faddr 1 (.tmp 2)⟩,
        ⟨none, none, .store 1 (.tmp 47) (.tmp 46)⟩])
      (.seq
       (.seq
        (.ops [⟨some 48, none, .faddr 2 (.tmp 6)⟩,
          ⟨some 49, none, .load1 (.tmp 48)⟩,
          ⟨some 50, none, .eq true true .func (.tmp 49) (.const (.nilFunc))⟩])
        (.cond (.tmp 50)
         (.ops [⟨some 51, none, .faddr 2 (.tmp 6)⟩,
           ⟨some 52, none, .load1 (.tmp 51)⟩,
           ⟨some 53, none, .faddr 1 (.tmp 3)⟩,
           ⟨some 54, none, .load1 (.tmp 53)⟩,
           ⟨some 55, none, .callv (.tmp 52) [(.tmp 2), (.tmp 54)]⟩])
         .skip))
       (.seq
        (.ops [⟨some 56, none, .loadN 15 (.tmp 2)⟩,
          ⟨none, none, .store 15 (.tmp 4) (.tmp 56)⟩,
          ⟨some 5, none, .mov (.const (.bool true))⟩])
        .ret)))))))⟩
theorem t13 : T 13 = some c13 := by kernel_rfl

/-- plait/mode.Check -/
def c14 : AFunc := ⟨14, 2, [.inl 4],
 (.seq
  (.ops [⟨some 4, none, .mov (.const (.nilIface))⟩])
  (.seq
   (.ops [⟨some 8, none, .mov (.tmp 0)⟩,
     ⟨some 9, none, .mov (.tmp 1)⟩,
     ⟨some 10, none, .call 27 [(.tmp 8), (.tmp 9)]⟩,
     ⟨some 7, none, .mov (.tmp 10)⟩,
     ⟨some 11, none, .ext (.tmp 7) 0⟩,
     ⟨some 12, none, .ext (.tmp 7) 1⟩,
     ⟨some 5, none, .alloc 34 [.int .i64 (0), .int .i64 (0), .bool false, .bool false, .bool false, .bool false, .bool false, .bool false, .bool false, .bool false, .bool false, .bool false, .bool false, .bool false, .bool false]⟩,
     ⟨none, none, .store 15 (.tmp 5) (.tmp 11)⟩,
     ⟨some 6, none, .mov (.tmp 12)⟩])
   (.seq
    (.ops [⟨some 13, none, .mov (.tmp 6)⟩,
      ⟨some 4, none, .mov (.tmp 13)⟩])
    .ret)))⟩
theorem t14 : T 14 = some c14 := by kernel_rfl

/-- plait/plaitlaw28.wrong -/
def c15 : AFunc := ⟨32, 3, [.inl 6],
 (.seq
  (.ops [⟨some 6, none, .mov (.const (.bool false))⟩])
  (.seq
   (.ops [⟨some 10, none, .mov (.tmp 0)⟩,
     ⟨some 11, none, .mov (.tmp 1)⟩,
     ⟨some 12, none, .call 14 [(.tmp 10), (.tmp 11)]⟩,
     ⟨some 7, none, .mov (.tmp 12)⟩])
   (.seq
    (.ops [⟨some 14, none, .mov (.tmp 0)⟩,
      ⟨some 15, none, .mov (.tmp 1)⟩,
      ⟨some 16, none, .call 11 [(.tmp 14), (.tmp 15)]⟩,
      ⟨some 13, none, .mov (.tmp 16)⟩,
      ⟨some 17, none, .ext (.tmp 13) 0⟩,
      ⟨some 18, none, .ext (.tmp 13) 1⟩,
      ⟨some 8, none, .alloc 34 [.int .i64 (0), .int .i64 (0), .bool false, .bool false, .bool false, .bool false, .bool false, .bool false, .bool false, .bool false, .bool false, .bool false, .bool false, .bool false, .bool false]⟩,
      ⟨none, none, .store 15 (.tmp 8) (.tmp 17)⟩,
      ⟨some 9, none, .mov (.tmp 18)⟩])
    (.seq
     (.ops [⟨some 19, none, .mov (.tmp 7)⟩,
       ⟨some 20, none, .eq true true .iface (.tmp 19) (.const (.nilIface))⟩,
       ⟨some 21, none, .mov (.tmp 20)⟩,
       ⟨some 22, some (21, true), .mov (.tmp 7)⟩,
       ⟨some 23, some (21, true), .call 19 [(.tmp 22)]⟩,
       ⟨some 24, some (21, true), .mov (.tmp 2)⟩,
       ⟨some 25, some (21, true), .build [.int .i64 (0), .int .i64 (0)] [(0, 1, (.const (.int .i64 (15)))), (1, 1, (.tmp 24))]⟩,
       ⟨some 26, some (21, true), .eqF false [(0, .i), (1, .i)] (.tmp 23) (.tmp 25)⟩,
       ⟨some 27, none, .pick (.tmp 21) (.tmp 26) (.const (.bool false))⟩,
       ⟨some 28, none, .mov (.tmp 27)⟩,
       ⟨some 29, some (28, true), .mov (.tmp 9)⟩,
       ⟨some 30, some (28, true), .un .not (.tmp 29)⟩,
       ⟨some 31, none, .pick (.tmp 28) (.tmp 30) (.const (.bool false))⟩,
       ⟨some 6, none, .mov (.tmp 31)⟩])
     .ret))))⟩
theorem t15 : T 15 = some c15 := by kernel_rfl

/-- plait/plaitlaw28.turn -/
def c16 : AFunc := ⟨11, 3, [.inr (6, 3, true)],
 (.seq
  (.ops [⟨some 6, none, .alloc 31 [.int .i64 (0), .int .i64 (0), .int .i64 (0)]⟩])
  (.seq
   (.ops [⟨some 7, none, .mov (.tmp 0)⟩,
     ⟨some 8, none, .mov (.tmp 1)⟩,
     ⟨some 9, none, .mov (.tmp 2)⟩,
     ⟨some 10, none, .build [.int .i64 (0), .int .i64 (0), .int .i64 (0)] [(0, 1, (.tmp 7)), (1, 1, (.tmp 8)), (2, 1, (.tmp 9))]⟩,
     ⟨none, none, .store 3 (.tmp 6) (.tmp 10)⟩])
   .ret))⟩
theorem t16 : T 16 = some c16 := by kernel_rfl

/-- plait/plaitref28.Check -/
def c17 : AFunc := ⟨27, 2, [.inr (4, 2, true)],
 (.seq
  (.ops [⟨some 4, none, .alloc 51 [.int .i64 (0), .int .i64 (0)]⟩])
  (.seq
   (.seq
    (.ops [⟨some 8, none, .mov (.tmp 0)⟩,
      ⟨some 9, none, .bin .neq (.tmp 8) (.const (.int .i64 (0)))⟩,
      ⟨some 10, none, .mov (.tmp 9)⟩,
      ⟨some 11, some (10, true), .mov (.tmp 0)⟩,
      ⟨some 12, some (10, true), .bin .neq (.tmp 11) (.const (.int .i64 (1)))⟩,
      ⟨some 13, none, .pick (.tmp 10) (.tmp 12) (.const (.bool false))⟩])
    (.cond (.tmp 13)
     (.seq
      (.ops [⟨some 14, none, .build [.int .i64 (0), .int .i64 (0)] [(0, 1, (.const (.int .i64 (2))))]⟩,
        ⟨none, none, .store 2 (.tmp 4) (.tmp 14)⟩])
      .ret)
     .skip))
   (.seq
    (.ops [⟨some 16, none, .mov (.tmp 0)⟩,
      ⟨some 17, none, .mov (.tmp 1)⟩,
      ⟨some 18, none, .call 18 [(.tmp 16), (.tmp 17)]⟩,
      ⟨some 15, none, .mov (.tmp 18)⟩,
      ⟨some 19, none, .ext (.tmp 15) 0⟩,
      ⟨some 20, none, .ext (.tmp 15) 1⟩,
      ⟨some 21, none, .ext (.tmp 15) 2⟩,
      ⟨some 5, none, .alloc 53 [.int .i64 (0), .int .i64 (0), .bool false, .bool false, .bool false, .bool false, .bool false, .bool false, .bool false, .bool false, .bool false, .bool false, .bool false, .bool false, .bool false]⟩,
      ⟨none, none, .store 15 (.tmp 5) (.tmp 19)⟩,
      ⟨some 6, none, .mov (.tmp 20)⟩,
      ⟨some 7, none, .mov (.tmp 21)⟩])
    (.seq
     (.seq
      (.ops [⟨some 22, none, .mov (.tmp 7)⟩,
        ⟨some 23, none, .un .not (.tmp 22)⟩])
      (.cond (.tmp 23)
       (.seq
        (.ops [⟨some 24, none, .mov (.tmp 6)⟩,
          ⟨some 25, none, .build [.int .i64 (0), .int .i64 (0)] [(0, 1, (.const (.int .i64 (15)))), (1, 1, (.tmp 24))]⟩,
          ⟨none, none, .store 2 (.tmp 4) (.tmp 25)⟩])
        .ret)
       .skip))
     (.seq
      (.ops [⟨some 26, none, .build [.int .i64 (0), .int .i64 (0)] []⟩,
        ⟨none, none, .store 2 (.tmp 4) (.tmp 26)⟩])
      .ret)))))⟩
theorem t17 : T 17 = some c17 := by kernel_rfl

/-- plait/plaitref28.Last -/
def c18 : AFunc := ⟨44, 2, [.inr (4, 15, true), .inl 5, .inl 6],
 (.seq
  (.ops [⟨some 4, none, .alloc 53 [.int .i64 (0), .int .i64 (0), .bool false, .bool false, .bool false, .bool false, .bool false, .bool false, .bool false, .bool false, .bool false, .bool false, .bool false, .bool false, .bool false]⟩,
    ⟨some 5, none, .mov (.const (.int .i64 (0)))⟩,
    ⟨some 6, none, .mov (.const (.bool false))⟩])
  (.seq
   (.ops [⟨some 11, none, .mov (.tmp 0)⟩,
     ⟨some 12, none, .call 24 [(.tmp 11)]⟩,
     ⟨some 7, none, .alloc 53 [.int .i64 (0), .int .i64 (0), .bool false, .bool false, .bool false, .bool false, .bool false, .bool false, .bool false, .bool false, .bool false, .bool false, .bool false, .bool false, .bool false]⟩,
     ⟨none, none, .store 15 (.tmp 7) (.tmp 12)⟩])
   (.seq
    (.seq
     (.ops [⟨some 13, none, .mov (.tmp 0)⟩,
       ⟨some 14, none, .bin .neq (.tmp 13) (.const (.int .i64 (0)))⟩,
       ⟨some 15, none, .mov (.tmp 14)⟩,
       ⟨some 16, some (15, true), .mov (.tmp 0)⟩,
       ⟨some 17, some (15, true), .bin .neq (.tmp 16) (.const (.int .i64 (1)))⟩,
       ⟨some 18, none, .pick (.tmp 15) (.tmp 17) (.const (.bool false))⟩])
     (.cond (.tmp 18)
      (.seq
       (.ops [⟨some 19, none, .loadN 15 (.tmp 7)⟩,
         ⟨none, none, .store 15 (.tmp 4) (.tmp 19)⟩,
         ⟨some 5, none, .mov (.const (.int .i64 (0)))⟩,
         ⟨some 6, none, .mov (.const (.bool false))⟩])
       .ret)
      .skip))
    (.seq
     (.seq
      (.ops [⟨some 8, none, .mov (.const (.int .i64 (0)))⟩])
      (.block 0
       (.loop
        (.seq
         (.seq
          (.ops [⟨some 20, none, .mov (.tmp 8)⟩,
            ⟨some 21, none, .mov (.tmp 1)⟩,
            ⟨some 22, none, .lenV (.tmp 21)⟩,
            ⟨some 23, none, .bin .lss (.tmp 20) (.tmp 22)⟩])
          (.cond (.tmp 23)
           .skip
           (.exit 0)))
         (.seq
          (.block 1
           (.seq
            (.opsD [⟨some 27, none, .loadN 15 (.tmp 7)⟩,
              ⟨some 28, none, .mov (.tmp 1)⟩,
              ⟨some 29, none, .mov (.tmp 8)⟩,
              ⟨some 30, none, .iaddrS 3 (.tmp 28) (.tmp 29)⟩,
              ⟨some 31, none, .loadN 3 (.tmp 30)⟩,
              ⟨some 32, none, .call 26 [(.tmp 27), (.tmp 31)]⟩,
              ⟨some 26, none, .mov (.tmp 32)⟩,
              ⟨some 33, none, .ext (.tmp 26) 0⟩,
              ⟨some 34, none, .ext (.tmp 26) 1⟩,
              ⟨some 9, none, .alloc 53 [.int .i64 (0), .int .i64 (0), .bool false, .bool false, .bool false, .bool false, .bool false, .bool false, .bool false, .bool false, .bool false, .bool false, .bool false, .bool false, .bool false]⟩,
              ⟨none, none, .store 15 (.tmp 9) (.tmp 33)⟩,
              ⟨some 10, none, .mov (.tmp 34)⟩] [])
            (.seq
             (.seq
              (.ops [⟨some 35, none, .mov (.tmp 10)⟩,
                ⟨some 36, none, .un .not (.tmp 35)⟩])
              (.cond (.tmp 36)
               (.seq
                (.ops [⟨some 37, none, .mov (.tmp 0)⟩,
                  ⟨some 38, none, .call 24 [(.tmp 37)]⟩,
                  ⟨some 39, none, .mov (.tmp 8)⟩,
                  ⟨none, none, .store 15 (.tmp 4) (.tmp 38)⟩,
                  ⟨some 5, none, .mov (.tmp 39)⟩,
                  ⟨some 6, none, .mov (.const (.bool false))⟩])
                .ret)
               .skip))
             (.ops [⟨some 40, none, .loadN 15 (.tmp 9)⟩,
               ⟨none, none, .store 15 (.tmp 7) (.tmp 40)⟩]))))
          (.ops [⟨some 24, none, .mov (.tmp 8)⟩,
            ⟨some 25, none, .bin .add (.tmp 24) (.const (.int .i64 (1)))⟩,
            ⟨some 8, none, .mov (.tmp 25)⟩]))))))
     (.seq
      (.ops [⟨some 41, none, .loadN 15 (.tmp 7)⟩,
        ⟨some 42, none, .mov (.tmp 1)⟩,
        ⟨some 43, none, .lenV (.tmp 42)⟩,
        ⟨none, none, .store 15 (.tmp 4) (.tmp 41)⟩,
        ⟨some 5, none, .mov (.tmp 43)⟩,
        ⟨some 6, none, .mov (.const (.bool true))⟩])
      .ret)))))⟩
theorem t18 : T 18 = some c18 := by kernel_rfl

/-- plait/api.Told -/
def c19 : AFunc := ⟨21, 1, [.inr (2, 2, true)],
 (.seq
  (.ops [⟨some 2, none, .alloc 51 [.int .i64 (0), .int .i64 (0)]⟩])
  (.seq
   (.ops [⟨some 3, none, .alloc 68 [.pointer none]⟩])
   (.seq
    (.seq
     (.ops [⟨some 5, none, .mov (.tmp 0)⟩,
       ⟨some 6, none, .mkI 80 (.tmp 3)⟩,
       ⟨some 7, none, .call 28 [(.tmp 5), (.tmp 6)]⟩,
       ⟨some 8, none, .mov (.tmp 7)⟩,
       ⟨some 9, some (8, true), .load1 (.tmp 3)⟩,
       ⟨some 10, some (8, true), .eq true true .ptr (.tmp 9) (.const (.pointer none))⟩,
       ⟨some 11, none, .pick (.tmp 8) (.tmp 10) (.const (.bool false))⟩])
     (.cond (.tmp 11)
      (.seq
       (.ops [⟨some 12, none, .load1 (.tmp 3)⟩,
         ⟨some 13, none, .nilchk (.tmp 12)⟩,
         ⟨some 14, none, .loadN 2 (.tmp 13)⟩,
         ⟨none, none, .store 2 (.tmp 2) (.tmp 14)⟩])
       .ret)
      .skip))
    (.seq
     (.ops [⟨some 4, none, .alloc 49 [.int .i64 (0)]⟩])
     (.seq
      (.seq
       (.ops [⟨some 15, none, .mov (.tmp 0)⟩,
         ⟨some 16, none, .mkI 81 (.tmp 4)⟩,
         ⟨some 17, none, .call 28 [(.tmp 15), (.tmp 16)]⟩])
       (.cond (.tmp 17)
        (.seq
         (.ops [⟨some 18, none, .load1 (.tmp 4)⟩,
           ⟨some 19, none, .build [.int .i64 (0), .int .i64 (0)] [(0, 1, (.tmp 18))]⟩,
           ⟨none, none, .store 2 (.tmp 2) (.tmp 19)⟩])
         .ret)
        .skip))
      (.seq
       (.ops [⟨some 20, none, .build [.int .i64 (0), .int .i64 (0)] []⟩,
         ⟨none, none, .store 2 (.tmp 2) (.tmp 20)⟩])
       .ret))))))⟩
theorem t19 : T 19 = some c19 := by kernel_rfl

/-- plait/plaitlaw28.both -/
def c20 : AFunc := ⟨16, 1, [.inr (2, 15, true)],
 (.seq
  (.ops [⟨some 1, none, .box 34 15 (.tmp 0)⟩,
    ⟨some 2, none, .alloc 53 [.int .i64 (0), .int .i64 (0), .bool false, .bool false, .bool false, .bool false, .bool false, .bool false, .bool false, .bool false, .bool false, .bool false, .bool false, .bool false, .bool false]⟩])
  (.seq
   (.ops [⟨some 3, none, .faddr 0 (.tmp 1)⟩,
     ⟨some 4, none, .load1 (.tmp 3)⟩,
     ⟨some 5, none, .faddr 1 (.tmp 1)⟩,
     ⟨some 6, none, .load1 (.tmp 5)⟩,
     ⟨some 7, none, .faddr 2 (.tmp 1)⟩,
     ⟨some 8, none, .load1 (.tmp 7)⟩,
     ⟨some 9, none, .faddr 3 (.tmp 1)⟩,
     ⟨some 10, none, .loadN 4 (.tmp 9)⟩,
     ⟨some 11, none, .faddr 7 (.tmp 1)⟩,
     ⟨some 12, none, .loadN 4 (.tmp 11)⟩,
     ⟨some 13, none, .faddr 11 (.tmp 1)⟩,
     ⟨some 14, none, .loadN 4 (.tmp 13)⟩,
     ⟨some 15, none, .build [.int .i64 (0), .int .i64 (0), .bool false, .bool false, .bool false, .bool false, .bool false, .bool false, .bool false, .bool false, .bool false, .bool false, .bool false, .bool false, .bool false] [(0, 1, (.tmp 4)), (1, 1, (.tmp 6)), (2, 1, (.tmp 8)), (3, 4, (.tmp 10)), (7, 4, (.tmp 12)), (11, 4, (.tmp 14))]⟩,
     ⟨none, none, .store 15 (.tmp 2) (.tmp 15)⟩])
   .ret))⟩
theorem t20 : T 20 = some c20 := by kernel_rfl

/-- plait/mode.Falls -/
def c21 : AFunc := ⟨24, 1, [.inl 2],
 (.seq
  (.ops [⟨some 2, none, .mov (.const (.int .i64 (0)))⟩])
  (.seq
   (.seq
    (.ops [⟨some 5, none, .mov (.tmp 0)⟩,
      ⟨some 6, none, .lenV (.tmp 5)⟩,
      ⟨some 7, none, .mov (.const (.int .i64 (0)))⟩])
    (.block 0
     (.loop
      (.seq
       (.ops [⟨some 8, none, .bin .lss (.tmp 7) (.tmp 6)⟩])
       (.seq
        (.cond (.tmp 8)
         .skip
         (.exit 0))
        (.seq
         (.block 1
          (.seq
           (.ops [⟨some 9, none, .mov (.tmp 7)⟩,
             ⟨some 10, none, .iaddrS 3 (.tmp 5) (.tmp 7)⟩,
             ⟨some 11, none, .loadN 3 (.tmp 10)⟩,
             ⟨some 4, none, .alloc 31 [.int .i64 (0), .int .i64 (0), .int .i64 (0)]⟩,
             ⟨some 3, none, .mov (.tmp 9)⟩,
             ⟨none, none, .store 3 (.tmp 4) (.tmp 11)⟩])
           (.seq
            (.ops [⟨some 12, none, .faddr 0 (.tmp 4)⟩,
              ⟨some 13, none, .load1 (.tmp 12)⟩])
            (.block 2
             (.seq
              (.seq
               (.ops [⟨some 15, none, .bin .eql (.tmp 13) (.const (.int .i64 (2)))⟩,
                 ⟨some 14, none, .mov (.tmp 15)⟩])
               (.cond (.tmp 14)
                .skip
                (.seq
                 (.ops [⟨some 16, none, .bin .eql (.tmp 13) (.const (.int .i64 (4)))⟩,
                   ⟨some 14, none, .mov (.tmp 16)⟩])
                 (.cond (.tmp 14)
                  .skip
                  (.seq
                   (.ops [⟨some 17, none, .bin .eql (.tmp 13) (.const (.int .i64 (6)))⟩,
                     ⟨some 14, none, .mov (.tmp 17)⟩])
                   (.cond (.tmp 14)
                    .skip
                    (.seq
                     (.ops [⟨some 18, none, .bin .eql (.tmp 13) (.const (.int .i64 (10)))⟩,
                       ⟨some 14, none, .mov (.tmp 18)⟩])
                     (.cond (.tmp 14)
                      .skip
                      (.seq
                       (.ops [⟨some 19, none, .bin .eql (.tmp 13) (.const (.int .i64 (11)))⟩,
                         ⟨some 14, none, .mov (.tmp 19)⟩])
                       (.cond (.tmp 14)
                        .skip
                        (.seq
                         (.ops [⟨some 20, none, .bin .eql (.tmp 13) (.const (.int .i64 (12)))⟩,
                           ⟨some 14, none, .mov (.tmp 20)⟩])
                         (.cond (.tmp 14)
                          .skip
                          (.ops [⟨some 21, none, .bin .eql (.tmp 13) (.const (.int .i64 (13)))⟩,
                            ⟨some 14, none, .mov (.tmp 21)⟩])))))))))))))
              (.cond (.tmp 14)
               (.seq
                (.ops [⟨some 22, none, .mov (.tmp 3)⟩,
                  ⟨some 2, none, .mov (.tmp 22)⟩])
                .ret)
               .skip))))))
         (.ops [⟨some 23, none, .bin .add (.tmp 7) (.const (.int .i64 (1)))⟩,
           ⟨some 7, none, .mov (.tmp 23)⟩])))))))
   (.seq
    (.ops [⟨some 2, none, .mov (.const (.int .i64 (-1)))⟩])
    .ret)))⟩
theorem t21 : T 21 = some c21 := by kernel_rfl

/-- plait/plaitref28.Falls -/
def c22 : AFunc := ⟨24, 1, [.inl 2],
 (.seq
  (.ops [⟨some 2, none, .mov (.const (.int .i64 (0)))⟩])
  (.seq
   (.seq
    (.ops [⟨some 3, none, .mov (.const (.int .i64 (0)))⟩])
    (.block 0
     (.loop
      (.seq
       (.seq
        (.ops [⟨some 4, none, .mov (.tmp 3)⟩,
          ⟨some 5, none, .mov (.tmp 0)⟩,
          ⟨some 6, none, .lenV (.tmp 5)⟩,
          ⟨some 7, none, .bin .lss (.tmp 4) (.tmp 6)⟩])
        (.cond (.tmp 7)
         .skip
         (.exit 0)))
       (.seq
        (.block 1
         (.seq
          (.ops [⟨some 10, none, .mov (.tmp 0)⟩,
            ⟨some 11, none, .mov (.tmp 3)⟩,
            ⟨some 12, none, .iaddrS 3 (.tmp 10) (.tmp 11)⟩,
            ⟨some 13, none, .faddr 0 (.tmp 12)⟩,
            ⟨some 14, none, .load1 (.tmp 13)⟩])
          (.block 2
           (.seq
            (.seq
             (.ops [⟨some 16, none, .bin .eql (.tmp 14) (.const (.int .i64 (2)))⟩,
               ⟨some 15, none, .mov (.tmp 16)⟩])
             (.cond (.tmp 15)
              .skip
              (.seq
               (.ops [⟨some 17, none, .bin .eql (.tmp 14) (.const (.int .i64 (4)))⟩,
                 ⟨some 15, none, .mov (.tmp 17)⟩])
               (.cond (.tmp 15)
                .skip
                (.seq
                 (.ops [⟨some 18, none, .bin .eql (.tmp 14) (.const (.int .i64 (6)))⟩,
                   ⟨some 15, none, .mov (.tmp 18)⟩])
                 (.cond (.tmp 15)
                  .skip
                  (.seq
                   (.ops [⟨some 19, none, .bin .eql (.tmp 14) (.const (.int .i64 (10)))⟩,
                     ⟨some 15, none, .mov (.tmp 19)⟩])
                   (.cond (.tmp 15)
                    .skip
                    (.seq
                     (.ops [⟨some 20, none, .bin .eql (.tmp 14) (.const (.int .i64 (11)))⟩,
                       ⟨some 15, none, .mov (.tmp 20)⟩])
                     (.cond (.tmp 15)
                      .skip
                      (.seq
                       (.ops [⟨some 21, none, .bin .eql (.tmp 14) (.const (.int .i64 (12)))⟩,
                         ⟨some 15, none, .mov (.tmp 21)⟩])
                       (.cond (.tmp 15)
                        .skip
                        (.ops [⟨some 22, none, .bin .eql (.tmp 14) (.const (.int .i64 (13)))⟩,
                          ⟨some 15, none, .mov (.tmp 22)⟩])))))))))))))
            (.cond (.tmp 15)
             (.seq
              (.ops [⟨some 23, none, .mov (.tmp 3)⟩,
                ⟨some 2, none, .mov (.tmp 23)⟩])
              .ret)
             .skip)))))
        (.ops [⟨some 8, none, .mov (.tmp 3)⟩,
          ⟨some 9, none, .bin .add (.tmp 8) (.const (.int .i64 (1)))⟩,
          ⟨some 3, none, .mov (.tmp 9)⟩]))))))
   (.seq
    (.ops [⟨some 2, none, .mov (.const (.int .i64 (-1)))⟩])
    .ret)))⟩
theorem t22 : T 22 = some c22 := by kernel_rfl

/-- plait/plaitlaw28.once -/
def c23 : AFunc := ⟨79, 1, [.inl 2],
 (.seq
  (.ops [⟨some 2, none, .mov (.const (.bool false))⟩])
  (.seq
   (.ops [⟨some 3, none, .mov (.const (.int .i64 (0)))⟩,
     ⟨some 4, none, .mov (.const (.int .i64 (0)))⟩,
     ⟨some 5, none, .mov (.const (.int .i64 (0)))⟩])
   (.seq
    (.ops [⟨some 6, none, .mov (.const (.int .i64 (-1)))⟩])
    (.seq
     (.seq
      (.ops [⟨some 7, none, .mov (.const (.int .i64 (0)))⟩])
      (.block 0
       (.loop
        (.seq
         (.seq
          (.ops [⟨some 9, none, .mov (.tmp 7)⟩,
            ⟨some 10, none, .mov (.tmp 0)⟩,
            ⟨some 11, none, .lenV (.tmp 10)⟩,
            ⟨some 12, none, .bin .lss (.tmp 9) (.tmp 11)⟩])
          (.cond (.tmp 12)
           .skip
           (.exit 0)))
         (.seq
          (.block 1
           (.seq
            (.ops [⟨some 15, none, .mov (.tmp 0)⟩,
              ⟨some 16, none, .mov (.tmp 7)⟩,
              ⟨some 17, none, .iaddrS 3 (.tmp 15) (.tmp 16)⟩,
              ⟨some 18, none, .faddr 0 (.tmp 17)⟩,
              ⟨some 19, none, .load1 (.tmp 18)⟩,
              ⟨some 8, none, .mov (.tmp 19)⟩])
            (.seq
             (.seq
              (.ops [⟨some 20, none, .mov (.tmp 8)⟩,
                ⟨some 21, none, .call 30 [(.tmp 20)]⟩])
              (.cond (.tmp 21)
               (.seq
                (.ops [⟨some 22, none, .mov (.tmp 3)⟩,
                  ⟨some 23, none, .bin .add (.tmp 22) (.const (.int .i64 (1)))⟩,
                  ⟨some 3, none, .mov (.tmp 23)⟩])
                (.seq
                 (.ops [⟨some 24, none, .mov (.tmp 7)⟩,
                   ⟨some 6, none, .mov (.tmp 24)⟩])
                 (.seq
                  (.seq
                   (.ops [⟨some 25, none, .mov (.tmp 8)⟩,
                     ⟨some 26, none, .bin .geq (.tmp 25) (.const (.int .i64 (10)))⟩,
                     ⟨some 27, none, .mov (.tmp 26)⟩,
                     ⟨some 28, some (27, true), .mov (.tmp 4)⟩,
                     ⟨some 29, some (27, true), .mov (.tmp 5)⟩,
                     ⟨some 30, some (27, true), .bin .add (.tmp 28) (.tmp 29)⟩,
                     ⟨some 31, some (27, true), .bin .gtr (.tmp 30) (.const (.int .i64 (0)))⟩,
                     ⟨some 32, none, .pick (.tmp 27) (.tmp 31) (.const (.bool false))⟩,
                     ⟨some 33, none, .mov (.tmp 32)⟩,
                     ⟨some 34, some (33, false), .mov (.tmp 0)⟩,
                     ⟨some 35, some (33, false), .mov (.tmp 7)⟩,
                     ⟨some 36, some (33, false), .iaddrS 3 (.tmp 34) (.tmp 35)⟩,
                     ⟨some 37, some (33, false), .faddr 2 (.tmp 36)⟩,
                     ⟨some 38, some (33, false), .load1 (.tmp 37)⟩,
                     ⟨some 39, some (33, false), .bin .neq (.tmp 38) (.const (.int .i64 (4)))⟩,
                     ⟨some 40, none, .pick (.tmp 33) (.const (.bool true)) (.tmp 39)⟩])
                   (.cond (.tmp 40)
                    (.seq
                     (.ops [⟨some 2, none, .mov (.const (.bool false))⟩])
                     .ret)
                    .skip))
                  (.exit 1))))
               .skip))
             (.seq
              (.seq
               (.ops [⟨some 41, none, .mov (.tmp 8)⟩,
                 ⟨some 42, none, .bin .eql (.tmp 41) (.const (.int .i64 (7)))⟩,
                 ⟨some 43, none, .mov (.tmp 42)⟩,
                 ⟨some 44, some (43, false), .mov (.tmp 8)⟩,
                 ⟨some 45, some (43, false), .bin .eql (.tmp 44) (.const (.int .i64 (8)))⟩,
                 ⟨some 46, none, .pick (.tmp 43) (.const (.bool true)) (.tmp 45)⟩])
               (.cond (.tmp 46)
                (.ops [⟨some 47, none, .mov (.tmp 4)⟩,
                  ⟨some 48, none, .bin .add (.tmp 47) (.const (.int .i64 (1)))⟩,
                  ⟨some 4, none, .mov (.tmp 48)⟩])
                .skip))
              (.seq
               (.seq
                (.ops [⟨some 49, none, .mov (.tmp 8)⟩,
                  ⟨some 50, none, .bin .eql (.tmp 49) (.const (.int .i64 (9)))⟩])
                (.cond (.tmp 50)
                 (.ops [⟨some 51, none, .mov (.tmp 5)⟩,
                   ⟨some 52, none, .bin .add (.tmp 51) (.const (.int .i64 (1)))⟩,
                   ⟨some 5, none, .mov (.tmp 52)⟩])
                 .skip))
               (.seq
                (.ops [⟨some 53, none, .mov (.tmp 6)⟩,
                  ⟨some 54, none, .bin .geq (.tmp 53) (.const (.int .i64 (0)))⟩,
                  ⟨some 55, none, .mov (.tmp 54)⟩,
                  ⟨some 56, some (55, true), .mov (.tmp 8)⟩,
                  ⟨some 57, some (55, true), .bin .eql (.tmp 56) (.const (.int .i64 (7)))⟩,
                  ⟨some 58, some (55, true), .mov (.tmp 57)⟩,
                  ⟨some 59, some (58, false), .mov (.tmp 8)⟩,
                  ⟨some 60, some (58, false), .bin .eql (.tmp 59) (.const (.int .i64 (8)))⟩,
                  ⟨some 61, some (55, true), .pick (.tmp 58) (.const (.bool true)) (.tmp 60)⟩,
                  ⟨some 62, some (55, true), .mov (.tmp 61)⟩,
                  ⟨some 63, some (62, false), .mov (.tmp 8)⟩,
                  ⟨some 64, some (62, false), .bin .eql (.tmp 63) (.const (.int .i64 (9)))⟩,
                  ⟨some 65, some (55, true), .pick (.tmp 62) (.const (.bool true)) (.tmp 64)⟩,
                  ⟨some 66, some (55, true), .mov (.tmp 65)⟩,
                  ⟨some 67, some (66, false), .mov (.tmp 8)⟩,
                  ⟨some 68, some (66, false), .bin .eql (.tmp 67) (.const (.int .i64 (16)))⟩,
                  ⟨some 69, some (55, true), .pick (.tmp 66) (.const (.bool true)) (.tmp 68)⟩,
                  ⟨some 70, none, .pick (.tmp 55) (.tmp 69) (.const (.bool false))⟩])
                (.cond (.tmp 70)
                 (.seq
                  (.ops [⟨some 2, none, .mov (.const (.bool false))⟩])
                  .ret)
                 .skip)))))))
          (.ops [⟨some 13, none, .mov (.tmp 7)⟩,
            ⟨some 14, none, .bin .add (.tmp 13) (.const (.int .i64 (1)))⟩,
            ⟨some 7, none, .mov (.tmp 14)⟩]))))))
     (.seq
      (.ops [⟨some 71, none, .mov (.tmp 3)⟩,
        ⟨some 72, none, .bin .leq (.tmp 71) (.const (.int .i64 (1)))⟩,
        ⟨some 73, none, .mov (.tmp 72)⟩,
        ⟨some 74, some (73, true), .mov (.tmp 0)⟩,
        ⟨some 75, some (73, true), .call 21 [(.tmp 74)]⟩,
        ⟨some 76, some (73, true), .mov (.tmp 6)⟩,
        ⟨some 77, some (73, true), .bin .eql (.tmp 75) (.tmp 76)⟩,
        ⟨some 78, none, .pick (.tmp 73) (.tmp 77) (.const (.bool false))⟩,
        ⟨some 2, none, .mov (.tmp 78)⟩])
      .ret)))))⟩
theorem t23 : T 23 = some c23 := by kernel_rfl

/-- plait/plaitref28.Begin -/
def c24 : AFunc := ⟨5, 1, [.inr (2, 15, true)],
 (.seq
  (.ops [⟨some 2, none, .alloc 53 [.int .i64 (0), .int .i64 (0), .bool false, .bool false, .bool false, .bool false, .bool false, .bool false, .bool false, .bool false, .bool false, .bool false, .bool false, .bool false, .bool false]⟩])
  (.seq
   (.ops [⟨some 3, none, .mov (.tmp 0)⟩,
     ⟨some 4, none, .build [.int .i64 (0), .int .i64 (0), .bool false, .bool false, .bool false, .bool false, .bool false, .bool false, .bool false, .bool false, .bool false, .bool false, .bool false, .bool false, .bool false] [(0, 1, (.tmp 3)), (1, 1, (.const (.int .i64 (0)))), (2, 1, (.const (.bool true)))]⟩,
     ⟨none, none, .store 15 (.tmp 2) (.tmp 4)⟩])
   .ret))⟩
theorem t24 : T 24 = some c24 := by kernel_rfl

/-- plait/plaitref28.choices -/
def c25 : AFunc := ⟨38, 1, [.inl 2],
 (.seq
  (.ops [⟨some 1, none, .box 53 15 (.tmp 0)⟩,
    ⟨some 2, none, .mov (.const (.slice none 0 0))⟩])
  (.seq
   (.ops [⟨some 3, none, .mov (.const (.slice none 0 0))⟩])
   (.seq
    (.seq
     (.ops [⟨some 4, none, .mov (.const (.int .i64 (0)))⟩])
     (.block 0
      (.loop
       (.seq
        (.seq
         (.ops [⟨some 10, none, .mov (.tmp 4)⟩,
           ⟨some 11, none, .bin .lss (.tmp 10) (.const (.int .i64 (18)))⟩])
         (.cond (.tmp 11)
          .skip
          (.exit 0)))
        (.seq
         (.block 1
          (.seq
           (.ops [⟨some 5, none, .mov (.const (.int .i64 (0)))⟩])
           (.block 2
            (.loop
             (.seq
              (.seq
               (.ops [⟨some 14, none, .mov (.tmp 5)⟩,
                 ⟨some 15, none, .bin .lss (.tmp 14) (.const (.int .i64 (4)))⟩])
               (.cond (.tmp 15)
                .skip
                (.exit 2)))
              (.seq
               (.block 3
                (.seq
                 (.ops [⟨some 6, none, .mov (.const (.int .i64 (0)))⟩])
                 (.block 4
                  (.loop
                   (.seq
                    (.seq
                     (.ops [⟨some 18, none, .mov (.tmp 6)⟩,
                       ⟨some 19, none, .bin .lss (.tmp 18) (.const (.int .i64 (7)))⟩])
                     (.cond (.tmp 19)
                      .skip
                      (.exit 4)))
                    (.seq
                     (.block 5
                      (.seq
                       (.ops [⟨some 22, none, .mov (.tmp 4)⟩,
                         ⟨some 23, none, .mov (.tmp 5)⟩,
                         ⟨some 24, none, .mov (.tmp 6)⟩,
                         ⟨some 25, none, .build [.int .i64 (0), .int .i64 (0), .int .i64 (0)] [(0, 1, (.tmp 22)), (1, 1, (.tmp 23)), (2, 1, (.tmp 24))]⟩,
                         ⟨some 7, none, .alloc 31 [.int .i64 (0), .int .i64 (0), .int .i64 (0)]⟩,
                         ⟨none, none, .store 3 (.tmp 7) (.tmp 25)⟩])
                       (.seq
                        (.ops [⟨some 27, none, .loadN 15 (.tmp 1)⟩,
                          ⟨some 28, none, .loadN 3 (.tmp 7)⟩,
                          ⟨some 29, none, .call 26 [(.tmp 27), (.tmp 28)]⟩,
                          ⟨some 26, none, .mov (.tmp 29)⟩,
                          ⟨some 30, none, .ext (.tmp 26) 0⟩,
                          ⟨some 31, none, .ext (.tmp 26) 1⟩,
                          ⟨some 8, none, .alloc 53 [.int .i64 (0), .int .i64 (0), .bool false, .bool false, .bool false, .bool false, .bool false, .bool false, .bool false, .bool false, .bool false, .bool false, .bool false, .bool false, .bool false]⟩,
                          ⟨none, none, .store 15 (.tmp 8) (.tmp 30)⟩,
                          ⟨some 9, none, .mov (.tmp 31)⟩])
                        (.seq
                         (.ops [⟨some 32, none, .mov (.tmp 9)⟩])
                         (.cond (.tmp 32)
                          (.ops [⟨some 33, none, .mov (.tmp 3)⟩,
                            ⟨some 34, none, .loadN 3 (.tmp 7)⟩,
                            ⟨some 35, none, .bslice 31 1 [.int .i64 (0), .int .i64 (0), .int .i64 (0)] [(0, 3, (.tmp 34))]⟩,
                            ⟨some 36, none, .append 31 3 24 (.tmp 33) (.tmp 35)⟩,
                            ⟨some 3, none, .mov (.tmp 36)⟩])
                          .skip)))))
                     (.ops [⟨some 20, none, .mov (.tmp 6)⟩,
                       ⟨some 21, none, .bin .add (.tmp 20) (.const (.int .i64 (1)))⟩,
                       ⟨some 6, none, .mov (.tmp 21)⟩])))))))
               (.ops [⟨some 16, none, .mov (.tmp 5)⟩,
                 ⟨some 17, none, .bin .add (.tmp 16) (.const (.int .i64 (1)))⟩,
                 ⟨some 5, none, .mov (.tmp 17)⟩])))))))
         (.ops [⟨some 12, none, .mov (.tmp 4)⟩,
           ⟨some 13, none, .bin .add (.tmp 12) (.const (.int .i64 (1)))⟩,
           ⟨some 4, none, .mov (.tmp 13)⟩]))))))
    (.seq
     (.ops [⟨some 37, none, .mov (.tmp 3)⟩,
       ⟨some 2, none, .mov (.tmp 37)⟩])
     .ret))))⟩
theorem t25 : T 25 = some c25 := by kernel_rfl

/-- plait/plaitref28.Next -/
def c26 : AFunc := ⟨65, 2, [.inr (4, 15, true), .inl 5],
 (.seq
  (.ops [⟨some 2, none, .box 53 15 (.tmp 0)⟩,
    ⟨some 3, none, .box 31 3 (.tmp 1)⟩,
    ⟨some 4, none, .alloc 53 [.int .i64 (0), .int .i64 (0), .bool false, .bool false, .bool false, .bool false, .bool false, .bool false, .bool false, .bool false, .bool false, .bool false, .bool false, .bool false, .bool false]⟩,
    ⟨some 5, none, .mov (.const (.bool false))⟩])
  (.seq
   (.seq
    (.ops [⟨some 8, none, .faddr 1 (.tmp 3)⟩,
      ⟨some 9, none, .load1 (.tmp 8)⟩,
      ⟨some 10, none, .bin .lss (.tmp 9) (.const (.int .i64 (0)))⟩,
      ⟨some 11, none, .mov (.tmp 10)⟩,
      ⟨some 12, some (11, false), .faddr 1 (.tmp 3)⟩,
      ⟨some 13, some (11, false), .load1 (.tmp 12)⟩,
      ⟨some 14, some (11, false), .bin .geq (.tmp 13) (.const (.int .i64 (4)))⟩,
      ⟨some 15, none, .pick (.tmp 11) (.const (.bool true)) (.tmp 14)⟩])
    (.cond (.tmp 15)
     (.seq
      (.ops [⟨some 16, none, .loadN 15 (.tmp 2)⟩,
        ⟨none, none, .store 15 (.tmp 4) (.tmp 16)⟩,
        ⟨some 5, none, .mov (.const (.bool false))⟩])
      .ret)
     .skip))
   (.seq
    (.ops [⟨some 18, none, .loadN 15 (.tmp 2)⟩,
      ⟨some 19, none, .loadN 3 (.tmp 3)⟩,
      ⟨some 20, none, .call 31 [(.tmp 18), (.tmp 19)]⟩,
      ⟨some 17, none, .mov (.tmp 20)⟩,
      ⟨some 21, none, .ext (.tmp 17) 0⟩,
      ⟨some 22, none, .ext (.tmp 17) 1⟩,
      ⟨some 6, none, .mov (.tmp 21)⟩,
      ⟨some 7, none, .mov (.tmp 22)⟩])
    (.seq
     (.seq
      (.ops [⟨some 23, none, .mov (.tmp 6)⟩,
        ⟨some 24, none, .un .not (.tmp 23)⟩,
        ⟨some 25, none, .mov (.tmp 24)⟩,
        ⟨some 26, some (25, false), .faddr 2 (.tmp 3)⟩,
        ⟨some 27, some (25, false), .load1 (.tmp 26)⟩,
        ⟨some 28, some (25, false), .mov (.tmp 7)⟩,
        ⟨some 29, some (25, false), .bin .neq (.tmp 27) (.tmp 28)⟩,
        ⟨some 30, none, .pick (.tmp 25) (.const (.bool true)) (.tmp 29)⟩])
      (.cond (.tmp 30)
       (.seq
        (.ops [⟨some 31, none, .loadN 15 (.tmp 2)⟩,
          ⟨none, none, .store 15 (.tmp 4) (.tmp 31)⟩,
          ⟨some 5, none, .mov (.const (.bool false))⟩])
        .ret)
       .skip))
     (.seq
      (.ops [⟨some 32, none, .mov (.tmp 7)⟩,
        ⟨some 33, none, .faddr 1 (.tmp 2)⟩,
        ⟨none, none, .store 1 (.tmp 33) (.tmp 32)⟩])
      (.seq
       (.seq
        (.ops [⟨some 34, none, .faddr 0 (.tmp 3)⟩,
          ⟨some 35, none, .load1 (.tmp 34)⟩])
        (.block 0
         (.seq
          (.ops [⟨some 37, none, .bin .eql (.tmp 35) (.const (.int .i64 (5)))⟩,
            ⟨some 36, none, .mov (.tmp 37)⟩])
          (.cond (.tmp 36)
           (.ops [⟨some 38, none, .faddr 7 (.tmp 2)⟩,
             ⟨some 39, none, .iaddrA 4 1 (.tmp 38) (.const (.int .i64 (0)))⟩,
             ⟨none, none, .store 1 (.tmp 39) (.const (.bool true))⟩])
           (.seq
            (.ops [⟨some 41, none, .bin .eql (.tmp 35) (.const (.int .i64 (7)))⟩,
              ⟨some 40, none, .mov (.tmp 41)⟩])
            (.cond (.tmp 40)
             (.ops [⟨some 42, none, .faddr 1 (.tmp 3)⟩,
               ⟨some 43, none, .load1 (.tmp 42)⟩,
               ⟨some 44, none, .faddr 3 (.tmp 2)⟩,
               ⟨some 45, none, .iaddrA 4 1 (.tmp 44) (.tmp 43)⟩,
               ⟨none, none, .store 1 (.tmp 45) (.const (.bool true))⟩,
               ⟨some 46, none, .faddr 2 (.tmp 2)⟩,
               ⟨none, none, .store 1 (.tmp 46) (.const (.bool false))⟩])
             (.seq
              (.ops [⟨some 48, none, .bin .eql (.tmp 35) (.const (.int .i64 (8)))⟩,
                ⟨some 47, none, .mov (.tmp 48)⟩])
              (.cond (.tmp 47)
               (.ops [⟨some 49, none, .faddr 1 (.tmp 3)⟩,
                 ⟨some 50, none, .load1 (.tmp 49)⟩,
                 ⟨some 51, none, .faddr 7 (.tmp 2)⟩,
                 ⟨some 52, none, .iaddrA 4 1 (.tmp 51) (.tmp 50)⟩,
                 ⟨none, none, .store 1 (.tmp 52) (.const (.bool true))⟩,
                 ⟨some 53, none, .faddr 2 (.tmp 2)⟩,
                 ⟨none, none, .store 1 (.tmp 53) (.const (.bool false))⟩])
               (.seq
                (.ops [⟨some 55, none, .bin .eql (.tmp 35) (.const (.int .i64 (9)))⟩,
                  ⟨some 54, none, .mov (.tmp 55)⟩])
                (.cond (.tmp 54)
                 (.opsD [⟨some 56, none, .faddr 1 (.tmp 3)⟩,
                   ⟨some 57, none, .load1 (.tmp 56)⟩,
                   ⟨some 58, none, .faddr 1 (.tmp 3)⟩,
                   ⟨some 59, none, .load1 (.tmp 58)⟩,
                   ⟨some 60, none, .faddr 7 (.tmp 2)⟩,
                   ⟨some 61, none, .iaddrA 4 1 (.tmp 60) (.tmp 57)⟩,
                   ⟨none, none, .store 1 (.tmp 61) (.const (.bool false))⟩,
                   ⟨some 62, none, .faddr 11 (.tmp 2)⟩,
                   ⟨some 63, none, .iaddrA 4 1 (.tmp 62) (.tmp 59)⟩,
                   ⟨none, none, .store 1 (.tmp 63) (.const (.bool true))⟩] [(3, 6), (3, 7)])
                 .skip))))))))))
       (.seq
        (.ops [⟨some 64, none, .loadN 15 (.tmp 2)⟩,
          ⟨none, none, .store 15 (.tmp 4) (.tmp 64)⟩,
          ⟨some 5, none, .mov (.const (.bool true))⟩])
        .ret)))))))⟩
theorem t26 : T 26 = some c26 := by kernel_rfl

/-- plait/mode.walk -/
def c27 : AFunc := ⟨49, 2, [.inr (4, 15, true), .inl 5],
 (.seq
  (.ops [⟨some 4, none, .alloc 34 [.int .i64 (0), .int .i64 (0), .bool false, .bool false, .bool false, .bool false, .bool false, .bool false, .bool false, .bool false, .bool false, .bool false, .bool false, .bool false, .bool false]⟩,
    ⟨some 5, none, .mov (.const (.nilIface))⟩])
  (.seq
   (.ops [⟨some 11, none, .mov (.tmp 0)⟩,
     ⟨some 12, none, .call 12 [(.tmp 11)]⟩,
     ⟨some 6, none, .alloc 34 [.int .i64 (0), .int .i64 (0), .bool false, .bool false, .bool false, .bool false, .bool false, .bool false, .bool false, .bool false, .bool false, .bool false, .bool false, .bool false, .bool false]⟩,
     ⟨none, none, .store 15 (.tmp 6) (.tmp 12)⟩])
   (.seq
    (.seq
     (.ops [⟨some 13, none, .mov (.tmp 0)⟩,
       ⟨some 14, none, .bin .neq (.tmp 13) (.const (.int .i64 (0)))⟩,
       ⟨some 15, none, .mov (.tmp 14)⟩,
       ⟨some 16, some (15, true), .mov (.tmp 0)⟩,
       ⟨some 17, some (15, true), .bin .neq (.tmp 16) (.const (.int .i64 (1)))⟩,
       ⟨some 18, none, .pick (.tmp 15) (.tmp 17) (.const (.bool false))⟩])
     (.cond (.tmp 18)
      (.seq
       (.ops [⟨some 19, none, .loadN 15 (.tmp 6)⟩,
         ⟨some 20, none, .build [.int .i64 (0), .int .i64 (0)] [(0, 1, (.const (.int .i64 (2))))]⟩,
         ⟨some 21, none, .box 51 2 (.tmp 20)⟩,
         ⟨some 22, none, .build [.pointer none] [(0, 1, (.tmp 21))]⟩,
         ⟨some 23, none, .mkI 70 (.tmp 22)⟩,
         ⟨none, none, .store 15 (.tmp 4) (.tmp 19)⟩,
         ⟨some 5, none, .mov (.tmp 23)⟩])
       .ret)
      .skip))
    (.seq
     (.seq
      (.ops [⟨some 24, none, .mov (.tmp 1)⟩,
        ⟨some 25, none, .lenV (.tmp 24)⟩,
        ⟨some 26, none, .mov (.const (.int .i64 (0)))⟩])
      (.block 0
       (.loop
        (.seq
         (.ops [⟨some 27, none, .bin .lss (.tmp 26) (.tmp 25)⟩])
         (.seq
          (.cond (.tmp 27)
           .skip
           (.exit 0))
          (.seq
           (.block 1
            (.seq
             (.ops [⟨some 28, none, .mov (.tmp 26)⟩,
               ⟨some 29, none, .iaddrS 3 (.tmp 24) (.tmp 26)⟩,
               ⟨some 30, none, .loadN 3 (.tmp 29)⟩,
               ⟨some 8, none, .alloc 31 [.int .i64 (0), .int .i64 (0), .int .i64 (0)]⟩,
               ⟨some 7, none, .mov (.tmp 28)⟩,
               ⟨none, none, .store 3 (.tmp 8) (.tmp 30)⟩])
             (.seq
              (.ops [⟨some 32, none, .loadN 15 (.tmp 6)⟩,
                ⟨some 33, none, .loadN 3 (.tmp 8)⟩,
                ⟨some 34, none, .call 13 [(.tmp 32), (.tmp 33)]⟩,
                ⟨some 31, none, .mov (.tmp 34)⟩,
                ⟨some 35, none, .ext (.tmp 31) 0⟩,
                ⟨some 36, none, .ext (.tmp 31) 1⟩,
                ⟨some 9, none, .alloc 34 [.int .i64 (0), .int .i64 (0), .bool false, .bool false, .bool false, .bool false, .bool false, .bool false, .bool false, .bool false, .bool false, .bool false, .bool false, .bool false, .bool false]⟩,
                ⟨none, none, .store 15 (.tmp 9) (.tmp 35)⟩,
                ⟨some 10, none, .mov (.tmp 36)⟩])
              (.seq
               (.seq
                (.ops [⟨some 37, none, .mov (.tmp 10)⟩,
                  ⟨some 38, none, .un .not (.tmp 37)⟩])
                (.cond (.tmp 38)
                 (.seq
                  (.ops [⟨some 39, none, .mov (.tmp 0)⟩,
                    ⟨some 40, none, .call 12 [(.tmp 39)]⟩,
                    ⟨some 41, none, .mov (.tmp 7)⟩,
                    ⟨some 42, none, .build [.int .i64 (0), .int .i64 (0)] [(0, 1, (.const (.int .i64 (15)))), (1, 1, (.tmp 41))]⟩,
                    ⟨some 43, none, .box 51 2 (.tmp 42)⟩,
                    ⟨some 44, none, .build [.pointer none] [(0, 1, (.tmp 43))]⟩,
                    ⟨some 45, none, .mkI 70 (.tmp 44)⟩,
                    ⟨none, none, .store 15 (.tmp 4) (.tmp 40)⟩,
                    ⟨some 5, none, .mov (.tmp 45)⟩])
                  .ret)
                 .skip))
               (.ops [⟨some 46, none, .loadN 15 (.tmp 9)⟩,
                 ⟨none, none, .store 15 (.tmp 6) (.tmp 46)⟩])))))
           (.ops [⟨some 47, none, .bin .add (.tmp 26) (.const (.int .i64 (1)))⟩,
             ⟨some 26, none, .mov (.tmp 47)⟩])))))))
     (.seq
      (.ops [⟨some 48, none, .loadN 15 (.tmp 6)⟩,
        ⟨none, none, .store 15 (.tmp 4) (.tmp 48)⟩,
        ⟨some 5, none, .mov (.const (.nilIface))⟩])
      .ret)))))⟩
theorem t27 : T 27 = some c27 := by kernel_rfl

/-- plait/mode.rows -/
def c29 : AFunc := ⟨35, 0, [.inr (0, 54, true)],
 (.seq
  (.ops [⟨some 0, none, .alloc 77 [.nilFunc, .int .i64 (0), .nilFunc, .nilFunc, .int .i64 (0), .nilFunc, .nilFunc, .int .i64 (0), .nilFunc, .nilFunc, .int .i64 (0), .nilFunc, .nilFunc, .int .i64 (0), .nilFunc, .nilFunc, .int .i64 (0), .nilFunc, .nilFunc, .int .i64 (0), .nilFunc, .nilFunc, .int .i64 (0), .nilFunc, .nilFunc, .int .i64 (0), .nilFunc, .nilFunc, .int .i64 (0), .nilFunc, .nilFunc, .int .i64 (0), .nilFunc, .nilFunc, .int .i64 (0), .nilFunc, .nilFunc, .int .i64 (0), .nilFunc, .nilFunc, .int .i64 (0), .nilFunc, .nilFunc, .int .i64 (0), .nilFunc, .nilFunc, .int .i64 (0), .nilFunc, .nilFunc, .int .i64 (0), .nilFunc, .nilFunc, .int .i64 (0), .nilFunc]⟩])
  (.seq
   (.ops [⟨some 2, none, .build [.nilFunc, .int .i64 (0), .nilFunc] [(0, 1, (.func 36)), (1, 1, (.const (.int .i64 (4)))), (2, 1, (.const (.nilFunc)))]⟩,
     ⟨some 1, none, .alloc 76 [.nilFunc, .int .i64 (0), .nilFunc]⟩,
     ⟨none, none, .store 3 (.tmp 1) (.tmp 2)⟩])
   (.seq
    (.opsD [⟨some 3, none, .call 37 [(.const (.int .i64 (0)))]⟩,
      ⟨some 4, none, .build [.nilFunc, .int .i64 (0), .nilFunc] [(0, 1, (.tmp 3)), (1, 1, (.const (.int .i64 (1)))), (2, 1, (.const (.nilFunc)))]⟩,
      ⟨some 5, none, .call 37 [(.const (.int .i64 (1)))]⟩,
      ⟨some 6, none, .build [.nilFunc, .int .i64 (0), .nilFunc] [(0, 1, (.tmp 5)), (1, 1, (.const (.int .i64 (2)))), (2, 1, (.const (.nilFunc)))]⟩,
      ⟨some 7, none, .call 37 [(.const (.int .i64 (1)))]⟩,
      ⟨some 8, none, .build [.nilFunc, .int .i64 (0), .nilFunc] [(0, 1, (.tmp 7)), (1, 1, (.const (.int .i64 (4)))), (2, 1, (.const (.nilFunc)))]⟩,
      ⟨some 9, none, .bslice 3 1 [.int .i64 (0)] [(0, 1, (.const (.int .i64 (1))))]⟩,
      ⟨some 10, none, .call 38 [(.tmp 9)]⟩,
      ⟨some 11, none, .build [.nilFunc, .int .i64 (0), .nilFunc] [(0, 1, (.tmp 10)), (1, 1, (.const (.int .i64 (2)))), (2, 1, (.const (.nilFunc)))]⟩,
      ⟨some 12, none, .bslice 3 1 [.int .i64 (0)] [(0, 1, (.const (.int .i64 (1))))]⟩,
      ⟨some 13, none, .call 38 [(.tmp 12)]⟩,
      ⟨some 14, none, .build [.nilFunc, .int .i64 (0), .nilFunc] [(0, 1, (.tmp 13)), (1, 1, (.const (.int .i64 (4)))), (2, 1, (.const (.nilFunc)))]⟩,
      ⟨some 15, none, .bslice 3 1 [.int .i64 (0)] [(0, 1, (.const (.int .i64 (2))))]⟩,
      ⟨some 16, none, .call 38 [(.tmp 15)]⟩,
      ⟨some 17, none, .build [.nilFunc, .int .i64 (0), .nilFunc] [(0, 1, (.tmp 16)), (1, 1, (.const (.int .i64 (3)))), (2, 1, (.func 39))]⟩,
      ⟨some 18, none, .bslice 3 1 [.int .i64 (0)] [(0, 1, (.const (.int .i64 (2))))]⟩,
      ⟨some 19, none, .call 38 [(.tmp 18)]⟩,
      ⟨some 20, none, .build [.nilFunc, .int .i64 (0), .nilFunc] [(0, 1, (.tmp 19)), (1, 1, (.const (.int .i64 (4)))), (2, 1, (.const (.nilFunc)))]⟩,
      ⟨some 21, none, .build [.nilFunc, .int .i64 (0), .nilFunc] [(0, 1, (.func 40)), (1, 1, (.const (.int .i64 (3)))), (2, 1, (.func 42))]⟩,
      ⟨some 22, none, .build [.nilFunc, .int .i64 (0), .nilFunc] [(0, 1, (.func 43)), (1, 1, (.const (.int .i64 (3)))), (2, 1, (.func 44))]⟩,
      ⟨some 23, none, .build [.nilFunc, .int .i64 (0), .nilFunc] [(0, 1, (.func 45)), (1, 1, (.const (.int .i64 (3)))), (2, 1, (.func 46))]⟩,
      ⟨some 24, none, .loadN 3 (.tmp 1)⟩,
      ⟨some 25, none, .loadN 3 (.tmp 1)⟩,
      ⟨some 26, none, .loadN 3 (.tmp 1)⟩,
      ⟨some 27, none, .loadN 3 (.tmp 1)⟩,
      ⟨some 28, none, .bslice 3 2 [.int .i64 (0)] [(0, 1, (.const (.int .i64 (3)))), (1, 1, (.const (.int .i64 (4))))]⟩,
      ⟨some 29, none, .call 38 [(.tmp 28)]⟩,
      ⟨some 30, none, .build [.nilFunc, .int .i64 (0), .nilFunc] [(0, 1, (.tmp 29)), (1, 1, (.const (.int .i64 (5)))), (2, 1, (.const (.nilFunc)))]⟩,
      ⟨some 31, none, .build [.nilFunc, .int .i64 (0), .nilFunc] [(0, 1, (.func 47)), (1, 1, (.const (.int .i64 (6)))), (2, 1, (.const (.nilFunc)))]⟩,
      ⟨some 32, none, .build [.nilFunc, .int .i64 (0), .nilFunc] [(0, 1, (.func 48)), (1, 1, (.const (.int .i64 (6)))), (2, 1, (.const (.nilFunc)))]⟩,
      ⟨some 33, none, .build [.nilFunc, .int .i64 (0), .nilFunc] [(0, 1, (.func 49)), (1, 1, (.const (.int .i64 (6)))), (2, 1, (.const (.nilFunc)))]⟩,
      ⟨some 34, none, .build [.nilFunc, .int .i64 (0), .nilFunc, .nilFunc, .int .i64 (0), .nilFunc, .nilFunc, .int .i64 (0), .nilFunc, .nilFunc, .int .i64 (0), .nilFunc, .nilFunc, .int .i64 (0), .nilFunc, .nilFunc, .int .i64 (0), .nilFunc, .nilFunc, .int .i64 (0), .nilFunc, .nilFunc, .int .i64 (0), .nilFunc, .nilFunc, .int .i64 (0), .nilFunc, .nilFunc, .int .i64 (0), .nilFunc, .nilFunc, .int .i64 (0), .nilFunc, .nilFunc, .int .i64 (0), .nilFunc, .nilFunc, .int .i64 (0), .nilFunc, .nilFunc, .int .i64 (0), .nilFunc, .nilFunc, .int .i64 (0), .nilFunc, .nilFunc, .int .i64 (0), .nilFunc, .nilFunc, .int .i64 (0), .nilFunc, .nilFunc, .int .i64 (0), .nilFunc] [(0, 3, (.tmp 4)), (3, 3, (.tmp 6)), (6, 3, (.tmp 8)), (9, 3, (.tmp 11)), (12, 3, (.tmp 14)), (15, 3, (.tmp 17)), (18, 3, (.tmp 20)), (21, 3, (.tmp 21)), (24, 3, (.tmp 22)), (27, 3, (.tmp 23)), (30, 3, (.tmp 24)), (33, 3, (.tmp 25)), (36, 3, (.tmp 26)), (39, 3, (.tmp 27)), (42, 3, (.tmp 30)), (45, 3, (.tmp 31)), (48, 3, (.tmp 32)), (51, 3, (.tmp 33))]⟩,
      ⟨none, none, .store 54 (.tmp 0) (.tmp 34)⟩] [(21, 0), (21, 1), (21, 2), (21, 3), (21, 4), (21, 5), (21, 7), (21, 8), (21, 10), (21, 11), (21, 13), (21, 14), (21, 16), (21, 17), (21, 26), (21, 27), (22, 0), (22, 1), (22, 2), (22, 3), (22, 4), (22, 5), (22, 7), (22, 8), (22, 10), (22, 11), (22, 13), (22, 14), (22, 16), (22, 17), (22, 26), (22, 27), (23, 0), (23, 1), (23, 2), (23, 3), (23, 4), (23, 5), (23, 7), (23, 8), (23, 10), (23, 11), (23, 13), (23, 14), (23, 16), (23, 17), (23, 26), (23, 27), (24, 0), (24, 1), (24, 2), (24, 3), (24, 4), (24, 5), (24, 7), (24, 8), (24, 10), (24, 11), (24, 13), (24, 14), (24, 16), (24, 17), (24, 26), (24, 27)])
    .ret)))⟩
theorem t29 : T 29 = some c29 := by kernel_rfl

/-- plait/plaitlaw28.fallen -/
def c30 : AFunc := ⟨21, 1, [.inl 2],
 (.seq
  (.ops [⟨some 2, none, .mov (.const (.bool false))⟩])
  (.seq
   (.ops [⟨some 3, none, .mov (.tmp 0)⟩,
     ⟨some 4, none, .bin .eql (.tmp 3) (.const (.int .i64 (2)))⟩,
     ⟨some 5, none, .mov (.tmp 4)⟩,
     ⟨some 6, some (5, false), .mov (.tmp 0)⟩,
     ⟨some 7, some (5, false), .bin .eql (.tmp 6) (.const (.int .i64 (4)))⟩,
     ⟨some 8, none, .pick (.tmp 5) (.const (.bool true)) (.tmp 7)⟩,
     ⟨some 9, none, .mov (.tmp 8)⟩,
     ⟨some 10, some (9, false), .mov (.tmp 0)⟩,
     ⟨some 11, some (9, false), .bin .eql (.tmp 10) (.const (.int .i64 (6)))⟩,
     ⟨some 12, none, .pick (.tmp 9) (.const (.bool true)) (.tmp 11)⟩,
     ⟨some 13, none, .mov (.tmp 12)⟩,
     ⟨some 14, some (13, false), .mov (.tmp 0)⟩,
     ⟨some 15, some (13, false), .bin .geq (.tmp 14) (.const (.int .i64 (10)))⟩,
     ⟨some 16, some (13, false), .mov (.tmp 15)⟩,
     ⟨some 17, some (16, true), .mov (.tmp 0)⟩,
     ⟨some 18, some (16, true), .bin .leq (.tmp 17) (.const (.int .i64 (13)))⟩,
     ⟨some 19, some (13, false), .pick (.tmp 16) (.tmp 18) (.const (.bool false))⟩,
     ⟨some 20, none, .pick (.tmp 13) (.const (.bool true)) (.tmp 19)⟩,
     ⟨some 2, none, .mov (.tmp 20)⟩])
   .ret))⟩
theorem t30 : T 30 = some c30 := by kernel_rfl

/-- plait/plaitref28.may -/
def c31 : AFunc := ⟨246, 2, [.inl 4, .inl 5],
 (.seq
  (.ops [⟨some 2, none, .box 53 15 (.tmp 0)⟩,
    ⟨some 3, none, .box 31 3 (.tmp 1)⟩,
    ⟨some 4, none, .mov (.const (.bool false))⟩,
    ⟨some 5, none, .mov (.const (.int .i64 (0)))⟩])
  (.seq
   (.ops [⟨some 10, none, .faddr 1 (.tmp 3)⟩,
     ⟨some 11, none, .load1 (.tmp 10)⟩,
     ⟨some 6, none, .mov (.tmp 11)⟩])
   (.seq
    (.ops [⟨some 12, none, .mov (.tmp 6)⟩,
      ⟨some 13, none, .bin .eql (.tmp 12) (.const (.int .i64 (0)))⟩,
      ⟨some 7, none, .mov (.tmp 13)⟩])
    (.seq
     (.ops [⟨some 14, none, .faddr 1 (.tmp 2)⟩,
       ⟨some 15, none, .load1 (.tmp 14)⟩,
       ⟨some 16, none, .bin .eql (.tmp 15) (.const (.int .i64 (3)))⟩,
       ⟨some 8, none, .mov (.tmp 16)⟩])
     (.seq
      (.seq
       (.ops [⟨some 17, none, .faddr 0 (.tmp 3)⟩,
         ⟨some 18, none, .load1 (.tmp 17)⟩])
       (.block 0
        (.seq
         (.ops [⟨some 20, none, .bin .eql (.tmp 18) (.const (.int .i64 (0)))⟩,
           ⟨some 19, none, .mov (.tmp 20)⟩])
         (.cond (.tmp 19)
          (.seq
           (.ops [⟨some 21, none, .faddr 0 (.tmp 2)⟩,
             ⟨some 22, none, .load1 (.tmp 21)⟩,
             ⟨some 23, none, .bin .eql (.tmp 22) (.const (.int .i64 (0)))⟩,
             ⟨some 24, none, .mov (.tmp 23)⟩,
             ⟨some 25, some (24, true), .faddr 1 (.tmp 2)⟩,
             ⟨some 26, some (24, true), .load1 (.tmp 25)⟩,
             ⟨some 27, some (24, true), .bin .eql (.tmp 26) (.const (.int .i64 (0)))⟩,
             ⟨some 28, none, .pick (.tmp 24) (.tmp 27) (.const (.bool false))⟩,
             ⟨some 29, none, .mov (.tmp 28)⟩,
             ⟨some 30, some (29, true), .mov (.tmp 7)⟩,
             ⟨some 31, none, .pick (.tmp 29) (.tmp 30) (.const (.bool false))⟩,
             ⟨some 4, none, .mov (.tmp 31)⟩,
             ⟨some 5, none, .mov (.const (.int .i64 (1)))⟩])
           .ret)
          (.seq
           (.ops [⟨some 33, none, .bin .eql (.tmp 18) (.const (.int .i64 (1)))⟩,
             ⟨some 32, none, .mov (.tmp 33)⟩])
           (.cond (.tmp 32)
            (.seq
             (.ops [⟨some 34, none, .faddr 0 (.tmp 2)⟩,
               ⟨some 35, none, .load1 (.tmp 34)⟩,
               ⟨some 36, none, .bin .eql (.tmp 35) (.const (.int .i64 (1)))⟩,
               ⟨some 37, none, .mov (.tmp 36)⟩,
               ⟨some 38, some (37, true), .faddr 1 (.tmp 2)⟩,
               ⟨some 39, some (37, true), .load1 (.tmp 38)⟩,
               ⟨some 40, some (37, true), .bin .eql (.tmp 39) (.const (.int .i64 (0)))⟩,
               ⟨some 41, none, .pick (.tmp 37) (.tmp 40) (.const (.bool false))⟩,
               ⟨some 42, none, .mov (.tmp 41)⟩,
               ⟨some 43, some (42, true), .mov (.tmp 7)⟩,
               ⟨some 44, none, .pick (.tmp 42) (.tmp 43) (.const (.bool false))⟩,
               ⟨some 4, none, .mov (.tmp 44)⟩,
               ⟨some 5, none, .mov (.const (.int .i64 (2)))⟩])
             .ret)
            (.seq
             (.ops [⟨some 46, none, .bin .eql (.tmp 18) (.const (.int .i64 (2)))⟩,
               ⟨some 45, none, .mov (.tmp 46)⟩])
             (.cond (.tmp 45)
              (.seq
               (.ops [⟨some 47, none, .faddr 0 (.tmp 2)⟩,
                 ⟨some 48, none, .load1 (.tmp 47)⟩,
                 ⟨some 49, none, .bin .eql (.tmp 48) (.const (.int .i64 (1)))⟩,
                 ⟨some 50, none, .mov (.tmp 49)⟩,
                 ⟨some 51, some (50, true), .faddr 1 (.tmp 2)⟩,
                 ⟨some 52, some (50, true), .load1 (.tmp 51)⟩,
                 ⟨some 53, some (50, true), .bin .eql (.tmp 52) (.const (.int .i64 (0)))⟩,
                 ⟨some 54, none, .pick (.tmp 50) (.tmp 53) (.const (.bool false))⟩,
                 ⟨some 55, none, .mov (.tmp 54)⟩,
                 ⟨some 56, some (55, true), .mov (.tmp 7)⟩,
                 ⟨some 57, none, .pick (.tmp 55) (.tmp 56) (.const (.bool false))⟩,
                 ⟨some 4, none, .mov (.tmp 57)⟩,
                 ⟨some 5, none, .mov (.const (.int .i64 (4)))⟩])
               .ret)
              (.seq
               (.ops [⟨some 59, none, .bin .eql (.tmp 18) (.const (.int .i64 (3)))⟩,
                 ⟨some 58, none, .mov (.tmp 59)⟩])
               (.cond (.tmp 58)
                (.seq
                 (.ops [⟨some 60, none, .faddr 1 (.tmp 2)⟩,
                   ⟨some 61, none, .load1 (.tmp 60)⟩,
                   ⟨some 62, none, .bin .eql (.tmp 61) (.const (.int .i64 (1)))⟩,
                   ⟨some 63, none, .mov (.tmp 62)⟩,
                   ⟨some 64, some (63, true), .mov (.tmp 7)⟩,
                   ⟨some 65, none, .pick (.tmp 63) (.tmp 64) (.const (.bool false))⟩,
                   ⟨some 4, none, .mov (.tmp 65)⟩,
                   ⟨some 5, none, .mov (.const (.int .i64 (2)))⟩])
                 .ret)
                (.seq
                 (.ops [⟨some 67, none, .bin .eql (.tmp 18) (.const (.int .i64 (4)))⟩,
                   ⟨some 66, none, .mov (.tmp 67)⟩])
                 (.cond (.tmp 66)
                  (.seq
                   (.ops [⟨some 68, none, .faddr 1 (.tmp 2)⟩,
                     ⟨some 69, none, .load1 (.tmp 68)⟩,
                     ⟨some 70, none, .bin .eql (.tmp 69) (.const (.int .i64 (1)))⟩,
                     ⟨some 71, none, .mov (.tmp 70)⟩,
                     ⟨some 72, some (71, true), .mov (.tmp 7)⟩,
                     ⟨some 73, none, .pick (.tmp 71) (.tmp 72) (.const (.bool false))⟩,
                     ⟨some 4, none, .mov (.tmp 73)⟩,
                     ⟨some 5, none, .mov (.const (.int .i64 (4)))⟩])
                   .ret)
                  (.seq
                   (.ops [⟨some 75, none, .bin .eql (.tmp 18) (.const (.int .i64 (5)))⟩,
                     ⟨some 74, none, .mov (.tmp 75)⟩])
                   (.cond (.tmp 74)
                    (.seq
                     (.ops [⟨some 76, none, .faddr 1 (.tmp 2)⟩,
                       ⟨some 77, none, .load1 (.tmp 76)⟩,
                       ⟨some 78, none, .bin .eql (.tmp 77) (.const (.int .i64 (2)))⟩,
                       ⟨some 79, none, .mov (.tmp 78)⟩,
                       ⟨some 80, some (79, true), .mov (.tmp 7)⟩,
                       ⟨some 81, none, .pick (.tmp 79) (.tmp 80) (.const (.bool false))⟩,
                       ⟨some 4, none, .mov (.tmp 81)⟩,
                       ⟨some 5, none, .mov (.const (.int .i64 (3)))⟩])
                     .ret)
                    (.seq
                     (.ops [⟨some 83, none, .bin .eql (.tmp 18) (.const (.int .i64 (6)))⟩,
                       ⟨some 82, none, .mov (.tmp 83)⟩])
                     (.cond (.tmp 82)
                      (.seq
                       (.ops [⟨some 84, none, .faddr 1 (.tmp 2)⟩,
                         ⟨some 85, none, .load1 (.tmp 84)⟩,
                         ⟨some 86, none, .bin .eql (.tmp 85) (.const (.int .i64 (2)))⟩,
                         ⟨some 87, none, .mov (.tmp 86)⟩,
                         ⟨some 88, some (87, true), .mov (.tmp 7)⟩,
                         ⟨some 89, none, .pick (.tmp 87) (.tmp 88) (.const (.bool false))⟩,
                         ⟨some 4, none, .mov (.tmp 89)⟩,
                         ⟨some 5, none, .mov (.const (.int .i64 (4)))⟩])
                       .ret)
                      (.seq
                       (.ops [⟨some 91, none, .bin .eql (.tmp 18) (.const (.int .i64 (7)))⟩,
                         ⟨some 90, none, .mov (.tmp 91)⟩])
                       (.cond (.tmp 90)
                        (.seq
                         (.ops [⟨some 92, none, .faddr 0 (.tmp 2)⟩,
                           ⟨some 93, none, .load1 (.tmp 92)⟩,
                           ⟨some 94, none, .bin .eql (.tmp 93) (.const (.int .i64 (0)))⟩,
                           ⟨some 95, none, .mov (.tmp 94)⟩,
                           ⟨some 96, some (95, true), .mov (.tmp 8)⟩,
                           ⟨some 97, none, .pick (.tmp 95) (.tmp 96) (.const (.bool false))⟩,
                           ⟨some 98, none, .mov (.tmp 97)⟩,
                           ⟨some 99, some (98, true), .mov (.tmp 7)⟩,
                           ⟨some 100, some (98, true), .un .not (.tmp 99)⟩,
                           ⟨some 101, none, .pick (.tmp 98) (.tmp 100) (.const (.bool false))⟩,
                           ⟨some 102, none, .mov (.tmp 101)⟩,
                           ⟨some 103, some (102, true), .mov (.tmp 6)⟩,
                           ⟨some 104, some (102, true), .faddr 3 (.tmp 2)⟩,
                           ⟨some 105, some (102, true), .iaddrA 4 1 (.tmp 104) (.tmp 103)⟩,
                           ⟨some 106, some (102, true), .load1 (.tmp 105)⟩,
                           ⟨some 107, some (102, true), .un .not (.tmp 106)⟩,
                           ⟨some 108, none, .pick (.tmp 102) (.tmp 107) (.const (.bool false))⟩,
                           ⟨some 109, none, .mov (.tmp 108)⟩,
                           ⟨some 110, some (109, true), .mov (.tmp 6)⟩,
                           ⟨some 111, some (109, true), .faddr 7 (.tmp 2)⟩,
                           ⟨some 112, some (109, true), .iaddrA 4 1 (.tmp 111) (.tmp 110)⟩,
                           ⟨some 113, some (109, true), .load1 (.tmp 112)⟩,
                           ⟨some 114, some (109, true), .un .not (.tmp 113)⟩,
                           ⟨some 115, none, .pick (.tmp 109) (.tmp 114) (.const (.bool false))⟩,
                           ⟨some 116, none, .mov (.tmp 115)⟩,
                           ⟨some 117, some (116, true), .mov (.tmp 6)⟩,
                           ⟨some 118, some (116, true), .faddr 11 (.tmp 2)⟩,
                           ⟨some 119, some (116, true), .iaddrA 4 1 (.tmp 118) (.tmp 117)⟩,
                           ⟨some 120, some (116, true), .load1 (.tmp 119)⟩,
                           ⟨some 121, some (116, true), .un .not (.tmp 120)⟩,
                           ⟨some 122, none, .pick (.tmp 116) (.tmp 121) (.const (.bool false))⟩,
                           ⟨some 4, none, .mov (.tmp 122)⟩,
                           ⟨some 5, none, .mov (.const (.int .i64 (3)))⟩])
                         .ret)
                        (.seq
                         (.ops [⟨some 124, none, .bin .eql (.tmp 18) (.const (.int .i64 (8)))⟩,
                           ⟨some 123, none, .mov (.tmp 124)⟩])
                         (.cond (.tmp 123)
                          (.seq
                           (.ops [⟨some 125, none, .mov (.tmp 8)⟩,
                             ⟨some 126, none, .mov (.tmp 125)⟩,
                             ⟨some 127, some (126, true), .mov (.tmp 7)⟩,
                             ⟨some 128, some (126, true), .un .not (.tmp 127)⟩,
                             ⟨some 129, none, .pick (.tmp 126) (.tmp 128) (.const (.bool false))⟩,
                             ⟨some 130, none, .mov (.tmp 129)⟩,
                             ⟨some 131, some (130, true), .mov (.tmp 6)⟩,
                             ⟨some 132, some (130, true), .faddr 7 (.tmp 2)⟩,
                             ⟨some 133, some (130, true), .iaddrA 4 1 (.tmp 132) (.tmp 131)⟩,
                             ⟨some 134, some (130, true), .load1 (.tmp 133)⟩,
                             ⟨some 135, some (130, true), .un .not (.tmp 134)⟩,
                             ⟨some 136, none, .pick (.tmp 130) (.tmp 135) (.const (.bool false))⟩,
                             ⟨some 137, none, .mov (.tmp 136)⟩,
                             ⟨some 138, some (137, true), .mov (.tmp 6)⟩,
                             ⟨some 139, some (137, true), .faddr 11 (.tmp 2)⟩,
                             ⟨some 140, some (137, true), .iaddrA 4 1 (.tmp 139) (.tmp 138)⟩,
                             ⟨some 141, some (137, true), .load1 (.tmp 140)⟩,
                             ⟨some 142, some (137, true), .un .not (.tmp 141)⟩,
                             ⟨some 143, none, .pick (.tmp 137) (.tmp 142) (.const (.bool false))⟩,
                             ⟨some 144, none, .mov (.tmp 143)⟩,
                             ⟨some 145, some (144, true), .faddr 0 (.tmp 2)⟩,
                             ⟨some 146, some (144, true), .load1 (.tmp 145)⟩,
                             ⟨some 147, some (144, true), .bin .neq (.tmp 146) (.const (.int .i64 (0)))⟩,
                             ⟨some 148, some (144, true), .mov (.tmp 147)⟩,
                             ⟨some 149, some (148, false), .mov (.tmp 6)⟩,
                             ⟨some 150, some (148, false), .faddr 3 (.tmp 2)⟩,
                             ⟨some 151, some (148, false), .iaddrA 4 1 (.tmp 150) (.tmp 149)⟩,
                             ⟨some 152, some (148, false), .load1 (.tmp 151)⟩,
                             ⟨some 153, some (144, true), .pick (.tmp 148) (.const (.bool true)) (.tmp 152)⟩,
                             ⟨some 154, none, .pick (.tmp 144) (.tmp 153) (.const (.bool false))⟩,
                             ⟨some 4, none, .mov (.tmp 154)⟩,
                             ⟨some 5, none, .mov (.const (.int .i64 (3)))⟩])
                           .ret)
                          (.seq
                           (.ops [⟨some 156, none, .bin .eql (.tmp 18) (.const (.int .i64 (9)))⟩,
                             ⟨some 155, none, .mov (.tmp 156)⟩])
                           (.cond (.tmp 155)
                            (.seq
                             (.ops [⟨some 157, none, .mov (.tmp 8)⟩,
                               ⟨some 158, none, .mov (.tmp 157)⟩,
                               ⟨some 159, some (158, true), .mov (.tmp 6)⟩,
                               ⟨some 160, some (158, true), .faddr 7 (.tmp 2)⟩,
                               ⟨some 161, some (158, true), .iaddrA 4 1 (.tmp 160) (.tmp 159)⟩,
                               ⟨some 162, some (158, true), .load1 (.tmp 161)⟩,
                               ⟨some 163, none, .pick (.tmp 158) (.tmp 162) (.const (.bool false))⟩,
                               ⟨some 4, none, .mov (.tmp 163)⟩,
                               ⟨some 5, none, .mov (.const (.int .i64 (3)))⟩])
                             .ret)
                            (.seq
                             (.seq
                              (.ops [⟨some 165, none, .bin .eql (.tmp 18) (.const (.int .i64 (10)))⟩,
                                ⟨some 164, none, .mov (.tmp 165)⟩])
                              (.cond (.tmp 164)
                               .skip
                               (.seq
                                (.ops [⟨some 166, none, .bin .eql (.tmp 18) (.const (.int .i64 (11)))⟩,
                                  ⟨some 164, none, .mov (.tmp 166)⟩])
                                (.cond (.tmp 164)
                                 .skip
                                 (.seq
                                  (.ops [⟨some 167, none, .bin .eql (.tmp 18) (.const (.int .i64 (12)))⟩,
                                    ⟨some 164, none, .mov (.tmp 167)⟩])
                                  (.cond (.tmp 164)
                                   .skip
                                   (.ops [⟨some 168, none, .bin .eql (.tmp 18) (.const (.int .i64 (13)))⟩,
                                     ⟨some 164, none, .mov (.tmp 168)⟩])))))))
                             (.cond (.tmp 164)
                              (.seq
                               (.ops [⟨some 169, none, .mov (.tmp 8)⟩,
                                 ⟨some 170, none, .mov (.tmp 169)⟩,
                                 ⟨some 171, some (170, true), .faddr 2 (.tmp 2)⟩,
                                 ⟨some 172, some (170, true), .load1 (.tmp 171)⟩,
                                 ⟨some 173, none, .pick (.tmp 170) (.tmp 172) (.const (.bool false))⟩,
                                 ⟨some 174, none, .mov (.tmp 173)⟩,
                                 ⟨some 175, some (174, true), .mov (.tmp 7)⟩,
                                 ⟨some 176, none, .pick (.tmp 174) (.tmp 175) (.const (.bool false))⟩,
                                 ⟨some 177, none, .mov (.tmp 176)⟩,
                                 ⟨some 178, some (177, true), .faddr 7 (.tmp 2)⟩,
                                 ⟨some 179, some (177, true), .iaddrA 4 1 (.tmp 178) (.const (.int .i64 (0)))⟩,
                                 ⟨some 180, some (177, true), .load1 (.tmp 179)⟩,
                                 ⟨some 181, none, .pick (.tmp 177) (.tmp 180) (.const (.bool false))⟩,
                                 ⟨some 4, none, .mov (.tmp 181)⟩,
                                 ⟨some 5, none, .mov (.const (.int .i64 (4)))⟩])
                               .ret)
                              (.seq
                               (.ops [⟨some 183, none, .bin .eql (.tmp 18) (.const (.int .i64 (14)))⟩,
                                 ⟨some 182, none, .mov (.tmp 183)⟩])
                               (.cond (.tmp 182)
                                (.seq
                                 (.ops [⟨some 184, none, .mov (.tmp 8)⟩,
                                   ⟨some 185, none, .mov (.tmp 184)⟩,
                                   ⟨some 186, some (185, false), .faddr 1 (.tmp 2)⟩,
                                   ⟨some 187, some (185, false), .load1 (.tmp 186)⟩,
                                   ⟨some 188, some (185, false), .bin .eql (.tmp 187) (.const (.int .i64 (4)))⟩,
                                   ⟨some 189, none, .pick (.tmp 185) (.const (.bool true)) (.tmp 188)⟩,
                                   ⟨some 190, none, .mov (.tmp 189)⟩,
                                   ⟨some 191, some (190, true), .mov (.tmp 7)⟩,
                                   ⟨some 192, none, .pick (.tmp 190) (.tmp 191) (.const (.bool false))⟩,
                                   ⟨some 4, none, .mov (.tmp 192)⟩,
                                   ⟨some 5, none, .mov (.const (.int .i64 (5)))⟩])
                                 .ret)
                                (.seq
                                 (.ops [⟨some 194, none, .bin .eql (.tmp 18) (.const (.int .i64 (15)))⟩,
                                   ⟨some 193, none, .mov (.tmp 194)⟩])
                                 (.cond (.tmp 193)
                                  (.seq
                                   (.ops [⟨some 195, none, .faddr 1 (.tmp 2)⟩,
                                     ⟨some 196, none, .load1 (.tmp 195)⟩,
                                     ⟨some 197, none, .bin .neq (.tmp 196) (.const (.int .i64 (0)))⟩,
                                     ⟨some 198, none, .mov (.tmp 197)⟩,
                                     ⟨some 199, some (198, true), .faddr 1 (.tmp 2)⟩,
                                     ⟨some 200, some (198, true), .load1 (.tmp 199)⟩,
                                     ⟨some 201, some (198, true), .bin .neq (.tmp 200) (.const (.int .i64 (5)))⟩,
                                     ⟨some 202, none, .pick (.tmp 198) (.tmp 201) (.const (.bool false))⟩,
                                     ⟨some 203, none, .mov (.tmp 202)⟩,
                                     ⟨some 204, some (203, true), .faddr 1 (.tmp 2)⟩,
                                     ⟨some 205, some (203, true), .load1 (.tmp 204)⟩,
                                     ⟨some 206, some (203, true), .bin .neq (.tmp 205) (.const (.int .i64 (6)))⟩,
                                     ⟨some 207, none, .pick (.tmp 203) (.tmp 206) (.const (.bool false))⟩,
                                     ⟨some 208, none, .mov (.tmp 207)⟩,
                                     ⟨some 209, some (208, true), .mov (.tmp 7)⟩,
                                     ⟨some 210, none, .pick (.tmp 208) (.tmp 209) (.const (.bool false))⟩,
                                     ⟨some 4, none, .mov (.tmp 210)⟩,
                                     ⟨some 5, none, .mov (.const (.int .i64 (6)))⟩])
                                   .ret)
                                  (.seq
                                   (.ops [⟨some 212, none, .bin .eql (.tmp 18) (.const (.int .i64 (16)))⟩,
                                     ⟨some 211, none, .mov (.tmp 212)⟩])
                                   (.cond (.tmp 211)
                                    (.seq
                                     (.ops [⟨some 213, none, .mov (.tmp 8)⟩,
                                       ⟨some 4, none, .mov (.tmp 213)⟩,
                                       ⟨some 5, none, .mov (.const (.int .i64 (6)))⟩])
                                     .ret)
                                    (.seq
                                     (.ops [⟨some 215, none, .bin .eql (.tmp 18) (.const (.int .i64 (17)))⟩,
                                       ⟨some 214, none, .mov (.tmp 215)⟩])
                                     (.cond (.tmp 214)
                                      (.seq
                                       (.ops [⟨some 216, none, .faddr 1 (.tmp 2)⟩,
                                         ⟨some 217, none, .load1 (.tmp 216)⟩,
                                         ⟨some 218, none, .bin .eql (.tmp 217) (.const (.int .i64 (1)))⟩,
                                         ⟨some 219, none, .mov (.tmp 218)⟩,
                                         ⟨some 220, some (219, false), .faddr 1 (.tmp 2)⟩,
                                         ⟨some 221, some (219, false), .load1 (.tmp 220)⟩,
                                         ⟨some 222, some (219, false), .bin .eql (.tmp 221) (.const (.int .i64 (2)))⟩,
                                         ⟨some 223, none, .pick (.tmp 219) (.const (.bool true)) (.tmp 222)⟩,
                                         ⟨some 224, none, .mov (.tmp 223)⟩,
                                         ⟨some 225, some (224, false), .faddr 1 (.tmp 2)⟩,
                                         ⟨some 226, some (224, false), .load1 (.tmp 225)⟩,
                                         ⟨some 227, some (224, false), .bin .eql (.tmp 226) (.const (.int .i64 (4)))⟩,
                                         ⟨some 228, none, .pick (.tmp 224) (.const (.bool true)) (.tmp 227)⟩,
                                         ⟨some 9, none, .mov (.tmp 228)⟩])
                                       (.seq
                                        (.ops [⟨some 229, none, .mov (.tmp 9)⟩,
                                          ⟨some 230, none, .mov (.tmp 229)⟩,
                                          ⟨some 231, some (230, true), .mov (.tmp 7)⟩,
                                          ⟨some 232, none, .pick (.tmp 230) (.tmp 231) (.const (.bool false))⟩,
                                          ⟨some 233, none, .mov (.tmp 232)⟩,
                                          ⟨some 234, some (233, false), .mov (.tmp 8)⟩,
                                          ⟨some 235, some (233, false), .mov (.tmp 234)⟩,
                                          ⟨some 236, some (235, true), .loadN 15 (.tmp 2)⟩,
                                          ⟨some 237, some (235, true), .call 50 [(.tmp 236)]⟩,
                                          ⟨some 238, some (233, false), .pick (.tmp 235) (.tmp 237) (.const (.bool false))⟩,
                                          ⟨some 239, some (233, false), .mov (.tmp 238)⟩,
                                          ⟨some 240, some (239, true), .mov (.tmp 6)⟩,
                                          ⟨some 241, some (239, true), .faddr 11 (.tmp 2)⟩,
                                          ⟨some 242, some (239, true), .iaddrA 4 1 (.tmp 241) (.tmp 240)⟩,
                                          ⟨some 243, some (239, true), .load1 (.tmp 242)⟩,
                                          ⟨some 244, some (233, false), .pick (.tmp 239) (.tmp 243) (.const (.bool false))⟩,
                                          ⟨some 245, none, .pick (.tmp 233) (.const (.bool true)) (.tmp 244)⟩,
                                          ⟨some 4, none, .mov (.tmp 245)⟩,
                                          ⟨some 5, none, .mov (.const (.int .i64 (6)))⟩])
                                        .ret))
                                      .skip))))))))))))))))))))))))))))))))
      (.seq
       (.ops [⟨some 4, none, .mov (.const (.bool false))⟩,
         ⟨some 5, none, .mov (.const (.int .i64 (0)))⟩])
       .ret))))))⟩

-- not compiled: 32
-- not compiled: 33
-- not compiled: 34
theorem t31 : T 31 = some c31 := by kernel_rfl

/-- plait/mode.sole -/
def c36 : AFunc := ⟨19, 2, [.inl 4],
 (.seq
  (.ops [⟨some 2, none, .box 34 15 (.tmp 0)⟩,
    ⟨some 4, none, .mov (.const (.bool false))⟩])
  (.seq
   (.opsD [⟨some 5, none, .faddr 2 (.tmp 2)⟩,
     ⟨some 6, none, .load1 (.tmp 5)⟩,
     ⟨some 7, none, .mov (.tmp 6)⟩,
     ⟨some 8, some (7, true), .faddr 7 (.tmp 2)⟩,
     ⟨some 9, some (7, true), .iaddrA 4 1 (.tmp 8) (.const (.int .i64 (0)))⟩,
     ⟨some 10, some (7, true), .load1 (.tmp 9)⟩,
     ⟨some 11, none, .pick (.tmp 7) (.tmp 10) (.const (.bool false))⟩,
     ⟨some 12, none, .mov (.tmp 11)⟩,
     ⟨some 13, some (12, true), .bslice 3 1 [.int .i64 (0)] [(0, 1, (.const (.int .i64 (3))))]⟩,
     ⟨some 14, some (12, true), .call 38 [(.tmp 13)]⟩,
     ⟨some 15, some (12, true), .loadN 15 (.tmp 2)⟩,
     ⟨some 16, some (12, true), .mov (.tmp 1)⟩,
     ⟨some 17, some (12, true), .callv (.tmp 14) [(.tmp 15), (.tmp 16)]⟩,
     ⟨some 18, none, .pick (.tmp 12) (.tmp 17) (.const (.bool false))⟩,
     ⟨some 4, none, .mov (.tmp 18)⟩] [(10, 9), (10, 10)])
   .ret))⟩
theorem t36 : T 36 = some c36 := by kernel_rfl

/-- plait/mode.idle -/
def c37 : AFunc := ⟨4, 1, [.inl 2],
 (.seq
  (.ops [⟨some 1, none, .box 3 1 (.tmp 0)⟩,
    ⟨some 2, none, .mov (.const (.nilFunc))⟩])
  (.seq
   (.ops [⟨some 3, none, .mkF 54 [] [(.tmp 1)]⟩,
     ⟨some 2, none, .mov (.tmp 3)⟩])
   .ret))⟩
theorem t37 : T 37 = some c37 := by kernel_rfl

/-- plait/mode.in -/
def c38 : AFunc := ⟨4, 1, [.inl 2],
 (.seq
  (.ops [⟨some 1, none, .box 114 1 (.tmp 0)⟩,
    ⟨some 2, none, .mov (.const (.nilFunc))⟩])
  (.seq
   (.ops [⟨some 3, none, .mkF 55 [] [(.tmp 1)]⟩,
     ⟨some 2, none, .mov (.tmp 3)⟩])
   .ret))⟩
theorem t38 : T 38 = some c38 := by kernel_rfl

/-- plait/mode.rows$1 -/
def c39 : AFunc := ⟨9, 2, [],
 (.ops [⟨some 4, none, .mov (.tmp 0)⟩,
   ⟨some 5, none, .mov (.tmp 1)⟩,
   ⟨some 6, none, .nilchk (.tmp 4)⟩,
   ⟨some 7, none, .faddr 7 (.tmp 6)⟩,
   ⟨some 8, none, .iaddrA 4 1 (.tmp 7) (.tmp 5)⟩,
   ⟨none, none, .store 1 (.tmp 8) (.const (.bool true))⟩])⟩
theorem t39 : T 39 = some c39 := by kernel_rfl

/-- plait/mode.rows$2 -/
def c40 : AFunc := ⟨20, 2, [.inl 4],
 (.seq
  (.ops [⟨some 2, none, .box 34 15 (.tmp 0)⟩,
    ⟨some 4, none, .mov (.const (.bool false))⟩])
  (.seq
   (.ops [⟨some 5, none, .faddr 0 (.tmp 2)⟩,
     ⟨some 6, none, .load1 (.tmp 5)⟩,
     ⟨some 7, none, .bin .eql (.tmp 6) (.const (.int .i64 (0)))⟩,
     ⟨some 8, none, .mov (.tmp 7)⟩,
     ⟨some 9, some (8, true), .loadN 15 (.tmp 2)⟩,
     ⟨some 10, some (8, true), .mov (.tmp 1)⟩,
     ⟨some 11, some (8, true), .call 41 [(.tmp 9), (.tmp 10)]⟩,
     ⟨some 12, none, .pick (.tmp 8) (.tmp 11) (.const (.bool false))⟩,
     ⟨some 13, none, .mov (.tmp 12)⟩,
     ⟨some 14, some (13, true), .mov (.tmp 1)⟩,
     ⟨some 15, some (13, true), .faddr 3 (.tmp 2)⟩,
     ⟨some 16, some (13, true), .iaddrA 4 1 (.tmp 15) (.tmp 14)⟩,
     ⟨some 17, some (13, true), .load1 (.tmp 16)⟩,
     ⟨some 18, some (13, true), .un .not (.tmp 17)⟩,
     ⟨some 19, none, .pick (.tmp 13) (.tmp 18) (.const (.bool false))⟩,
     ⟨some 4, none, .mov (.tmp 19)⟩])
   .ret))⟩
theorem t40 : T 40 = some c40 := by kernel_rfl

/-- plait/mode.fresh -/
def c41 : AFunc := ⟨26, 2, [.inl 4],
 (.seq
  (.ops [⟨some 2, none, .box 34 15 (.tmp 0)⟩,
    ⟨some 4, none, .mov (.const (.bool false))⟩])
  (.seq
   (.ops [⟨some 5, none, .faddr 1 (.tmp 2)⟩,
     ⟨some 6, none, .load1 (.tmp 5)⟩,
     ⟨some 7, none, .bin .eql (.tmp 6) (.const (.int .i64 (3)))⟩,
     ⟨some 8, none, .mov (.tmp 7)⟩,
     ⟨some 9, some (8, true), .mov (.tmp 1)⟩,
     ⟨some 10, some (8, true), .bin .gtr (.tmp 9) (.const (.int .i64 (0)))⟩,
     ⟨some 11, none, .pick (.tmp 8) (.tmp 10) (.const (.bool false))⟩,
     ⟨some 12, none, .mov (.tmp 11)⟩,
     ⟨some 13, some (12, true), .mov (.tmp 1)⟩,
     ⟨some 14, some (12, true), .faddr 7 (.tmp 2)⟩,
     ⟨some 15, some (12, true), .iaddrA 4 1 (.tmp 14) (.tmp 13)⟩,
     ⟨some 16, some (12, true), .load1 (.tmp 15)⟩,
     ⟨some 17, some (12, true), .un .not (.tmp 16)⟩,
     ⟨some 18, none, .pick (.tmp 12) (.tmp 17) (.const (.bool false))⟩,
     ⟨some 19, none, .mov (.tmp 18)⟩,
     ⟨some 20, some (19, true), .mov (.tmp 1)⟩,
     ⟨some 21, some (19, true), .faddr 11 (.tmp 2)⟩,
     ⟨some 22, some (19, true), .iaddrA 4 1 (.tmp 21) (.tmp 20)⟩,
     ⟨some 23, some (19, true), .load1 (.tmp 22)⟩,
     ⟨some 24, some (19, true), .un .not (.tmp 23)⟩,
     ⟨some 25, none, .pick (.tmp 19) (.tmp 24) (.const (.bool false))⟩,
     ⟨some 4, none, .mov (.tmp 25)⟩])
   .ret))⟩
theorem t41 : T 41 = some c41 := by kernel_rfl

/-- plait/mode.rows$3 -/
def c42 : AFunc := ⟨12, 2, [],
 (.ops [⟨some 4, none, .mov (.tmp 0)⟩,
   ⟨some 5, none, .mov (.tmp 1)⟩,
   ⟨some 6, none, .mov (.tmp 0)⟩,
   ⟨some 7, none, .nilchk (.tmp 4)⟩,
   ⟨some 8, none, .faddr 3 (.tmp 7)⟩,
   ⟨some 9, none, .iaddrA 4 1 (.tmp 8) (.tmp 5)⟩,
   ⟨none, none, .store 1 (.tmp 9) (.const (.bool true))⟩,
   ⟨some 10, none, .nilchk (.tmp 6)⟩,
   ⟨some 11, none, .faddr 2 (.tmp 10)⟩,
   ⟨none, none, .store 1 (.tmp 11) (.const (.bool false))⟩])⟩
theorem t42 : T 42 = some c42 := by kernel_rfl

/-- plait/mode.rows$4 -/
def c43 : AFunc := ⟨19, 2, [.inl 4],
 (.seq
  (.ops [⟨some 2, none, .box 34 15 (.tmp 0)⟩,
    ⟨some 4, none, .mov (.const (.bool false))⟩])
  (.seq
   (.ops [⟨some 5, none, .loadN 15 (.tmp 2)⟩,
     ⟨some 6, none, .mov (.tmp 1)⟩,
     ⟨some 7, none, .call 41 [(.tmp 5), (.tmp 6)]⟩,
     ⟨some 8, none, .mov (.tmp 7)⟩,
     ⟨some 9, some (8, true), .mov (.tmp 1)⟩,
     ⟨some 10, some (8, true), .faddr 3 (.tmp 2)⟩,
     ⟨some 11, some (8, true), .iaddrA 4 1 (.tmp 10) (.tmp 9)⟩,
     ⟨some 12, some (8, true), .load1 (.tmp 11)⟩,
     ⟨some 13, some (8, true), .mov (.tmp 12)⟩,
     ⟨some 14, some (13, false), .faddr 0 (.tmp 2)⟩,
     ⟨some 15, some (13, false), .load1 (.tmp 14)⟩,
     ⟨some 16, some (13, false), .bin .neq (.tmp 15) (.const (.int .i64 (0)))⟩,
     ⟨some 17, some (8, true), .pick (.tmp 13) (.const (.bool true)) (.tmp 16)⟩,
     ⟨some 18, none, .pick (.tmp 8) (.tmp 17) (.const (.bool false))⟩,
     ⟨some 4, none, .mov (.tmp 18)⟩])
   .ret))⟩
theorem t43 : T 43 = some c43 := by kernel_rfl

/-- plait/mode.rows$5 -/
def c44 : AFunc := ⟨12, 2, [],
 (.ops [⟨some 4, none, .mov (.tmp 0)⟩,
   ⟨some 5, none, .mov (.tmp 1)⟩,
   ⟨some 6, none, .mov (.tmp 0)⟩,
   ⟨some 7, none, .nilchk (.tmp 4)⟩,
   ⟨some 8, none, .faddr 7 (.tmp 7)⟩,
   ⟨some 9, none, .iaddrA 4 1 (.tmp 8) (.tmp 5)⟩,
   ⟨none, none, .store 1 (.tmp 9) (.const (.bool true))⟩,
   ⟨some 10, none, .nilchk (.tmp 6)⟩,
   ⟨some 11, none, .faddr 2 (.tmp 10)⟩,
   ⟨none, none, .store 1 (.tmp 11) (.const (.bool false))⟩])⟩
theorem t44 : T 44 = some c44 := by kernel_rfl

/-- plait/mode.rows$6 -/
def c45 : AFunc := ⟨14, 2, [.inl 4],
 (.seq
  (.ops [⟨some 2, none, .box 34 15 (.tmp 0)⟩,
    ⟨some 4, none, .mov (.const (.bool false))⟩])
  (.seq
   (.ops [⟨some 5, none, .faddr 1 (.tmp 2)⟩,
     ⟨some 6, none, .load1 (.tmp 5)⟩,
     ⟨some 7, none, .bin .eql (.tmp 6) (.const (.int .i64 (3)))⟩,
     ⟨some 8, none, .mov (.tmp 7)⟩,
     ⟨some 9, some (8, true), .mov (.tmp 1)⟩,
     ⟨some 10, some (8, true), .faddr 7 (.tmp 2)⟩,
     ⟨some 11, some (8, true), .iaddrA 4 1 (.tmp 10) (.tmp 9)⟩,
     ⟨some 12, some (8, true), .load1 (.tmp 11)⟩,
     ⟨some 13, none, .pick (.tmp 8) (.tmp 12) (.const (.bool false))⟩,
     ⟨some 4, none, .mov (.tmp 13)⟩])
   .ret))⟩
theorem t45 : T 45 = some c45 := by kernel_rfl

/-- plait/mode.rows$7 -/
def c46 : AFunc := ⟨14, 2, [],
 (.opsD [⟨some 4, none, .mov (.tmp 0)⟩,
   ⟨some 5, none, .mov (.tmp 1)⟩,
   ⟨some 6, none, .mov (.tmp 0)⟩,
   ⟨some 7, none, .mov (.tmp 1)⟩,
   ⟨some 8, none, .nilchk (.tmp 4)⟩,
   ⟨some 9, none, .faddr 7 (.tmp 8)⟩,
   ⟨some 10, none, .iaddrA 4 1 (.tmp 9) (.tmp 5)⟩,
   ⟨none, none, .store 1 (.tmp 10) (.const (.bool false))⟩,
   ⟨some 11, none, .nilchk (.tmp 6)⟩,
   ⟨some 12, none, .faddr 11 (.tmp 11)⟩,
   ⟨some 13, none, .iaddrA 4 1 (.tmp 12) (.tmp 7)⟩,
   ⟨none, none, .store 1 (.tmp 13) (.const (.bool true))⟩] [])⟩
theorem t46 : T 46 = some c46 := by kernel_rfl

/-- plait/mode.open -/
def c47 : AFunc := ⟨22, 2, [.inl 4],
 (.seq
  (.ops [⟨some 2, none, .box 34 15 (.tmp 0)⟩,
    ⟨some 4, none, .mov (.const (.bool false))⟩])
  (.seq
   (.ops [⟨some 5, none, .mov (.tmp 1)⟩,
     ⟨some 6, none, .bin .eql (.tmp 5) (.const (.int .i64 (0)))⟩,
     ⟨some 7, none, .mov (.tmp 6)⟩,
     ⟨some 8, some (7, true), .faddr 1 (.tmp 2)⟩,
     ⟨some 9, some (7, true), .load1 (.tmp 8)⟩,
     ⟨some 10, some (7, true), .bin .neq (.tmp 9) (.const (.int .i64 (0)))⟩,
     ⟨some 11, none, .pick (.tmp 7) (.tmp 10) (.const (.bool false))⟩,
     ⟨some 12, none, .mov (.tmp 11)⟩,
     ⟨some 13, some (12, true), .faddr 1 (.tmp 2)⟩,
     ⟨some 14, some (12, true), .load1 (.tmp 13)⟩,
     ⟨some 15, some (12, true), .bin .neq (.tmp 14) (.const (.int .i64 (5)))⟩,
     ⟨some 16, none, .pick (.tmp 12) (.tmp 15) (.const (.bool false))⟩,
     ⟨some 17, none, .mov (.tmp 16)⟩,
     ⟨some 18, some (17, true), .faddr 1 (.tmp 2)⟩,
     ⟨some 19, some (17, true), .load1 (.tmp 18)⟩,
     ⟨some 20, some (17, true), .bin .neq (.tmp 19) (.const (.int .i64 (6)))⟩,
     ⟨some 21, none, .pick (.tmp 17) (.tmp 20) (.const (.bool false))⟩,
     ⟨some 4, none, .mov (.tmp 21)⟩])
   .ret))⟩
theorem t47 : T 47 = some c47 := by kernel_rfl

/-- plait/mode.rows$8 -/
def c48 : AFunc := ⟨8, 2, [.inl 4],
 (.seq
  (.ops [⟨some 2, none, .box 34 15 (.tmp 0)⟩,
    ⟨some 4, none, .mov (.const (.bool false))⟩])
  (.seq
   (.ops [⟨some 5, none, .faddr 1 (.tmp 2)⟩,
     ⟨some 6, none, .load1 (.tmp 5)⟩,
     ⟨some 7, none, .bin .eql (.tmp 6) (.const (.int .i64 (3)))⟩,
     ⟨some 4, none, .mov (.tmp 7)⟩])
   .ret))⟩
theorem t48 : T 48 = some c48 := by kernel_rfl

/-- plait/mode.rows$9 -/
def c49 : AFunc := ⟨29, 2, [.inl 4],
 (.seq
  (.ops [⟨some 2, none, .box 34 15 (.tmp 0)⟩,
    ⟨some 4, none, .mov (.const (.bool false))⟩])
  (.seq
   (.ops [⟨some 6, none, .faddr 1 (.tmp 2)⟩,
     ⟨some 7, none, .load1 (.tmp 6)⟩,
     ⟨some 8, none, .bin .eql (.tmp 7) (.const (.int .i64 (3)))⟩,
     ⟨some 9, none, .mov (.tmp 8)⟩,
     ⟨some 10, some (9, true), .faddr 7 (.tmp 2)⟩,
     ⟨some 11, some (9, true), .loadN 4 (.tmp 10)⟩,
     ⟨some 12, some (9, true), .build [.bool false, .bool false, .bool false, .bool false] []⟩,
     ⟨some 13, some (9, true), .eqF false [(0, .b), (1, .b), (2, .b), (3, .b)] (.tmp 11) (.tmp 12)⟩,
     ⟨some 14, none, .pick (.tmp 9) (.tmp 13) (.const (.bool false))⟩,
     ⟨some 15, none, .mov (.tmp 14)⟩,
     ⟨some 16, some (15, true), .mov (.tmp 1)⟩,
     ⟨some 17, some (15, true), .faddr 11 (.tmp 2)⟩,
     ⟨some 18, some (15, true), .iaddrA 4 1 (.tmp 17) (.tmp 16)⟩,
     ⟨some 19, some (15, true), .load1 (.tmp 18)⟩,
     ⟨some 20, none, .pick (.tmp 15) (.tmp 19) (.const (.bool false))⟩,
     ⟨some 5, none, .mov (.tmp 20)⟩])
   (.seq
    (.opsD [⟨some 21, none, .mov (.tmp 5)⟩,
      ⟨some 22, none, .mov (.tmp 21)⟩,
      ⟨some 23, some (22, false), .bslice 3 3 [.int .i64 (0)] [(0, 1, (.const (.int .i64 (1)))), (1, 1, (.const (.int .i64 (2)))), (2, 1, (.const (.int .i64 (4))))]⟩,
      ⟨some 24, some (22, false), .call 38 [(.tmp 23)]⟩,
      ⟨some 25, some (22, false), .loadN 15 (.tmp 2)⟩,
      ⟨some 26, some (22, false), .mov (.tmp 1)⟩,
      ⟨some 27, some (22, false), .callv (.tmp 24) [(.tmp 25), (.tmp 26)]⟩,
      ⟨some 28, none, .pick (.tmp 22) (.const (.bool true)) (.tmp 27)⟩,
      ⟨some 4, none, .mov (.tmp 28)⟩] [(4, 3), (4, 4)])
    .ret)))⟩
theorem t49 : T 49 = some c49 := by kernel_rfl

/-- plait/plaitref28.none -/
def c50 : AFunc := ⟨12, 1, [.inl 2],
 (.seq
  (.ops [⟨some 1, none, .box 53 15 (.tmp 0)⟩,
    ⟨some 2, none, .mov (.const (.bool false))⟩])
  (.seq
   (.seq
    (.ops [⟨some 3, none, .mov (.const (.int .i64 (0)))⟩])
    (.block 0
     (.loop
      (.seq
       (.seq
        (.ops [⟨some 4, none, .mov (.tmp 3)⟩,
          ⟨some 5, none, .bin .lss (.tmp 4) (.const (.int .i64 (4)))⟩])
        (.cond (.tmp 5)
         .skip
         (.exit 0)))
       (.seq
        (.block 1
         (.seq
          (.ops [⟨some 8, none, .mov (.tmp 3)⟩,
            ⟨some 9, none, .faddr 7 (.tmp 1)⟩,
            ⟨some 10, none, .iaddrA 4 1 (.tmp 9) (.tmp 8)⟩,
            ⟨some 11, none, .load1 (.tmp 10)⟩])
          (.cond (.tmp 11)
           (.seq
            (.ops [⟨some 2, none, .mov (.const (.bool false))⟩])
            .ret)
           .skip)))
        (.ops [⟨some 6, none, .mov (.tmp 3)⟩,
          ⟨some 7, none, .bin .add (.tmp 6) (.const (.int .i64 (1)))⟩,
          ⟨some 3, none, .mov (.tmp 7)⟩]))))))
   (.seq
    (.ops [⟨some 2, none, .mov (.const (.bool true))⟩])
    .ret)))⟩

-- not compiled: 51
-- not compiled: 52
-- not compiled: 53
theorem t50 : T 50 = some c50 := by kernel_rfl

/-- plait/mode.idle$1 -/
def c54 : AFunc := ⟨17, 3, [.inl 5],
 (.seq
  (.ops [⟨some 3, none, .box 34 15 (.tmp 0)⟩,
    ⟨some 5, none, .mov (.const (.bool false))⟩])
  (.seq
   (.opsD [⟨some 6, none, .faddr 0 (.tmp 3)⟩,
     ⟨some 7, none, .load1 (.tmp 6)⟩,
     ⟨some 8, none, .load1 (.tmp 2)⟩,
     ⟨some 9, none, .bin .eql (.tmp 7) (.tmp 8)⟩,
     ⟨some 10, none, .mov (.tmp 9)⟩,
     ⟨some 11, some (10, true), .bslice 3 1 [.int .i64 (0)] [(0, 1, (.const (.int .i64 (0))))]⟩,
     ⟨some 12, some (10, true), .call 38 [(.tmp 11)]⟩,
     ⟨some 13, some (10, true), .loadN 15 (.tmp 3)⟩,
     ⟨some 14, some (10, true), .mov (.tmp 1)⟩,
     ⟨some 15, some (10, true), .callv (.tmp 12) [(.tmp 13), (.tmp 14)]⟩,
     ⟨some 16, none, .pick (.tmp 10) (.tmp 15) (.const (.bool false))⟩,
     ⟨some 5, none, .mov (.tmp 16)⟩] [(7, 6), (7, 7)])
   .ret))⟩
theorem t54 : T 54 = some c54 := by kernel_rfl

/-- plait/mode.in$1 -/
def c55 : AFunc := ⟨23, 3, [.inl 5],
 (.seq
  (.ops [⟨some 3, none, .box 34 15 (.tmp 0)⟩,
    ⟨some 5, none, .mov (.const (.bool false))⟩])
  (.seq
   (.seq
    (.ops [⟨some 8, none, .load1 (.tmp 2)⟩,
      ⟨some 9, none, .lenV (.tmp 8)⟩,
      ⟨some 10, none, .mov (.const (.int .i64 (0)))⟩])
    (.block 0
     (.loop
      (.seq
       (.ops [⟨some 11, none, .bin .lss (.tmp 10) (.tmp 9)⟩])
       (.seq
        (.cond (.tmp 11)
         .skip
         (.exit 0))
        (.seq
         (.block 1
          (.seq
           (.ops [⟨some 12, none, .iaddrS 1 (.tmp 8) (.tmp 10)⟩,
             ⟨some 13, none, .load1 (.tmp 12)⟩,
             ⟨some 7, none, .mov (.tmp 13)⟩])
           (.seq
            (.ops [⟨some 14, none, .faddr 1 (.tmp 3)⟩,
              ⟨some 15, none, .load1 (.tmp 14)⟩,
              ⟨some 16, none, .mov (.tmp 7)⟩,
              ⟨some 17, none, .bin .eql (.tmp 15) (.tmp 16)⟩,
              ⟨some 18, none, .mov (.tmp 17)⟩,
              ⟨some 19, some (18, true), .mov (.tmp 1)⟩,
              ⟨some 20, some (18, true), .bin .eql (.tmp 19) (.const (.int .i64 (0)))⟩,
              ⟨some 21, none, .pick (.tmp 18) (.tmp 20) (.const (.bool false))⟩])
            (.cond (.tmp 21)
             (.seq
              (.ops [⟨some 5, none, .mov (.const (.bool true))⟩])
              .ret)
             .skip))))
         (.ops [⟨some 22, none, .bin .add (.tmp 10) (.const (.int .i64 (1)))⟩,
           ⟨some 10, none, .mov (.tmp 22)⟩])))))))
   (.seq
    (.ops [⟨some 5, none, .mov (.const (.bool false))⟩])
    .ret)))⟩

-- not compiled: 56
-- not compiled: 57
-- not compiled: 58
-- not compiled: 59
-- not compiled: 60
theorem t55 : T 55 = some c55 := by kernel_rfl

end Go.Proofs.YtcfahggmejpdbaaDoor

