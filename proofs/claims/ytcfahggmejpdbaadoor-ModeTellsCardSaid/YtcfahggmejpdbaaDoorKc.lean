/- The code of functions, as the framework reads it. -/
import Derived.Test.YtcfahggmejpdbaaDoorTab
import Derived.KernelRfl
namespace Go.Proofs.YtcfahggmejpdbaaDoor
open Go Go.AS
set_option maxRecDepth 100000

def d10t : ACode :=
 (.seq
                 (.ops [⟨some 62, none, .loadN 15 (.tmp 5)⟩,
                   ⟨some 63, none, .loadN 3 (.tmp 9)⟩,
                   ⟨some 64, none, .call 26 [(.tmp 62), (.tmp 63)]⟩,
                   ⟨some 61, none, .mov (.tmp 64)⟩,
                   ⟨some 65, none, .ext (.tmp 61) 0⟩,
                   ⟨some 66, none, .ext (.tmp 61) 1⟩,
                   ⟨none, none, .store 15 (.tmp 5) (.tmp 65)⟩])
                 (.ops [⟨some 67, none, .mov (.tmp 6)⟩,
                   ⟨some 68, none, .loadN 3 (.tmp 9)⟩,
                   ⟨some 69, none, .bslice 31 1 [.int .i64 (0), .int .i64 (0), .int .i64 (0)] [(0, 3, (.tmp 68))]⟩,
                   ⟨some 70, none, .append 31 3 24 (.tmp 67) (.tmp 69)⟩,
                   ⟨some 6, none, .mov (.tmp 70)⟩]))

/-- (plait/plaitref28.Draft).Turns -/
def d10 : AFunc := ⟨73, 1, [.inl 2, .inl 3],
 (.seq
  (.ops [⟨some 1, none, .box 24 2 (.tmp 0)⟩,
    ⟨some 2, none, .mov (.const (.int .i64 (0)))⟩,
    ⟨some 3, none, .mov (.const (.slice none 0 0))⟩])
  (.seq
   (.ops [⟨some 10, none, .faddr 0 (.tmp 1)⟩,
     ⟨some 11, none, .load1 (.tmp 10)⟩,
     ⟨some 12, none, .bin .rem (.tmp 11) (.const (.int .u8 (2)))⟩,
     ⟨some 13, none, .cvInt .i64 (.tmp 12)⟩,
     ⟨some 4, none, .mov (.tmp 13)⟩])
   (.seq
    (.ops [⟨some 14, none, .mov (.tmp 4)⟩,
      ⟨some 15, none, .call 24 [(.tmp 14)]⟩,
      ⟨some 5, none, .alloc 53 [.int .i64 (0), .int .i64 (0), .bool false, .bool false, .bool false, .bool false, .bool false, .bool false, .bool false, .bool false, .bool false, .bool false, .bool false, .bool false, .bool false]⟩,
      ⟨none, none, .store 15 (.tmp 5) (.tmp 15)⟩])
    (.seq
     (.ops [⟨some 6, none, .mov (.const (.slice none 0 0))⟩])
     (.seq
      (.seq
       (.ops [⟨some 7, none, .mov (.const (.int .i64 (0)))⟩])
       (.block 0
        (.loop
         (.seq
          (.seq
           (.ops [⟨some 16, none, .mov (.tmp 7)⟩,
             ⟨some 17, none, .faddr 1 (.tmp 1)⟩,
             ⟨some 18, none, .load1 (.tmp 17)⟩,
             ⟨some 19, none, .lenV (.tmp 18)⟩,
             ⟨some 20, none, .bin .lss (.tmp 16) (.tmp 19)⟩,
             ⟨some 21, none, .mov (.tmp 20)⟩,
             ⟨some 22, some (21, true), .mov (.tmp 7)⟩,
             ⟨some 23, some (21, true), .bin .lss (.tmp 22) (.const (.int .i64 (40)))⟩,
             ⟨some 24, none, .pick (.tmp 21) (.tmp 23) (.const (.bool false))⟩])
           (.cond (.tmp 24)
            .skip
            (.exit 0)))
          (.seq
           (.block 1
            (.seq
             (.ops [⟨some 27, none, .loadN 15 (.tmp 5)⟩,
               ⟨some 28, none, .call 25 [(.tmp 27)]⟩,
               ⟨some 8, none, .mov (.tmp 28)⟩])
             (.seq
              (.seq
               (.ops [⟨some 29, none, .mov (.tmp 8)⟩,
                 ⟨some 30, none, .lenV (.tmp 29)⟩,
                 ⟨some 31, none, .bin .eql (.tmp 30) (.const (.int .i64 (0)))⟩])
               (.cond (.tmp 31)
                (.seq
                 (.ops [⟨some 32, none, .mov (.tmp 4)⟩,
                   ⟨some 33, none, .mov (.tmp 6)⟩,
                   ⟨some 2, none, .mov (.tmp 32)⟩,
                   ⟨some 3, none, .mov (.tmp 33)⟩])
                 .ret)
                .skip))
              (.seq
               (.ops [⟨some 34, none, .mov (.tmp 8)⟩,
                 ⟨some 35, none, .faddr 1 (.tmp 1)⟩,
                 ⟨some 36, none, .load1 (.tmp 35)⟩,
                 ⟨some 37, none, .mov (.tmp 7)⟩,
                 ⟨some 38, none, .iaddrS 1 (.tmp 36) (.tmp 37)⟩,
                 ⟨some 39, none, .load1 (.tmp 38)⟩,
                 ⟨some 40, none, .cvInt .i64 (.tmp 39)⟩,
                 ⟨some 41, none, .mov (.tmp 8)⟩,
                 ⟨some 42, none, .lenV (.tmp 41)⟩,
                 ⟨some 43, none, .bin .rem (.tmp 40) (.tmp 42)⟩,
                 ⟨some 44, none, .iaddrS 3 (.tmp 34) (.tmp 43)⟩,
                 ⟨some 45, none, .loadN 3 (.tmp 44)⟩,
                 ⟨some 9, none, .alloc 31 [.int .i64 (0), .int .i64 (0), .int .i64 (0)]⟩,
                 ⟨none, none, .store 3 (.tmp 9) (.tmp 45)⟩])
               (.seq
                (.seq
                 (.ops [⟨some 46, none, .faddr 2 (.tmp 9)⟩,
                   ⟨some 47, none, .load1 (.tmp 46)⟩,
                   ⟨some 48, none, .bin .geq (.tmp 47) (.const (.int .i64 (4)))⟩,
                   ⟨some 49, none, .mov (.tmp 48)⟩,
                   ⟨some 50, some (49, true), .faddr 1 (.tmp 1)⟩,
                   ⟨some 51, some (49, true), .load1 (.tmp 50)⟩,
                   ⟨some 52, some (49, true), .mov (.tmp 7)⟩,
                   ⟨some 53, some (49, true), .iaddrS 1 (.tmp 51) (.tmp 52)⟩,
                   ⟨some 54, some (49, true), .load1 (.tmp 53)⟩,
                   ⟨some 55, some (49, true), .bin .rem (.tmp 54) (.const (.int .u8 (4)))⟩,
                   ⟨some 56, some (49, true), .bin .gtr (.tmp 55) (.const (.int .u8 (0)))⟩,
                   ⟨some 57, none, .pick (.tmp 49) (.tmp 56) (.const (.bool false))⟩])
                 (.cond (.tmp 57)
                  (.ops [⟨some 58, none, .mov (.tmp 8)⟩,
                    ⟨some 59, none, .iaddrS 3 (.tmp 58) (.const (.int .i64 (0)))⟩,
                    ⟨some 60, none, .loadN 3 (.tmp 59)⟩,
                    ⟨none, none, .store 3 (.tmp 9) (.tmp 60)⟩])
                  .skip))
                d10t)))))
           (.ops [⟨some 25, none, .mov (.tmp 7)⟩,
             ⟨some 26, none, .bin .add (.tmp 25) (.const (.int .i64 (1)))⟩,
             ⟨some 7, none, .mov (.tmp 26)⟩]))))))
      (.seq
       (.ops [⟨some 71, none, .mov (.tmp 4)⟩,
         ⟨some 72, none, .mov (.tmp 6)⟩,
         ⟨some 2, none, .mov (.tmp 71)⟩,
         ⟨some 3, none, .mov (.tmp 72)⟩])
       .ret))))))⟩
theorem u10 : T 10 = some d10 := by kernel_rfl

end Go.Proofs.YtcfahggmejpdbaaDoor

