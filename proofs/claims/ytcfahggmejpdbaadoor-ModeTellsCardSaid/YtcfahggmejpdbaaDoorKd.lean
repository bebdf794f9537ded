/- The code of functions, as the framework reads it. -/
import Derived.Test.YtcfahggmejpdbaaDoorTab
import Derived.KernelRfl
namespace Go.Proofs.YtcfahggmejpdbaaDoor
open Go Go.AS
set_option maxRecDepth 100000

def d6t : ACode :=
 (.seq
                         (.ops [⟨some 71, none, .mov (.tmp 18)⟩,
                           ⟨some 72, none, .mov (.tmp 16)⟩,
                           ⟨some 73, none, .call 14 [(.tmp 71), (.tmp 72)]⟩,
                           ⟨some 19, none, .mov (.tmp 73)⟩])
                         (.seq
                          (.ops [⟨some 74, none, .mov (.tmp 18)⟩,
                            ⟨some 75, none, .mov (.tmp 16)⟩,
                            ⟨some 76, none, .call 17 [(.tmp 74), (.tmp 75)]⟩,
                            ⟨some 20, none, .alloc 51 [.int .i64 (0), .int .i64 (0)]⟩,
                            ⟨none, none, .store 2 (.tmp 20) (.tmp 76)⟩])
                          (.seq
                           (.ops [⟨some 78, none, .mov (.tmp 18)⟩,
                             ⟨some 79, none, .mov (.tmp 16)⟩,
                             ⟨some 80, none, .call 11 [(.tmp 78), (.tmp 79)]⟩,
                             ⟨some 77, none, .mov (.tmp 80)⟩,
                             ⟨some 81, none, .ext (.tmp 77) 0⟩,
                             ⟨some 82, none, .ext (.tmp 77) 1⟩,
                             ⟨some 21, none, .alloc 34 [.int .i64 (0), .int .i64 (0), .bool false, .bool false, .bool false, .bool false, .bool false, .bool false, .bool false, .bool false, .bool false, .bool false, .bool false, .bool false, .bool false]⟩,
                             ⟨none, none, .store 15 (.tmp 21) (.tmp 81)⟩,
                             ⟨some 22, none, .mov (.tmp 82)⟩])
                           (.seq
                            (.ops [⟨some 84, none, .mov (.tmp 18)⟩,
                              ⟨some 85, none, .mov (.tmp 16)⟩,
                              ⟨some 86, none, .call 18 [(.tmp 84), (.tmp 85)]⟩,
                              ⟨some 83, none, .mov (.tmp 86)⟩,
                              ⟨some 87, none, .ext (.tmp 83) 0⟩,
                              ⟨some 88, none, .ext (.tmp 83) 1⟩,
                              ⟨some 89, none, .ext (.tmp 83) 2⟩,
                              ⟨some 23, none, .alloc 53 [.int .i64 (0), .int .i64 (0), .bool false, .bool false, .bool false, .bool false, .bool false, .bool false, .bool false, .bool false, .bool false, .bool false, .bool false, .bool false, .bool false]⟩,
                              ⟨none, none, .store 15 (.tmp 23) (.tmp 87)⟩,
                              ⟨some 24, none, .mov (.tmp 88)⟩,
                              ⟨some 25, none, .mov (.tmp 89)⟩])
                            (.seq
                             (.opsD [⟨some 90, none, .mov (.tmp 19)⟩,
                               ⟨some 91, none, .eq false true .iface (.tmp 90) (.const (.nilIface))⟩,
                               ⟨some 92, none, .faddr 0 (.tmp 20)⟩,
                               ⟨some 93, none, .load1 (.tmp 92)⟩,
                               ⟨some 94, none, .bin .eql (.tmp 93) (.const (.int .i64 (0)))⟩,
                               ⟨some 95, none, .eq true false .bool (.tmp 91) (.tmp 94)⟩,
                               ⟨some 96, none, .mov (.tmp 95)⟩,
                               ⟨some 97, some (96, false), .mov (.tmp 19)⟩,
                               ⟨some 98, some (96, false), .call 19 [(.tmp 97)]⟩,
                               ⟨some 99, some (96, false), .loadN 2 (.tmp 20)⟩,
                               ⟨some 100, some (96, false), .eqF true [(0, .i), (1, .i)] (.tmp 98) (.tmp 99)⟩,
                               ⟨some 101, none, .pick (.tmp 96) (.const (.bool true)) (.tmp 100)⟩,
                               ⟨some 102, none, .mov (.tmp 101)⟩,
                               ⟨some 103, some (102, false), .loadN 15 (.tmp 21)⟩,
                               ⟨some 104, some (102, false), .call 20 [(.tmp 103)]⟩,
                               ⟨some 105, some (102, false), .loadN 15 (.tmp 23)⟩,
                               ⟨some 106, some (102, false), .eqF true [(0, .i), (1, .i), (2, .b), (3, .b), (4, .b), (5, .b), (6, .b), (7, .b), (8, .b), (9, .b), (10, .b), (11, .b), (12, .b), (13, .b), (14, .b)] (.tmp 104) (.tmp 105)⟩,
                               ⟨some 107, none, .pick (.tmp 102) (.const (.bool true)) (.tmp 106)⟩,
                               ⟨some 108, none, .mov (.tmp 107)⟩,
                               ⟨some 109, some (108, false), .mov (.tmp 22)⟩,
                               ⟨some 110, some (108, false), .mov (.tmp 25)⟩,
                               ⟨some 111, some (108, false), .eq true false .bool (.tmp 109) (.tmp 110)⟩,
                               ⟨some 112, none, .pick (.tmp 108) (.const (.bool true)) (.tmp 111)⟩] [(9, 8), (9, 9), (15, 14), (15, 15)])
                             (.cond (.tmp 112)
                              (.seq
                               (.ops [⟨some 10, none, .mov (.const (.bool false))⟩])
                               .ret)
                              .skip))))))

def d6u : ACode :=
 (.seq
      (.opsD [⟨some 45, none, .bslice 31 0 [] []⟩,
        ⟨some 46, none, .mov (.tmp 12)⟩,
        ⟨some 47, none, .append 31 3 24 (.tmp 45) (.tmp 46)⟩,
        ⟨some 48, none, .loadN 3 (.tmp 8)⟩,
        ⟨some 49, none, .bslice 31 1 [.int .i64 (0), .int .i64 (0), .int .i64 (0)] [(0, 3, (.tmp 48))]⟩,
        ⟨some 50, none, .append 31 3 24 (.tmp 47) (.tmp 49)⟩,
        ⟨some 14, none, .mov (.tmp 50)⟩] [(3, 2), (3, 3)])
      (.seq
       (.seq
        (.ops [⟨some 51, none, .mov (.tmp 12)⟩,
          ⟨some 52, none, .mov (.tmp 13)⟩,
          ⟨some 53, none, .mov (.tmp 14)⟩,
          ⟨some 54, none, .mov (.tmp 1)⟩,
          ⟨some 55, none, .mov (.tmp 1)⟩,
          ⟨some 56, none, .lenV (.tmp 55)⟩,
          ⟨some 57, none, .min [(.tmp 56), (.const (.int .i64 (40)))]⟩,
          ⟨some 58, none, .sliceV 3 (.tmp 54) none (some (.tmp 57)) none⟩,
          ⟨some 59, none, .build [.slice none 0 0, .slice none 0 0, .slice none 0 0, .slice none 0 0] [(0, 1, (.tmp 51)), (1, 1, (.tmp 52)), (2, 1, (.tmp 53)), (3, 1, (.tmp 58))]⟩,
          ⟨some 60, none, .mov (.const (.int .i64 (0)))⟩])
        (.block 0
         (.loop
          (.seq
           (.ops [⟨some 61, none, .bin .lss (.tmp 60) (.const (.int .i64 (4)))⟩])
           (.seq
            (.cond (.tmp 61)
             .skip
             (.exit 0))
            (.seq
             (.block 1
              (.seq
               (.ops [⟨some 62, none, .idx1 4 1 (.tmp 59) (.tmp 60)⟩,
                 ⟨some 16, none, .mov (.tmp 62)⟩])
               (.seq
                (.seq
                 (.ops [⟨some 63, none, .mov (.tmp 11)⟩,
                   ⟨some 64, none, .mov (.tmp 11)⟩,
                   ⟨some 65, none, .bin .sub (.const (.int .i64 (1))) (.tmp 64)⟩,
                   ⟨some 66, none, .mov (.tmp 4)⟩,
                   ⟨some 67, none, .build [.int .i64 (0), .int .i64 (0), .int .i64 (0)] [(0, 1, (.tmp 63)), (1, 1, (.tmp 65)), (2, 1, (.tmp 66))]⟩,
                   ⟨some 68, none, .mov (.const (.int .i64 (0)))⟩])
                 (.block 2
                  (.loop
                   (.seq
                    (.ops [⟨some 69, none, .bin .lss (.tmp 68) (.const (.int .i64 (3)))⟩])
                    (.seq
                     (.cond (.tmp 69)
                      .skip
                      (.exit 2))
                     (.seq
                      (.block 3
                       (.seq
                        (.ops [⟨some 70, none, .idx1 3 1 (.tmp 67) (.tmp 68)⟩,
                          ⟨some 18, none, .mov (.tmp 70)⟩])
                        d6t))
                      (.ops [⟨some 113, none, .bin .add (.tmp 68) (.const (.int .i64 (1)))⟩,
                        ⟨some 68, none, .mov (.tmp 113)⟩])))))))
                (.seq
                 (.ops [⟨some 114, none, .mov (.tmp 16)⟩,
                   ⟨some 115, none, .call 21 [(.tmp 114)]⟩,
                   ⟨some 116, none, .mov (.tmp 16)⟩,
                   ⟨some 117, none, .call 22 [(.tmp 116)]⟩,
                   ⟨some 118, none, .bin .neq (.tmp 115) (.tmp 117)⟩])
                 (.cond (.tmp 118)
                  (.seq
                   (.ops [⟨some 10, none, .mov (.const (.bool false))⟩])
                   .ret)
                  .skip)))))
             (.ops [⟨some 119, none, .bin .add (.tmp 60) (.const (.int .i64 (1)))⟩,
               ⟨some 60, none, .mov (.tmp 119)⟩])))))))
       (.seq
        (.ops [⟨some 120, none, .call 9 []⟩,
          ⟨some 10, none, .mov (.tmp 120)⟩])
        .ret)))

/-- plait/plaitlaw28.ModeTells -/
def d6 : AFunc := ⟨121, 5, [.inl 10],
 (.seq
  (.ops [⟨some 5, none, .box 24 2 (.tmp 0)⟩,
    ⟨some 8, none, .box 31 3 (.tmp 3)⟩,
    ⟨some 10, none, .mov (.const (.bool false))⟩])
  (.seq
   (.ops [⟨some 27, none, .loadN 2 (.tmp 5)⟩,
     ⟨some 28, none, .call 10 [(.tmp 27)]⟩,
     ⟨some 26, none, .mov (.tmp 28)⟩,
     ⟨some 29, none, .ext (.tmp 26) 0⟩,
     ⟨some 30, none, .ext (.tmp 26) 1⟩,
     ⟨some 11, none, .mov (.tmp 29)⟩,
     ⟨some 12, none, .mov (.tmp 30)⟩])
   (.seq
    (.ops [⟨some 31, none, .bslice 31 0 [] []⟩,
      ⟨some 32, none, .mov (.tmp 12)⟩,
      ⟨some 33, none, .append 31 3 24 (.tmp 31) (.tmp 32)⟩,
      ⟨some 13, none, .mov (.tmp 33)⟩])
    (.seq
     (.seq
      (.ops [⟨some 34, none, .mov (.tmp 13)⟩,
        ⟨some 35, none, .lenV (.tmp 34)⟩,
        ⟨some 36, none, .bin .gtr (.tmp 35) (.const (.int .i64 (0)))⟩])
      (.cond (.tmp 36)
       (.opsD [⟨some 37, none, .mov (.tmp 13)⟩,
         ⟨some 38, none, .mov (.tmp 2)⟩,
         ⟨some 39, none, .cvInt .i64 (.tmp 38)⟩,
         ⟨some 40, none, .mov (.tmp 13)⟩,
         ⟨some 41, none, .lenV (.tmp 40)⟩,
         ⟨some 42, none, .bin .rem (.tmp 39) (.tmp 41)⟩,
         ⟨some 43, none, .loadN 3 (.tmp 8)⟩,
         ⟨some 44, none, .iaddrS 3 (.tmp 37) (.tmp 42)⟩,
         ⟨none, none, .store 3 (.tmp 44) (.tmp 43)⟩] [])
       .skip))
     d6u))))⟩
theorem u6 : T 6 = some d6 := by kernel_rfl

end Go.Proofs.YtcfahggmejpdbaaDoor

