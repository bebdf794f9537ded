/- The code of functions, as the framework reads it. -/
import Derived.Test.YtidgbapgedegbaaTab
import Derived.KernelRfl
namespace Go.Proofs.Ytidgbapgedegbaa
open Go Go.AS
set_option maxRecDepth 100000

def c12s : ACode :=
 (.seq
                    (.ops [⟨some 194, none, .mov (.tmp 7)⟩,
                      ⟨some 195, none, .mov (.tmp 8)⟩,
                      ⟨some 196, none, .call 43 [(.tmp 195), (.const (.bool false)), (.const (.bool true))]⟩,
                      ⟨some 197, none, .call 51 [(.tmp 194), (.tmp 196)]⟩])
                    (.seq
                     (.ops [⟨some 199, none, .mov (.tmp 7)⟩,
                       ⟨some 200, none, .call 52 [(.tmp 199)]⟩,
                       ⟨some 198, none, .mov (.tmp 200)⟩,
                       ⟨some 201, none, .ext (.tmp 198) 0⟩,
                       ⟨some 202, none, .ext (.tmp 198) 1⟩,
                       ⟨some 19, none, .alloc 89 [.int .i64 (0), .int .u16 (0), .int .u16 (0), .int .u32 (0), .int .u32 (0), .bool false, .bool false, .bool false, .bool false, .int .u16 (0), .string ⟨⟨[]⟩⟩, .string ⟨⟨[]⟩⟩]⟩,
                       ⟨none, none, .store 12 (.tmp 19) (.tmp 201)⟩,
                       ⟨some 20, none, .mov (.tmp 202)⟩])
                     (.seq
                      (.ops [⟨some 203, none, .mov (.tmp 8)⟩,
                        ⟨some 204, none, .call 53 [(.tmp 203)]⟩])
                      (.seq
                       (.ops [⟨some 205, none, .mov (.tmp 7)⟩,
                         ⟨some 206, none, .mov (.tmp 8)⟩,
                         ⟨some 207, none, .call 43 [(.tmp 206), (.const (.bool false)), (.const (.bool true))]⟩,
                         ⟨some 208, none, .call 51 [(.tmp 205), (.tmp 207)]⟩])
                       (.seq
                        (.ops [⟨some 210, none, .mov (.tmp 7)⟩,
                          ⟨some 211, none, .call 46 [(.tmp 210)]⟩,
                          ⟨some 209, none, .mov (.tmp 211)⟩,
                          ⟨some 212, none, .ext (.tmp 209) 0⟩,
                          ⟨some 213, none, .ext (.tmp 209) 1⟩,
                          ⟨some 21, none, .mov (.tmp 212)⟩,
                          ⟨some 22, none, .mov (.tmp 213)⟩])
                        (.seq
                         (.ops [⟨some 214, none, .faddr 4 (.tmp 12)⟩,
                           ⟨some 215, none, .load1 (.tmp 214)⟩,
                           ⟨some 216, none, .bin .add (.tmp 215) (.const (.int .u32 (1)))⟩,
                           ⟨some 217, none, .mov (.tmp 2)⟩,
                           ⟨some 218, none, .cvInt .u32 (.tmp 217)⟩,
                           ⟨some 219, none, .bin .add (.tmp 216) (.tmp 218)⟩,
                           ⟨some 220, none, .faddr 4 (.tmp 12)⟩,
                           ⟨none, none, .store 1 (.tmp 220) (.tmp 219)⟩])
                         (.seq
                          (.opsD [⟨some 221, none, .loadN 12 (.tmp 19)⟩,
                            ⟨some 222, none, .loadN 12 (.tmp 16)⟩,
                            ⟨some 223, none, .eqF false [(0, .i), (1, .i), (2, .i), (3, .i), (4, .i), (5, .b), (6, .b), (7, .b), (8, .b), (9, .i), (10, .s), (11, .s)] (.tmp 221) (.tmp 222)⟩,
                            ⟨some 224, none, .mov (.tmp 223)⟩,
                            ⟨some 225, some (224, true), .mov (.tmp 20)⟩,
                            ⟨some 226, some (224, true), .bin .eql (.tmp 225) (.const (.int .i64 (-1)))⟩,
                            ⟨some 227, none, .pick (.tmp 224) (.tmp 226) (.const (.bool false))⟩,
                            ⟨some 228, none, .mov (.tmp 227)⟩,
                            ⟨some 229, some (228, true), .mov (.tmp 21)⟩,
                            ⟨some 230, some (228, true), .lenV (.tmp 229)⟩,
                            ⟨some 231, some (228, true), .bin .eql (.tmp 230) (.const (.int .i64 (0)))⟩,
                            ⟨some 232, none, .pick (.tmp 228) (.tmp 231) (.const (.bool false))⟩,
                            ⟨some 233, none, .mov (.tmp 232)⟩,
                            ⟨some 234, some (233, true), .mov (.tmp 7)⟩,
                            ⟨some 235, some (233, true), .call 48 [(.tmp 234)]⟩,
                            ⟨some 236, none, .pick (.tmp 233) (.tmp 235) (.const (.bool false))⟩,
                            ⟨some 237, none, .mov (.tmp 236)⟩,
                            ⟨some 238, some (237, true), .mov (.tmp 7)⟩,
                            ⟨some 239, some (237, true), .loadN 12 (.tmp 12)⟩,
                            ⟨some 240, some (237, true), .call 44 [(.tmp 238), (.tmp 239)]⟩,
                            ⟨some 241, some (237, true), .un .not (.tmp 240)⟩,
                            ⟨some 242, none, .pick (.tmp 237) (.tmp 241) (.const (.bool false))⟩,
                            ⟨some 243, none, .mov (.tmp 242)⟩,
                            ⟨some 244, some (243, true), .mov (.tmp 7)⟩,
                            ⟨some 245, some (243, true), .call 43 [(.tmp 244), (.const (.bool false)), (.const (.bool true))]⟩,
                            ⟨some 246, some (243, true), .fld1 3 (.tmp 245)⟩,
                            ⟨some 247, some (243, true), .faddr 3 (.tmp 16)⟩,
                            ⟨some 248, some (243, true), .load1 (.tmp 247)⟩,
                            ⟨some 249, some (243, true), .bin .add (.tmp 248) (.const (.int .u32 (1)))⟩,
                            ⟨some 250, some (243, true), .bin .eql (.tmp 246) (.tmp 249)⟩,
                            ⟨some 251, none, .pick (.tmp 243) (.tmp 250) (.const (.bool false))⟩,
                            ⟨some 252, none, .mov (.tmp 251)⟩,
                            ⟨some 253, some (252, true), .mov (.tmp 7)⟩,
                            ⟨some 254, some (252, true), .call 54 [(.tmp 253)]⟩,
                            ⟨some 255, some (252, true), .fld1 8 (.tmp 254)⟩,
                            ⟨some 256, none, .pick (.tmp 252) (.tmp 255) (.const (.bool false))⟩,
                            ⟨some 257, none, .mov (.tmp 256)⟩,
                            ⟨some 258, some (257, true), .mov (.tmp 7)⟩,
                            ⟨some 259, some (257, true), .call 54 [(.tmp 258)]⟩,
                            ⟨some 260, some (257, true), .fld1 3 (.tmp 259)⟩,
                            ⟨some 261, some (257, true), .faddr 3 (.tmp 16)⟩,
                            ⟨some 262, some (257, true), .load1 (.tmp 261)⟩,
                            ⟨some 263, some (257, true), .bin .add (.tmp 262) (.const (.int .u32 (1)))⟩,
                            ⟨some 264, some (257, true), .bin .eql (.tmp 260) (.tmp 263)⟩,
                            ⟨some 265, none, .pick (.tmp 257) (.tmp 264) (.const (.bool false))⟩,
                            ⟨some 266, none, .mov (.tmp 265)⟩,
                            ⟨some 267, some (266, true), .mov (.tmp 7)⟩,
                            ⟨some 268, some (266, true), .call 54 [(.tmp 267)]⟩,
                            ⟨some 269, some (266, true), .fld1 6 (.tmp 268)⟩,
                            ⟨some 270, some (266, true), .un .not (.tmp 269)⟩,
                            ⟨some 271, none, .pick (.tmp 266) (.tmp 270) (.const (.bool false))⟩,
                            ⟨some 6, none, .mov (.tmp 271)⟩] [(27, 24), (27, 25), (41, 38), (41, 39)])
                          .ret)))))))

def c12r : ACode :=
 (.seq
                 (.ops [⟨some 174, none, .mov (.tmp 8)⟩,
                   ⟨some 175, none, .call 50 [(.tmp 174)]⟩,
                   ⟨some 176, none, .call 34 [(.tmp 175), (.const (.int .i64 (2000)))]⟩,
                   ⟨some 18, none, .mov (.tmp 176)⟩])
                 (.seq
                  (.ops [⟨some 177, none, .mov (.tmp 8)⟩,
                    ⟨some 178, none, .call 50 [(.tmp 177)]⟩,
                    ⟨some 179, none, .mov (.tmp 18)⟩,
                    ⟨some 180, none, .lenS (.tmp 179)⟩,
                    ⟨some 181, none, .call 38 [(.tmp 178), (.tmp 180)]⟩])
                  (.seq
                   (.seq
                    (.ops [⟨some 182, none, .mov (.tmp 18)⟩,
                      ⟨some 183, none, .mov (.tmp 9)⟩,
                      ⟨some 184, none, .bin .neq (.tmp 182) (.tmp 183)⟩,
                      ⟨some 185, none, .mov (.tmp 184)⟩,
                      ⟨some 186, some (185, false), .mov (.tmp 8)⟩,
                      ⟨some 187, some (185, false), .loadN 12 (.tmp 16)⟩,
                      ⟨some 188, some (185, false), .call 49 [(.tmp 186), (.tmp 187)]⟩,
                      ⟨some 189, some (185, false), .mov (.tmp 8)⟩,
                      ⟨some 190, some (185, false), .call 50 [(.tmp 189)]⟩,
                      ⟨some 191, some (185, false), .call 35 [(.tmp 190)]⟩,
                      ⟨some 192, some (185, false), .bin .neq (.tmp 188) (.tmp 191)⟩,
                      ⟨some 193, none, .pick (.tmp 185) (.const (.bool true)) (.tmp 192)⟩])
                    (.cond (.tmp 193)
                     (.seq
                      (.ops [⟨some 6, none, .mov (.const (.bool false))⟩])
                      .ret)
                     .skip))
                   c12s)))

def c12q : ACode :=
 (.seq
               (.seq
                (.ops [⟨some 139, none, .faddr 7 (.tmp 16)⟩,
                  ⟨some 140, none, .load1 (.tmp 139)⟩,
                  ⟨some 141, none, .un .not (.tmp 140)⟩,
                  ⟨some 142, none, .mov (.tmp 141)⟩,
                  ⟨some 143, some (142, false), .faddr 11 (.tmp 16)⟩,
                  ⟨some 144, some (142, false), .load1 (.tmp 143)⟩,
                  ⟨some 145, some (142, false), .bin .neq (.tmp 144) (.const (.string ⟨⟨[]⟩⟩))⟩,
                  ⟨some 146, none, .pick (.tmp 142) (.const (.bool true)) (.tmp 145)⟩,
                  ⟨some 147, none, .mov (.tmp 146)⟩,
                  ⟨some 148, some (147, false), .mov (.tmp 8)⟩,
                  ⟨some 149, some (147, false), .loadN 12 (.tmp 16)⟩,
                  ⟨some 150, some (147, false), .call 49 [(.tmp 148), (.tmp 149)]⟩,
                  ⟨some 151, some (147, false), .mov (.tmp 9)⟩,
                  ⟨some 152, some (147, false), .lenS (.tmp 151)⟩,
                  ⟨some 153, some (147, false), .bin .neq (.tmp 150) (.tmp 152)⟩,
                  ⟨some 154, none, .pick (.tmp 147) (.const (.bool true)) (.tmp 153)⟩,
                  ⟨some 155, none, .mov (.tmp 154)⟩,
                  ⟨some 156, some (155, false), .mov (.tmp 8)⟩,
                  ⟨some 157, some (155, false), .call 50 [(.tmp 156)]⟩,
                  ⟨some 158, some (155, false), .call 34 [(.tmp 157), (.const (.int .i64 (9)))]⟩,
                  ⟨some 159, some (155, false), .bin .neq (.tmp 158) (.const (.string ⟨⟨[]⟩⟩))⟩,
                  ⟨some 160, none, .pick (.tmp 155) (.const (.bool true)) (.tmp 159)⟩])
                (.cond (.tmp 160)
                 (.seq
                  (.ops [⟨some 6, none, .mov (.const (.bool false))⟩])
                  .ret)
                 .skip))
               (.seq
                (.seq
                 (.ops [⟨some 161, none, .mov (.tmp 14)⟩,
                   ⟨some 162, none, .lenV (.tmp 161)⟩,
                   ⟨some 163, none, .bin .sub (.tmp 162) (.const (.int .i64 (1)))⟩,
                   ⟨some 17, none, .mov (.tmp 163)⟩])
                 (.block 2
                  (.loop
                   (.seq
                    (.seq
                     (.ops [⟨some 164, none, .mov (.tmp 17)⟩,
                       ⟨some 165, none, .bin .geq (.tmp 164) (.const (.int .i64 (0)))⟩])
                     (.cond (.tmp 165)
                      .skip
                      (.exit 2)))
                    (.seq
                     (.block 3
                      (.ops [⟨some 168, none, .mov (.tmp 8)⟩,
                        ⟨some 169, none, .mov (.tmp 14)⟩,
                        ⟨some 170, none, .mov (.tmp 17)⟩,
                        ⟨some 171, none, .iaddrS 12 (.tmp 169) (.tmp 170)⟩,
                        ⟨some 172, none, .loadN 12 (.tmp 171)⟩,
                        ⟨some 173, none, .call 51 [(.tmp 168), (.tmp 172)]⟩]))
                     (.ops [⟨some 166, none, .mov (.tmp 17)⟩,
                       ⟨some 167, none, .bin .sub (.tmp 166) (.const (.int .i64 (1)))⟩,
                       ⟨some 17, none, .mov (.tmp 167)⟩]))))))
                c12r))

def c12p : ACode :=
 (.seq
        (.ops [⟨some 70, none, .mov (.tmp 8)⟩,
          ⟨some 71, none, .call 43 [(.tmp 70), (.const (.bool false)), (.const (.bool true))]⟩,
          ⟨some 12, none, .alloc 89 [.int .i64 (0), .int .u16 (0), .int .u16 (0), .int .u32 (0), .int .u32 (0), .bool false, .bool false, .bool false, .bool false, .int .u16 (0), .string ⟨⟨[]⟩⟩, .string ⟨⟨[]⟩⟩]⟩,
          ⟨none, none, .store 12 (.tmp 12) (.tmp 71)⟩])
        (.seq
         (.ops [⟨some 72, none, .iaddrA 2 1 (.tmp 3) (.const (.int .i64 (0)))⟩,
           ⟨some 73, none, .load1 (.tmp 72)⟩,
           ⟨some 74, none, .bin .add (.tmp 73) (.const (.int .u32 (1)))⟩,
           ⟨some 75, none, .mov (.tmp 9)⟩,
           ⟨some 76, none, .lenS (.tmp 75)⟩,
           ⟨some 77, none, .cvInt .u32 (.tmp 76)⟩,
           ⟨some 78, none, .bin .add (.tmp 74) (.tmp 77)⟩,
           ⟨some 79, none, .bin .add (.tmp 78) (.const (.int .u32 (1)))⟩,
           ⟨some 80, none, .faddr 4 (.tmp 12)⟩,
           ⟨none, none, .store 1 (.tmp 80) (.tmp 79)⟩])
         (.seq
          (.ops [⟨some 81, none, .mov (.tmp 7)⟩,
            ⟨some 82, none, .loadN 12 (.tmp 12)⟩,
            ⟨some 83, none, .call 44 [(.tmp 81), (.tmp 82)]⟩,
            ⟨some 13, none, .mov (.tmp 83)⟩])
          (.seq
           (.ops [⟨some 84, none, .mov (.tmp 7)⟩,
             ⟨some 85, none, .call 45 [(.tmp 84)]⟩])
           (.seq
            (.ops [⟨some 87, none, .mov (.tmp 7)⟩,
              ⟨some 88, none, .call 46 [(.tmp 87)]⟩,
              ⟨some 86, none, .mov (.tmp 88)⟩,
              ⟨some 89, none, .ext (.tmp 86) 0⟩,
              ⟨some 90, none, .ext (.tmp 86) 1⟩,
              ⟨some 14, none, .mov (.tmp 89)⟩,
              ⟨some 15, none, .mov (.tmp 90)⟩])
            (.seq
             (.seq
              (.ops [⟨some 91, none, .mov (.tmp 13)⟩,
                ⟨some 92, none, .mov (.tmp 91)⟩,
                ⟨some 93, some (92, false), .mov (.tmp 7)⟩,
                ⟨some 94, some (92, false), .loadN 12 (.tmp 12)⟩,
                ⟨some 95, some (92, false), .call 44 [(.tmp 93), (.tmp 94)]⟩,
                ⟨some 96, some (92, false), .un .not (.tmp 95)⟩,
                ⟨some 97, none, .pick (.tmp 92) (.const (.bool true)) (.tmp 96)⟩,
                ⟨some 98, none, .mov (.tmp 97)⟩,
                ⟨some 99, some (98, false), .mov (.tmp 14)⟩,
                ⟨some 100, some (98, false), .lenV (.tmp 99)⟩,
                ⟨some 101, some (98, false), .bin .eql (.tmp 100) (.const (.int .i64 (0)))⟩,
                ⟨some 102, none, .pick (.tmp 98) (.const (.bool true)) (.tmp 101)⟩,
                ⟨some 103, none, .mov (.tmp 102)⟩,
                ⟨some 104, some (103, false), .mov (.tmp 15)⟩,
                ⟨some 105, some (103, false), .lenV (.tmp 104)⟩,
                ⟨some 106, some (103, false), .mov (.tmp 14)⟩,
                ⟨some 107, some (103, false), .lenV (.tmp 106)⟩,
                ⟨some 108, some (103, false), .bin .neq (.tmp 105) (.tmp 107)⟩,
                ⟨some 109, none, .pick (.tmp 103) (.const (.bool true)) (.tmp 108)⟩,
                ⟨some 110, none, .mov (.tmp 109)⟩,
                ⟨some 111, some (110, false), .mov (.tmp 15)⟩,
                ⟨some 112, some (110, false), .mov (.tmp 15)⟩,
                ⟨some 113, some (110, false), .lenV (.tmp 112)⟩,
                ⟨some 114, some (110, false), .bin .sub (.tmp 113) (.const (.int .i64 (1)))⟩,
                ⟨some 115, some (110, false), .iaddrS 1 (.tmp 111) (.tmp 114)⟩,
                ⟨some 116, some (110, false), .load1 (.tmp 115)⟩,
                ⟨some 117, some (110, false), .bin .neq (.tmp 116) (.const (.int .i64 (-1)))⟩,
                ⟨some 118, none, .pick (.tmp 110) (.const (.bool true)) (.tmp 117)⟩,
                ⟨some 119, none, .mov (.tmp 118)⟩,
                ⟨some 120, some (119, false), .mov (.tmp 7)⟩,
                ⟨some 121, some (119, false), .call 42 [(.tmp 120), (.const (.string ⟨⟨[120]⟩⟩)), (.const (.int .i64 (9)))]⟩,
                ⟨some 122, some (119, false), .bin .neq (.tmp 121) (.const (.int .i64 (-1)))⟩,
                ⟨some 123, none, .pick (.tmp 119) (.const (.bool true)) (.tmp 122)⟩,
                ⟨some 124, none, .mov (.tmp 123)⟩,
                ⟨some 125, some (124, false), .mov (.tmp 7)⟩,
                ⟨some 126, some (124, false), .call 47 [(.tmp 125)]⟩,
                ⟨some 127, some (124, false), .un .not (.tmp 126)⟩,
                ⟨some 128, none, .pick (.tmp 124) (.const (.bool true)) (.tmp 127)⟩,
                ⟨some 129, none, .mov (.tmp 128)⟩,
                ⟨some 130, some (129, false), .mov (.tmp 7)⟩,
                ⟨some 131, some (129, false), .call 48 [(.tmp 130)]⟩,
                ⟨some 132, none, .pick (.tmp 129) (.const (.bool true)) (.tmp 131)⟩])
              (.cond (.tmp 132)
               (.seq
                (.ops [⟨some 6, none, .mov (.const (.bool false))⟩])
                .ret)
               .skip))
             (.seq
              (.ops [⟨some 133, none, .mov (.tmp 14)⟩,
                ⟨some 134, none, .mov (.tmp 14)⟩,
                ⟨some 135, none, .lenV (.tmp 134)⟩,
                ⟨some 136, none, .bin .sub (.tmp 135) (.const (.int .i64 (1)))⟩,
                ⟨some 137, none, .iaddrS 12 (.tmp 133) (.tmp 136)⟩,
                ⟨some 138, none, .loadN 12 (.tmp 137)⟩,
                ⟨some 16, none, .alloc 89 [.int .i64 (0), .int .u16 (0), .int .u16 (0), .int .u32 (0), .int .u32 (0), .bool false, .bool false, .bool false, .bool false, .int .u16 (0), .string ⟨⟨[]⟩⟩, .string ⟨⟨[]⟩⟩]⟩,
                ⟨none, none, .store 12 (.tmp 16) (.tmp 138)⟩])
              c12q)))))))

/-- plait/plaitlaw26.FlowEnds -/
def c12 : AFunc := ⟨272, 3, [.inl 6],
 (.seq
  (.ops [⟨some 3, none, .box 83 2 (.tmp 0)⟩,
    ⟨some 6, none, .mov (.const (.bool false))⟩])
  (.seq
   (.seq
    (.ops [⟨some 23, none, .call 40 []⟩,
      ⟨some 24, none, .un .not (.tmp 23)⟩])
    (.cond (.tmp 24)
     (.seq
      (.ops [⟨some 6, none, .mov (.const (.bool false))⟩])
      .ret)
     .skip))
   (.seq
    (.ops [⟨some 26, none, .iaddrA 2 1 (.tmp 3) (.const (.int .i64 (0)))⟩,
      ⟨some 27, none, .load1 (.tmp 26)⟩,
      ⟨some 28, none, .iaddrA 2 1 (.tmp 3) (.const (.int .i64 (1)))⟩,
      ⟨some 29, none, .load1 (.tmp 28)⟩,
      ⟨some 30, none, .call 41 [(.const (.int .i64 (0))), (.tmp 27), (.tmp 29), (.const (.int .i64 (2048)))]⟩,
      ⟨some 25, none, .mov (.tmp 30)⟩,
      ⟨some 31, none, .ext (.tmp 25) 0⟩,
      ⟨some 32, none, .ext (.tmp 25) 1⟩,
      ⟨some 7, none, .mov (.tmp 31)⟩,
      ⟨some 8, none, .mov (.tmp 32)⟩])
    (.seq
     (.seq
      (.ops [⟨some 33, none, .mov (.tmp 7)⟩,
        ⟨some 34, none, .eq false true .ptr (.tmp 33) (.const (.pointer none))⟩,
        ⟨some 35, none, .mov (.tmp 34)⟩,
        ⟨some 36, some (35, false), .mov (.tmp 8)⟩,
        ⟨some 37, some (35, false), .eq false true .ptr (.tmp 36) (.const (.pointer none))⟩,
        ⟨some 38, none, .pick (.tmp 35) (.const (.bool true)) (.tmp 37)⟩])
      (.cond (.tmp 38)
       (.seq
        (.ops [⟨some 6, none, .mov (.const (.bool false))⟩])
        .ret)
       .skip))
     (.seq
      (.ops [⟨some 9, none, .mov (.const (.string ⟨⟨[]⟩⟩))⟩])
      (.seq
       (.seq
        (.ops [⟨some 10, none, .mov (.const (.int .i64 (0)))⟩])
        (.block 0
         (.loop
          (.seq
           (.seq
            (.ops [⟨some 39, none, .mov (.tmp 10)⟩,
              ⟨some 40, none, .mov (.tmp 1)⟩,
              ⟨some 41, none, .lenV (.tmp 40)⟩,
              ⟨some 42, none, .bin .lss (.tmp 39) (.tmp 41)⟩,
              ⟨some 43, none, .mov (.tmp 42)⟩,
              ⟨some 44, some (43, true), .mov (.tmp 10)⟩,
              ⟨some 45, some (43, true), .bin .lss (.tmp 44) (.const (.int .i64 (8)))⟩,
              ⟨some 46, none, .pick (.tmp 43) (.tmp 45) (.const (.bool false))⟩])
            (.cond (.tmp 46)
             .skip
             (.exit 0)))
           (.seq
            (.block 1
             (.seq
              (.opsD [⟨some 49, none, .mov (.tmp 1)⟩,
                ⟨some 50, none, .mov (.tmp 10)⟩,
                ⟨some 51, none, .iaddrS 1 (.tmp 49) (.tmp 50)⟩,
                ⟨some 52, none, .load1 (.tmp 51)⟩,
                ⟨some 53, none, .mov (.tmp 1)⟩,
                ⟨some 54, none, .mov (.tmp 10)⟩,
                ⟨some 55, none, .iaddrS 1 (.tmp 53) (.tmp 54)⟩,
                ⟨some 56, none, .load1 (.tmp 55)⟩,
                ⟨some 57, none, .lenS (.tmp 56)⟩,
                ⟨some 58, none, .min [(.tmp 57), (.const (.int .i64 (40)))]⟩,
                ⟨some 59, none, .sliceS (.tmp 52) none (some (.tmp 58))⟩,
                ⟨some 11, none, .mov (.tmp 59)⟩] [])
              (.seq
               (.seq
                (.ops [⟨some 60, none, .mov (.tmp 7)⟩,
                  ⟨some 61, none, .mov (.tmp 11)⟩,
                  ⟨some 62, none, .mov (.tmp 10)⟩,
                  ⟨some 63, none, .call 42 [(.tmp 60), (.tmp 61), (.tmp 62)]⟩,
                  ⟨some 64, none, .mov (.tmp 9)⟩,
                  ⟨some 65, none, .lenS (.tmp 64)⟩,
                  ⟨some 66, none, .bin .neq (.tmp 63) (.tmp 65)⟩])
                (.cond (.tmp 66)
                 (.seq
                  (.ops [⟨some 6, none, .mov (.const (.bool false))⟩])
                  .ret)
                 .skip))
               (.ops [⟨some 67, none, .mov (.tmp 9)⟩,
                 ⟨some 68, none, .mov (.tmp 11)⟩,
                 ⟨some 69, none, .bin .add (.tmp 67) (.tmp 68)⟩,
                 ⟨some 9, none, .mov (.tmp 69)⟩]))))
            (.ops [⟨some 47, none, .mov (.tmp 10)⟩,
              ⟨some 48, none, .bin .add (.tmp 47) (.const (.int .i64 (1)))⟩,
              ⟨some 10, none, .mov (.tmp 48)⟩]))))))
       c12p))))))⟩
theorem t12 : T 12 = some c12 := by kernel_rfl

/-- plait/plaitlaw26.pair -/
def c41 : AFunc := ⟨57, 4, [.inl 8, .inl 9],
 (.seq
  (.ops [⟨some 8, none, .mov (.const (.pointer none))⟩,
    ⟨some 9, none, .mov (.const (.pointer none))⟩])
  (.seq
   (.ops [⟨some 12, none, .mov (.tmp 0)⟩,
     ⟨some 13, none, .mov (.tmp 1)⟩,
     ⟨some 14, none, .call 94 [(.tmp 12), (.tmp 13)]⟩,
     ⟨some 10, none, .mov (.tmp 14)⟩])
   (.seq
    (.seq
     (.ops [⟨some 15, none, .mov (.tmp 10)⟩,
       ⟨some 16, none, .eq false true .ptr (.tmp 15) (.const (.pointer none))⟩])
     (.cond (.tmp 16)
      (.seq
       (.ops [⟨some 8, none, .mov (.const (.pointer none))⟩,
         ⟨some 9, none, .mov (.const (.pointer none))⟩])
       .ret)
      .skip))
    (.seq
     (.ops [⟨some 17, none, .mov (.tmp 10)⟩,
       ⟨some 18, none, .call 43 [(.tmp 17), (.const (.bool true)), (.const (.bool false))]⟩,
       ⟨some 19, none, .mov (.tmp 0)⟩,
       ⟨some 20, none, .mov (.tmp 2)⟩,
       ⟨some 21, none, .call 95 [(.tmp 18), (.tmp 19), (.tmp 20)]⟩,
       ⟨some 11, none, .mov (.tmp 21)⟩])
     (.seq
      (.seq
       (.ops [⟨some 22, none, .mov (.tmp 11)⟩,
         ⟨some 23, none, .eq false true .ptr (.tmp 22) (.const (.pointer none))⟩,
         ⟨some 24, none, .mov (.tmp 23)⟩,
         ⟨some 25, some (24, false), .mov (.tmp 10)⟩,
         ⟨some 26, some (24, false), .mov (.tmp 11)⟩,
         ⟨some 27, some (24, false), .call 43 [(.tmp 26), (.const (.bool true)), (.const (.bool true))]⟩,
         ⟨some 28, some (24, false), .call 96 [(.tmp 25), (.tmp 27)]⟩,
         ⟨some 29, some (24, false), .un .not (.tmp 28)⟩,
         ⟨some 30, none, .pick (.tmp 24) (.const (.bool true)) (.tmp 29)⟩,
         ⟨some 31, none, .mov (.tmp 30)⟩,
         ⟨some 32, some (31, false), .mov (.tmp 10)⟩,
         ⟨some 33, some (31, false), .call 98 [(.tmp 32), (.const (.int .i64 (3)))]⟩,
         ⟨some 34, some (31, false), .un .not (.tmp 33)⟩,
         ⟨some 35, none, .pick (.tmp 31) (.const (.bool true)) (.tmp 34)⟩,
         ⟨some 36, none, .mov (.tmp 35)⟩,
         ⟨some 37, some (36, false), .mov (.tmp 11)⟩,
         ⟨some 38, some (36, false), .call 98 [(.tmp 37), (.const (.int .i64 (3)))]⟩,
         ⟨some 39, some (36, false), .un .not (.tmp 38)⟩,
         ⟨some 40, none, .pick (.tmp 36) (.const (.bool true)) (.tmp 39)⟩])
       (.cond (.tmp 40)
        (.seq
         (.ops [⟨some 8, none, .mov (.const (.pointer none))⟩,
           ⟨some 9, none, .mov (.const (.pointer none))⟩])
         .ret)
        .skip))
      (.seq
       (.ops [⟨some 41, none, .mov (.tmp 10)⟩,
         ⟨some 42, none, .mov (.tmp 3)⟩,
         ⟨some 43, none, .call 97 [(.tmp 41), (.tmp 42), (.const (.bool false)), (.const (.int .u64 (0)))]⟩])
       (.seq
        (.ops [⟨some 44, none, .mov (.tmp 11)⟩,
          ⟨some 45, none, .mov (.tmp 3)⟩,
          ⟨some 46, none, .call 97 [(.tmp 44), (.tmp 45), (.const (.bool false)), (.const (.int .u64 (0)))]⟩])
        (.seq
         (.seq
          (.ops [⟨some 47, none, .mov (.tmp 10)⟩,
            ⟨some 48, none, .call 50 [(.tmp 47)]⟩,
            ⟨some 49, none, .eq false true .ptr (.tmp 48) (.const (.pointer none))⟩,
            ⟨some 50, none, .mov (.tmp 49)⟩,
            ⟨some 51, some (50, false), .mov (.tmp 11)⟩,
            ⟨some 52, some (50, false), .call 50 [(.tmp 51)]⟩,
            ⟨some 53, some (50, false), .eq false true .ptr (.tmp 52) (.const (.pointer none))⟩,
            ⟨some 54, none, .pick (.tmp 50) (.const (.bool true)) (.tmp 53)⟩])
          (.cond (.tmp 54)
           (.seq
            (.ops [⟨some 8, none, .mov (.const (.pointer none))⟩,
              ⟨some 9, none, .mov (.const (.pointer none))⟩])
            .ret)
           .skip))
         (.seq
          (.ops [⟨some 55, none, .mov (.tmp 10)⟩,
            ⟨some 56, none, .mov (.tmp 11)⟩,
            ⟨some 8, none, .mov (.tmp 55)⟩,
            ⟨some 9, none, .mov (.tmp 56)⟩])
          .ret)))))))))⟩
theorem t41 : T 41 = some c41 := by kernel_rfl

/-- (*plait/flow.Flow).Push -/
def c42 : AFunc := ⟨22, 3, [.inl 6],
 (.seq
  (.ops [⟨some 6, none, .mov (.const (.int .i64 (0)))⟩])
  (.seq
   (.seq
    (.ops [⟨some 7, none, .mov (.tmp 0)⟩,
      ⟨some 8, none, .eq false true .ptr (.tmp 7) (.const (.pointer none))⟩,
      ⟨some 9, none, .mov (.tmp 8)⟩,
      ⟨some 10, some (9, false), .mov (.tmp 0)⟩,
      ⟨some 11, some (9, false), .nilchk (.tmp 10)⟩,
      ⟨some 12, some (9, false), .faddr 8 (.tmp 11)⟩,
      ⟨some 13, some (9, false), .load1 (.tmp 12)⟩,
      ⟨some 14, none, .pick (.tmp 9) (.const (.bool true)) (.tmp 13)⟩])
    (.cond (.tmp 14)
     (.seq
      (.ops [⟨some 6, none, .mov (.const (.int .i64 (-1)))⟩])
      .ret)
     .skip))
   (.seq
    (.ops [⟨some 15, none, .mov (.tmp 0)⟩,
      ⟨some 16, none, .nilchk (.tmp 15)⟩,
      ⟨some 17, none, .faddr 6 (.tmp 16)⟩,
      ⟨some 18, none, .load1 (.tmp 17)⟩,
      ⟨some 19, none, .mov (.tmp 1)⟩,
      ⟨some 20, none, .mov (.tmp 2)⟩,
      ⟨some 21, none, .call 100 [(.tmp 18), (.tmp 19), (.tmp 20)]⟩,
      ⟨some 6, none, .mov (.tmp 21)⟩])
    .ret)))⟩
theorem t42 : T 42 = some c42 := by kernel_rfl

def c43t : ACode :=
 (.seq
      (.seq
       (.ops [⟨some 39, none, .mov (.tmp 2)⟩])
       (.cond (.tmp 39)
        (.opsD [⟨some 40, none, .mov (.tmp 0)⟩,
          ⟨some 41, none, .nilchk (.tmp 40)⟩,
          ⟨some 42, none, .faddr 0 (.tmp 41)⟩,
          ⟨some 43, none, .loadN 2 (.tmp 42)⟩,
          ⟨some 44, none, .mov (.tmp 0)⟩,
          ⟨some 45, none, .nilchk (.tmp 44)⟩,
          ⟨some 46, none, .faddr 7 (.tmp 45)⟩,
          ⟨some 47, none, .load1 (.tmp 46)⟩,
          ⟨some 48, none, .call 35 [(.tmp 47)]⟩,
          ⟨some 49, none, .call 103 [(.tmp 43), (.tmp 48)]⟩,
          ⟨some 50, none, .faddr 4 (.tmp 6)⟩,
          ⟨none, none, .store 1 (.tmp 50) (.tmp 49)⟩] [(3, 8), (3, 9)])
        .skip))
      (.seq
       (.seq
        (.ops [⟨some 51, none, .mov (.tmp 2)⟩,
          ⟨some 52, none, .mov (.tmp 51)⟩,
          ⟨some 53, some (52, true), .mov (.tmp 0)⟩,
          ⟨some 54, some (52, true), .nilchk (.tmp 53)⟩,
          ⟨some 55, some (52, true), .faddr 10 (.tmp 54)⟩,
          ⟨some 56, some (52, true), .load1 (.tmp 55)⟩,
          ⟨some 57, none, .pick (.tmp 52) (.tmp 56) (.const (.bool false))⟩])
        (.cond (.tmp 57)
         (.ops [⟨some 58, none, .faddr 4 (.tmp 6)⟩,
           ⟨some 59, none, .load1 (.tmp 58)⟩,
           ⟨some 60, none, .bin .add (.tmp 59) (.const (.int .u32 (1)))⟩,
           ⟨some 61, none, .faddr 4 (.tmp 6)⟩,
           ⟨none, none, .store 1 (.tmp 61) (.tmp 60)⟩])
         .skip))
       (.seq
        (.ops [⟨some 62, none, .loadN 12 (.tmp 6)⟩,
          ⟨none, none, .store 12 (.tmp 6) (.tmp 62)⟩])
        .ret)))

/-- (*plait/flow.Flow).Seg -/
def c43 : AFunc := ⟨63, 3, [.inr (6, 12, true)],
 (.seq
  (.ops [⟨some 6, none, .alloc 89 [.int .i64 (0), .int .u16 (0), .int .u16 (0), .int .u32 (0), .int .u32 (0), .bool false, .bool false, .bool false, .bool false, .int .u16 (0), .string ⟨⟨[]⟩⟩, .string ⟨⟨[]⟩⟩]⟩])
  (.seq
   (.seq
    (.ops [⟨some 7, none, .mov (.tmp 0)⟩,
      ⟨some 8, none, .eq false true .ptr (.tmp 7) (.const (.pointer none))⟩])
    (.cond (.tmp 8)
     (.seq
      (.ops [⟨some 9, none, .loadN 12 (.tmp 6)⟩,
        ⟨none, none, .store 12 (.tmp 6) (.tmp 9)⟩])
      .ret)
     .skip))
   (.seq
    (.opsD [⟨some 10, none, .mov (.tmp 0)⟩,
      ⟨some 11, none, .nilchk (.tmp 10)⟩,
      ⟨some 12, none, .faddr 2 (.tmp 11)⟩,
      ⟨some 13, none, .load1 (.tmp 12)⟩,
      ⟨some 14, none, .mov (.tmp 0)⟩,
      ⟨some 15, none, .nilchk (.tmp 14)⟩,
      ⟨some 16, none, .faddr 4 (.tmp 15)⟩,
      ⟨some 17, none, .load1 (.tmp 16)⟩,
      ⟨some 18, none, .mov (.tmp 0)⟩,
      ⟨some 19, none, .nilchk (.tmp 18)⟩,
      ⟨some 20, none, .faddr 5 (.tmp 19)⟩,
      ⟨some 21, none, .load1 (.tmp 20)⟩,
      ⟨some 22, none, .mov (.tmp 0)⟩,
      ⟨some 23, none, .nilchk (.tmp 22)⟩,
      ⟨some 24, none, .faddr 0 (.tmp 23)⟩,
      ⟨some 25, none, .loadN 2 (.tmp 24)⟩,
      ⟨some 26, none, .mov (.tmp 0)⟩,
      ⟨some 27, none, .call 102 [(.tmp 26)]⟩,
      ⟨some 28, none, .call 101 [(.tmp 25), (.tmp 27)]⟩,
      ⟨some 29, none, .mov (.tmp 1)⟩,
      ⟨some 30, none, .mov (.tmp 2)⟩,
      ⟨some 31, none, .build [.int .i64 (0), .int .u16 (0), .int .u16 (0), .int .u32 (0), .int .u32 (0), .bool false, .bool false, .bool false, .bool false, .int .u16 (0), .string ⟨⟨[]⟩⟩, .string ⟨⟨[]⟩⟩] [(0, 1, (.tmp 13)), (1, 1, (.tmp 17)), (2, 1, (.tmp 21)), (3, 1, (.tmp 28)), (5, 1, (.tmp 29)), (6, 1, (.tmp 30))]⟩,
      ⟨none, none, .store 12 (.tmp 6) (.tmp 31)⟩] [(3, 17), (3, 18), (3, 18), (3, 19), (7, 17), (7, 18), (7, 18), (7, 19), (11, 17), (11, 18), (11, 18), (11, 19), (15, 17), (15, 18)])
    (.seq
     (.seq
      (.ops [⟨some 32, none, .mov (.tmp 1)⟩])
      (.cond (.tmp 32)
       (.ops [⟨some 33, none, .mov (.tmp 0)⟩,
         ⟨some 34, none, .nilchk (.tmp 33)⟩,
         ⟨some 35, none, .faddr 0 (.tmp 34)⟩,
         ⟨some 36, none, .faddr 0 (.tmp 35)⟩,
         ⟨some 37, none, .load1 (.tmp 36)⟩,
         ⟨some 38, none, .faddr 3 (.tmp 6)⟩,
         ⟨none, none, .store 1 (.tmp 38) (.tmp 37)⟩])
       .skip))
     c43t))))⟩
theorem t43 : T 43 = some c43 := by kernel_rfl

/-- (*plait/flow.Flow).Acks -/
def c44 : AFunc := ⟨24, 2, [.inl 4],
 (.seq
  (.ops [⟨some 3, none, .box 89 12 (.tmp 1)⟩,
    ⟨some 4, none, .mov (.const (.bool false))⟩])
  (.seq
   (.seq
    (.ops [⟨some 6, none, .mov (.tmp 0)⟩,
      ⟨some 7, none, .eq false true .ptr (.tmp 6) (.const (.pointer none))⟩,
      ⟨some 8, none, .mov (.tmp 7)⟩,
      ⟨some 9, some (8, false), .faddr 6 (.tmp 3)⟩,
      ⟨some 10, some (8, false), .load1 (.tmp 9)⟩,
      ⟨some 11, some (8, false), .un .not (.tmp 10)⟩,
      ⟨some 12, none, .pick (.tmp 8) (.const (.bool true)) (.tmp 11)⟩])
    (.cond (.tmp 12)
     (.seq
      (.ops [⟨some 4, none, .mov (.const (.bool false))⟩])
      .ret)
     .skip))
   (.seq
    (.ops [⟨some 13, none, .mov (.tmp 0)⟩,
      ⟨some 14, none, .loadN 12 (.tmp 3)⟩,
      ⟨some 15, none, .call 104 [(.tmp 13), (.tmp 14)]⟩,
      ⟨some 5, none, .mov (.tmp 15)⟩])
    (.seq
     (.ops [⟨some 16, none, .mov (.tmp 5)⟩,
       ⟨some 17, none, .bin .geq (.tmp 16) (.const (.int .i64 (0)))⟩,
       ⟨some 18, none, .mov (.tmp 17)⟩,
       ⟨some 19, some (18, true), .mov (.tmp 5)⟩,
       ⟨some 20, some (18, true), .mov (.tmp 0)⟩,
       ⟨some 21, some (18, true), .call 102 [(.tmp 20)]⟩,
       ⟨some 22, some (18, true), .bin .leq (.tmp 19) (.tmp 21)⟩,
       ⟨some 23, none, .pick (.tmp 18) (.tmp 22) (.const (.bool false))⟩,
       ⟨some 4, none, .mov (.tmp 23)⟩])
     .ret))))⟩
theorem t44 : T 44 = some c44 := by kernel_rfl

/-- (*plait/flow.Flow).Finish -/
def c45 : AFunc := ⟨7, 1, [],
 (.seq
  (.ops [⟨some 2, none, .mov (.tmp 0)⟩,
    ⟨some 3, none, .eq true true .ptr (.tmp 2) (.const (.pointer none))⟩])
  (.cond (.tmp 3)
   (.ops [⟨some 4, none, .mov (.tmp 0)⟩,
     ⟨some 5, none, .nilchk (.tmp 4)⟩,
     ⟨some 6, none, .faddr 8 (.tmp 5)⟩,
     ⟨none, none, .store 1 (.tmp 6) (.const (.bool true))⟩])
   .skip))⟩
theorem t45 : T 45 = some c45 := by kernel_rfl

/-- (*plait/flow.Flow).Due -/
def c46 : AFunc := ⟨84, 1, [.inl 2, .inl 3],
 (.seq
  (.ops [⟨some 2, none, .mov (.const (.slice none 0 0))⟩,
    ⟨some 3, none, .mov (.const (.slice none 0 0))⟩])
  (.seq
   (.seq
    (.ops [⟨some 9, none, .mov (.tmp 0)⟩,
      ⟨some 10, none, .eq false true .ptr (.tmp 9) (.const (.pointer none))⟩,
      ⟨some 11, none, .mov (.tmp 10)⟩,
      ⟨some 12, some (11, false), .mov (.tmp 0)⟩,
      ⟨some 13, some (11, false), .nilchk (.tmp 12)⟩,
      ⟨some 14, some (11, false), .faddr 3 (.tmp 13)⟩,
      ⟨some 15, some (11, false), .load1 (.tmp 14)⟩,
      ⟨some 16, some (11, false), .bin .neq (.tmp 15) (.const (.int .i64 (3)))⟩,
      ⟨some 17, none, .pick (.tmp 11) (.const (.bool true)) (.tmp 16)⟩])
    (.cond (.tmp 17)
     (.seq
      (.ops [⟨some 2, none, .mov (.const (.slice none 0 0))⟩,
        ⟨some 3, none, .mov (.const (.slice none 0 0))⟩])
      .ret)
     .skip))
   (.seq
    (.ops [⟨some 18, none, .mov (.tmp 0)⟩,
      ⟨some 19, none, .nilchk (.tmp 18)⟩,
      ⟨some 20, none, .faddr 0 (.tmp 19)⟩,
      ⟨some 21, none, .loadN 2 (.tmp 20)⟩,
      ⟨some 22, none, .mkF 101 [(.tmp 21)] []⟩,
      ⟨some 4, none, .mov (.tmp 22)⟩])
    (.seq
     (.seq
      (.ops [⟨some 23, none, .mov (.tmp 0)⟩,
        ⟨some 24, none, .nilchk (.tmp 23)⟩,
        ⟨some 25, none, .faddr 6 (.tmp 24)⟩,
        ⟨some 26, none, .load1 (.tmp 25)⟩,
        ⟨some 27, none, .call 105 [(.tmp 26)]⟩,
        ⟨some 28, none, .lenV (.tmp 27)⟩,
        ⟨some 29, none, .mov (.const (.int .i64 (0)))⟩])
      (.block 0
       (.loop
        (.seq
         (.ops [⟨some 30, none, .bin .lss (.tmp 29) (.tmp 28)⟩])
         (.seq
          (.cond (.tmp 30)
           .skip
           (.exit 0))
          (.seq
           (.block 1
            (.seq
             (.ops [⟨some 31, none, .iaddrS 3 (.tmp 27) (.tmp 29)⟩,
               ⟨some 32, none, .loadN 3 (.tmp 31)⟩,
               ⟨some 6, none, .alloc 163 [.int .i64 (0), .int .i64 (0), .string ⟨⟨[]⟩⟩]⟩,
               ⟨none, none, .store 3 (.tmp 6) (.tmp 32)⟩])
             (.seq
              (.ops [⟨some 33, none, .mov (.tmp 0)⟩,
                ⟨some 34, none, .call 43 [(.tmp 33), (.const (.bool false)), (.const (.bool true))]⟩,
                ⟨some 7, none, .alloc 89 [.int .i64 (0), .int .u16 (0), .int .u16 (0), .int .u32 (0), .int .u32 (0), .bool false, .bool false, .bool false, .bool false, .int .u16 (0), .string ⟨⟨[]⟩⟩, .string ⟨⟨[]⟩⟩]⟩,
                ⟨none, none, .store 12 (.tmp 7) (.tmp 34)⟩])
              (.seq
               (.opsD [⟨some 35, none, .mov (.tmp 4)⟩,
                 ⟨some 36, none, .faddr 0 (.tmp 6)⟩,
                 ⟨some 37, none, .load1 (.tmp 36)⟩,
                 ⟨some 38, none, .callv (.tmp 35) [(.tmp 37)]⟩,
                 ⟨some 39, none, .faddr 2 (.tmp 6)⟩,
                 ⟨some 40, none, .load1 (.tmp 39)⟩,
                 ⟨some 41, none, .faddr 3 (.tmp 7)⟩,
                 ⟨none, none, .store 1 (.tmp 41) (.tmp 38)⟩,
                 ⟨some 42, none, .faddr 11 (.tmp 7)⟩,
                 ⟨none, none, .store 1 (.tmp 42) (.tmp 40)⟩] [(5, 3), (5, 4), (5, 7), (5, 8)])
               (.opsD [⟨some 43, none, .mov (.tmp 2)⟩,
                 ⟨some 44, none, .loadN 12 (.tmp 7)⟩,
                 ⟨some 45, none, .bslice 89 1 [.int .i64 (0), .int .u16 (0), .int .u16 (0), .int .u32 (0), .int .u32 (0), .bool false, .bool false, .bool false, .bool false, .int .u16 (0), .string ⟨⟨[]⟩⟩, .string ⟨⟨[]⟩⟩] [(0, 12, (.tmp 44))]⟩,
                 ⟨some 46, none, .append 89 12 64 (.tmp 43) (.tmp 45)⟩,
                 ⟨some 47, none, .mov (.tmp 3)⟩,
                 ⟨some 48, none, .faddr 1 (.tmp 6)⟩,
                 ⟨some 49, none, .load1 (.tmp 48)⟩,
                 ⟨some 50, none, .bslice 3 1 [.int .i64 (0)] [(0, 1, (.tmp 49))]⟩,
                 ⟨some 51, none, .append 3 1 8 (.tmp 47) (.tmp 50)⟩,
                 ⟨some 2, none, .mov (.tmp 46)⟩,
                 ⟨some 3, none, .mov (.tmp 51)⟩] [(6, 3), (6, 4)])))))
           (.ops [⟨some 52, none, .bin .add (.tmp 29) (.const (.int .i64 (1)))⟩,
             ⟨some 29, none, .mov (.tmp 52)⟩])))))))
     (.seq
      (.seq
       (.ops [⟨some 53, none, .mov (.tmp 0)⟩,
         ⟨some 54, none, .nilchk (.tmp 53)⟩,
         ⟨some 55, none, .faddr 8 (.tmp 54)⟩,
         ⟨some 56, none, .load1 (.tmp 55)⟩,
         ⟨some 57, none, .mov (.tmp 56)⟩,
         ⟨some 58, some (57, true), .mov (.tmp 0)⟩,
         ⟨some 59, some (57, true), .nilchk (.tmp 58)⟩,
         ⟨some 60, some (57, true), .faddr 9 (.tmp 59)⟩,
         ⟨some 61, some (57, true), .load1 (.tmp 60)⟩,
         ⟨some 62, some (57, true), .un .not (.tmp 61)⟩,
         ⟨some 63, none, .pick (.tmp 57) (.tmp 62) (.const (.bool false))⟩])
       (.cond (.tmp 63)
        (.seq
         (.ops [⟨some 64, none, .mov (.tmp 0)⟩,
           ⟨some 65, none, .call 43 [(.tmp 64), (.const (.bool false)), (.const (.bool true))]⟩,
           ⟨some 8, none, .alloc 89 [.int .i64 (0), .int .u16 (0), .int .u16 (0), .int .u32 (0), .int .u32 (0), .bool false, .bool false, .bool false, .bool false, .int .u16 (0), .string ⟨⟨[]⟩⟩, .string ⟨⟨[]⟩⟩]⟩,
           ⟨none, none, .store 12 (.tmp 8) (.tmp 65)⟩])
         (.seq
          (.ops [⟨some 66, none, .mov (.tmp 4)⟩,
            ⟨some 67, none, .mov (.tmp 0)⟩,
            ⟨some 68, none, .nilchk (.tmp 67)⟩,
            ⟨some 69, none, .faddr 6 (.tmp 68)⟩,
            ⟨some 70, none, .load1 (.tmp 69)⟩,
            ⟨some 71, none, .call 106 [(.tmp 70)]⟩,
            ⟨some 72, none, .callv (.tmp 66) [(.tmp 71)]⟩,
            ⟨some 73, none, .faddr 3 (.tmp 8)⟩,
            ⟨none, none, .store 1 (.tmp 73) (.tmp 72)⟩,
            ⟨some 74, none, .faddr 7 (.tmp 8)⟩,
            ⟨none, none, .store 1 (.tmp 74) (.const (.bool true))⟩])
          (.ops [⟨some 75, none, .mov (.tmp 2)⟩,
            ⟨some 76, none, .loadN 12 (.tmp 8)⟩,
            ⟨some 77, none, .bslice 89 1 [.int .i64 (0), .int .u16 (0), .int .u16 (0), .int .u32 (0), .int .u32 (0), .bool false, .bool false, .bool false, .bool false, .int .u16 (0), .string ⟨⟨[]⟩⟩, .string ⟨⟨[]⟩⟩] [(0, 12, (.tmp 76))]⟩,
            ⟨some 78, none, .append 89 12 64 (.tmp 75) (.tmp 77)⟩,
            ⟨some 79, none, .mov (.tmp 3)⟩,
            ⟨some 80, none, .bslice 3 1 [.int .i64 (0)] [(0, 1, (.const (.int .i64 (-1))))]⟩,
            ⟨some 81, none, .append 3 1 8 (.tmp 79) (.tmp 80)⟩,
            ⟨some 2, none, .mov (.tmp 78)⟩,
            ⟨some 3, none, .mov (.tmp 81)⟩])))
        .skip))
      (.seq
       (.ops [⟨some 82, none, .mov (.tmp 2)⟩,
         ⟨some 83, none, .mov (.tmp 3)⟩,
         ⟨some 2, none, .mov (.tmp 82)⟩,
         ⟨some 3, none, .mov (.tmp 83)⟩])
       .ret))))))⟩
theorem t46 : T 46 = some c46 := by kernel_rfl

/-- (*plait/flow.Flow).Finished -/
def c47 : AFunc := ⟨11, 1, [.inl 2],
 (.seq
  (.ops [⟨some 2, none, .mov (.const (.bool false))⟩])
  (.seq
   (.ops [⟨some 3, none, .mov (.tmp 0)⟩,
     ⟨some 4, none, .eq true true .ptr (.tmp 3) (.const (.pointer none))⟩,
     ⟨some 5, none, .mov (.tmp 4)⟩,
     ⟨some 6, some (5, true), .mov (.tmp 0)⟩,
     ⟨some 7, some (5, true), .nilchk (.tmp 6)⟩,
     ⟨some 8, some (5, true), .faddr 8 (.tmp 7)⟩,
     ⟨some 9, some (5, true), .load1 (.tmp 8)⟩,
     ⟨some 10, none, .pick (.tmp 5) (.tmp 9) (.const (.bool false))⟩,
     ⟨some 2, none, .mov (.tmp 10)⟩])
   .ret))⟩
theorem t47 : T 47 = some c47 := by kernel_rfl

/-- (*plait/flow.Flow).FinAcked -/
def c48 : AFunc := ⟨11, 1, [.inl 2],
 (.seq
  (.ops [⟨some 2, none, .mov (.const (.bool false))⟩])
  (.seq
   (.ops [⟨some 3, none, .mov (.tmp 0)⟩,
     ⟨some 4, none, .eq true true .ptr (.tmp 3) (.const (.pointer none))⟩,
     ⟨some 5, none, .mov (.tmp 4)⟩,
     ⟨some 6, some (5, true), .mov (.tmp 0)⟩,
     ⟨some 7, some (5, true), .nilchk (.tmp 6)⟩,
     ⟨some 8, some (5, true), .faddr 9 (.tmp 7)⟩,
     ⟨some 9, some (5, true), .load1 (.tmp 8)⟩,
     ⟨some 10, none, .pick (.tmp 5) (.tmp 9) (.const (.bool false))⟩,
     ⟨some 2, none, .mov (.tmp 10)⟩])
   .ret))⟩
theorem t48 : T 48 = some c48 := by kernel_rfl

/-- (*plait/flow.Flow).FinAt -/
def c49 : AFunc := ⟨24, 2, [.inl 4],
 (.seq
  (.ops [⟨some 3, none, .box 89 12 (.tmp 1)⟩,
    ⟨some 4, none, .mov (.const (.int .i64 (0)))⟩])
  (.seq
   (.seq
    (.ops [⟨some 5, none, .mov (.tmp 0)⟩,
      ⟨some 6, none, .eq false true .ptr (.tmp 5) (.const (.pointer none))⟩,
      ⟨some 7, none, .mov (.tmp 6)⟩,
      ⟨some 8, some (7, false), .faddr 7 (.tmp 3)⟩,
      ⟨some 9, some (7, false), .load1 (.tmp 8)⟩,
      ⟨some 10, some (7, false), .un .not (.tmp 9)⟩,
      ⟨some 11, none, .pick (.tmp 7) (.const (.bool true)) (.tmp 10)⟩,
      ⟨some 12, none, .mov (.tmp 11)⟩,
      ⟨some 13, some (12, false), .faddr 5 (.tmp 3)⟩,
      ⟨some 14, some (12, false), .load1 (.tmp 13)⟩,
      ⟨some 15, none, .pick (.tmp 12) (.const (.bool true)) (.tmp 14)⟩])
    (.cond (.tmp 15)
     (.seq
      (.ops [⟨some 4, none, .mov (.const (.int .i64 (-1)))⟩])
      .ret)
     .skip))
   (.seq
    (.opsD [⟨some 16, none, .mov (.tmp 0)⟩,
      ⟨some 17, none, .loadN 12 (.tmp 3)⟩,
      ⟨some 18, none, .call 107 [(.tmp 16), (.tmp 17)]⟩,
      ⟨some 19, none, .faddr 11 (.tmp 3)⟩,
      ⟨some 20, none, .load1 (.tmp 19)⟩,
      ⟨some 21, none, .lenS (.tmp 20)⟩,
      ⟨some 22, none, .bin .add (.tmp 18) (.tmp 21)⟩,
      ⟨some 23, none, .max [(.const (.int .i64 (-1))), (.tmp 22)]⟩,
      ⟨some 4, none, .mov (.tmp 23)⟩] [(4, 2), (4, 3)])
    .ret)))⟩
theorem t49 : T 49 = some c49 := by kernel_rfl

/-- (*plait/flow.Flow).In -/
def c50 : AFunc := ⟨9, 1, [.inl 2],
 (.seq
  (.ops [⟨some 2, none, .mov (.const (.pointer none))⟩])
  (.seq
   (.seq
    (.ops [⟨some 3, none, .mov (.tmp 0)⟩,
      ⟨some 4, none, .eq false true .ptr (.tmp 3) (.const (.pointer none))⟩])
    (.cond (.tmp 4)
     (.seq
      (.ops [⟨some 2, none, .mov (.const (.pointer none))⟩])
      .ret)
     .skip))
   (.seq
    (.ops [⟨some 5, none, .mov (.tmp 0)⟩,
      ⟨some 6, none, .nilchk (.tmp 5)⟩,
      ⟨some 7, none, .faddr 7 (.tmp 6)⟩,
      ⟨some 8, none, .load1 (.tmp 7)⟩,
      ⟨some 2, none, .mov (.tmp 8)⟩])
    .ret)))⟩
theorem t50 : T 50 = some c50 := by kernel_rfl

def c51e : ACode :=
 (.seq
     (.seq
      (.ops [⟨some 40, none, .faddr 5 (.tmp 3)⟩,
        ⟨some 41, none, .load1 (.tmp 40)⟩,
        ⟨some 42, none, .un .not (.tmp 41)⟩])
      (.cond (.tmp 42)
       (.opsD [⟨some 43, none, .mov (.tmp 0)⟩,
         ⟨some 44, none, .nilchk (.tmp 43)⟩,
         ⟨some 45, none, .faddr 7 (.tmp 44)⟩,
         ⟨some 46, none, .load1 (.tmp 45)⟩,
         ⟨some 47, none, .mov (.tmp 0)⟩,
         ⟨some 48, none, .loadN 12 (.tmp 3)⟩,
         ⟨some 49, none, .call 107 [(.tmp 47), (.tmp 48)]⟩,
         ⟨some 50, none, .faddr 11 (.tmp 3)⟩,
         ⟨some 51, none, .load1 (.tmp 50)⟩,
         ⟨some 52, none, .call 31 [(.tmp 46), (.tmp 49), (.tmp 51)]⟩] [(3, 6), (3, 7), (8, 6), (8, 7)])
       .skip))
     (.seq
      (.ops [⟨some 53, none, .mov (.tmp 4)⟩,
        ⟨some 4, none, .mov (.tmp 53)⟩])
      .ret))

/-- (*plait/flow.Flow).Take -/
def c51 : AFunc := ⟨54, 2, [.inl 4],
 (.seq
  (.ops [⟨some 3, none, .box 89 12 (.tmp 1)⟩,
    ⟨some 4, none, .mov (.const (.slice none 0 0))⟩])
  (.seq
   (.seq
    (.ops [⟨some 7, none, .mov (.tmp 0)⟩,
      ⟨some 8, none, .eq false true .ptr (.tmp 7) (.const (.pointer none))⟩])
    (.cond (.tmp 8)
     (.seq
      (.ops [⟨some 4, none, .mov (.const (.slice none 0 0))⟩])
      .ret)
     .skip))
   (.seq
    (.seq
     (.ops [⟨some 9, none, .mov (.tmp 0)⟩,
       ⟨some 10, none, .loadN 12 (.tmp 3)⟩,
       ⟨some 11, none, .call 44 [(.tmp 9), (.tmp 10)]⟩])
     (.cond (.tmp 11)
      (.seq
       (.opsD [⟨some 12, none, .mov (.tmp 0)⟩,
         ⟨some 13, none, .loadN 12 (.tmp 3)⟩,
         ⟨some 14, none, .call 104 [(.tmp 12), (.tmp 13)]⟩,
         ⟨some 15, none, .mov (.tmp 0)⟩,
         ⟨some 16, none, .nilchk (.tmp 15)⟩,
         ⟨some 17, none, .faddr 6 (.tmp 16)⟩,
         ⟨some 18, none, .load1 (.tmp 17)⟩,
         ⟨some 19, none, .call 106 [(.tmp 18)]⟩,
         ⟨some 5, none, .mov (.tmp 14)⟩,
         ⟨some 6, none, .mov (.tmp 19)⟩] [(6, 2), (6, 3)])
       (.seq
        (.ops [⟨some 20, none, .mov (.tmp 0)⟩,
          ⟨some 21, none, .nilchk (.tmp 20)⟩,
          ⟨some 22, none, .faddr 6 (.tmp 21)⟩,
          ⟨some 23, none, .load1 (.tmp 22)⟩,
          ⟨some 24, none, .mov (.tmp 5)⟩,
          ⟨some 25, none, .mov (.tmp 6)⟩,
          ⟨some 26, none, .min [(.tmp 24), (.tmp 25)]⟩,
          ⟨some 27, none, .call 108 [(.tmp 23), (.tmp 26)]⟩,
          ⟨some 4, none, .mov (.tmp 27)⟩])
        (.ops [⟨some 28, none, .mov (.tmp 0)⟩,
          ⟨some 29, none, .mov (.tmp 0)⟩,
          ⟨some 30, none, .nilchk (.tmp 29)⟩,
          ⟨some 31, none, .faddr 9 (.tmp 30)⟩,
          ⟨some 32, none, .load1 (.tmp 31)⟩,
          ⟨some 33, none, .mov (.tmp 32)⟩,
          ⟨some 34, some (33, false), .mov (.tmp 5)⟩,
          ⟨some 35, some (33, false), .mov (.tmp 6)⟩,
          ⟨some 36, some (33, false), .bin .gtr (.tmp 34) (.tmp 35)⟩,
          ⟨some 37, none, .pick (.tmp 33) (.const (.bool true)) (.tmp 36)⟩,
          ⟨some 38, none, .nilchk (.tmp 28)⟩,
          ⟨some 39, none, .faddr 9 (.tmp 38)⟩,
          ⟨none, none, .store 1 (.tmp 39) (.tmp 37)⟩])))
      .skip))
    c51e)))⟩
theorem t51 : T 51 = some c51 := by kernel_rfl

/-- plait/plaitlaw26.due -/
def c52 : AFunc := ⟨26, 1, [.inr (2, 12, true), .inl 3],
 (.seq
  (.ops [⟨some 2, none, .alloc 89 [.int .i64 (0), .int .u16 (0), .int .u16 (0), .int .u32 (0), .int .u32 (0), .bool false, .bool false, .bool false, .bool false, .int .u16 (0), .string ⟨⟨[]⟩⟩, .string ⟨⟨[]⟩⟩]⟩,
    ⟨some 3, none, .mov (.const (.int .i64 (0)))⟩])
  (.seq
   (.ops [⟨some 7, none, .mov (.tmp 0)⟩,
     ⟨some 8, none, .call 46 [(.tmp 7)]⟩,
     ⟨some 6, none, .mov (.tmp 8)⟩,
     ⟨some 9, none, .ext (.tmp 6) 0⟩,
     ⟨some 10, none, .ext (.tmp 6) 1⟩,
     ⟨some 4, none, .mov (.tmp 9)⟩,
     ⟨some 5, none, .mov (.tmp 10)⟩])
   (.seq
    (.seq
     (.ops [⟨some 11, none, .mov (.tmp 4)⟩,
       ⟨some 12, none, .lenV (.tmp 11)⟩,
       ⟨some 13, none, .bin .neq (.tmp 12) (.const (.int .i64 (1)))⟩,
       ⟨some 14, none, .mov (.tmp 13)⟩,
       ⟨some 15, some (14, false), .mov (.tmp 5)⟩,
       ⟨some 16, some (14, false), .lenV (.tmp 15)⟩,
       ⟨some 17, some (14, false), .bin .neq (.tmp 16) (.const (.int .i64 (1)))⟩,
       ⟨some 18, none, .pick (.tmp 14) (.const (.bool true)) (.tmp 17)⟩])
     (.cond (.tmp 18)
      (.seq
       (.ops [⟨some 19, none, .build [.int .i64 (0), .int .u16 (0), .int .u16 (0), .int .u32 (0), .int .u32 (0), .bool false, .bool false, .bool false, .bool false, .int .u16 (0), .string ⟨⟨[]⟩⟩, .string ⟨⟨[]⟩⟩] []⟩,
         ⟨none, none, .store 12 (.tmp 2) (.tmp 19)⟩,
         ⟨some 3, none, .mov (.const (.int .i64 (-9)))⟩])
       .ret)
      .skip))
    (.seq
     (.opsD [⟨some 20, none, .mov (.tmp 4)⟩,
       ⟨some 21, none, .iaddrS 12 (.tmp 20) (.const (.int .i64 (0)))⟩,
       ⟨some 22, none, .loadN 12 (.tmp 21)⟩,
       ⟨some 23, none, .mov (.tmp 5)⟩,
       ⟨some 24, none, .iaddrS 1 (.tmp 23) (.const (.int .i64 (0)))⟩,
       ⟨some 25, none, .load1 (.tmp 24)⟩,
       ⟨none, none, .store 12 (.tmp 2) (.tmp 22)⟩,
       ⟨some 3, none, .mov (.tmp 25)⟩] [(5, 6), (5, 7)])
     .ret))))⟩
theorem t52 : T 52 = some c52 := by kernel_rfl

/-- (*plait/flow.Flow).TakeFin -/
def c53 : AFunc := ⟨7, 1, [],
 (.seq
  (.ops [⟨some 2, none, .mov (.tmp 0)⟩,
    ⟨some 3, none, .eq true true .ptr (.tmp 2) (.const (.pointer none))⟩])
  (.cond (.tmp 3)
   (.ops [⟨some 4, none, .mov (.tmp 0)⟩,
     ⟨some 5, none, .nilchk (.tmp 4)⟩,
     ⟨some 6, none, .faddr 10 (.tmp 5)⟩,
     ⟨none, none, .store 1 (.tmp 6) (.const (.bool true))⟩])
   .skip))⟩
theorem t53 : T 53 = some c53 := by kernel_rfl

/-- (*plait/flow.Flow).Rst -/
def c54 : AFunc := ⟨10, 1, [.inr (2, 12, true)],
 (.seq
  (.ops [⟨some 2, none, .alloc 89 [.int .i64 (0), .int .u16 (0), .int .u16 (0), .int .u32 (0), .int .u32 (0), .bool false, .bool false, .bool false, .bool false, .int .u16 (0), .string ⟨⟨[]⟩⟩, .string ⟨⟨[]⟩⟩]⟩])
  (.seq
   (.seq
    (.ops [⟨some 3, none, .mov (.tmp 0)⟩,
      ⟨some 4, none, .eq false true .ptr (.tmp 3) (.const (.pointer none))⟩])
    (.cond (.tmp 4)
     (.seq
      (.ops [⟨some 5, none, .loadN 12 (.tmp 2)⟩,
        ⟨none, none, .store 12 (.tmp 2) (.tmp 5)⟩])
      .ret)
     .skip))
   (.seq
    (.ops [⟨some 6, none, .mov (.tmp 0)⟩,
      ⟨some 7, none, .call 43 [(.tmp 6), (.const (.bool false)), (.const (.bool false))]⟩,
      ⟨none, none, .store 12 (.tmp 2) (.tmp 7)⟩])
    (.seq
     (.ops [⟨some 8, none, .faddr 8 (.tmp 2)⟩,
       ⟨none, none, .store 1 (.tmp 8) (.const (.bool true))⟩])
     (.seq
      (.ops [⟨some 9, none, .loadN 12 (.tmp 2)⟩,
        ⟨none, none, .store 12 (.tmp 2) (.tmp 9)⟩])
      .ret)))))⟩
theorem t54 : T 54 = some c54 := by kernel_rfl

/-- (*plait/flow.Flow).Flight -/
def c57 : AFunc := ⟨10, 1, [.inl 2],
 (.seq
  (.ops [⟨some 2, none, .mov (.const (.int .i64 (0)))⟩])
  (.seq
   (.seq
    (.ops [⟨some 3, none, .mov (.tmp 0)⟩,
      ⟨some 4, none, .eq false true .ptr (.tmp 3) (.const (.pointer none))⟩])
    (.cond (.tmp 4)
     (.seq
      (.ops [⟨some 2, none, .mov (.const (.int .i64 (0)))⟩])
      .ret)
     .skip))
   (.seq
    (.ops [⟨some 5, none, .mov (.tmp 0)⟩,
      ⟨some 6, none, .nilchk (.tmp 5)⟩,
      ⟨some 7, none, .faddr 6 (.tmp 6)⟩,
      ⟨some 8, none, .load1 (.tmp 7)⟩,
      ⟨some 9, none, .call 110 [(.tmp 8)]⟩,
      ⟨some 2, none, .mov (.tmp 9)⟩])
    .ret)))⟩
theorem t57 : T 57 = some c57 := by kernel_rfl

/-- plait/flow.Open -/
def c94 : AFunc := ⟨9, 2, [.inl 4],
 (.seq
  (.ops [⟨some 4, none, .mov (.const (.pointer none))⟩])
  (.seq
   (.ops [⟨some 5, none, .mov (.tmp 0)⟩,
     ⟨some 6, none, .mov (.tmp 1)⟩,
     ⟨some 7, none, .build [.int .u32 (0), .int .u32 (0)] [(0, 1, (.tmp 6))]⟩,
     ⟨some 8, none, .call 132 [(.tmp 5), (.const (.int .i64 (0))), (.const (.int .i64 (1000))), (.const (.int .i64 (2000))), (.tmp 7)]⟩,
     ⟨some 4, none, .mov (.tmp 8)⟩])
   .ret))⟩
theorem t94 : T 94 = some c94 := by kernel_rfl

/-- plait/flow.Accept -/
def c95 : AFunc := ⟨24, 3, [.inl 6],
 (.seq
  (.ops [⟨some 3, none, .box 89 12 (.tmp 0)⟩,
    ⟨some 6, none, .mov (.const (.pointer none))⟩])
  (.seq
   (.seq
    (.ops [⟨some 7, none, .faddr 5 (.tmp 3)⟩,
      ⟨some 8, none, .load1 (.tmp 7)⟩,
      ⟨some 9, none, .un .not (.tmp 8)⟩,
      ⟨some 10, none, .mov (.tmp 9)⟩,
      ⟨some 11, some (10, false), .faddr 6 (.tmp 3)⟩,
      ⟨some 12, some (10, false), .load1 (.tmp 11)⟩,
      ⟨some 13, none, .pick (.tmp 10) (.const (.bool true)) (.tmp 12)⟩,
      ⟨some 14, none, .mov (.tmp 13)⟩,
      ⟨some 15, some (14, false), .faddr 8 (.tmp 3)⟩,
      ⟨some 16, some (14, false), .load1 (.tmp 15)⟩,
      ⟨some 17, none, .pick (.tmp 14) (.const (.bool true)) (.tmp 16)⟩])
    (.cond (.tmp 17)
     (.seq
      (.ops [⟨some 6, none, .mov (.const (.pointer none))⟩])
      .ret)
     .skip))
   (.seq
    (.ops [⟨some 18, none, .mov (.tmp 1)⟩,
      ⟨some 19, none, .mov (.tmp 2)⟩,
      ⟨some 20, none, .faddr 3 (.tmp 3)⟩,
      ⟨some 21, none, .load1 (.tmp 20)⟩,
      ⟨some 22, none, .build [.int .u32 (0), .int .u32 (0)] [(0, 1, (.tmp 19)), (1, 1, (.tmp 21))]⟩,
      ⟨some 23, none, .call 132 [(.tmp 18), (.const (.int .i64 (1))), (.const (.int .i64 (2000))), (.const (.int .i64 (1000))), (.tmp 22)]⟩,
      ⟨some 6, none, .mov (.tmp 23)⟩])
    .ret)))⟩
theorem t95 : T 95 = some c95 := by kernel_rfl

/-- (*plait/flow.Flow).Answered -/
def c96 : AFunc := ⟨44, 2, [.inl 4],
 (.seq
  (.ops [⟨some 3, none, .box 89 12 (.tmp 1)⟩,
    ⟨some 4, none, .mov (.const (.bool false))⟩])
  (.seq
   (.seq
    (.opsD [⟨some 5, none, .mov (.tmp 0)⟩,
      ⟨some 6, none, .eq false true .ptr (.tmp 5) (.const (.pointer none))⟩,
      ⟨some 7, none, .mov (.tmp 6)⟩,
      ⟨some 8, some (7, false), .mov (.tmp 0)⟩,
      ⟨some 9, some (7, false), .nilchk (.tmp 8)⟩,
      ⟨some 10, some (7, false), .faddr 3 (.tmp 9)⟩,
      ⟨some 11, some (7, false), .load1 (.tmp 10)⟩,
      ⟨some 12, some (7, false), .bin .neq (.tmp 11) (.const (.int .i64 (0)))⟩,
      ⟨some 13, none, .pick (.tmp 7) (.const (.bool true)) (.tmp 12)⟩,
      ⟨some 14, none, .mov (.tmp 13)⟩,
      ⟨some 15, some (14, false), .faddr 5 (.tmp 3)⟩,
      ⟨some 16, some (14, false), .load1 (.tmp 15)⟩,
      ⟨some 17, some (14, false), .un .not (.tmp 16)⟩,
      ⟨some 18, none, .pick (.tmp 14) (.const (.bool true)) (.tmp 17)⟩,
      ⟨some 19, none, .mov (.tmp 18)⟩,
      ⟨some 20, some (19, false), .faddr 6 (.tmp 3)⟩,
      ⟨some 21, some (19, false), .load1 (.tmp 20)⟩,
      ⟨some 22, some (19, false), .un .not (.tmp 21)⟩,
      ⟨some 23, none, .pick (.tmp 19) (.const (.bool true)) (.tmp 22)⟩,
      ⟨some 24, none, .mov (.tmp 23)⟩,
      ⟨some 25, some (24, false), .faddr 8 (.tmp 3)⟩,
      ⟨some 26, some (24, false), .load1 (.tmp 25)⟩,
      ⟨some 27, none, .pick (.tmp 24) (.const (.bool true)) (.tmp 26)⟩,
      ⟨some 28, none, .mov (.tmp 27)⟩,
      ⟨some 29, some (28, false), .faddr 4 (.tmp 3)⟩,
      ⟨some 30, some (28, false), .load1 (.tmp 29)⟩,
      ⟨some 31, some (28, false), .mov (.tmp 0)⟩,
      ⟨some 32, some (28, false), .nilchk (.tmp 31)⟩,
      ⟨some 33, some (28, false), .faddr 0 (.tmp 32)⟩,
      ⟨some 34, some (28, false), .loadN 2 (.tmp 33)⟩,
      ⟨some 35, some (28, false), .call 101 [(.tmp 34), (.const (.int .i64 (0)))]⟩,
      ⟨some 36, some (28, false), .bin .neq (.tmp 30) (.tmp 35)⟩,
      ⟨some 37, none, .pick (.tmp 28) (.const (.bool true)) (.tmp 36)⟩] [(25, 30), (25, 31)])
    (.cond (.tmp 37)
     (.seq
      (.ops [⟨some 4, none, .mov (.const (.bool false))⟩])
      .ret)
     .skip))
   (.seq
    (.ops [⟨some 38, none, .mov (.tmp 0)⟩,
      ⟨some 39, none, .faddr 3 (.tmp 3)⟩,
      ⟨some 40, none, .load1 (.tmp 39)⟩,
      ⟨some 41, none, .nilchk (.tmp 38)⟩,
      ⟨some 42, none, .faddr 0 (.tmp 41)⟩,
      ⟨some 43, none, .faddr 1 (.tmp 42)⟩,
      ⟨none, none, .store 1 (.tmp 43) (.tmp 40)⟩])
    (.seq
     (.ops [⟨some 4, none, .mov (.const (.bool true))⟩])
     .ret))))⟩
theorem t96 : T 96 = some c96 := by kernel_rfl

/-- (*plait/flow.Flow).Start -/
def c97 : AFunc := ⟨17, 4, [],
 (.seq
  (.ops [⟨some 8, none, .mov (.tmp 0)⟩,
    ⟨some 9, none, .eq true true .ptr (.tmp 8) (.const (.pointer none))⟩])
  (.cond (.tmp 9)
   (.ops [⟨some 10, none, .mov (.tmp 0)⟩,
     ⟨some 11, none, .mov (.tmp 1)⟩,
     ⟨some 12, none, .mov (.tmp 2)⟩,
     ⟨some 13, none, .mov (.tmp 3)⟩,
     ⟨some 14, none, .call 27 [(.tmp 11), (.tmp 12), (.tmp 13)]⟩,
     ⟨some 15, none, .nilchk (.tmp 10)⟩,
     ⟨some 16, none, .faddr 7 (.tmp 15)⟩,
     ⟨none, none, .store 1 (.tmp 16) (.tmp 14)⟩])
   .skip))⟩
theorem t97 : T 97 = some c97 := by kernel_rfl

/-- (*plait/flow.Flow).Set -/
def c98 : AFunc := ⟨19, 2, [.inl 4],
 (.seq
  (.ops [⟨some 4, none, .mov (.const (.bool false))⟩])
  (.seq
   (.seq
    (.ops [⟨some 5, none, .mov (.tmp 0)⟩,
      ⟨some 6, none, .eq false true .ptr (.tmp 5) (.const (.pointer none))⟩,
      ⟨some 7, none, .mov (.tmp 6)⟩,
      ⟨some 8, some (7, false), .mov (.tmp 1)⟩,
      ⟨some 9, some (7, false), .bin .lss (.tmp 8) (.const (.int .i64 (0)))⟩,
      ⟨some 10, none, .pick (.tmp 7) (.const (.bool true)) (.tmp 9)⟩,
      ⟨some 11, none, .mov (.tmp 10)⟩,
      ⟨some 12, some (11, false), .mov (.tmp 1)⟩,
      ⟨some 13, some (11, false), .bin .geq (.tmp 12) (.const (.int .i64 (5)))⟩,
      ⟨some 14, none, .pick (.tmp 11) (.const (.bool true)) (.tmp 13)⟩])
    (.cond (.tmp 14)
     (.seq
      (.ops [⟨some 4, none, .mov (.const (.bool false))⟩])
      .ret)
     .skip))
   (.seq
    (.ops [⟨some 15, none, .mov (.tmp 0)⟩,
      ⟨some 16, none, .mov (.tmp 1)⟩,
      ⟨some 17, none, .nilchk (.tmp 15)⟩,
      ⟨some 18, none, .faddr 3 (.tmp 17)⟩,
      ⟨none, none, .store 1 (.tmp 18) (.tmp 16)⟩])
    (.seq
     (.ops [⟨some 4, none, .mov (.const (.bool true))⟩])
     .ret))))⟩
theorem t98 : T 98 = some c98 := by kernel_rfl

/-- (plait/flow.numbers).own -/
def c101 : AFunc := ⟨10, 2, [.inl 4],
 (.seq
  (.ops [⟨some 2, none, .box 155 2 (.tmp 0)⟩,
    ⟨some 4, none, .mov (.const (.int .u32 (0)))⟩])
  (.seq
   (.ops [⟨some 5, none, .faddr 0 (.tmp 2)⟩,
     ⟨some 6, none, .load1 (.tmp 5)⟩,
     ⟨some 7, none, .bin .add (.tmp 6) (.const (.int .u32 (1)))⟩,
     ⟨some 8, none, .mov (.tmp 1)⟩,
     ⟨some 9, none, .call 134 [(.tmp 7), (.tmp 8)]⟩,
     ⟨some 4, none, .mov (.tmp 9)⟩])
   .ret))⟩
theorem t101 : T 101 = some c101 := by kernel_rfl

/-- (*plait/flow.Flow).end -/
def c102 : AFunc := ⟨18, 1, [.inl 2],
 (.seq
  (.ops [⟨some 2, none, .mov (.const (.int .i64 (0)))⟩])
  (.seq
   (.seq
    (.ops [⟨some 3, none, .mov (.tmp 0)⟩,
      ⟨some 4, none, .nilchk (.tmp 3)⟩,
      ⟨some 5, none, .faddr 8 (.tmp 4)⟩,
      ⟨some 6, none, .load1 (.tmp 5)⟩])
    (.cond (.tmp 6)
     (.seq
      (.ops [⟨some 7, none, .mov (.tmp 0)⟩,
        ⟨some 8, none, .nilchk (.tmp 7)⟩,
        ⟨some 9, none, .faddr 6 (.tmp 8)⟩,
        ⟨some 10, none, .load1 (.tmp 9)⟩,
        ⟨some 11, none, .call 106 [(.tmp 10)]⟩,
        ⟨some 12, none, .bin .add (.tmp 11) (.const (.int .i64 (1)))⟩,
        ⟨some 2, none, .mov (.tmp 12)⟩])
      .ret)
     .skip))
   (.seq
    (.ops [⟨some 13, none, .mov (.tmp 0)⟩,
      ⟨some 14, none, .nilchk (.tmp 13)⟩,
      ⟨some 15, none, .faddr 6 (.tmp 14)⟩,
      ⟨some 16, none, .load1 (.tmp 15)⟩,
      ⟨some 17, none, .call 106 [(.tmp 16)]⟩,
      ⟨some 2, none, .mov (.tmp 17)⟩])
    .ret)))⟩
theorem t102 : T 102 = some c102 := by kernel_rfl

/-- (plait/flow.numbers).other -/
def c103 : AFunc := ⟨10, 2, [.inl 4],
 (.seq
  (.ops [⟨some 2, none, .box 155 2 (.tmp 0)⟩,
    ⟨some 4, none, .mov (.const (.int .u32 (0)))⟩])
  (.seq
   (.ops [⟨some 5, none, .faddr 1 (.tmp 2)⟩,
     ⟨some 6, none, .load1 (.tmp 5)⟩,
     ⟨some 7, none, .bin .add (.tmp 6) (.const (.int .u32 (1)))⟩,
     ⟨some 8, none, .mov (.tmp 1)⟩,
     ⟨some 9, none, .call 134 [(.tmp 7), (.tmp 8)]⟩,
     ⟨some 4, none, .mov (.tmp 9)⟩])
   .ret))⟩
theorem t103 : T 103 = some c103 := by kernel_rfl

/-- (*plait/flow.Flow).points -/
def c104 : AFunc := ⟨22, 2, [.inl 4],
 (.seq
  (.ops [⟨some 3, none, .box 89 12 (.tmp 1)⟩,
    ⟨some 4, none, .mov (.const (.int .i64 (0)))⟩])
  (.seq
   (.ops [⟨some 6, none, .mov (.tmp 0)⟩,
     ⟨some 7, none, .nilchk (.tmp 6)⟩,
     ⟨some 8, none, .faddr 6 (.tmp 7)⟩,
     ⟨some 9, none, .load1 (.tmp 8)⟩,
     ⟨some 10, none, .call 135 [(.tmp 9)]⟩,
     ⟨some 5, none, .mov (.tmp 10)⟩])
   (.seq
    (.opsD [⟨some 11, none, .mov (.tmp 5)⟩,
      ⟨some 12, none, .mov (.tmp 0)⟩,
      ⟨some 13, none, .nilchk (.tmp 12)⟩,
      ⟨some 14, none, .faddr 0 (.tmp 13)⟩,
      ⟨some 15, none, .loadN 2 (.tmp 14)⟩,
      ⟨some 16, none, .mov (.tmp 5)⟩,
      ⟨some 17, none, .call 101 [(.tmp 15), (.tmp 16)]⟩,
      ⟨some 18, none, .faddr 4 (.tmp 3)⟩,
      ⟨some 19, none, .load1 (.tmp 18)⟩,
      ⟨some 20, none, .call 136 [(.tmp 17), (.tmp 19)]⟩,
      ⟨some 21, none, .bin .add (.tmp 11) (.tmp 20)⟩,
      ⟨some 4, none, .mov (.tmp 21)⟩] [(8, 6), (8, 7)])
    .ret)))⟩
theorem t104 : T 104 = some c104 := by kernel_rfl

/-- (*plait/flow.Flow).begins -/
def c107 : AFunc := ⟨22, 2, [.inl 4],
 (.seq
  (.ops [⟨some 3, none, .box 89 12 (.tmp 1)⟩,
    ⟨some 4, none, .mov (.const (.int .i64 (0)))⟩])
  (.seq
   (.ops [⟨some 6, none, .mov (.tmp 0)⟩,
     ⟨some 7, none, .nilchk (.tmp 6)⟩,
     ⟨some 8, none, .faddr 7 (.tmp 7)⟩,
     ⟨some 9, none, .load1 (.tmp 8)⟩,
     ⟨some 10, none, .call 35 [(.tmp 9)]⟩,
     ⟨some 5, none, .mov (.tmp 10)⟩])
   (.seq
    (.opsD [⟨some 11, none, .mov (.tmp 5)⟩,
      ⟨some 12, none, .mov (.tmp 0)⟩,
      ⟨some 13, none, .nilchk (.tmp 12)⟩,
      ⟨some 14, none, .faddr 0 (.tmp 13)⟩,
      ⟨some 15, none, .loadN 2 (.tmp 14)⟩,
      ⟨some 16, none, .mov (.tmp 5)⟩,
      ⟨some 17, none, .call 103 [(.tmp 15), (.tmp 16)]⟩,
      ⟨some 18, none, .faddr 3 (.tmp 3)⟩,
      ⟨some 19, none, .load1 (.tmp 18)⟩,
      ⟨some 20, none, .call 136 [(.tmp 17), (.tmp 19)]⟩,
      ⟨some 21, none, .bin .add (.tmp 11) (.tmp 20)⟩,
      ⟨some 4, none, .mov (.tmp 21)⟩] [(8, 6), (8, 7)])
    .ret)))⟩
theorem t107 : T 107 = some c107 := by kernel_rfl

/-- plait/flow.made -/
def c132 : AFunc := ⟨31, 5, [.inl 10],
 (.seq
  (.ops [⟨some 9, none, .box 155 2 (.tmp 4)⟩,
    ⟨some 10, none, .mov (.const (.pointer none))⟩])
  (.seq
   (.seq
    (.ops [⟨some 11, none, .mov (.tmp 0)⟩,
      ⟨some 12, none, .bin .lss (.tmp 11) (.const (.int .i64 (0)))⟩,
      ⟨some 13, none, .mov (.tmp 12)⟩,
      ⟨some 14, some (13, false), .mov (.tmp 0)⟩,
      ⟨some 15, some (13, false), .bin .geq (.tmp 14) (.const (.int .i64 (4)))⟩,
      ⟨some 16, none, .pick (.tmp 13) (.const (.bool true)) (.tmp 15)⟩])
    (.cond (.tmp 16)
     (.seq
      (.ops [⟨some 10, none, .mov (.const (.pointer none))⟩])
      .ret)
     .skip))
   (.seq
    (.opsD [⟨some 17, none, .loadN 2 (.tmp 9)⟩,
      ⟨some 18, none, .mov (.tmp 0)⟩,
      ⟨some 19, none, .mov (.tmp 1)⟩,
      ⟨some 20, none, .mov (.tmp 2)⟩,
      ⟨some 21, none, .mov (.tmp 0)⟩,
      ⟨some 22, none, .bin .add (.tmp 20) (.tmp 21)⟩,
      ⟨some 23, none, .cvInt .u16 (.tmp 22)⟩,
      ⟨some 24, none, .mov (.tmp 3)⟩,
      ⟨some 25, none, .mov (.tmp 0)⟩,
      ⟨some 26, none, .bin .add (.tmp 24) (.tmp 25)⟩,
      ⟨some 27, none, .cvInt .u16 (.tmp 26)⟩,
      ⟨some 28, none, .call 160 []⟩,
      ⟨some 29, none, .build [.int .u32 (0), .int .u32 (0), .int .i64 (0), .int .i64 (0), .int .u16 (0), .int .u16 (0), .pointer none, .pointer none, .bool false, .bool false, .bool false] [(0, 2, (.tmp 17)), (2, 1, (.tmp 18)), (3, 1, (.tmp 19)), (4, 1, (.tmp 23)), (5, 1, (.tmp 27)), (6, 1, (.tmp 28))]⟩,
      ⟨some 30, none, .box 158 11 (.tmp 29)⟩,
      ⟨some 10, none, .mov (.tmp 30)⟩] [(0, 11), (0, 12)])
    .ret)))⟩
theorem t132 : T 132 = some c132 := by kernel_rfl

/-- plait/seq.Plus -/
def c134 : AFunc := ⟨9, 2, [.inl 4],
 (.seq
  (.ops [⟨some 4, none, .mov (.const (.int .u32 (0)))⟩])
  (.seq
   (.ops [⟨some 5, none, .mov (.tmp 0)⟩,
     ⟨some 6, none, .mov (.tmp 1)⟩,
     ⟨some 7, none, .cvInt .u32 (.tmp 6)⟩,
     ⟨some 8, none, .bin .add (.tmp 5) (.tmp 7)⟩,
     ⟨some 4, none, .mov (.tmp 8)⟩])
   .ret))⟩
theorem t134 : T 134 = some c134 := by kernel_rfl

/-- plait/seq.Gap -/
def c136 : AFunc := ⟨10, 2, [.inl 4],
 (.seq
  (.ops [⟨some 4, none, .mov (.const (.int .i64 (0)))⟩])
  (.seq
   (.ops [⟨some 5, none, .mov (.tmp 0)⟩,
     ⟨some 6, none, .mov (.tmp 1)⟩,
     ⟨some 7, none, .call 161 [(.tmp 5), (.tmp 6)]⟩,
     ⟨some 8, none, .cvInt .i32 (.tmp 7)⟩,
     ⟨some 9, none, .cvInt .i64 (.tmp 8)⟩,
     ⟨some 4, none, .mov (.tmp 9)⟩])
   .ret))⟩
theorem t136 : T 136 = some c136 := by kernel_rfl

/-- plait/seq.way[uint32] -/
def c161 : AFunc := ⟨8, 2, [.inl 4],
 (.seq
  (.ops [⟨some 4, none, .mov (.const (.int .u32 (0)))⟩])
  (.seq
   (.ops [⟨some 5, none, .mov (.tmp 1)⟩,
     ⟨some 6, none, .mov (.tmp 0)⟩,
     ⟨some 7, none, .bin .sub (.tmp 5) (.tmp 6)⟩,
     ⟨some 4, none, .mov (.tmp 7)⟩])
   .ret))⟩
theorem t161 : T 161 = some c161 := by kernel_rfl

end Go.Proofs.Ytidgbapgedegbaa

