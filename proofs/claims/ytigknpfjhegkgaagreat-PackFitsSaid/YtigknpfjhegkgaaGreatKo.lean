/- The code of functions, as the framework reads it. -/
import Derived.Test.YtigknpfjhegkgaaGreatZo
import Derived.KernelRfl
namespace Go.Proofs.YtigknpfjhegkgaaGreat
open Go Go.AS
set_option maxRecDepth 100000
/-- Four options' zero cells. -/
def opZ4 : List Value := opZ ++ (opZ ++ (opZ ++ opZ))

def c3t : ACode :=
 (.seq
 (.seq
 (.ops [⟨some 47, none, .mov (.tmp 1)⟩,
 ⟨some 48, none, .mov (.tmp 1)⟩,
 ⟨some 49, none, .bin .rem (.tmp 48) (.const (.int .i64 (60)))⟩,
 ⟨some 50, none, .build [.int .i64 (0), .int .i64 (0), .int .i64 (0)] [(0, 1, (.tmp 47)), (1, 1, (.tmp 49)), (2, 1, (.const (.int .i64 (40))))]⟩,
 ⟨some 51, none, .mov (.const (.int .i64 (0)))⟩])
 (.block 2
 (.loop
 (.seq
 (.ops [⟨some 52, none, .bin .lss (.tmp 51) (.const (.int .i64 (3)))⟩])
 (.seq
 (.cond (.tmp 52)
 .skip
 (.exit 2))
 (.seq
 (.block 3
 (.seq
 (.ops [⟨some 53, none, .idx1 3 1 (.tmp 50) (.tmp 51)⟩,
 ⟨some 7, none, .mov (.tmp 53)⟩])
 (.seq
 (.ops [⟨some 55, none, .mov (.tmp 0)⟩,
 ⟨some 56, none, .mov (.tmp 7)⟩,
 ⟨some 57, none, .call 11 [(.tmp 55), (.tmp 56)]⟩,
 ⟨some 54, none, .mov (.tmp 57)⟩,
 ⟨some 58, none, .ext (.tmp 54) 0⟩,
 ⟨some 59, none, .ext (.tmp 54) 1⟩,
 ⟨some 8, none, .mov (.tmp 58)⟩,
 ⟨some 9, none, .mov (.tmp 59)⟩])
 (.seq
 (.ops [⟨some 61, none, .mov (.tmp 0)⟩,
 ⟨some 62, none, .mov (.tmp 7)⟩,
 ⟨some 63, none, .call 12 [(.tmp 61), (.tmp 62)]⟩,
 ⟨some 60, none, .mov (.tmp 63)⟩,
 ⟨some 64, none, .ext (.tmp 60) 0⟩,
 ⟨some 65, none, .ext (.tmp 60) 1⟩,
 ⟨some 10, none, .mov (.tmp 64)⟩,
 ⟨some 11, none, .mov (.tmp 65)⟩])
 (.seq
 (.ops [⟨some 66, none, .mov (.tmp 8)⟩,
 ⟨some 67, none, .mov (.tmp 10)⟩,
 ⟨some 68, none, .call 13 [(.tmp 66), (.tmp 67)]⟩,
 ⟨some 69, none, .un .not (.tmp 68)⟩,
 ⟨some 70, none, .mov (.tmp 69)⟩,
 ⟨some 71, some (70, false), .mov (.tmp 9)⟩,
 ⟨some 72, some (70, false), .mov (.tmp 11)⟩,
 ⟨some 73, some (70, false), .call 13 [(.tmp 71), (.tmp 72)]⟩,
 ⟨some 74, some (70, false), .un .not (.tmp 73)⟩,
 ⟨some 75, none, .pick (.tmp 70) (.const (.bool true)) (.tmp 74)⟩])
 (.cond (.tmp 75)
 (.seq
 (.ops [⟨some 4, none, .mov (.const (.bool false))⟩])
 .ret)
 .skip))))))
 (.ops [⟨some 76, none, .bin .add (.tmp 51) (.const (.int .i64 (1)))⟩,
 ⟨some 51, none, .mov (.tmp 76)⟩])))))))
 (.seq
 (.ops [⟨some 77, none, .call 14 []⟩,
 ⟨some 4, none, .mov (.tmp 77)⟩])
 .ret))

/-- plait/plaitlaw15.PackTells -/
def c3 : AFunc := ⟨78, 2, [.inl 4],
 (.seq
 (.ops [⟨some 4, none, .mov (.const (.bool false))⟩])
 (.seq
 (.ops [⟨some 12, none, .mov (.tmp 0)⟩,
 ⟨some 13, none, .mov (.tmp 0)⟩,
 ⟨some 14, none, .lenV (.tmp 13)⟩,
 ⟨some 15, none, .min [(.tmp 14), (.const (.int .i64 (30)))]⟩,
 ⟨some 16, none, .sliceV 38 (.tmp 12) none (some (.tmp 15)) none⟩,
 ⟨some 0, none, .mov (.tmp 16)⟩])
 (.seq
 (.seq
 (.ops [⟨some 5, none, .mov (.const (.int .i64 (0)))⟩])
 (.block 0
 (.loop
 (.seq
 (.seq
 (.ops [⟨some 17, none, .mov (.tmp 5)⟩,
 ⟨some 18, none, .mov (.tmp 0)⟩,
 ⟨some 19, none, .lenV (.tmp 18)⟩,
 ⟨some 20, none, .bin .lss (.tmp 17) (.tmp 19)⟩])
 (.cond (.tmp 20)
 .skip
 (.exit 0)))
 (.seq
 (.block 1
 (.seq
 (.opsD [⟨some 23, none, .mov (.tmp 0)⟩,
 ⟨some 24, none, .mov (.tmp 5)⟩,
 ⟨some 25, none, .iaddrS 38 (.tmp 23) (.tmp 24)⟩,
 ⟨some 26, none, .loadN 38 (.tmp 25)⟩,
 ⟨some 27, none, .call 7 [(.tmp 26)]⟩,
 ⟨some 28, none, .mov (.tmp 0)⟩,
 ⟨some 29, none, .mov (.tmp 5)⟩,
 ⟨some 30, none, .iaddrS 38 (.tmp 28) (.tmp 29)⟩,
 ⟨some 31, none, .loadN 38 (.tmp 30)⟩,
 ⟨some 32, none, .call 8 [(.tmp 31)]⟩,
 ⟨some 33, none, .bin .neq (.tmp 27) (.tmp 32)⟩,
 ⟨some 34, none, .mov (.tmp 33)⟩,
 ⟨some 35, some (34, false), .mov (.tmp 0)⟩,
 ⟨some 36, some (34, false), .mov (.tmp 5)⟩,
 ⟨some 37, some (34, false), .iaddrS 38 (.tmp 35) (.tmp 36)⟩,
 ⟨some 38, some (34, false), .loadN 38 (.tmp 37)⟩,
 ⟨some 39, some (34, false), .call 9 [(.tmp 38)]⟩,
 ⟨some 40, some (34, false), .mov (.tmp 0)⟩,
 ⟨some 41, some (34, false), .mov (.tmp 5)⟩,
 ⟨some 42, some (34, false), .iaddrS 38 (.tmp 40) (.tmp 41)⟩,
 ⟨some 43, some (34, false), .loadN 38 (.tmp 42)⟩,
 ⟨some 44, some (34, false), .call 10 [(.tmp 43)]⟩,
 ⟨some 45, some (34, false), .bin .neq (.tmp 39) (.tmp 44)⟩,
 ⟨some 46, none, .pick (.tmp 34) (.const (.bool true)) (.tmp 45)⟩] [(8, 4), (8, 5), (20, 16), (20, 17)])
 (.cond (.tmp 46)
 (.seq
 (.ops [⟨some 4, none, .mov (.const (.bool false))⟩])
 .ret)
 .skip)))
 (.ops [⟨some 21, none, .mov (.tmp 5)⟩,
 ⟨some 22, none, .bin .add (.tmp 21) (.const (.int .i64 (1)))⟩,
 ⟨some 5, none, .mov (.tmp 22)⟩]))))))
 c3t)))⟩
theorem t3 : T 3 = some c3 := by kernel_rfl

def c4i : ACode :=
 (.seq
 (.ops [⟨some 10, none, .mov (.const (.int .i64 (0)))⟩])
 (.block 2
 (.loop
 (.seq
 (.seq
 (.ops [⟨some 36, none, .mov (.tmp 10)⟩,
 ⟨some 37, none, .mov (.tmp 6)⟩,
 ⟨some 38, none, .lenV (.tmp 37)⟩,
 ⟨some 39, none, .bin .lss (.tmp 36) (.tmp 38)⟩])
 (.cond (.tmp 39)
 .skip
 (.exit 2)))
 (.seq
 (.block 3
 (.seq
 (.opsD [⟨some 42, none, .mov (.tmp 6)⟩,
 ⟨some 43, none, .mov (.tmp 10)⟩,
 ⟨some 44, none, .iaddrS 38 (.tmp 42) (.tmp 43)⟩,
 ⟨some 45, none, .loadN 38 (.tmp 44)⟩,
 ⟨some 46, none, .call 9 [(.tmp 45)]⟩,
 ⟨some 47, none, .mov (.tmp 7)⟩,
 ⟨some 48, none, .mov (.tmp 8)⟩,
 ⟨some 49, none, .iaddrS 38 (.tmp 47) (.tmp 48)⟩,
 ⟨some 50, none, .loadN 38 (.tmp 49)⟩,
 ⟨some 51, none, .call 9 [(.tmp 50)]⟩,
 ⟨some 52, none, .bin .leq (.tmp 46) (.tmp 51)⟩] [(8, 4), (8, 5)])
 (.cond (.tmp 52)
 (.ops [⟨some 53, none, .mov (.tmp 9)⟩,
 ⟨some 54, none, .mov (.tmp 6)⟩,
 ⟨some 55, none, .mov (.tmp 10)⟩,
 ⟨some 56, none, .iaddrS 38 (.tmp 54) (.tmp 55)⟩,
 ⟨some 57, none, .loadN 38 (.tmp 56)⟩,
 ⟨some 58, none, .call 7 [(.tmp 57)]⟩,
 ⟨some 59, none, .bin .sub (.tmp 53) (.tmp 58)⟩,
 ⟨some 9, none, .mov (.tmp 59)⟩])
 .skip)))
 (.ops [⟨some 40, none, .mov (.tmp 10)⟩,
 ⟨some 41, none, .bin .add (.tmp 40) (.const (.int .i64 (1)))⟩,
 ⟨some 10, none, .mov (.tmp 41)⟩]))))))

def c4u : ACode :=
 (.seq
 (.ops [⟨some 11, none, .mov (.const (.int .i64 (0)))⟩])
 (.seq
 (.seq
 (.ops [⟨some 12, none, .mov (.const (.int .i64 (0)))⟩])
 (.block 4
 (.loop
 (.seq
 (.seq
 (.ops [⟨some 67, none, .mov (.tmp 12)⟩,
 ⟨some 68, none, .mov (.tmp 0)⟩,
 ⟨some 69, none, .lenV (.tmp 68)⟩,
 ⟨some 70, none, .bin .lss (.tmp 67) (.tmp 69)⟩])
 (.cond (.tmp 70)
 .skip
 (.exit 4)))
 (.seq
 (.block 5
 (.ops [⟨some 73, none, .mov (.tmp 11)⟩,
 ⟨some 74, none, .mov (.tmp 0)⟩,
 ⟨some 75, none, .mov (.tmp 12)⟩,
 ⟨some 76, none, .iaddrS 38 (.tmp 74) (.tmp 75)⟩,
 ⟨some 77, none, .loadN 38 (.tmp 76)⟩,
 ⟨some 78, none, .call 7 [(.tmp 77)]⟩,
 ⟨some 79, none, .bin .add (.tmp 73) (.tmp 78)⟩,
 ⟨some 11, none, .mov (.tmp 79)⟩]))
 (.ops [⟨some 71, none, .mov (.tmp 12)⟩,
 ⟨some 72, none, .bin .add (.tmp 71) (.const (.int .i64 (1)))⟩,
 ⟨some 12, none, .mov (.tmp 72)⟩]))))))
 (.seq
 (.ops [⟨some 80, none, .mov (.tmp 11)⟩,
 ⟨some 81, none, .mov (.tmp 5)⟩,
 ⟨some 82, none, .bin .gtr (.tmp 80) (.tmp 81)⟩,
 ⟨some 83, none, .mov (.tmp 82)⟩,
 ⟨some 84, some (83, false), .mov (.tmp 7)⟩,
 ⟨some 85, some (83, false), .lenV (.tmp 84)⟩,
 ⟨some 86, some (83, false), .bin .eql (.tmp 85) (.const (.int .i64 (0)))⟩,
 ⟨some 87, none, .pick (.tmp 83) (.const (.bool true)) (.tmp 86)⟩,
 ⟨some 4, none, .mov (.tmp 87)⟩])
 .ret)))

def c4t : ACode :=
 (.seq
 (.seq
 (.ops [⟨some 8, none, .mov (.const (.int .i64 (0)))⟩])
 (.block 0
 (.loop
 (.seq
 (.seq
 (.ops [⟨some 29, none, .mov (.tmp 8)⟩,
 ⟨some 30, none, .mov (.tmp 7)⟩,
 ⟨some 31, none, .lenV (.tmp 30)⟩,
 ⟨some 32, none, .bin .lss (.tmp 29) (.tmp 31)⟩])
 (.cond (.tmp 32)
 .skip
 (.exit 0)))
 (.seq
 (.block 1
 (.seq
 (.ops [⟨some 35, none, .mov (.tmp 5)⟩,
 ⟨some 9, none, .mov (.tmp 35)⟩])
 (.seq
 c4i
 (.seq
 (.ops [⟨some 60, none, .mov (.tmp 7)⟩,
 ⟨some 61, none, .mov (.tmp 8)⟩,
 ⟨some 62, none, .iaddrS 38 (.tmp 60) (.tmp 61)⟩,
 ⟨some 63, none, .loadN 38 (.tmp 62)⟩,
 ⟨some 64, none, .call 7 [(.tmp 63)]⟩,
 ⟨some 65, none, .mov (.tmp 9)⟩,
 ⟨some 66, none, .bin .leq (.tmp 64) (.tmp 65)⟩])
 (.cond (.tmp 66)
 (.seq
 (.ops [⟨some 4, none, .mov (.const (.bool false))⟩])
 .ret)
 .skip)))))
 (.ops [⟨some 33, none, .mov (.tmp 8)⟩,
 ⟨some 34, none, .bin .add (.tmp 33) (.const (.int .i64 (1)))⟩,
 ⟨some 8, none, .mov (.tmp 34)⟩]))))))
 c4u)

/-- plait/plaitlaw15.PackMost -/
def c4 : AFunc := ⟨88, 2, [.inl 4],
 (.seq
 (.ops [⟨some 4, none, .mov (.const (.bool false))⟩])
 (.seq
 (.seq
 (.ops [⟨some 13, none, .call 14 []⟩,
 ⟨some 14, none, .un .not (.tmp 13)⟩])
 (.cond (.tmp 14)
 (.seq
 (.ops [⟨some 4, none, .mov (.const (.bool false))⟩])
 .ret)
 .skip))
 (.seq
 (.ops [⟨some 15, none, .mov (.tmp 0)⟩,
 ⟨some 16, none, .mov (.tmp 0)⟩,
 ⟨some 17, none, .lenV (.tmp 16)⟩,
 ⟨some 18, none, .min [(.tmp 17), (.const (.int .i64 (30)))]⟩,
 ⟨some 19, none, .sliceV 38 (.tmp 15) none (some (.tmp 18)) none⟩,
 ⟨some 0, none, .mov (.tmp 19)⟩])
 (.seq
 (.ops [⟨some 20, none, .mov (.tmp 1)⟩,
 ⟨some 21, none, .cvInt .i64 (.tmp 20)⟩,
 ⟨some 22, none, .bin .rem (.tmp 21) (.const (.int .i64 (41)))⟩,
 ⟨some 5, none, .mov (.tmp 22)⟩])
 (.seq
 (.ops [⟨some 24, none, .mov (.tmp 0)⟩,
 ⟨some 25, none, .mov (.tmp 5)⟩,
 ⟨some 26, none, .call 11 [(.tmp 24), (.tmp 25)]⟩,
 ⟨some 23, none, .mov (.tmp 26)⟩,
 ⟨some 27, none, .ext (.tmp 23) 0⟩,
 ⟨some 28, none, .ext (.tmp 23) 1⟩,
 ⟨some 6, none, .mov (.tmp 27)⟩,
 ⟨some 7, none, .mov (.tmp 28)⟩])
 c4t)))))⟩
theorem t4 : T 4 = some c4 := by kernel_rfl

def c5u : ACode :=
 (.seq
 (.ops [⟨some 65, none, .call 11 [(.const (.slice none 0 0)), (.const (.int .i64 (40)))]⟩,
 ⟨some 64, none, .mov (.tmp 65)⟩,
 ⟨some 66, none, .ext (.tmp 64) 0⟩,
 ⟨some 67, none, .ext (.tmp 64) 1⟩,
 ⟨some 11, none, .mov (.tmp 66)⟩,
 ⟨some 12, none, .mov (.tmp 67)⟩])
 (.seq
 (.ops [⟨some 68, none, .call 14 []⟩,
 ⟨some 69, none, .mov (.tmp 68)⟩,
 ⟨some 70, some (69, true), .loadN 38 (.tmp 2)⟩,
 ⟨some 71, some (69, true), .call 7 [(.tmp 70)]⟩,
 ⟨some 72, some (69, true), .bin .eql (.tmp 71) (.const (.int .i64 (0)))⟩,
 ⟨some 73, none, .pick (.tmp 69) (.tmp 72) (.const (.bool false))⟩,
 ⟨some 74, none, .mov (.tmp 73)⟩,
 ⟨some 75, some (74, true), .loadN 38 (.tmp 3)⟩,
 ⟨some 76, some (74, true), .call 7 [(.tmp 75)]⟩,
 ⟨some 77, some (74, true), .bin .eql (.tmp 76) (.const (.int .i64 (0)))⟩,
 ⟨some 78, none, .pick (.tmp 74) (.tmp 77) (.const (.bool false))⟩,
 ⟨some 79, none, .mov (.tmp 78)⟩,
 ⟨some 80, some (79, true), .build opZ []⟩,
 ⟨some 81, some (79, true), .call 9 [(.tmp 80)]⟩,
 ⟨some 82, some (79, true), .bin .eql (.tmp 81) (.const (.int .i64 (0)))⟩,
 ⟨some 83, none, .pick (.tmp 79) (.tmp 82) (.const (.bool false))⟩,
 ⟨some 84, none, .mov (.tmp 83)⟩,
 ⟨some 85, some (84, true), .mov (.tmp 5)⟩,
 ⟨some 86, some (84, true), .iaddrA 4 38 (.tmp 1) (.const (.int .i64 (2)))⟩,
 ⟨some 87, some (84, true), .loadN 38 (.tmp 86)⟩,
 ⟨some 88, some (84, true), .iaddrA 4 38 (.tmp 1) (.const (.int .i64 (2)))⟩,
 ⟨some 89, some (84, true), .loadN 38 (.tmp 88)⟩,
 ⟨some 90, some (84, true), .iaddrA 4 38 (.tmp 1) (.const (.int .i64 (2)))⟩,
 ⟨some 91, some (84, true), .loadN 38 (.tmp 90)⟩,
 ⟨some 92, some (84, true), .bslice 46 3 opZ [(0, 38, (.tmp 87)), (38, 38, (.tmp 89)), (76, 38, (.tmp 91))]⟩,
 ⟨some 93, some (84, true), .call 13 [(.tmp 85), (.tmp 92)]⟩,
 ⟨some 94, none, .pick (.tmp 84) (.tmp 93) (.const (.bool false))⟩,
 ⟨some 95, none, .mov (.tmp 94)⟩,
 ⟨some 96, some (95, true), .mov (.tmp 6)⟩,
 ⟨some 97, some (95, true), .iaddrA 4 38 (.tmp 1) (.const (.int .i64 (2)))⟩,
 ⟨some 98, some (95, true), .loadN 38 (.tmp 97)⟩,
 ⟨some 99, some (95, true), .bslice 46 1 opZ [(0, 38, (.tmp 98))]⟩,
 ⟨some 100, some (95, true), .call 13 [(.tmp 96), (.tmp 99)]⟩,
 ⟨some 101, none, .pick (.tmp 95) (.tmp 100) (.const (.bool false))⟩,
 ⟨some 102, none, .mov (.tmp 101)⟩,
 ⟨some 103, some (102, true), .mov (.tmp 7)⟩,
 ⟨some 104, some (102, true), .lenV (.tmp 103)⟩,
 ⟨some 105, some (102, true), .bin .eql (.tmp 104) (.const (.int .i64 (0)))⟩,
 ⟨some 106, none, .pick (.tmp 102) (.tmp 105) (.const (.bool false))⟩,
 ⟨some 107, none, .mov (.tmp 106)⟩,
 ⟨some 108, some (107, true), .mov (.tmp 8)⟩,
 ⟨some 109, some (107, true), .lenV (.tmp 108)⟩,
 ⟨some 110, some (107, true), .bin .eql (.tmp 109) (.const (.int .i64 (4)))⟩,
 ⟨some 111, none, .pick (.tmp 107) (.tmp 110) (.const (.bool false))⟩,
 ⟨some 112, none, .mov (.tmp 111)⟩,
 ⟨some 113, some (112, true), .mov (.tmp 11)⟩,
 ⟨some 114, some (112, true), .lenV (.tmp 113)⟩,
 ⟨some 115, some (112, true), .bin .eql (.tmp 114) (.const (.int .i64 (0)))⟩,
 ⟨some 116, none, .pick (.tmp 112) (.tmp 115) (.const (.bool false))⟩,
 ⟨some 117, none, .mov (.tmp 116)⟩,
 ⟨some 118, some (117, true), .mov (.tmp 12)⟩,
 ⟨some 119, some (117, true), .lenV (.tmp 118)⟩,
 ⟨some 120, some (117, true), .bin .eql (.tmp 119) (.const (.int .i64 (0)))⟩,
 ⟨some 121, none, .pick (.tmp 117) (.tmp 120) (.const (.bool false))⟩,
 ⟨some 0, none, .mov (.tmp 121)⟩])
 .ret))

def c5t : ACode :=
 (.seq
 (.seq
 (.ops [⟨some 10, none, .mov (.const (.int .i64 (0)))⟩])
 (.block 0
 (.loop
 (.seq
 (.seq
 (.ops [⟨some 51, none, .mov (.tmp 10)⟩,
 ⟨some 52, none, .mov (.tmp 9)⟩,
 ⟨some 53, none, .lenV (.tmp 52)⟩,
 ⟨some 54, none, .bin .lss (.tmp 51) (.tmp 53)⟩])
 (.cond (.tmp 54)
 .skip
 (.exit 0)))
 (.seq
 (.block 1
 (.seq
 (.ops [⟨some 57, none, .mov (.tmp 9)⟩,
 ⟨some 58, none, .mov (.tmp 10)⟩,
 ⟨some 59, none, .iaddrS 38 (.tmp 57) (.tmp 58)⟩,
 ⟨some 60, none, .loadN 38 (.tmp 59)⟩,
 ⟨some 61, none, .call 9 [(.tmp 60)]⟩,
 ⟨some 62, none, .mov (.tmp 10)⟩,
 ⟨some 63, none, .bin .neq (.tmp 61) (.tmp 62)⟩])
 (.cond (.tmp 63)
 (.seq
 (.ops [⟨some 0, none, .mov (.const (.bool false))⟩])
 .ret)
 .skip)))
 (.ops [⟨some 55, none, .mov (.tmp 10)⟩,
 ⟨some 56, none, .bin .add (.tmp 55) (.const (.int .i64 (1)))⟩,
 ⟨some 10, none, .mov (.tmp 56)⟩]))))))
 c5u)

def c5s : ACode :=
 (.seq
 (.ops [⟨some 38, none, .iaddrA 4 38 (.tmp 1) (.const (.int .i64 (1)))⟩,
 ⟨some 39, none, .loadN 38 (.tmp 38)⟩,
 ⟨some 40, none, .build opZ [(0, 1, (.const (.int .i64 (1))))]⟩,
 ⟨some 41, none, .build opZ [(0, 1, (.const (.int .i64 (7))))]⟩,
 ⟨some 42, none, .build opZ [(0, 1, (.const (.int .i64 (6))))]⟩,
 ⟨some 43, none, .build opZ [(0, 1, (.const (.int .i64 (8))))]⟩,
 ⟨some 44, none, .build [.bool false, .int .i64 (0), .string ⟨⟨[]⟩⟩, .bool false, .int .i64 (0), .string ⟨⟨[]⟩⟩] [(0, 1, (.const (.bool true)))]⟩,
 ⟨some 45, none, .build opZ [(0, 1, (.const (.int .i64 (3)))), (26, 6, (.tmp 44))]⟩,
 ⟨some 46, none, .build opZ [(0, 1, (.const (.int .i64 (3))))]⟩,
 ⟨some 47, none, .build opZ [(0, 1, (.const (.int .i64 (4))))]⟩,
 ⟨some 48, none, .build opZ [(0, 1, (.const (.int .i64 (5))))]⟩,
 ⟨some 49, none, .loadN 38 (.tmp 2)⟩,
 ⟨some 50, none, .bslice 46 10 opZ [(0, 38, (.tmp 39)), (38, 38, (.tmp 40)), (76, 38, (.tmp 41)), (114, 38, (.tmp 42)), (152, 38, (.tmp 43)), (190, 38, (.tmp 45)), (228, 38, (.tmp 46)), (266, 38, (.tmp 47)), (304, 38, (.tmp 48)), (342, 38, (.tmp 49))]⟩,
 ⟨some 9, none, .mov (.tmp 50)⟩])
 c5t)

/-- plait/plaitlaw15.PackKnown -/
def c5 : AFunc := ⟨122, 0, [.inl 0],
 (.seq
 (.ops [⟨some 0, none, .mov (.const (.bool false))⟩])
 (.seq
 (.ops [⟨some 13, none, .call 15 []⟩,
 ⟨some 1, none, .alloc 54 opZ4⟩,
 ⟨none, none, .store 152 (.tmp 1) (.tmp 13)⟩])
 (.seq
 (.ops [⟨some 14, none, .build opZ [(0, 1, (.const (.int .i64 (9))))]⟩,
 ⟨some 2, none, .alloc 46 opZ⟩,
 ⟨none, none, .store 38 (.tmp 2) (.tmp 14)⟩])
 (.seq
 (.ops [⟨some 15, none, .build [.int .u64 (0)] [(0, 1, (.const (.int .u64 (1))))]⟩,
 ⟨some 16, none, .build opZ [(0, 1, (.const (.int .i64 (5)))), (34, 1, (.tmp 15))]⟩,
 ⟨some 3, none, .alloc 46 opZ⟩,
 ⟨none, none, .store 38 (.tmp 3) (.tmp 16)⟩])
 (.seq
 (.ops [⟨some 17, none, .loadN 38 (.tmp 2)⟩,
 ⟨some 18, none, .iaddrA 4 38 (.tmp 1) (.const (.int .i64 (2)))⟩,
 ⟨some 19, none, .loadN 38 (.tmp 18)⟩,
 ⟨some 20, none, .iaddrA 4 38 (.tmp 1) (.const (.int .i64 (2)))⟩,
 ⟨some 21, none, .loadN 38 (.tmp 20)⟩,
 ⟨some 22, none, .loadN 38 (.tmp 3)⟩,
 ⟨some 23, none, .iaddrA 4 38 (.tmp 1) (.const (.int .i64 (2)))⟩,
 ⟨some 24, none, .loadN 38 (.tmp 23)⟩,
 ⟨some 25, none, .iaddrA 4 38 (.tmp 1) (.const (.int .i64 (2)))⟩,
 ⟨some 26, none, .loadN 38 (.tmp 25)⟩,
 ⟨some 27, none, .bslice 46 6 opZ [(0, 38, (.tmp 17)), (38, 38, (.tmp 19)), (76, 38, (.tmp 21)), (114, 38, (.tmp 22)), (152, 38, (.tmp 24)), (190, 38, (.tmp 26))]⟩,
 ⟨some 4, none, .mov (.tmp 27)⟩])
 (.seq
 (.ops [⟨some 29, none, .mov (.tmp 4)⟩,
 ⟨some 30, none, .call 11 [(.tmp 29), (.const (.int .i64 (4611686018427387904)))]⟩,
 ⟨some 28, none, .mov (.tmp 30)⟩,
 ⟨some 31, none, .ext (.tmp 28) 0⟩,
 ⟨some 32, none, .ext (.tmp 28) 1⟩,
 ⟨some 5, none, .mov (.tmp 31)⟩,
 ⟨some 6, none, .mov (.tmp 32)⟩])
 (.seq
 (.ops [⟨some 34, none, .mov (.tmp 4)⟩,
 ⟨some 35, none, .call 11 [(.tmp 34), (.const (.int .i64 (-9223372036854775808)))]⟩,
 ⟨some 33, none, .mov (.tmp 35)⟩,
 ⟨some 36, none, .ext (.tmp 33) 0⟩,
 ⟨some 37, none, .ext (.tmp 33) 1⟩,
 ⟨some 7, none, .mov (.tmp 36)⟩,
 ⟨some 8, none, .mov (.tmp 37)⟩])
 c5s)))))))⟩
theorem t5 : T 5 = some c5 := by kernel_rfl

def c6q : ACode :=
 (.seq
 (.ops [⟨some 16, none, .mov (.const (.int .i64 (0)))⟩])
 (.block 6
 (.loop
 (.seq
 (.seq
 (.ops [⟨some 136, none, .mov (.tmp 16)⟩,
 ⟨some 137, none, .mov (.tmp 13)⟩,
 ⟨some 138, none, .lenV (.tmp 137)⟩,
 ⟨some 139, none, .bin .lss (.tmp 136) (.tmp 138)⟩])
 (.cond (.tmp 139)
 .skip
 (.exit 6)))
 (.seq
 (.block 7
 (.seq
 (.ops [⟨some 142, none, .mov (.tmp 0)⟩,
 ⟨some 143, none, .mov (.tmp 13)⟩,
 ⟨some 144, none, .mov (.tmp 16)⟩,
 ⟨some 145, none, .iaddrS 38 (.tmp 143) (.tmp 144)⟩,
 ⟨some 146, none, .loadN 38 (.tmp 145)⟩,
 ⟨some 147, none, .call 18 [(.tmp 142), (.tmp 146)]⟩,
 ⟨some 148, none, .bin .eql (.tmp 147) (.const (.int .i64 (0)))⟩])
 (.cond (.tmp 148)
 (.seq
 (.ops [⟨some 4, none, .mov (.const (.bool false))⟩])
 .ret)
 .skip)))
 (.ops [⟨some 140, none, .mov (.tmp 16)⟩,
 ⟨some 141, none, .bin .add (.tmp 140) (.const (.int .i64 (1)))⟩,
 ⟨some 16, none, .mov (.tmp 141)⟩]))))))

def c6p : ACode :=
 (.seq
 (.ops [⟨some 14, none, .mov (.const (.int .i64 (0)))⟩])
 (.block 4
 (.loop
 (.seq
 (.seq
 (.ops [⟨some 111, none, .mov (.tmp 14)⟩,
 ⟨some 112, none, .mov (.tmp 0)⟩,
 ⟨some 113, none, .lenV (.tmp 112)⟩,
 ⟨some 114, none, .bin .lss (.tmp 111) (.tmp 113)⟩])
 (.cond (.tmp 114)
 .skip
 (.exit 4)))
 (.seq
 (.block 5
 (.seq
 (.ops [⟨some 15, none, .mov (.const (.int .i64 (0)))⟩])
 (.seq
 (.seq
 (.ops [⟨some 117, none, .mov (.tmp 0)⟩,
 ⟨some 118, none, .mov (.tmp 14)⟩,
 ⟨some 119, none, .iaddrS 38 (.tmp 117) (.tmp 118)⟩,
 ⟨some 120, none, .loadN 38 (.tmp 119)⟩,
 ⟨some 121, none, .call 16 [(.tmp 120)]⟩])
 (.cond (.tmp 121)
 (.ops [⟨some 122, none, .mov (.tmp 0)⟩,
 ⟨some 123, none, .mov (.tmp 0)⟩,
 ⟨some 124, none, .mov (.tmp 14)⟩,
 ⟨some 125, none, .iaddrS 38 (.tmp 123) (.tmp 124)⟩,
 ⟨some 126, none, .loadN 38 (.tmp 125)⟩,
 ⟨some 127, none, .call 18 [(.tmp 122), (.tmp 126)]⟩,
 ⟨some 15, none, .mov (.tmp 127)⟩])
 .skip))
 (.seq
 (.ops [⟨some 128, none, .mov (.tmp 13)⟩,
 ⟨some 129, none, .mov (.tmp 0)⟩,
 ⟨some 130, none, .mov (.tmp 14)⟩,
 ⟨some 131, none, .iaddrS 38 (.tmp 129) (.tmp 130)⟩,
 ⟨some 132, none, .loadN 38 (.tmp 131)⟩,
 ⟨some 133, none, .call 18 [(.tmp 128), (.tmp 132)]⟩,
 ⟨some 134, none, .mov (.tmp 15)⟩,
 ⟨some 135, none, .bin .neq (.tmp 133) (.tmp 134)⟩])
 (.cond (.tmp 135)
 (.seq
 (.ops [⟨some 4, none, .mov (.const (.bool false))⟩])
 .ret)
 .skip)))))
 (.ops [⟨some 115, none, .mov (.tmp 14)⟩,
 ⟨some 116, none, .bin .add (.tmp 115) (.const (.int .i64 (1)))⟩,
 ⟨some 14, none, .mov (.tmp 116)⟩]))))))

def c6k : ACode :=
 (.seq
 (.ops [⟨some 106, none, .bslice 46 0 [] []⟩,
 ⟨some 107, none, .mov (.tmp 7)⟩,
 ⟨some 108, none, .append 46 38 288 (.tmp 106) (.tmp 107)⟩,
 ⟨some 109, none, .mov (.tmp 8)⟩,
 ⟨some 110, none, .append 46 38 288 (.tmp 108) (.tmp 109)⟩,
 ⟨some 13, none, .mov (.tmp 110)⟩])
 (.seq
 c6p
 c6q))

def c6r : ACode :=
 (.seq
 (.ops [⟨some 75, none, .mov (.tmp 7)⟩,
 ⟨some 76, none, .call 17 [(.tmp 75)]⟩,
 ⟨some 74, none, .mov (.tmp 76)⟩,
 ⟨some 77, none, .ext (.tmp 74) 0⟩,
 ⟨some 78, none, .ext (.tmp 74) 1⟩,
 ⟨some 11, none, .mov (.tmp 77)⟩,
 ⟨some 12, none, .mov (.tmp 78)⟩])
 (.seq
 (.seq
 (.ops [⟨some 79, none, .mov (.tmp 9)⟩,
 ⟨some 80, none, .mov (.tmp 6)⟩,
 ⟨some 81, none, .min [(.tmp 80), (.const (.int .i64 (40)))]⟩,
 ⟨some 82, none, .max [(.const (.int .i64 (0))), (.tmp 81)]⟩,
 ⟨some 83, none, .bin .gtr (.tmp 79) (.tmp 82)⟩,
 ⟨some 84, none, .mov (.tmp 83)⟩,
 ⟨some 85, some (84, false), .mov (.tmp 12)⟩,
 ⟨some 86, some (84, false), .bin .neq (.tmp 85) (.const (.int .i64 (0)))⟩,
 ⟨some 87, none, .pick (.tmp 84) (.const (.bool true)) (.tmp 86)⟩,
 ⟨some 88, none, .mov (.tmp 87)⟩,
 ⟨some 89, some (88, false), .mov (.tmp 11)⟩,
 ⟨some 90, some (88, false), .lenS (.tmp 89)⟩,
 ⟨some 91, some (88, false), .bin .gtr (.tmp 90) (.const (.int .i64 (40)))⟩,
 ⟨some 92, none, .pick (.tmp 88) (.const (.bool true)) (.tmp 91)⟩,
 ⟨some 93, none, .mov (.tmp 92)⟩,
 ⟨some 94, some (93, false), .mov (.tmp 11)⟩,
 ⟨some 95, some (93, false), .lenS (.tmp 94)⟩,
 ⟨some 96, some (93, false), .mov (.tmp 9)⟩,
 ⟨some 97, some (93, false), .bin .lss (.tmp 95) (.tmp 96)⟩,
 ⟨some 98, none, .pick (.tmp 93) (.const (.bool true)) (.tmp 97)⟩,
 ⟨some 99, none, .mov (.tmp 98)⟩,
 ⟨some 100, some (99, false), .mov (.tmp 11)⟩,
 ⟨some 101, some (99, false), .lenS (.tmp 100)⟩,
 ⟨some 102, some (99, false), .mov (.tmp 9)⟩,
 ⟨some 103, some (99, false), .bin .add (.tmp 102) (.const (.int .i64 (3)))⟩,
 ⟨some 104, some (99, false), .bin .gtr (.tmp 101) (.tmp 103)⟩,
 ⟨some 105, none, .pick (.tmp 99) (.const (.bool true)) (.tmp 104)⟩])
 (.cond (.tmp 105)
 (.seq
 (.ops [⟨some 4, none, .mov (.const (.bool false))⟩])
 .ret)
 .skip))
 c6k))

def c6s : ACode :=
 (.seq
 (.ops [⟨some 10, none, .mov (.const (.int .i64 (0)))⟩])
 (.block 2
 (.loop
 (.seq
 (.seq
 (.ops [⟨some 37, none, .mov (.tmp 10)⟩,
 ⟨some 38, none, .mov (.tmp 7)⟩,
 ⟨some 39, none, .lenV (.tmp 38)⟩,
 ⟨some 40, none, .bin .lss (.tmp 37) (.tmp 39)⟩])
 (.cond (.tmp 40)
 .skip
 (.exit 2)))
 (.seq
 (.block 3
 (.seq
 (.ops [⟨some 43, none, .mov (.tmp 9)⟩,
 ⟨some 44, none, .mov (.tmp 7)⟩,
 ⟨some 45, none, .mov (.tmp 10)⟩,
 ⟨some 46, none, .iaddrS 38 (.tmp 44) (.tmp 45)⟩,
 ⟨some 47, none, .loadN 38 (.tmp 46)⟩,
 ⟨some 48, none, .call 7 [(.tmp 47)]⟩,
 ⟨some 49, none, .bin .add (.tmp 43) (.tmp 48)⟩,
 ⟨some 9, none, .mov (.tmp 49)⟩])
 (.seq
 (.opsD [⟨some 50, none, .mov (.tmp 7)⟩,
 ⟨some 51, none, .mov (.tmp 10)⟩,
 ⟨some 52, none, .iaddrS 38 (.tmp 50) (.tmp 51)⟩,
 ⟨some 53, none, .loadN 38 (.tmp 52)⟩,
 ⟨some 54, none, .call 16 [(.tmp 53)]⟩,
 ⟨some 55, none, .un .not (.tmp 54)⟩,
 ⟨some 56, none, .mov (.tmp 55)⟩,
 ⟨some 57, some (56, false), .mov (.tmp 10)⟩,
 ⟨some 58, some (56, false), .bin .gtr (.tmp 57) (.const (.int .i64 (0)))⟩,
 ⟨some 59, some (56, false), .mov (.tmp 58)⟩,
 ⟨some 60, some (59, true), .mov (.tmp 7)⟩,
 ⟨some 61, some (59, true), .mov (.tmp 10)⟩,
 ⟨some 62, some (59, true), .iaddrS 38 (.tmp 60) (.tmp 61)⟩,
 ⟨some 63, some (59, true), .loadN 38 (.tmp 62)⟩,
 ⟨some 64, some (59, true), .call 9 [(.tmp 63)]⟩,
 ⟨some 65, some (59, true), .mov (.tmp 7)⟩,
 ⟨some 66, some (59, true), .mov (.tmp 10)⟩,
 ⟨some 67, some (59, true), .bin .sub (.tmp 66) (.const (.int .i64 (1)))⟩,
 ⟨some 68, some (59, true), .iaddrS 38 (.tmp 65) (.tmp 67)⟩,
 ⟨some 69, some (59, true), .loadN 38 (.tmp 68)⟩,
 ⟨some 70, some (59, true), .call 9 [(.tmp 69)]⟩,
 ⟨some 71, some (59, true), .bin .lss (.tmp 64) (.tmp 70)⟩,
 ⟨some 72, some (56, false), .pick (.tmp 59) (.tmp 71) (.const (.bool false))⟩,
 ⟨some 73, none, .pick (.tmp 56) (.const (.bool true)) (.tmp 72)⟩] [(19, 14), (19, 15)])
 (.cond (.tmp 73)
 (.seq
 (.ops [⟨some 4, none, .mov (.const (.bool false))⟩])
 .ret)
 .skip))))
 (.ops [⟨some 41, none, .mov (.tmp 10)⟩,
 ⟨some 42, none, .bin .add (.tmp 41) (.const (.int .i64 (1)))⟩,
 ⟨some 10, none, .mov (.tmp 42)⟩]))))))

/-- plait/plaitlaw15.PackFits -/
def c6 : AFunc := ⟨150, 2, [.inl 4],
 (.seq
 (.ops [⟨some 4, none, .mov (.const (.bool false))⟩])
 (.seq
 (.seq
 (.ops [⟨some 17, none, .call 14 []⟩,
 ⟨some 18, none, .un .not (.tmp 17)⟩])
 (.cond (.tmp 18)
 (.seq
 (.ops [⟨some 4, none, .mov (.const (.bool false))⟩])
 .ret)
 .skip))
 (.seq
 (.ops [⟨some 19, none, .mov (.tmp 0)⟩,
 ⟨some 20, none, .mov (.tmp 0)⟩,
 ⟨some 21, none, .lenV (.tmp 20)⟩,
 ⟨some 22, none, .min [(.tmp 21), (.const (.int .i64 (30)))]⟩,
 ⟨some 23, none, .sliceV 38 (.tmp 19) none (some (.tmp 22)) none⟩,
 ⟨some 0, none, .mov (.tmp 23)⟩])
 (.seq
 (.seq
 (.ops [⟨some 24, none, .mov (.tmp 1)⟩,
 ⟨some 25, none, .mov (.tmp 1)⟩,
 ⟨some 26, none, .bin .rem (.tmp 25) (.const (.int .i64 (60)))⟩,
 ⟨some 27, none, .build [.int .i64 (0), .int .i64 (0), .int .i64 (0)] [(0, 1, (.tmp 24)), (1, 1, (.tmp 26)), (2, 1, (.const (.int .i64 (40))))]⟩,
 ⟨some 28, none, .mov (.const (.int .i64 (0)))⟩])
 (.block 0
 (.loop
 (.seq
 (.ops [⟨some 29, none, .bin .lss (.tmp 28) (.const (.int .i64 (3)))⟩])
 (.seq
 (.cond (.tmp 29)
 .skip
 (.exit 0))
 (.seq
 (.block 1
 (.seq
 (.ops [⟨some 30, none, .idx1 3 1 (.tmp 27) (.tmp 28)⟩,
 ⟨some 6, none, .mov (.tmp 30)⟩])
 (.seq
 (.ops [⟨some 32, none, .mov (.tmp 0)⟩,
 ⟨some 33, none, .mov (.tmp 6)⟩,
 ⟨some 34, none, .call 11 [(.tmp 32), (.tmp 33)]⟩,
 ⟨some 31, none, .mov (.tmp 34)⟩,
 ⟨some 35, none, .ext (.tmp 31) 0⟩,
 ⟨some 36, none, .ext (.tmp 31) 1⟩,
 ⟨some 7, none, .mov (.tmp 35)⟩,
 ⟨some 8, none, .mov (.tmp 36)⟩])
 (.seq
 (.ops [⟨some 9, none, .mov (.const (.int .i64 (0)))⟩])
 (.seq
 c6s
 c6r)))))
 (.ops [⟨some 149, none, .bin .add (.tmp 28) (.const (.int .i64 (1)))⟩,
 ⟨some 28, none, .mov (.tmp 149)⟩])))))))
 (.seq
 (.ops [⟨some 4, none, .mov (.const (.bool true))⟩])
 .ret)))))⟩
theorem t6 : T 6 = some c6 := by kernel_rfl

/-- plait/plaitlaw15.works -/
def c14 : AFunc := ⟨90, 0, [.inl 0],
 (.seq
 (.ops [⟨some 0, none, .mov (.const (.bool false))⟩])
 (.seq
 (.ops [⟨some 9, none, .call 15 []⟩,
 ⟨some 1, none, .alloc 54 opZ4⟩,
 ⟨none, none, .store 152 (.tmp 1) (.tmp 9)⟩])
 (.seq
 (.ops [⟨some 10, none, .iaddrA 4 38 (.tmp 1) (.const (.int .i64 (0)))⟩,
 ⟨some 11, none, .loadN 38 (.tmp 10)⟩,
 ⟨some 12, none, .iaddrA 4 38 (.tmp 1) (.const (.int .i64 (1)))⟩,
 ⟨some 13, none, .loadN 38 (.tmp 12)⟩,
 ⟨some 14, none, .iaddrA 4 38 (.tmp 1) (.const (.int .i64 (2)))⟩,
 ⟨some 15, none, .loadN 38 (.tmp 14)⟩,
 ⟨some 16, none, .bslice 46 3 opZ [(0, 38, (.tmp 11)), (38, 38, (.tmp 13)), (76, 38, (.tmp 15))]⟩,
 ⟨some 2, none, .mov (.tmp 16)⟩])
 (.seq
 (.ops [⟨some 18, none, .mov (.tmp 2)⟩,
 ⟨some 19, none, .call 11 [(.tmp 18), (.const (.int .i64 (40)))]⟩,
 ⟨some 17, none, .mov (.tmp 19)⟩,
 ⟨some 20, none, .ext (.tmp 17) 0⟩,
 ⟨some 21, none, .ext (.tmp 17) 1⟩,
 ⟨some 3, none, .mov (.tmp 20)⟩,
 ⟨some 4, none, .mov (.tmp 21)⟩])
 (.seq
 (.ops [⟨some 23, none, .mov (.tmp 2)⟩,
 ⟨some 24, none, .call 11 [(.tmp 23), (.const (.int .i64 (19)))]⟩,
 ⟨some 22, none, .mov (.tmp 24)⟩,
 ⟨some 25, none, .ext (.tmp 22) 0⟩,
 ⟨some 26, none, .ext (.tmp 22) 1⟩,
 ⟨some 5, none, .mov (.tmp 25)⟩,
 ⟨some 6, none, .mov (.tmp 26)⟩])
 (.seq
 (.ops [⟨some 28, none, .mov (.tmp 2)⟩,
 ⟨some 29, none, .call 11 [(.tmp 28), (.const (.int .i64 (2)))]⟩,
 ⟨some 27, none, .mov (.tmp 29)⟩,
 ⟨some 30, none, .ext (.tmp 27) 0⟩,
 ⟨some 31, none, .ext (.tmp 27) 1⟩,
 ⟨some 7, none, .mov (.tmp 30)⟩,
 ⟨some 8, none, .mov (.tmp 31)⟩])
 (.seq
 (.ops [⟨some 32, none, .iaddrA 4 38 (.tmp 1) (.const (.int .i64 (0)))⟩,
 ⟨some 33, none, .loadN 38 (.tmp 32)⟩,
 ⟨some 34, none, .call 7 [(.tmp 33)]⟩,
 ⟨some 35, none, .bin .eql (.tmp 34) (.const (.int .i64 (3)))⟩,
 ⟨some 36, none, .mov (.tmp 35)⟩,
 ⟨some 37, some (36, true), .iaddrA 4 38 (.tmp 1) (.const (.int .i64 (1)))⟩,
 ⟨some 38, some (36, true), .loadN 38 (.tmp 37)⟩,
 ⟨some 39, some (36, true), .call 7 [(.tmp 38)]⟩,
 ⟨some 40, some (36, true), .bin .eql (.tmp 39) (.const (.int .i64 (8)))⟩,
 ⟨some 41, none, .pick (.tmp 36) (.tmp 40) (.const (.bool false))⟩,
 ⟨some 42, none, .mov (.tmp 41)⟩,
 ⟨some 43, some (42, true), .iaddrA 4 38 (.tmp 1) (.const (.int .i64 (3)))⟩,
 ⟨some 44, some (42, true), .loadN 38 (.tmp 43)⟩,
 ⟨some 45, some (42, true), .call 7 [(.tmp 44)]⟩,
 ⟨some 46, some (42, true), .bin .eql (.tmp 45) (.const (.int .i64 (20)))⟩,
 ⟨some 47, none, .pick (.tmp 42) (.tmp 46) (.const (.bool false))⟩,
 ⟨some 48, none, .mov (.tmp 47)⟩,
 ⟨some 49, some (48, true), .mov (.tmp 3)⟩,
 ⟨some 50, some (48, true), .iaddrA 4 38 (.tmp 1) (.const (.int .i64 (1)))⟩,
 ⟨some 51, some (48, true), .loadN 38 (.tmp 50)⟩,
 ⟨some 52, some (48, true), .iaddrA 4 38 (.tmp 1) (.const (.int .i64 (2)))⟩,
 ⟨some 53, some (48, true), .loadN 38 (.tmp 52)⟩,
 ⟨some 54, some (48, true), .iaddrA 4 38 (.tmp 1) (.const (.int .i64 (0)))⟩,
 ⟨some 55, some (48, true), .loadN 38 (.tmp 54)⟩,
 ⟨some 56, some (48, true), .bslice 46 3 opZ [(0, 38, (.tmp 51)), (38, 38, (.tmp 53)), (76, 38, (.tmp 55))]⟩,
 ⟨some 57, some (48, true), .call 13 [(.tmp 49), (.tmp 56)]⟩,
 ⟨some 58, none, .pick (.tmp 48) (.tmp 57) (.const (.bool false))⟩,
 ⟨some 59, none, .mov (.tmp 58)⟩,
 ⟨some 60, some (59, true), .mov (.tmp 4)⟩,
 ⟨some 61, some (59, true), .lenV (.tmp 60)⟩,
 ⟨some 62, some (59, true), .bin .eql (.tmp 61) (.const (.int .i64 (0)))⟩,
 ⟨some 63, none, .pick (.tmp 59) (.tmp 62) (.const (.bool false))⟩,
 ⟨some 64, none, .mov (.tmp 63)⟩,
 ⟨some 65, some (64, true), .mov (.tmp 5)⟩,
 ⟨some 66, some (64, true), .iaddrA 4 38 (.tmp 1) (.const (.int .i64 (1)))⟩,
 ⟨some 67, some (64, true), .loadN 38 (.tmp 66)⟩,
 ⟨some 68, some (64, true), .iaddrA 4 38 (.tmp 1) (.const (.int .i64 (0)))⟩,
 ⟨some 69, some (64, true), .loadN 38 (.tmp 68)⟩,
 ⟨some 70, some (64, true), .bslice 46 2 opZ [(0, 38, (.tmp 67)), (38, 38, (.tmp 69))]⟩,
 ⟨some 71, some (64, true), .call 13 [(.tmp 65), (.tmp 70)]⟩,
 ⟨some 72, none, .pick (.tmp 64) (.tmp 71) (.const (.bool false))⟩,
 ⟨some 73, none, .mov (.tmp 72)⟩,
 ⟨some 74, some (73, true), .mov (.tmp 6)⟩,
 ⟨some 75, some (73, true), .iaddrA 4 38 (.tmp 1) (.const (.int .i64 (2)))⟩,
 ⟨some 76, some (73, true), .loadN 38 (.tmp 75)⟩,
 ⟨some 77, some (73, true), .bslice 46 1 opZ [(0, 38, (.tmp 76))]⟩,
 ⟨some 78, some (73, true), .call 13 [(.tmp 74), (.tmp 77)]⟩,
 ⟨some 79, none, .pick (.tmp 73) (.tmp 78) (.const (.bool false))⟩,
 ⟨some 80, none, .mov (.tmp 79)⟩,
 ⟨some 81, some (80, true), .mov (.tmp 7)⟩,
 ⟨some 82, some (80, true), .lenV (.tmp 81)⟩,
 ⟨some 83, some (80, true), .bin .eql (.tmp 82) (.const (.int .i64 (0)))⟩,
 ⟨some 84, none, .pick (.tmp 80) (.tmp 83) (.const (.bool false))⟩,
 ⟨some 85, none, .mov (.tmp 84)⟩,
 ⟨some 86, some (85, true), .mov (.tmp 8)⟩,
 ⟨some 87, some (85, true), .mov (.tmp 2)⟩,
 ⟨some 88, some (85, true), .call 13 [(.tmp 86), (.tmp 87)]⟩,
 ⟨some 89, none, .pick (.tmp 85) (.tmp 88) (.const (.bool false))⟩,
 ⟨some 0, none, .mov (.tmp 89)⟩])
 .ret)))))))⟩
theorem t14 : T 14 = some c14 := by kernel_rfl

/-- plait/plaitlaw15.some -/
def c15 : AFunc := ⟨9, 0, [.inr (0, 152, true)],
 (.seq
 (.ops [⟨some 0, none, .alloc 54 opZ4⟩])
 (.seq
 (.ops [⟨some 1, none, .build opZ [(0, 1, (.const (.int .i64 (5))))]⟩,
 ⟨some 2, none, .build [.bool false, .bool false, .bool false, .int .u64 (0), .bool false, .bool false, .int .u64 (0), .int .u32 (0), .int .i64 (0), .bool false, .int .u16 (0)] [(1, 1, (.const (.bool true))), (3, 1, (.const (.int .u64 (5))))]⟩,
 ⟨some 3, none, .build opZ [(0, 1, (.const (.int .i64 (2)))), (15, 11, (.tmp 2))]⟩,
 ⟨some 4, none, .build [.int .u64 (0)] [(0, 1, (.const (.int .u64 (9))))]⟩,
 ⟨some 5, none, .build opZ [(0, 1, (.const (.int .i64 (6)))), (34, 1, (.tmp 4))]⟩,
 ⟨some 6, none, .build [.bool false, .bool false, .bool false, .int .u64 (0), .bool false, .bool false, .int .u64 (0), .int .u32 (0), .int .i64 (0), .bool false, .int .u16 (0)] [(1, 1, (.const (.bool true))), (4, 1, (.const (.bool true))), (8, 1, (.const (.int .i64 (1)))), (9, 1, (.const (.bool true)))]⟩,
 ⟨some 7, none, .build opZ [(0, 1, (.const (.int .i64 (2)))), (15, 11, (.tmp 6))]⟩,
 ⟨some 8, none, .build opZ4 [(0, 38, (.tmp 1)), (38, 38, (.tmp 3)), (76, 38, (.tmp 5)), (114, 38, (.tmp 7))]⟩,
 ⟨none, none, .store 152 (.tmp 0) (.tmp 8)⟩])
 .ret))⟩
theorem t15 : T 15 = some c15 := by kernel_rfl

/-- plait/plaitlaw15.count -/
def c18 : AFunc := ⟨22, 2, [.inl 4],
 (.seq
 (.ops [⟨some 3, none, .box 46 38 (.tmp 1)⟩,
 ⟨some 4, none, .mov (.const (.int .i64 (0)))⟩])
 (.seq
 (.ops [⟨some 5, none, .mov (.const (.int .i64 (0)))⟩])
 (.seq
 (.seq
 (.ops [⟨some 6, none, .mov (.const (.int .i64 (0)))⟩])
 (.block 0
 (.loop
 (.seq
 (.seq
 (.ops [⟨some 7, none, .mov (.tmp 6)⟩,
 ⟨some 8, none, .mov (.tmp 0)⟩,
 ⟨some 9, none, .lenV (.tmp 8)⟩,
 ⟨some 10, none, .bin .lss (.tmp 7) (.tmp 9)⟩])
 (.cond (.tmp 10)
 .skip
 (.exit 0)))
 (.seq
 (.block 1
 (.seq
 (.opsD [⟨some 13, none, .mov (.tmp 0)⟩,
 ⟨some 14, none, .mov (.tmp 6)⟩,
 ⟨some 15, none, .iaddrS 38 (.tmp 13) (.tmp 14)⟩,
 ⟨some 16, none, .loadN 38 (.tmp 15)⟩,
 ⟨some 17, none, .loadN 38 (.tmp 3)⟩,
 ⟨some 18, none, .eqF false opL (.tmp 16) (.tmp 17)⟩] [])
 (.cond (.tmp 18)
 (.ops [⟨some 19, none, .mov (.tmp 5)⟩,
 ⟨some 20, none, .bin .add (.tmp 19) (.const (.int .i64 (1)))⟩,
 ⟨some 5, none, .mov (.tmp 20)⟩])
 .skip)))
 (.ops [⟨some 11, none, .mov (.tmp 6)⟩,
 ⟨some 12, none, .bin .add (.tmp 11) (.const (.int .i64 (1)))⟩,
 ⟨some 6, none, .mov (.tmp 12)⟩]))))))
 (.seq
 (.ops [⟨some 21, none, .mov (.tmp 5)⟩,
 ⟨some 4, none, .mov (.tmp 21)⟩])
 .ret))))⟩
theorem t18 : T 18 = some c18 := by kernel_rfl

end Go.Proofs.YtigknpfjhegkgaaGreat

