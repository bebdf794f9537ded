/- The code of functions, as the framework reads it. -/
import Derived.Test.YtigknpfjhegkgaaGreatZo
import Derived.KernelRfl
namespace Go.Proofs.YtigknpfjhegkgaaGreat
open Go Go.AS
set_option maxRecDepth 100000

def c11u : ACode :=
 (.seq
 (.seq
 (.ops [⟨some 66, none, .mov (.tmp 6)⟩,
 ⟨some 67, none, .lenV (.tmp 66)⟩,
 ⟨some 68, none, .mov (.const (.int .i64 (0)))⟩])
 (.block 4
 (.loop
 (.seq
 (.ops [⟨some 69, none, .bin .lss (.tmp 68) (.tmp 67)⟩])
 (.seq
 (.cond (.tmp 69)
 .skip
 (.exit 4))
 (.seq
 (.block 5
 (.seq
 (.ops [⟨some 70, none, .iaddrS 1 (.tmp 66) (.tmp 68)⟩,
 ⟨some 71, none, .load1 (.tmp 70)⟩,
 ⟨some 14, none, .mov (.tmp 71)⟩])
 (.seq
 (.ops [⟨some 72, none, .mov (.tmp 9)⟩,
 ⟨some 73, none, .mov (.tmp 14)⟩,
 ⟨some 74, none, .mapGet .i64 false (.int .i64 (0)) (.tmp 72) (.tmp 73)⟩,
 ⟨some 75, none, .bin .eql (.tmp 74) (.const (.int .i64 (0)))⟩])
 (.cond (.tmp 75)
 (.ops [⟨some 76, none, .mov (.tmp 5)⟩,
 ⟨some 77, none, .load1 (.tmp 2)⟩,
 ⟨some 78, none, .mov (.tmp 14)⟩,
 ⟨some 79, none, .iaddrS 38 (.tmp 77) (.tmp 78)⟩,
 ⟨some 80, none, .loadN 38 (.tmp 79)⟩,
 ⟨some 81, none, .bslice 46 1 opZ [(0, 38, (.tmp 80))]⟩,
 ⟨some 82, none, .append 46 38 288 (.tmp 76) (.tmp 81)⟩,
 ⟨some 5, none, .mov (.tmp 82)⟩])
 .skip))))
 (.ops [⟨some 83, none, .bin .add (.tmp 68) (.const (.int .i64 (1)))⟩,
 ⟨some 68, none, .mov (.tmp 83)⟩])))))))
 (.seq
 (.ops [⟨some 84, none, .mov (.tmp 4)⟩,
 ⟨some 85, none, .mov (.tmp 5)⟩,
 ⟨some 4, none, .mov (.tmp 84)⟩,
 ⟨some 5, none, .mov (.tmp 85)⟩])
 .ret))

def c11t : ACode :=
 (.seq
 (.ops [⟨some 35, none, .mkMap none⟩,
 ⟨some 9, none, .mov (.tmp 35)⟩])
 (.seq
 (.seq
 (.ops [⟨some 36, none, .mov (.tmp 6)⟩,
 ⟨some 37, none, .mkF 23 [] [(.tmp 2)]⟩,
 ⟨some 38, none, .call 22 [(.tmp 36), (.tmp 37)]⟩,
 ⟨some 39, none, .lenV (.tmp 38)⟩,
 ⟨some 40, none, .mov (.const (.int .i64 (0)))⟩])
 (.block 2
 (.loop
 (.seq
 (.ops [⟨some 41, none, .bin .lss (.tmp 40) (.tmp 39)⟩])
 (.seq
 (.cond (.tmp 41)
 .skip
 (.exit 2))
 (.seq
 (.block 3
 (.seq
 (.ops [⟨some 42, none, .iaddrS 1 (.tmp 38) (.tmp 40)⟩,
 ⟨some 43, none, .load1 (.tmp 42)⟩,
 ⟨some 11, none, .mov (.tmp 43)⟩])
 (.seq
 (.ops [⟨some 44, none, .load1 (.tmp 2)⟩,
 ⟨some 45, none, .mov (.tmp 11)⟩,
 ⟨some 46, none, .iaddrS 38 (.tmp 44) (.tmp 45)⟩,
 ⟨some 47, none, .loadN 38 (.tmp 46)⟩,
 ⟨some 48, none, .call 7 [(.tmp 47)]⟩,
 ⟨some 12, none, .mov (.tmp 48)⟩])
 (.seq
 (.ops [⟨some 49, none, .mov (.tmp 12)⟩,
 ⟨some 50, none, .mov (.tmp 1)⟩,
 ⟨some 51, none, .bin .leq (.tmp 49) (.tmp 50)⟩])
 (.cond (.tmp 51)
 (.seq
 (.ops [⟨some 52, none, .mov (.tmp 1)⟩,
 ⟨some 53, none, .mov (.tmp 12)⟩,
 ⟨some 54, none, .bin .sub (.tmp 52) (.tmp 53)⟩,
 ⟨some 1, none, .mov (.tmp 54)⟩])
 (.seq
 (.ops [⟨some 55, none, .mov (.tmp 9)⟩,
 ⟨some 56, none, .mov (.tmp 11)⟩,
 ⟨some 57, none, .mov (.tmp 12)⟩,
 ⟨none, none, .mapPut .i64 (.tmp 55) (.tmp 56) (.tmp 57)⟩])
 (.ops [⟨some 58, none, .mov (.tmp 4)⟩,
 ⟨some 59, none, .load1 (.tmp 2)⟩,
 ⟨some 60, none, .mov (.tmp 11)⟩,
 ⟨some 61, none, .iaddrS 38 (.tmp 59) (.tmp 60)⟩,
 ⟨some 62, none, .loadN 38 (.tmp 61)⟩,
 ⟨some 63, none, .bslice 46 1 opZ [(0, 38, (.tmp 62))]⟩,
 ⟨some 64, none, .append 46 38 288 (.tmp 58) (.tmp 63)⟩,
 ⟨some 4, none, .mov (.tmp 64)⟩])))
 .skip)))))
 (.ops [⟨some 65, none, .bin .add (.tmp 40) (.const (.int .i64 (1)))⟩,
 ⟨some 40, none, .mov (.tmp 65)⟩])))))))
 c11u))

/-- plait/pack.Pack -/
def c11 : AFunc := ⟨86, 2, [.inl 4, .inl 5],
 (.seq
 (.ops [⟨some 2, none, .box 22 1 (.tmp 0)⟩,
 ⟨some 4, none, .mov (.const (.slice none 0 0))⟩,
 ⟨some 5, none, .mov (.const (.slice none 0 0))⟩])
 (.seq
 (.ops [⟨some 15, none, .mov (.tmp 1)⟩,
 ⟨some 16, none, .min [(.tmp 15), (.const (.int .i64 (40)))]⟩,
 ⟨some 1, none, .mov (.tmp 16)⟩])
 (.seq
 (.ops [⟨some 17, none, .load1 (.tmp 2)⟩,
 ⟨some 18, none, .lenV (.tmp 17)⟩,
 ⟨some 19, none, .mkS 3 1 8 [.int .i64 (0)] (.const (.int .i64 (0))) (.tmp 18)⟩,
 ⟨some 6, none, .mov (.tmp 19)⟩])
 (.seq
 (.seq
 (.ops [⟨some 20, none, .load1 (.tmp 2)⟩,
 ⟨some 21, none, .lenV (.tmp 20)⟩,
 ⟨some 22, none, .mov (.const (.int .i64 (0)))⟩])
 (.block 0
 (.loop
 (.seq
 (.ops [⟨some 23, none, .bin .lss (.tmp 22) (.tmp 21)⟩])
 (.seq
 (.cond (.tmp 23)
 .skip
 (.exit 0))
 (.seq
 (.block 1
 (.seq
 (.ops [⟨some 24, none, .mov (.tmp 22)⟩,
 ⟨some 25, none, .iaddrS 38 (.tmp 20) (.tmp 22)⟩,
 ⟨some 26, none, .loadN 38 (.tmp 25)⟩,
 ⟨some 8, none, .alloc 46 opZ⟩,
 ⟨some 7, none, .mov (.tmp 24)⟩,
 ⟨none, none, .store 38 (.tmp 8) (.tmp 26)⟩])
 (.seq
 (.ops [⟨some 27, none, .loadN 38 (.tmp 8)⟩,
 ⟨some 28, none, .call 7 [(.tmp 27)]⟩,
 ⟨some 29, none, .bin .gtr (.tmp 28) (.const (.int .i64 (0)))⟩])
 (.cond (.tmp 29)
 (.ops [⟨some 30, none, .mov (.tmp 6)⟩,
 ⟨some 31, none, .mov (.tmp 7)⟩,
 ⟨some 32, none, .bslice 3 1 [.int .i64 (0)] [(0, 1, (.tmp 31))]⟩,
 ⟨some 33, none, .append 3 1 8 (.tmp 30) (.tmp 32)⟩,
 ⟨some 6, none, .mov (.tmp 33)⟩])
 .skip))))
 (.ops [⟨some 34, none, .bin .add (.tmp 22) (.const (.int .i64 (1)))⟩,
 ⟨some 22, none, .mov (.tmp 34)⟩])))))))
 c11t))))⟩
theorem t11 : T 11 = some c11 := by kernel_rfl

def c12u : ACode :=
 (.seq
 (.seq
 (.ops [⟨some 12, none, .mov (.const (.int .i64 (0)))⟩])
 (.block 4
 (.loop
 (.seq
 (.seq
 (.ops [⟨some 62, none, .mov (.tmp 12)⟩,
 ⟨some 63, none, .mov (.tmp 0)⟩,
 ⟨some 64, none, .lenV (.tmp 63)⟩,
 ⟨some 65, none, .bin .lss (.tmp 62) (.tmp 64)⟩])
 (.cond (.tmp 65)
 .skip
 (.exit 4)))
 (.seq
 (.block 5
 (.seq
 (.ops [⟨some 68, none, .mov (.tmp 6)⟩,
 ⟨some 69, none, .mov (.tmp 12)⟩,
 ⟨some 70, none, .iaddrS 1 (.tmp 68) (.tmp 69)⟩,
 ⟨some 71, none, .load1 (.tmp 70)⟩,
 ⟨some 72, none, .un .not (.tmp 71)⟩,
 ⟨some 73, none, .mov (.tmp 72)⟩,
 ⟨some 74, some (73, true), .mov (.tmp 0)⟩,
 ⟨some 75, some (73, true), .mov (.tmp 12)⟩,
 ⟨some 76, some (73, true), .iaddrS 38 (.tmp 74) (.tmp 75)⟩,
 ⟨some 77, some (73, true), .loadN 38 (.tmp 76)⟩,
 ⟨some 78, some (73, true), .call 8 [(.tmp 77)]⟩,
 ⟨some 79, some (73, true), .bin .gtr (.tmp 78) (.const (.int .i64 (0)))⟩,
 ⟨some 80, none, .pick (.tmp 73) (.tmp 79) (.const (.bool false))⟩])
 (.cond (.tmp 80)
 (.ops [⟨some 81, none, .mov (.tmp 8)⟩,
 ⟨some 82, none, .mov (.tmp 0)⟩,
 ⟨some 83, none, .mov (.tmp 12)⟩,
 ⟨some 84, none, .iaddrS 38 (.tmp 82) (.tmp 83)⟩,
 ⟨some 85, none, .loadN 38 (.tmp 84)⟩,
 ⟨some 86, none, .bslice 46 1 opZ [(0, 38, (.tmp 85))]⟩,
 ⟨some 87, none, .append 46 38 288 (.tmp 81) (.tmp 86)⟩,
 ⟨some 8, none, .mov (.tmp 87)⟩])
 .skip)))
 (.ops [⟨some 66, none, .mov (.tmp 12)⟩,
 ⟨some 67, none, .bin .add (.tmp 66) (.const (.int .i64 (1)))⟩,
 ⟨some 12, none, .mov (.tmp 67)⟩]))))))
 (.seq
 (.ops [⟨some 88, none, .mov (.tmp 7)⟩,
 ⟨some 89, none, .mov (.tmp 8)⟩,
 ⟨some 4, none, .mov (.tmp 88)⟩,
 ⟨some 5, none, .mov (.tmp 89)⟩])
 .ret))

def c12t : ACode :=
 (.seq
 (.ops [⟨some 10, none, .mov (.const (.int .i64 (0)))⟩])
 (.block 2
 (.loop
 (.seq
 (.seq
 (.ops [⟨some 22, none, .mov (.tmp 10)⟩,
 ⟨some 23, none, .mov (.tmp 0)⟩,
 ⟨some 24, none, .lenV (.tmp 23)⟩,
 ⟨some 25, none, .bin .lss (.tmp 22) (.tmp 24)⟩])
 (.cond (.tmp 25)
 .skip
 (.exit 2)))
 (.seq
 (.block 3
 (.seq
 (.ops [⟨some 28, none, .mov (.tmp 0)⟩,
 ⟨some 29, none, .mov (.tmp 10)⟩,
 ⟨some 30, none, .iaddrS 38 (.tmp 28) (.tmp 29)⟩,
 ⟨some 31, none, .loadN 38 (.tmp 30)⟩,
 ⟨some 32, none, .call 8 [(.tmp 31)]⟩,
 ⟨some 11, none, .mov (.tmp 32)⟩])
 (.seq
 (.ops [⟨some 33, none, .mov (.tmp 0)⟩,
 ⟨some 34, none, .mov (.tmp 10)⟩,
 ⟨some 35, none, .iaddrS 38 (.tmp 33) (.tmp 34)⟩,
 ⟨some 36, none, .loadN 38 (.tmp 35)⟩,
 ⟨some 37, none, .call 10 [(.tmp 36)]⟩,
 ⟨some 38, none, .mov (.tmp 9)⟩,
 ⟨some 39, none, .bin .eql (.tmp 37) (.tmp 38)⟩,
 ⟨some 40, none, .mov (.tmp 39)⟩,
 ⟨some 41, some (40, true), .mov (.tmp 11)⟩,
 ⟨some 42, some (40, true), .bin .gtr (.tmp 41) (.const (.int .i64 (0)))⟩,
 ⟨some 43, none, .pick (.tmp 40) (.tmp 42) (.const (.bool false))⟩,
 ⟨some 44, none, .mov (.tmp 43)⟩,
 ⟨some 45, some (44, true), .mov (.tmp 11)⟩,
 ⟨some 46, some (44, true), .mov (.tmp 1)⟩,
 ⟨some 47, some (44, true), .bin .leq (.tmp 45) (.tmp 46)⟩,
 ⟨some 48, none, .pick (.tmp 44) (.tmp 47) (.const (.bool false))⟩])
 (.cond (.tmp 48)
 (.seq
 (.ops [⟨some 49, none, .mov (.tmp 1)⟩,
 ⟨some 50, none, .mov (.tmp 11)⟩,
 ⟨some 51, none, .bin .sub (.tmp 49) (.tmp 50)⟩,
 ⟨some 1, none, .mov (.tmp 51)⟩])
 (.seq
 (.ops [⟨some 52, none, .mov (.tmp 6)⟩,
 ⟨some 53, none, .mov (.tmp 10)⟩,
 ⟨some 54, none, .iaddrS 1 (.tmp 52) (.tmp 53)⟩,
 ⟨none, none, .store 1 (.tmp 54) (.const (.bool true))⟩])
 (.ops [⟨some 55, none, .mov (.tmp 7)⟩,
 ⟨some 56, none, .mov (.tmp 0)⟩,
 ⟨some 57, none, .mov (.tmp 10)⟩,
 ⟨some 58, none, .iaddrS 38 (.tmp 56) (.tmp 57)⟩,
 ⟨some 59, none, .loadN 38 (.tmp 58)⟩,
 ⟨some 60, none, .bslice 46 1 opZ [(0, 38, (.tmp 59))]⟩,
 ⟨some 61, none, .append 46 38 288 (.tmp 55) (.tmp 60)⟩,
 ⟨some 7, none, .mov (.tmp 61)⟩])))
 .skip))))
 (.ops [⟨some 26, none, .mov (.tmp 10)⟩,
 ⟨some 27, none, .bin .add (.tmp 26) (.const (.int .i64 (1)))⟩,
 ⟨some 10, none, .mov (.tmp 27)⟩]))))))

/-- plait/plaitref15.Pack -/
def c12 : AFunc := ⟨90, 2, [.inl 4, .inl 5],
 (.seq
 (.ops [⟨some 4, none, .mov (.const (.slice none 0 0))⟩,
 ⟨some 5, none, .mov (.const (.slice none 0 0))⟩])
 (.seq
 (.ops [⟨some 13, none, .mov (.tmp 1)⟩,
 ⟨some 14, none, .min [(.tmp 13), (.const (.int .i64 (40)))]⟩,
 ⟨some 1, none, .mov (.tmp 14)⟩])
 (.seq
 (.ops [⟨some 15, none, .mov (.tmp 0)⟩,
 ⟨some 16, none, .lenV (.tmp 15)⟩,
 ⟨some 17, none, .mkS 4 1 1 [.bool false] (.tmp 16) (.tmp 16)⟩,
 ⟨some 6, none, .mov (.tmp 17)⟩])
 (.seq
 (.ops [⟨some 7, none, .mov (.const (.slice none 0 0))⟩,
 ⟨some 8, none, .mov (.const (.slice none 0 0))⟩])
 (.seq
 (.seq
 (.ops [⟨some 9, none, .mov (.const (.int .i64 (0)))⟩])
 (.block 0
 (.loop
 (.seq
 (.seq
 (.ops [⟨some 18, none, .mov (.tmp 9)⟩,
 ⟨some 19, none, .bin .leq (.tmp 18) (.const (.int .i64 (9)))⟩])
 (.cond (.tmp 19)
 .skip
 (.exit 0)))
 (.seq
 (.block 1
 c12t)
 (.ops [⟨some 20, none, .mov (.tmp 9)⟩,
 ⟨some 21, none, .bin .add (.tmp 20) (.const (.int .i64 (1)))⟩,
 ⟨some 9, none, .mov (.tmp 21)⟩]))))))
 c12u)))))⟩
theorem t12 : T 12 = some c12 := by kernel_rfl

/-- plait/plaitref15.Same -/
def c13 : AFunc := ⟨26, 2, [.inl 4],
 (.seq
 (.ops [⟨some 4, none, .mov (.const (.bool false))⟩])
 (.seq
 (.seq
 (.ops [⟨some 6, none, .mov (.tmp 0)⟩,
 ⟨some 7, none, .lenV (.tmp 6)⟩,
 ⟨some 8, none, .mov (.tmp 1)⟩,
 ⟨some 9, none, .lenV (.tmp 8)⟩,
 ⟨some 10, none, .bin .neq (.tmp 7) (.tmp 9)⟩])
 (.cond (.tmp 10)
 (.seq
 (.ops [⟨some 4, none, .mov (.const (.bool false))⟩])
 .ret)
 .skip))
 (.seq
 (.seq
 (.ops [⟨some 5, none, .mov (.const (.int .i64 (0)))⟩])
 (.block 0
 (.loop
 (.seq
 (.seq
 (.ops [⟨some 11, none, .mov (.tmp 5)⟩,
 ⟨some 12, none, .mov (.tmp 0)⟩,
 ⟨some 13, none, .lenV (.tmp 12)⟩,
 ⟨some 14, none, .bin .lss (.tmp 11) (.tmp 13)⟩])
 (.cond (.tmp 14)
 .skip
 (.exit 0)))
 (.seq
 (.block 1
 (.seq
 (.opsD [⟨some 17, none, .mov (.tmp 0)⟩,
 ⟨some 18, none, .mov (.tmp 5)⟩,
 ⟨some 19, none, .iaddrS 38 (.tmp 17) (.tmp 18)⟩,
 ⟨some 20, none, .loadN 38 (.tmp 19)⟩,
 ⟨some 21, none, .mov (.tmp 1)⟩,
 ⟨some 22, none, .mov (.tmp 5)⟩,
 ⟨some 23, none, .iaddrS 38 (.tmp 21) (.tmp 22)⟩,
 ⟨some 24, none, .loadN 38 (.tmp 23)⟩,
 ⟨some 25, none, .eqF true opL (.tmp 20) (.tmp 24)⟩] [])
 (.cond (.tmp 25)
 (.seq
 (.ops [⟨some 4, none, .mov (.const (.bool false))⟩])
 .ret)
 .skip)))
 (.ops [⟨some 15, none, .mov (.tmp 5)⟩,
 ⟨some 16, none, .bin .add (.tmp 15) (.const (.int .i64 (1)))⟩,
 ⟨some 5, none, .mov (.tmp 16)⟩]))))))
 (.seq
 (.ops [⟨some 4, none, .mov (.const (.bool true))⟩])
 .ret))))⟩
theorem t13 : T 13 = some c13 := by kernel_rfl

end Go.Proofs.YtigknpfjhegkgaaGreat

