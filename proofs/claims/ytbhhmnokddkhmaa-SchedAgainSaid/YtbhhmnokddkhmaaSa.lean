/- The code of the functions of stage 25, as the framework reads it. -/
import Derived.Test.YtbhhmnokddkhmaaAsZF
import Derived.Test.YtbhhmnokddkhmaaChecked
import Derived.KernelRfl
namespace Go.Proofs.Ytbhhmnokddkhmaa
open Go Go.AS
set_option maxRecDepth 100000

def c3w : ACode :=
 (.seq
          (.seq
           (.ops [⟨some 8, none, .mov (.const (.int .i64 (0)))⟩])
           (.block 2
            (.loop
             (.seq
              (.seq
               (.ops [⟨some 94, none, .mov (.tmp 8)⟩,
                 ⟨some 95, none, .mov (.tmp 0)⟩,
                 ⟨some 96, none, .lenV (.tmp 95)⟩,
                 ⟨some 97, none, .bin .lss (.tmp 94) (.tmp 96)⟩])
               (.cond (.tmp 97)
                .skip
                (.exit 2)))
              (.seq
               (.block 3
                (.seq
                 (.seq
                  (.ops [⟨some 100, none, .mov (.tmp 0)⟩,
                    ⟨some 101, none, .mov (.tmp 8)⟩,
                    ⟨some 102, none, .iaddrS 4 (.tmp 100) (.tmp 101)⟩,
                    ⟨some 103, none, .faddr 1 (.tmp 102)⟩,
                    ⟨some 104, none, .load1 (.tmp 103)⟩,
                    ⟨some 105, none, .un .not (.tmp 104)⟩,
                    ⟨some 106, none, .mov (.tmp 105)⟩,
                    ⟨some 107, some (106, false), .mov (.tmp 0)⟩,
                    ⟨some 108, some (106, false), .mov (.tmp 8)⟩,
                    ⟨some 109, some (106, false), .iaddrS 4 (.tmp 107) (.tmp 108)⟩,
                    ⟨some 110, some (106, false), .faddr 3 (.tmp 109)⟩,
                    ⟨some 111, some (106, false), .load1 (.tmp 110)⟩,
                    ⟨some 112, some (106, false), .mov (.tmp 1)⟩,
                    ⟨some 113, some (106, false), .bin .geq (.tmp 111) (.tmp 112)⟩,
                    ⟨some 114, none, .pick (.tmp 106) (.const (.bool true)) (.tmp 113)⟩,
                    ⟨some 115, none, .mov (.tmp 114)⟩,
                    ⟨some 116, some (115, false), .mov (.tmp 5)⟩,
                    ⟨some 117, some (115, false), .mov (.tmp 116)⟩,
                    ⟨some 118, some (117, true), .mov (.tmp 0)⟩,
                    ⟨some 119, some (117, true), .mov (.tmp 8)⟩,
                    ⟨some 120, some (117, true), .iaddrS 4 (.tmp 118) (.tmp 119)⟩,
                    ⟨some 121, some (117, true), .faddr 2 (.tmp 120)⟩,
                    ⟨some 122, some (117, true), .load1 (.tmp 121)⟩,
                    ⟨some 123, some (115, false), .pick (.tmp 117) (.tmp 122) (.const (.bool false))⟩,
                    ⟨some 124, none, .pick (.tmp 115) (.const (.bool true)) (.tmp 123)⟩])
                  (.cond (.tmp 124)
                   (.exit 3)
                   .skip))
                 (.seq
                  (.opsD [⟨some 125, none, .mov (.tmp 7)⟩,
                    ⟨some 126, none, .bin .lss (.tmp 125) (.const (.int .i64 (0)))⟩,
                    ⟨some 127, none, .mov (.tmp 126)⟩,
                    ⟨some 128, some (127, false), .mov (.tmp 0)⟩,
                    ⟨some 129, some (127, false), .mov (.tmp 8)⟩,
                    ⟨some 130, some (127, false), .iaddrS 4 (.tmp 128) (.tmp 129)⟩,
                    ⟨some 131, some (127, false), .faddr 3 (.tmp 130)⟩,
                    ⟨some 132, some (127, false), .load1 (.tmp 131)⟩,
                    ⟨some 133, some (127, false), .mov (.tmp 0)⟩,
                    ⟨some 134, some (127, false), .mov (.tmp 7)⟩,
                    ⟨some 135, some (127, false), .iaddrS 4 (.tmp 133) (.tmp 134)⟩,
                    ⟨some 136, some (127, false), .faddr 3 (.tmp 135)⟩,
                    ⟨some 137, some (127, false), .load1 (.tmp 136)⟩,
                    ⟨some 138, some (127, false), .bin .lss (.tmp 132) (.tmp 137)⟩,
                    ⟨some 139, none, .pick (.tmp 127) (.const (.bool true)) (.tmp 138)⟩,
                    ⟨some 140, none, .mov (.tmp 139)⟩,
                    ⟨some 141, some (140, false), .mov (.tmp 0)⟩,
                    ⟨some 142, some (140, false), .mov (.tmp 8)⟩,
                    ⟨some 143, some (140, false), .iaddrS 4 (.tmp 141) (.tmp 142)⟩,
                    ⟨some 144, some (140, false), .faddr 3 (.tmp 143)⟩,
                    ⟨some 145, some (140, false), .load1 (.tmp 144)⟩,
                    ⟨some 146, some (140, false), .mov (.tmp 0)⟩,
                    ⟨some 147, some (140, false), .mov (.tmp 7)⟩,
                    ⟨some 148, some (140, false), .iaddrS 4 (.tmp 146) (.tmp 147)⟩,
                    ⟨some 149, some (140, false), .faddr 3 (.tmp 148)⟩,
                    ⟨some 150, some (140, false), .load1 (.tmp 149)⟩,
                    ⟨some 151, some (140, false), .bin .eql (.tmp 145) (.tmp 150)⟩,
                    ⟨some 152, some (140, false), .mov (.tmp 151)⟩,
                    ⟨some 153, some (152, true), .mov (.tmp 8)⟩,
                    ⟨some 154, some (152, true), .mov (.tmp 7)⟩,
                    ⟨some 155, some (152, true), .bin .lss (.tmp 153) (.tmp 154)⟩,
                    ⟨some 156, some (140, false), .pick (.tmp 152) (.tmp 155) (.const (.bool false))⟩,
                    ⟨some 157, none, .pick (.tmp 140) (.const (.bool true)) (.tmp 156)⟩] [])
                  (.cond (.tmp 157)
                   (.seq
                    (.ops [⟨some 4, none, .mov (.const (.bool false))⟩])
                    .ret)
                   .skip))))
               (.ops [⟨some 98, none, .mov (.tmp 8)⟩,
                 ⟨some 99, none, .bin .add (.tmp 98) (.const (.int .i64 (1)))⟩,
                 ⟨some 8, none, .mov (.tmp 99)⟩]))))))
          (.seq
           (.ops [⟨some 4, none, .mov (.const (.bool true))⟩])
           .ret))

def c3t : ACode :=
 (.seq
       (.ops [⟨some 54, none, .mov (.tmp 0)⟩,
         ⟨some 55, none, .mov (.tmp 1)⟩,
         ⟨some 56, none, .call 7 [(.tmp 54), (.tmp 55)]⟩,
         ⟨some 7, none, .mov (.tmp 56)⟩])
       (.seq
        (.seq
         (.ops [⟨some 57, none, .mov (.tmp 7)⟩,
           ⟨some 58, none, .bin .lss (.tmp 57) (.const (.int .i64 (-1)))⟩,
           ⟨some 59, none, .mov (.tmp 58)⟩,
           ⟨some 60, some (59, false), .mov (.tmp 7)⟩,
           ⟨some 61, some (59, false), .mov (.tmp 0)⟩,
           ⟨some 62, some (59, false), .lenV (.tmp 61)⟩,
           ⟨some 63, some (59, false), .bin .geq (.tmp 60) (.tmp 62)⟩,
           ⟨some 64, none, .pick (.tmp 59) (.const (.bool true)) (.tmp 63)⟩])
         (.cond (.tmp 64)
          (.seq
           (.ops [⟨some 4, none, .mov (.const (.bool false))⟩])
           .ret)
          .skip))
        (.seq
         (.seq
          (.ops [⟨some 65, none, .mov (.tmp 7)⟩,
            ⟨some 66, none, .bin .geq (.tmp 65) (.const (.int .i64 (0)))⟩,
            ⟨some 67, none, .mov (.tmp 66)⟩,
            ⟨some 68, some (67, true), .mov (.tmp 0)⟩,
            ⟨some 69, some (67, true), .mov (.tmp 7)⟩,
            ⟨some 70, some (67, true), .iaddrS 4 (.tmp 68) (.tmp 69)⟩,
            ⟨some 71, some (67, true), .faddr 1 (.tmp 70)⟩,
            ⟨some 72, some (67, true), .load1 (.tmp 71)⟩,
            ⟨some 73, some (67, true), .un .not (.tmp 72)⟩,
            ⟨some 74, some (67, true), .mov (.tmp 73)⟩,
            ⟨some 75, some (74, false), .mov (.tmp 0)⟩,
            ⟨some 76, some (74, false), .mov (.tmp 7)⟩,
            ⟨some 77, some (74, false), .iaddrS 4 (.tmp 75) (.tmp 76)⟩,
            ⟨some 78, some (74, false), .faddr 3 (.tmp 77)⟩,
            ⟨some 79, some (74, false), .load1 (.tmp 78)⟩,
            ⟨some 80, some (74, false), .mov (.tmp 1)⟩,
            ⟨some 81, some (74, false), .bin .geq (.tmp 79) (.tmp 80)⟩,
            ⟨some 82, some (67, true), .pick (.tmp 74) (.const (.bool true)) (.tmp 81)⟩,
            ⟨some 83, some (67, true), .mov (.tmp 82)⟩,
            ⟨some 84, some (83, false), .mov (.tmp 5)⟩,
            ⟨some 85, some (83, false), .mov (.tmp 84)⟩,
            ⟨some 86, some (85, true), .mov (.tmp 0)⟩,
            ⟨some 87, some (85, true), .mov (.tmp 7)⟩,
            ⟨some 88, some (85, true), .iaddrS 4 (.tmp 86) (.tmp 87)⟩,
            ⟨some 89, some (85, true), .faddr 2 (.tmp 88)⟩,
            ⟨some 90, some (85, true), .load1 (.tmp 89)⟩,
            ⟨some 91, some (83, false), .pick (.tmp 85) (.tmp 90) (.const (.bool false))⟩,
            ⟨some 92, some (67, true), .pick (.tmp 83) (.const (.bool true)) (.tmp 91)⟩,
            ⟨some 93, none, .pick (.tmp 67) (.tmp 92) (.const (.bool false))⟩])
          (.cond (.tmp 93)
           (.seq
            (.ops [⟨some 4, none, .mov (.const (.bool false))⟩])
            .ret)
           .skip))
         c3w)))

/-- plait/plaitlaw25.SchedBest -/
def c3 : AFunc := ⟨158, 2, [.inl 4],
 (.seq
  (.ops [⟨some 4, none, .mov (.const (.bool false))⟩])
  (.seq
   (.seq
    (.ops [⟨some 9, none, .call 6 []⟩,
      ⟨some 10, none, .un .not (.tmp 9)⟩])
    (.cond (.tmp 10)
     (.seq
      (.ops [⟨some 4, none, .mov (.const (.bool false))⟩])
      .ret)
     .skip))
   (.seq
    (.ops [⟨some 11, none, .bslice 25 0 [] []⟩,
      ⟨some 12, none, .mov (.tmp 0)⟩,
      ⟨some 13, none, .mov (.tmp 0)⟩,
      ⟨some 14, none, .lenV (.tmp 13)⟩,
      ⟨some 15, none, .min [(.tmp 14), (.const (.int .i64 (20)))]⟩,
      ⟨some 16, none, .sliceV 4 (.tmp 12) none (some (.tmp 15)) none⟩,
      ⟨some 17, none, .append 25 4 24 (.tmp 11) (.tmp 16)⟩,
      ⟨some 0, none, .mov (.tmp 17)⟩])
    (.seq
     (.ops [⟨some 5, none, .mov (.const (.bool false))⟩])
     (.seq
      (.seq
       (.ops [⟨some 6, none, .mov (.const (.int .i64 (0)))⟩])
       (.block 0
        (.loop
         (.seq
          (.seq
           (.ops [⟨some 18, none, .mov (.tmp 6)⟩,
             ⟨some 19, none, .mov (.tmp 0)⟩,
             ⟨some 20, none, .lenV (.tmp 19)⟩,
             ⟨some 21, none, .bin .lss (.tmp 18) (.tmp 20)⟩])
           (.cond (.tmp 21)
            .skip
            (.exit 0)))
          (.seq
           (.block 1
            (.seq
             (.ops [⟨some 24, none, .mov (.tmp 0)⟩,
               ⟨some 25, none, .mov (.tmp 6)⟩,
               ⟨some 26, none, .mov (.tmp 6)⟩,
               ⟨some 27, none, .iaddrS 4 (.tmp 24) (.tmp 25)⟩,
               ⟨some 28, none, .faddr 0 (.tmp 27)⟩,
               ⟨none, none, .store 1 (.tmp 28) (.tmp 26)⟩])
             (.ops [⟨some 29, none, .mov (.tmp 5)⟩,
               ⟨some 30, none, .mov (.tmp 29)⟩,
               ⟨some 31, some (30, false), .mov (.tmp 0)⟩,
               ⟨some 32, some (30, false), .mov (.tmp 6)⟩,
               ⟨some 33, some (30, false), .iaddrS 4 (.tmp 31) (.tmp 32)⟩,
               ⟨some 34, some (30, false), .faddr 1 (.tmp 33)⟩,
               ⟨some 35, some (30, false), .load1 (.tmp 34)⟩,
               ⟨some 36, some (30, false), .mov (.tmp 35)⟩,
               ⟨some 37, some (36, true), .mov (.tmp 0)⟩,
               ⟨some 38, some (36, true), .mov (.tmp 6)⟩,
               ⟨some 39, some (36, true), .iaddrS 4 (.tmp 37) (.tmp 38)⟩,
               ⟨some 40, some (36, true), .faddr 2 (.tmp 39)⟩,
               ⟨some 41, some (36, true), .load1 (.tmp 40)⟩,
               ⟨some 42, some (36, true), .un .not (.tmp 41)⟩,
               ⟨some 43, some (30, false), .pick (.tmp 36) (.tmp 42) (.const (.bool false))⟩,
               ⟨some 44, some (30, false), .mov (.tmp 43)⟩,
               ⟨some 45, some (44, true), .mov (.tmp 0)⟩,
               ⟨some 46, some (44, true), .mov (.tmp 6)⟩,
               ⟨some 47, some (44, true), .iaddrS 4 (.tmp 45) (.tmp 46)⟩,
               ⟨some 48, some (44, true), .faddr 3 (.tmp 47)⟩,
               ⟨some 49, some (44, true), .load1 (.tmp 48)⟩,
               ⟨some 50, some (44, true), .mov (.tmp 1)⟩,
               ⟨some 51, some (44, true), .bin .lss (.tmp 49) (.tmp 50)⟩,
               ⟨some 52, some (30, false), .pick (.tmp 44) (.tmp 51) (.const (.bool false))⟩,
               ⟨some 53, none, .pick (.tmp 30) (.const (.bool true)) (.tmp 52)⟩,
               ⟨some 5, none, .mov (.tmp 53)⟩])))
           (.ops [⟨some 22, none, .mov (.tmp 6)⟩,
             ⟨some 23, none, .bin .add (.tmp 22) (.const (.int .i64 (1)))⟩,
             ⟨some 6, none, .mov (.tmp 23)⟩]))))))
      c3t)))))⟩

/-- plait/sched.Pick -/
def c7 : AFunc := ⟨24, 2, [.inl 4],
 (.seq
  (.ops [⟨some 3, none, .box 3 1 (.tmp 1)⟩,
    ⟨some 4, none, .mov (.const (.int .i64 (0)))⟩])
  (.seq
   (.ops [⟨some 9, none, .mov (.tmp 0)⟩,
     ⟨some 10, none, .mkF 12 [] [(.tmp 3)]⟩,
     ⟨some 11, none, .call 11 [(.tmp 9), (.tmp 10)]⟩,
     ⟨some 5, none, .alloc 4 [.bool false]⟩,
     ⟨none, none, .store 1 (.tmp 5) (.tmp 11)⟩])
   (.seq
    (.ops [⟨some 12, none, .mov (.tmp 0)⟩,
      ⟨some 13, none, .mkF 14 [] [(.tmp 3), (.tmp 5)]⟩,
      ⟨some 14, none, .call 13 [(.tmp 12), (.tmp 13)]⟩,
      ⟨some 6, none, .mov (.tmp 14)⟩])
    (.seq
     (.ops [⟨some 16, none, .mov (.tmp 6)⟩,
       ⟨some 17, none, .call 15 [(.tmp 16), (.func 16)]⟩,
       ⟨some 15, none, .mov (.tmp 17)⟩,
       ⟨some 18, none, .ext (.tmp 15) 0⟩,
       ⟨some 19, none, .ext (.tmp 15) 1⟩,
       ⟨some 7, none, .alloc 25 [.int .i64 (0), .bool false, .bool false, .int .i64 (0)]⟩,
       ⟨none, none, .store 4 (.tmp 7) (.tmp 18)⟩,
       ⟨some 8, none, .mov (.tmp 19)⟩])
     (.seq
      (.seq
       (.ops [⟨some 20, none, .mov (.tmp 8)⟩,
         ⟨some 21, none, .un .not (.tmp 20)⟩])
       (.cond (.tmp 21)
        (.seq
         (.ops [⟨some 4, none, .mov (.const (.int .i64 (-1)))⟩])
         .ret)
        .skip))
      (.seq
       (.ops [⟨some 22, none, .faddr 0 (.tmp 7)⟩,
         ⟨some 23, none, .load1 (.tmp 22)⟩,
         ⟨some 4, none, .mov (.tmp 23)⟩])
       .ret))))))⟩

/-- slices.ContainsFunc[[]plait/api.Lane,plait/api.Lane] -/
def c11 : AFunc := ⟨9, 2, [.inl 4],
 (.seq
  (.ops [⟨some 4, none, .mov (.const (.bool false))⟩])
  (.seq
   (.ops [⟨some 5, none, .mov (.tmp 0)⟩,
     ⟨some 6, none, .mov (.tmp 1)⟩,
     ⟨some 7, none, .call 25 [(.tmp 5), (.tmp 6)]⟩,
     ⟨some 8, none, .bin .geq (.tmp 7) (.const (.int .i64 (0)))⟩,
     ⟨some 4, none, .mov (.tmp 8)⟩])
   .ret))⟩

/-- plait/sched.Pick$1 -/
def c12 : AFunc := ⟨17, 2, [.inl 3],
 (.seq
  (.ops [⟨some 2, none, .box 25 4 (.tmp 0)⟩,
    ⟨some 3, none, .mov (.const (.bool false))⟩])
  (.seq
   (.ops [⟨some 4, none, .faddr 1 (.tmp 2)⟩,
     ⟨some 5, none, .load1 (.tmp 4)⟩,
     ⟨some 6, none, .mov (.tmp 5)⟩,
     ⟨some 7, some (6, true), .faddr 2 (.tmp 2)⟩,
     ⟨some 8, some (6, true), .load1 (.tmp 7)⟩,
     ⟨some 9, some (6, true), .un .not (.tmp 8)⟩,
     ⟨some 10, none, .pick (.tmp 6) (.tmp 9) (.const (.bool false))⟩,
     ⟨some 11, none, .mov (.tmp 10)⟩,
     ⟨some 12, some (11, true), .faddr 3 (.tmp 2)⟩,
     ⟨some 13, some (11, true), .load1 (.tmp 12)⟩,
     ⟨some 14, some (11, true), .load1 (.tmp 1)⟩,
     ⟨some 15, some (11, true), .bin .lss (.tmp 13) (.tmp 14)⟩,
     ⟨some 16, none, .pick (.tmp 11) (.tmp 15) (.const (.bool false))⟩,
     ⟨some 3, none, .mov (.tmp 16)⟩])
   .ret))⟩

/-- plait/sched.those -/
def c13 : AFunc := ⟨6, 2, [.inl 4],
 (.seq
  (.ops [⟨some 2, none, .box 22 1 (.tmp 0)⟩,
    ⟨some 3, none, .box 35 1 (.tmp 1)⟩,
    ⟨some 4, none, .mov (.const (.nilFunc))⟩])
  (.seq
   (.ops [⟨some 5, none, .mkF 26 [] [(.tmp 2), (.tmp 3)]⟩,
     ⟨some 4, none, .mov (.tmp 5)⟩])
   .ret))⟩

/-- plait/sched.Pick$2 -/
def c14 : AFunc := ⟨21, 3, [.inl 4],
 (.seq
  (.ops [⟨some 3, none, .box 25 4 (.tmp 0)⟩,
    ⟨some 4, none, .mov (.const (.bool false))⟩])
  (.seq
   (.ops [⟨some 5, none, .faddr 1 (.tmp 3)⟩,
     ⟨some 6, none, .load1 (.tmp 5)⟩,
     ⟨some 7, none, .mov (.tmp 6)⟩,
     ⟨some 8, some (7, true), .faddr 3 (.tmp 3)⟩,
     ⟨some 9, some (7, true), .load1 (.tmp 8)⟩,
     ⟨some 10, some (7, true), .load1 (.tmp 1)⟩,
     ⟨some 11, some (7, true), .bin .lss (.tmp 9) (.tmp 10)⟩,
     ⟨some 12, none, .pick (.tmp 7) (.tmp 11) (.const (.bool false))⟩,
     ⟨some 13, none, .mov (.tmp 12)⟩,
     ⟨some 14, some (13, true), .load1 (.tmp 2)⟩,
     ⟨some 15, some (13, true), .mov (.tmp 14)⟩,
     ⟨some 16, some (15, true), .faddr 2 (.tmp 3)⟩,
     ⟨some 17, some (15, true), .load1 (.tmp 16)⟩,
     ⟨some 18, some (13, true), .pick (.tmp 15) (.tmp 17) (.const (.bool false))⟩,
     ⟨some 19, some (13, true), .un .not (.tmp 18)⟩,
     ⟨some 20, none, .pick (.tmp 13) (.tmp 19) (.const (.bool false))⟩,
     ⟨some 4, none, .mov (.tmp 20)⟩])
   .ret))⟩

/-- plait/sched.best[plait/api.Lane] -/
def c15 : AFunc := ⟨21, 2, [.inr (4, 4, true), .inr (5, 1, false)],
 (.seq
  (.ops [⟨some 3, none, .box 43 1 (.tmp 1)⟩,
    ⟨some 4, none, .alloc 25 [.int .i64 (0), .bool false, .bool false, .int .i64 (0)]⟩,
    ⟨some 5, none, .alloc 4 [.bool false]⟩])
  (.seq
   (.seq
    (.ops [⟨some 7, none, .mov (.tmp 0)⟩])
    (.block 0
     (.rangeFunc (.tmp 7) [8]
      (.ops [⟨some 6, none, .alloc 25 [.int .i64 (0), .bool false, .bool false, .int .i64 (0)]⟩,
        ⟨none, none, .store 4 (.tmp 6) (.tmp 8)⟩])
      (.block 1
       (.seq
        (.ops [⟨some 9, none, .load1 (.tmp 5)⟩,
          ⟨some 10, none, .un .not (.tmp 9)⟩,
          ⟨some 11, none, .mov (.tmp 10)⟩,
          ⟨some 12, some (11, false), .load1 (.tmp 3)⟩,
          ⟨some 13, some (11, false), .loadN 4 (.tmp 6)⟩,
          ⟨some 14, some (11, false), .loadN 4 (.tmp 4)⟩,
          ⟨some 15, some (11, false), .callv (.tmp 12) [(.tmp 13), (.tmp 14)]⟩,
          ⟨some 16, some (11, false), .bin .lss (.tmp 15) (.const (.int .i64 (0)))⟩,
          ⟨some 17, none, .pick (.tmp 11) (.const (.bool true)) (.tmp 16)⟩])
        (.cond (.tmp 17)
         (.ops [⟨some 18, none, .loadN 4 (.tmp 6)⟩,
           ⟨none, none, .store 4 (.tmp 4) (.tmp 18)⟩,
           ⟨none, none, .store 1 (.tmp 5) (.const (.bool true))⟩])
         .skip))))))
   (.seq
    (.opsD [⟨some 19, none, .loadN 4 (.tmp 4)⟩,
      ⟨some 20, none, .load1 (.tmp 5)⟩,
      ⟨none, none, .store 4 (.tmp 4) (.tmp 19)⟩,
      ⟨none, none, .store 1 (.tmp 5) (.tmp 20)⟩] [(1, 2), (1, 3)])
    .ret)))⟩

/-- plait/sched.Pick$3 -/
def c16 : AFunc := ⟨17, 2, [.inl 4],
 (.seq
  (.ops [⟨some 2, none, .box 25 4 (.tmp 0)⟩,
    ⟨some 3, none, .box 25 4 (.tmp 1)⟩,
    ⟨some 4, none, .mov (.const (.int .i64 (0)))⟩])
  (.seq
   (.opsD [⟨some 5, none, .faddr 3 (.tmp 2)⟩,
     ⟨some 6, none, .load1 (.tmp 5)⟩,
     ⟨some 7, none, .faddr 3 (.tmp 3)⟩,
     ⟨some 8, none, .load1 (.tmp 7)⟩,
     ⟨some 9, none, .call 18 [(.tmp 6), (.tmp 8)]⟩,
     ⟨some 10, none, .faddr 0 (.tmp 2)⟩,
     ⟨some 11, none, .load1 (.tmp 10)⟩,
     ⟨some 12, none, .faddr 0 (.tmp 3)⟩,
     ⟨some 13, none, .load1 (.tmp 12)⟩,
     ⟨some 14, none, .call 18 [(.tmp 11), (.tmp 13)]⟩,
     ⟨some 15, none, .bslice 3 2 [.int .i64 (0)] [(0, 1, (.tmp 9)), (1, 1, (.tmp 14))]⟩,
     ⟨some 16, none, .call 17 [(.tmp 15)]⟩,
     ⟨some 4, none, .mov (.tmp 16)⟩] [(6, 4), (6, 5), (8, 4), (8, 5)])
   .ret))⟩

/-- cmp.Or[int] -/
def c17 : AFunc := ⟨18, 1, [.inl 2],
 (.seq
  (.ops [⟨some 2, none, .mov (.const (.int .i64 (0)))⟩])
  (.seq
   (.ops [⟨some 3, none, .mov (.const (.int .i64 (0)))⟩])
   (.seq
    (.seq
     (.ops [⟨some 6, none, .mov (.tmp 0)⟩,
       ⟨some 7, none, .lenV (.tmp 6)⟩,
       ⟨some 8, none, .mov (.const (.int .i64 (0)))⟩])
     (.block 0
      (.loop
       (.seq
        (.ops [⟨some 9, none, .bin .lss (.tmp 8) (.tmp 7)⟩])
        (.seq
         (.cond (.tmp 9)
          .skip
          (.exit 0))
         (.seq
          (.block 1
           (.seq
            (.ops [⟨some 10, none, .iaddrS 1 (.tmp 6) (.tmp 8)⟩,
              ⟨some 11, none, .load1 (.tmp 10)⟩,
              ⟨some 5, none, .mov (.tmp 11)⟩])
            (.seq
             (.ops [⟨some 12, none, .mov (.tmp 5)⟩,
               ⟨some 13, none, .mov (.tmp 3)⟩,
               ⟨some 14, none, .bin .neq (.tmp 12) (.tmp 13)⟩])
             (.cond (.tmp 14)
              (.seq
               (.ops [⟨some 15, none, .mov (.tmp 5)⟩,
                 ⟨some 2, none, .mov (.tmp 15)⟩])
               .ret)
              .skip))))
          (.ops [⟨some 16, none, .bin .add (.tmp 8) (.const (.int .i64 (1)))⟩,
            ⟨some 8, none, .mov (.tmp 16)⟩])))))))
    (.seq
     (.ops [⟨some 17, none, .mov (.tmp 3)⟩,
       ⟨some 2, none, .mov (.tmp 17)⟩])
     .ret))))⟩

/-- cmp.Compare[int] -/
def c18 : AFunc := ⟨20, 2, [.inl 4],
 (.seq
  (.ops [⟨some 4, none, .mov (.const (.int .i64 (0)))⟩])
  (.seq
   (.ops [⟨some 7, none, .mov (.tmp 0)⟩,
     ⟨some 8, none, .call 27 [(.tmp 7)]⟩,
     ⟨some 5, none, .mov (.tmp 8)⟩])
   (.seq
    (.ops [⟨some 9, none, .mov (.tmp 1)⟩,
      ⟨some 10, none, .call 27 [(.tmp 9)]⟩,
      ⟨some 6, none, .mov (.tmp 10)⟩])
    (.seq
     (.seq
      (.ops [⟨some 11, none, .mov (.tmp 5)⟩])
      (.cond (.tmp 11)
       (.seq
        (.seq
         (.ops [⟨some 12, none, .mov (.tmp 6)⟩])
         (.cond (.tmp 12)
          (.seq
           (.ops [⟨some 4, none, .mov (.const (.int .i64 (0)))⟩])
           .ret)
          .skip))
        (.seq
         (.ops [⟨some 4, none, .mov (.const (.int .i64 (-1)))⟩])
         .ret))
       .skip))
     (.seq
      (.seq
       (.ops [⟨some 13, none, .mov (.tmp 6)⟩])
       (.cond (.tmp 13)
        (.seq
         (.ops [⟨some 4, none, .mov (.const (.int .i64 (1)))⟩])
         .ret)
        .skip))
      (.seq
       (.seq
        (.ops [⟨some 14, none, .mov (.tmp 0)⟩,
          ⟨some 15, none, .mov (.tmp 1)⟩,
          ⟨some 16, none, .bin .lss (.tmp 14) (.tmp 15)⟩])
        (.cond (.tmp 16)
         (.seq
          (.ops [⟨some 4, none, .mov (.const (.int .i64 (-1)))⟩])
          .ret)
         .skip))
       (.seq
        (.seq
         (.ops [⟨some 17, none, .mov (.tmp 0)⟩,
           ⟨some 18, none, .mov (.tmp 1)⟩,
           ⟨some 19, none, .bin .gtr (.tmp 17) (.tmp 18)⟩])
         (.cond (.tmp 19)
          (.seq
           (.ops [⟨some 4, none, .mov (.const (.int .i64 (1)))⟩])
           .ret)
          .skip))
        (.seq
         (.ops [⟨some 4, none, .mov (.const (.int .i64 (0)))⟩])
         .ret))))))))⟩

/-- slices.IndexFunc[[]plait/api.Lane,plait/api.Lane] -/
def c25 : AFunc := ⟨19, 2, [.inl 4],
 (.seq
  (.ops [⟨some 4, none, .mov (.const (.int .i64 (0)))⟩])
  (.seq
   (.seq
    (.ops [⟨some 6, none, .mov (.tmp 0)⟩,
      ⟨some 7, none, .lenV (.tmp 6)⟩,
      ⟨some 8, none, .mov (.const (.int .i64 (0)))⟩])
    (.block 0
     (.loop
      (.seq
       (.ops [⟨some 9, none, .bin .lss (.tmp 8) (.tmp 7)⟩])
       (.seq
        (.cond (.tmp 9)
         .skip
         (.exit 0))
        (.seq
         (.block 1
          (.seq
           (.ops [⟨some 10, none, .mov (.tmp 8)⟩,
             ⟨some 5, none, .mov (.tmp 10)⟩])
           (.seq
            (.ops [⟨some 11, none, .mov (.tmp 1)⟩,
              ⟨some 12, none, .mov (.tmp 0)⟩,
              ⟨some 13, none, .mov (.tmp 5)⟩,
              ⟨some 14, none, .iaddrS 4 (.tmp 12) (.tmp 13)⟩,
              ⟨some 15, none, .loadN 4 (.tmp 14)⟩,
              ⟨some 16, none, .callv (.tmp 11) [(.tmp 15)]⟩])
            (.cond (.tmp 16)
             (.seq
              (.ops [⟨some 17, none, .mov (.tmp 5)⟩,
                ⟨some 4, none, .mov (.tmp 17)⟩])
              .ret)
             .skip))))
         (.ops [⟨some 18, none, .bin .add (.tmp 8) (.const (.int .i64 (1)))⟩,
           ⟨some 8, none, .mov (.tmp 18)⟩])))))))
   (.seq
    (.ops [⟨some 4, none, .mov (.const (.int .i64 (-1)))⟩])
    .ret)))⟩

/-- plait/sched.those$1 -/
def c26 : AFunc := ⟨22, 3, [],
 (.seq
  (.ops [⟨some 6, none, .load1 (.tmp 1)⟩,
    ⟨some 7, none, .lenV (.tmp 6)⟩,
    ⟨some 8, none, .mov (.const (.int .i64 (0)))⟩])
  (.block 0
   (.loop
    (.seq
     (.ops [⟨some 9, none, .bin .lss (.tmp 8) (.tmp 7)⟩])
     (.seq
      (.cond (.tmp 9)
       .skip
       (.exit 0))
      (.seq
       (.block 1
        (.seq
         (.ops [⟨some 10, none, .iaddrS 4 (.tmp 6) (.tmp 8)⟩,
           ⟨some 11, none, .loadN 4 (.tmp 10)⟩,
           ⟨some 5, none, .alloc 25 [.int .i64 (0), .bool false, .bool false, .int .i64 (0)]⟩,
           ⟨none, none, .store 4 (.tmp 5) (.tmp 11)⟩])
         (.seq
          (.ops [⟨some 12, none, .load1 (.tmp 2)⟩,
            ⟨some 13, none, .loadN 4 (.tmp 5)⟩,
            ⟨some 14, none, .callv (.tmp 12) [(.tmp 13)]⟩,
            ⟨some 15, none, .mov (.tmp 14)⟩,
            ⟨some 16, some (15, true), .mov (.tmp 0)⟩,
            ⟨some 17, some (15, true), .loadN 4 (.tmp 5)⟩,
            ⟨some 18, some (15, true), .callv (.tmp 16) [(.tmp 17)]⟩,
            ⟨some 19, some (15, true), .un .not (.tmp 18)⟩,
            ⟨some 20, none, .pick (.tmp 15) (.tmp 19) (.const (.bool false))⟩])
          (.cond (.tmp 20)
           .ret
           .skip))))
       (.ops [⟨some 21, none, .bin .add (.tmp 8) (.const (.int .i64 (1)))⟩,
         ⟨some 8, none, .mov (.tmp 21)⟩])))))))⟩

/-- cmp.isNaN[int] -/
def c27 : AFunc := ⟨6, 1, [.inl 2],
 (.seq
  (.ops [⟨some 2, none, .mov (.const (.bool false))⟩])
  (.seq
   (.ops [⟨some 3, none, .mov (.tmp 0)⟩,
     ⟨some 4, none, .mov (.tmp 0)⟩,
     ⟨some 5, none, .bin .neq (.tmp 3) (.tmp 4)⟩,
     ⟨some 2, none, .mov (.tmp 5)⟩])
   .ret))⟩


def c15a : ACode := (.ops [⟨some 6, none, .alloc 25 [.int .i64 (0), .bool false, .bool false, .int .i64 (0)]⟩,
        ⟨none, none, .store 4 (.tmp 6) (.tmp 8)⟩])
def c15b : ACode := (.block 1
       (.seq
        (.ops [⟨some 9, none, .load1 (.tmp 5)⟩,
          ⟨some 10, none, .un .not (.tmp 9)⟩,
          ⟨some 11, none, .mov (.tmp 10)⟩,
          ⟨some 12, some (11, false), .load1 (.tmp 3)⟩,
          ⟨some 13, some (11, false), .loadN 4 (.tmp 6)⟩,
          ⟨some 14, some (11, false), .loadN 4 (.tmp 4)⟩,
          ⟨some 15, some (11, false), .callv (.tmp 12) [(.tmp 13), (.tmp 14)]⟩,
          ⟨some 16, some (11, false), .bin .lss (.tmp 15) (.const (.int .i64 (0)))⟩,
          ⟨some 17, none, .pick (.tmp 11) (.const (.bool true)) (.tmp 16)⟩])
        (.cond (.tmp 17)
         (.ops [⟨some 18, none, .loadN 4 (.tmp 6)⟩,
           ⟨none, none, .store 4 (.tmp 4) (.tmp 18)⟩,
           ⟨none, none, .store 1 (.tmp 5) (.const (.bool true))⟩])
         .skip)))
noncomputable def T : FTab := tabYes Try.prog [6]
theorem t3 : T 3 = some c3 := by kernel_rfl
theorem t7 : T 7 = some c7 := by kernel_rfl
theorem t11 : T 11 = some c11 := by kernel_rfl
theorem t12 : T 12 = some c12 := by kernel_rfl
theorem t13 : T 13 = some c13 := by kernel_rfl
theorem t14 : T 14 = some c14 := by kernel_rfl
theorem t15 : T 15 = some c15 := by kernel_rfl
theorem t16 : T 16 = some c16 := by kernel_rfl
theorem t17 : T 17 = some c17 := by kernel_rfl
theorem t18 : T 18 = some c18 := by kernel_rfl
theorem t25 : T 25 = some c25 := by kernel_rfl
theorem t26 : T 26 = some c26 := by kernel_rfl
theorem t27 : T 27 = some c27 := by kernel_rfl
theorem t6 : T 6 = some sayYes := by kernel_rfl
end Go.Proofs.Ytbhhmnokddkhmaa
