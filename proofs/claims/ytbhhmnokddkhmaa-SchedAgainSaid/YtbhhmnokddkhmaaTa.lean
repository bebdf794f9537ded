/- The code of the functions that SchedAgain comes to. -/
import Derived.Test.YtbhhmnokddkhmaaSh
import Derived.Test.YtbhhmnokddkhmaaChecked
import Derived.KernelRfl
namespace Go.Proofs.Ytbhhmnokddkhmaa
open Go Go.AS
set_option maxRecDepth 100000

def tab8 : List UInt8 := [0, 1, 2, 2, 3, 3, 3, 3, 4, 4, 4, 4, 4, 4, 4, 4, 5, 5, 5, 5, 5, 5, 5, 5, 5, 5, 5, 5, 5, 5, 5, 5, 6, 6, 6, 6, 6, 6, 6, 6, 6, 6, 6, 6, 6, 6, 6, 6, 6, 6, 6, 6, 6, 6, 6, 6, 6, 6, 6, 6, 6, 6, 6, 6, 7, 7, 7, 7, 7, 7, 7, 7, 7, 7, 7, 7, 7, 7, 7, 7, 7, 7, 7, 7, 7, 7, 7, 7, 7, 7, 7, 7, 7, 7, 7, 7, 7, 7, 7, 7, 7, 7, 7, 7, 7, 7, 7, 7, 7, 7, 7, 7, 7, 7, 7, 7, 7, 7, 7, 7, 7, 7, 7, 7, 7, 7, 7, 7, 8, 8, 8, 8, 8, 8, 8, 8, 8, 8, 8, 8, 8, 8, 8, 8, 8, 8, 8, 8, 8, 8, 8, 8, 8, 8, 8, 8, 8, 8, 8, 8, 8, 8, 8, 8, 8, 8, 8, 8, 8, 8, 8, 8, 8, 8, 8, 8, 8, 8, 8, 8, 8, 8, 8, 8, 8, 8, 8, 8, 8, 8, 8, 8, 8, 8, 8, 8, 8, 8, 8, 8, 8, 8, 8, 8, 8, 8, 8, 8, 8, 8, 8, 8, 8, 8, 8, 8, 8, 8, 8, 8, 8, 8, 8, 8, 8, 8, 8, 8, 8, 8, 8, 8, 8, 8, 8, 8, 8, 8, 8, 8, 8, 8, 8, 8, 8, 8, 8, 8, 8, 8, 8, 8, 8, 8, 8, 8]

def c4t : ACode :=
 (.seq
        (.ops [⟨some 60, none, .mov (.tmp 0)⟩,
          ⟨some 61, none, .mov (.tmp 9)⟩,
          ⟨some 62, none, .mov (.tmp 2)⟩,
          ⟨some 63, none, .mov (.tmp 3)⟩,
          ⟨some 64, none, .call 8 [(.tmp 60), (.tmp 61), (.tmp 62), (.tmp 63)]⟩,
          ⟨some 12, none, .mov (.tmp 64)⟩])
        (.seq
         (.ops [⟨some 13, none, .mov (.const (.int .i64 (0)))⟩])
         (.seq
          (.seq
           (.ops [⟨some 14, none, .mov (.const (.int .i64 (0)))⟩])
           (.block 2
            (.loop
             (.seq
              (.seq
               (.ops [⟨some 65, none, .mov (.tmp 14)⟩,
                 ⟨some 66, none, .mov (.tmp 0)⟩,
                 ⟨some 67, none, .lenV (.tmp 66)⟩,
                 ⟨some 68, none, .bin .lss (.tmp 65) (.tmp 67)⟩])
               (.cond (.tmp 68)
                .skip
                (.exit 2)))
              (.seq
               (.block 3
                (.seq
                 (.ops [⟨some 71, none, .mov (.tmp 0)⟩,
                   ⟨some 72, none, .mov (.tmp 14)⟩,
                   ⟨some 73, none, .iaddrS 4 (.tmp 71) (.tmp 72)⟩,
                   ⟨some 74, none, .faddr 1 (.tmp 73)⟩,
                   ⟨some 75, none, .load1 (.tmp 74)⟩,
                   ⟨some 76, none, .mov (.tmp 75)⟩,
                   ⟨some 77, some (76, true), .mov (.tmp 0)⟩,
                   ⟨some 78, some (76, true), .mov (.tmp 14)⟩,
                   ⟨some 79, some (76, true), .iaddrS 4 (.tmp 77) (.tmp 78)⟩,
                   ⟨some 80, some (76, true), .faddr 3 (.tmp 79)⟩,
                   ⟨some 81, some (76, true), .load1 (.tmp 80)⟩,
                   ⟨some 82, some (76, true), .mov (.tmp 3)⟩,
                   ⟨some 83, some (76, true), .bin .lss (.tmp 81) (.tmp 82)⟩,
                   ⟨some 84, none, .pick (.tmp 76) (.tmp 83) (.const (.bool false))⟩,
                   ⟨some 85, none, .mov (.tmp 84)⟩,
                   ⟨some 86, some (85, true), .mov (.tmp 14)⟩,
                   ⟨some 87, some (85, true), .mov (.tmp 1)⟩,
                   ⟨some 88, some (85, true), .lenV (.tmp 87)⟩,
                   ⟨some 89, some (85, true), .bin .lss (.tmp 86) (.tmp 88)⟩,
                   ⟨some 90, some (85, true), .mov (.tmp 89)⟩,
                   ⟨some 91, some (90, true), .mov (.tmp 1)⟩,
                   ⟨some 92, some (90, true), .mov (.tmp 14)⟩,
                   ⟨some 93, some (90, true), .iaddrS 1 (.tmp 91) (.tmp 92)⟩,
                   ⟨some 94, some (90, true), .load1 (.tmp 93)⟩,
                   ⟨some 95, some (85, true), .pick (.tmp 90) (.tmp 94) (.const (.bool false))⟩,
                   ⟨some 96, some (85, true), .un .not (.tmp 95)⟩,
                   ⟨some 97, none, .pick (.tmp 85) (.tmp 96) (.const (.bool false))⟩,
                   ⟨some 98, none, .mov (.tmp 97)⟩,
                   ⟨some 99, some (98, true), .mov (.tmp 2)⟩,
                   ⟨some 100, some (98, true), .bin .geq (.tmp 99) (.const (.int .i64 (3)))⟩,
                   ⟨some 101, some (98, true), .mov (.tmp 100)⟩,
                   ⟨some 102, some (101, false), .mov (.tmp 10)⟩,
                   ⟨some 103, some (101, false), .un .not (.tmp 102)⟩,
                   ⟨some 104, some (98, true), .pick (.tmp 101) (.const (.bool true)) (.tmp 103)⟩,
                   ⟨some 105, none, .pick (.tmp 98) (.tmp 104) (.const (.bool false))⟩,
                   ⟨some 15, none, .mov (.tmp 105)⟩])
                 (.seq
                  (.ops [⟨some 106, none, .mov (.tmp 15)⟩])
                  (.cond (.tmp 106)
                   (.seq
                    (.seq
                     (.ops [⟨some 107, none, .mov (.tmp 13)⟩,
                       ⟨some 108, none, .mov (.tmp 12)⟩,
                       ⟨some 109, none, .lenV (.tmp 108)⟩,
                       ⟨some 110, none, .bin .geq (.tmp 107) (.tmp 109)⟩,
                       ⟨some 111, none, .mov (.tmp 110)⟩,
                       ⟨some 112, some (111, false), .mov (.tmp 12)⟩,
                       ⟨some 113, some (111, false), .mov (.tmp 13)⟩,
                       ⟨some 114, some (111, false), .iaddrS 1 (.tmp 112) (.tmp 113)⟩,
                       ⟨some 115, some (111, false), .load1 (.tmp 114)⟩,
                       ⟨some 116, some (111, false), .mov (.tmp 14)⟩,
                       ⟨some 117, some (111, false), .bin .mul (.const (.int .i64 (2))) (.tmp 116)⟩,
                       ⟨some 118, some (111, false), .bin .neq (.tmp 115) (.tmp 117)⟩,
                       ⟨some 119, none, .pick (.tmp 111) (.const (.bool true)) (.tmp 118)⟩])
                     (.cond (.tmp 119)
                      (.seq
                       (.ops [⟨some 8, none, .mov (.const (.bool false))⟩])
                       .ret)
                      .skip))
                    (.ops [⟨some 120, none, .mov (.tmp 13)⟩,
                      ⟨some 121, none, .bin .add (.tmp 120) (.const (.int .i64 (1)))⟩,
                      ⟨some 13, none, .mov (.tmp 121)⟩]))
                   .skip))))
               (.ops [⟨some 69, none, .mov (.tmp 14)⟩,
                 ⟨some 70, none, .bin .add (.tmp 69) (.const (.int .i64 (1)))⟩,
                 ⟨some 14, none, .mov (.tmp 70)⟩]))))))
          (.seq
           (.ops [⟨some 122, none, .mov (.tmp 13)⟩,
             ⟨some 123, none, .mov (.tmp 12)⟩,
             ⟨some 124, none, .lenV (.tmp 123)⟩,
             ⟨some 125, none, .bin .eql (.tmp 122) (.tmp 124)⟩,
             ⟨some 8, none, .mov (.tmp 125)⟩])
           .ret))))

/-- plait/plaitlaw25.SchedAgain -/
def c4 : AFunc := ⟨126, 4, [.inl 8],
 (.seq
  (.ops [⟨some 8, none, .mov (.const (.bool false))⟩])
  (.seq
   (.seq
    (.ops [⟨some 16, none, .call 6 []⟩,
      ⟨some 17, none, .un .not (.tmp 16)⟩])
    (.cond (.tmp 17)
     (.seq
      (.ops [⟨some 8, none, .mov (.const (.bool false))⟩])
      .ret)
     .skip))
   (.seq
    (.ops [⟨some 18, none, .bslice 25 0 [] []⟩,
      ⟨some 19, none, .mov (.tmp 0)⟩,
      ⟨some 20, none, .mov (.tmp 0)⟩,
      ⟨some 21, none, .lenV (.tmp 20)⟩,
      ⟨some 22, none, .min [(.tmp 21), (.const (.int .i64 (20)))]⟩,
      ⟨some 23, none, .sliceV 4 (.tmp 19) none (some (.tmp 22)) none⟩,
      ⟨some 24, none, .append 25 4 24 (.tmp 18) (.tmp 23)⟩,
      ⟨some 0, none, .mov (.tmp 24)⟩])
    (.seq
     (.ops [⟨some 9, none, .mov (.const (.slice none 0 0))⟩])
     (.seq
      (.ops [⟨some 10, none, .mov (.const (.bool false))⟩])
      (.seq
       (.seq
        (.ops [⟨some 11, none, .mov (.const (.int .i64 (0)))⟩])
        (.block 0
         (.loop
          (.seq
           (.seq
            (.ops [⟨some 25, none, .mov (.tmp 11)⟩,
              ⟨some 26, none, .mov (.tmp 0)⟩,
              ⟨some 27, none, .lenV (.tmp 26)⟩,
              ⟨some 28, none, .bin .lss (.tmp 25) (.tmp 27)⟩])
            (.cond (.tmp 28)
             .skip
             (.exit 0)))
           (.seq
            (.block 1
             (.seq
              (.ops [⟨some 31, none, .mov (.tmp 0)⟩,
                ⟨some 32, none, .mov (.tmp 11)⟩,
                ⟨some 33, none, .mov (.tmp 11)⟩,
                ⟨some 34, none, .bin .mul (.const (.int .i64 (2))) (.tmp 33)⟩,
                ⟨some 35, none, .iaddrS 4 (.tmp 31) (.tmp 32)⟩,
                ⟨some 36, none, .faddr 0 (.tmp 35)⟩,
                ⟨none, none, .store 1 (.tmp 36) (.tmp 34)⟩])
              (.seq
               (.ops [⟨some 37, none, .mov (.tmp 11)⟩,
                 ⟨some 38, none, .mov (.tmp 1)⟩,
                 ⟨some 39, none, .lenV (.tmp 38)⟩,
                 ⟨some 40, none, .bin .lss (.tmp 37) (.tmp 39)⟩,
                 ⟨some 41, none, .mov (.tmp 40)⟩,
                 ⟨some 42, some (41, true), .mov (.tmp 1)⟩,
                 ⟨some 43, some (41, true), .mov (.tmp 11)⟩,
                 ⟨some 44, some (41, true), .iaddrS 1 (.tmp 42) (.tmp 43)⟩,
                 ⟨some 45, some (41, true), .load1 (.tmp 44)⟩,
                 ⟨some 46, none, .pick (.tmp 41) (.tmp 45) (.const (.bool false))⟩])
               (.cond (.tmp 46)
                (.seq
                 (.ops [⟨some 47, none, .mov (.tmp 9)⟩,
                   ⟨some 48, none, .mov (.tmp 11)⟩,
                   ⟨some 49, none, .bin .mul (.const (.int .i64 (2))) (.tmp 48)⟩,
                   ⟨some 50, none, .bslice 3 1 [.int .i64 (0)] [(0, 1, (.tmp 49))]⟩,
                   ⟨some 51, none, .append 3 1 8 (.tmp 47) (.tmp 50)⟩,
                   ⟨some 9, none, .mov (.tmp 51)⟩])
                 (.ops [⟨some 52, none, .mov (.tmp 10)⟩,
                   ⟨some 53, none, .mov (.tmp 52)⟩,
                   ⟨some 54, some (53, false), .mov (.tmp 0)⟩,
                   ⟨some 55, some (53, false), .mov (.tmp 11)⟩,
                   ⟨some 56, some (53, false), .iaddrS 4 (.tmp 54) (.tmp 55)⟩,
                   ⟨some 57, some (53, false), .faddr 1 (.tmp 56)⟩,
                   ⟨some 58, some (53, false), .load1 (.tmp 57)⟩,
                   ⟨some 59, none, .pick (.tmp 53) (.const (.bool true)) (.tmp 58)⟩,
                   ⟨some 10, none, .mov (.tmp 59)⟩]))
                .skip))))
            (.ops [⟨some 29, none, .mov (.tmp 11)⟩,
              ⟨some 30, none, .bin .add (.tmp 29) (.const (.int .i64 (1)))⟩,
              ⟨some 11, none, .mov (.tmp 30)⟩]))))))
       c4t))))))⟩

def c8t : ACode :=
 (.seq
     (.seq
      (.ops [⟨some 19, none, .mov (.tmp 0)⟩,
        ⟨some 20, none, .mkF 22 [] [(.tmp 7), (.tmp 9)]⟩,
        ⟨some 21, none, .call 13 [(.tmp 19), (.tmp 20)]⟩])
      (.block 0
       (.rangeFunc (.tmp 21) [22]
        (.ops [⟨some 10, none, .alloc 25 [.int .i64 (0), .bool false, .bool false, .int .i64 (0)]⟩,
          ⟨none, none, .store 4 (.tmp 10) (.tmp 22)⟩])
        (.block 1
         (.ops [⟨some 23, none, .load1 (.tmp 8)⟩,
           ⟨some 24, none, .faddr 0 (.tmp 10)⟩,
           ⟨some 25, none, .load1 (.tmp 24)⟩,
           ⟨some 26, none, .bslice 3 1 [.int .i64 (0)] [(0, 1, (.tmp 25))]⟩,
           ⟨some 27, none, .append 3 1 8 (.tmp 23) (.tmp 26)⟩,
           ⟨none, none, .store 1 (.tmp 8) (.tmp 27)⟩])))))
     (.seq
      (.ops [⟨some 28, none, .load1 (.tmp 8)⟩,
        ⟨some 29, none, .call 23 [(.tmp 28)]⟩])
      (.seq
       (.ops [⟨some 30, none, .load1 (.tmp 8)⟩,
         ⟨some 31, none, .call 24 [(.tmp 30)]⟩,
         ⟨none, none, .store 1 (.tmp 8) (.tmp 31)⟩])
       .ret)))

/-- plait/sched.Again -/
def c8 : AFunc := ⟨32, 4, [.inr (8, 1, false)],
 (.seq
  (.ops [⟨some 5, none, .box 29 1 (.tmp 1)⟩,
    ⟨some 7, none, .box 3 1 (.tmp 3)⟩,
    ⟨some 8, none, .alloc 29 [.slice none 0 0]⟩])
  (.seq
   (.ops [⟨some 11, none, .mkF 19 [] [(.tmp 5)]⟩,
     ⟨some 9, none, .alloc 35 [.nilFunc]⟩,
     ⟨none, none, .store 1 (.tmp 9) (.tmp 11)⟩])
   (.seq
    (.seq
     (.ops [⟨some 12, none, .mov (.tmp 2)⟩,
       ⟨some 13, none, .bin .lss (.tmp 12) (.const (.int .i64 (3)))⟩,
       ⟨some 14, none, .mov (.tmp 13)⟩,
       ⟨some 15, some (14, true), .mov (.tmp 0)⟩,
       ⟨some 16, some (14, true), .mkF 21 [] [(.tmp 9)]⟩,
       ⟨some 17, some (14, true), .call 11 [(.tmp 15), (.tmp 16)]⟩,
       ⟨some 18, none, .pick (.tmp 14) (.tmp 17) (.const (.bool false))⟩])
     (.cond (.tmp 18)
      (.seq
       (.ops [⟨none, none, .store 1 (.tmp 8) (.const (.slice none 0 0))⟩])
       .ret)
      .skip))
    c8t)))⟩

/-- plait/sched.Again$1 -/
def c19 : AFunc := ⟨8, 2, [.inl 3],
 (.seq
  (.ops [⟨some 2, none, .box 25 4 (.tmp 0)⟩,
    ⟨some 3, none, .mov (.const (.bool false))⟩])
  (.seq
   (.ops [⟨some 4, none, .load1 (.tmp 1)⟩,
     ⟨some 5, none, .faddr 0 (.tmp 2)⟩,
     ⟨some 6, none, .load1 (.tmp 5)⟩,
     ⟨some 7, none, .call 20 [(.tmp 4), (.tmp 6)]⟩,
     ⟨some 3, none, .mov (.tmp 7)⟩])
   .ret))⟩

/-- slices.Contains[[]int,int] -/
def c20 : AFunc := ⟨9, 2, [.inl 4],
 (.seq
  (.ops [⟨some 4, none, .mov (.const (.bool false))⟩])
  (.seq
   (.ops [⟨some 5, none, .mov (.tmp 0)⟩,
     ⟨some 6, none, .mov (.tmp 1)⟩,
     ⟨some 7, none, .call 28 [(.tmp 5), (.tmp 6)]⟩,
     ⟨some 8, none, .bin .geq (.tmp 7) (.const (.int .i64 (0)))⟩,
     ⟨some 4, none, .mov (.tmp 8)⟩])
   .ret))⟩

/-- plait/sched.Again$2 -/
def c21 : AFunc := ⟨11, 2, [.inl 3],
 (.seq
  (.ops [⟨some 2, none, .box 25 4 (.tmp 0)⟩,
    ⟨some 3, none, .mov (.const (.bool false))⟩])
  (.seq
   (.ops [⟨some 4, none, .faddr 1 (.tmp 2)⟩,
     ⟨some 5, none, .load1 (.tmp 4)⟩,
     ⟨some 6, none, .mov (.tmp 5)⟩,
     ⟨some 7, some (6, true), .load1 (.tmp 1)⟩,
     ⟨some 8, some (6, true), .loadN 4 (.tmp 2)⟩,
     ⟨some 9, some (6, true), .callv (.tmp 7) [(.tmp 8)]⟩,
     ⟨some 10, none, .pick (.tmp 6) (.tmp 9) (.const (.bool false))⟩,
     ⟨some 3, none, .mov (.tmp 10)⟩])
   .ret))⟩

/-- plait/sched.Again$3 -/
def c22 : AFunc := ⟨19, 3, [.inl 4],
 (.seq
  (.ops [⟨some 3, none, .box 25 4 (.tmp 0)⟩,
    ⟨some 4, none, .mov (.const (.bool false))⟩])
  (.seq
   (.ops [⟨some 5, none, .faddr 1 (.tmp 3)⟩,
     ⟨some 6, none, .load1 (.tmp 5)⟩,
     ⟨some 7, none, .mov (.tmp 6)⟩,
     ⟨some 8, some (7, true), .faddr 3 (.tmp 3)⟩,
     ⟨some 9, some (7, true), .load1 (.tmp 8)⟩,
     ⟨some 10, some (7, true), .load1 (.tmp 1)⟩,
     ⟨some 11, some (7, true), .bin .lss (.tmp 9) (.tmp 10)⟩,
     ⟨some 12, none, .pick (.tmp 7) (.tmp 11) (.const (.bool false))⟩,
     ⟨some 13, none, .mov (.tmp 12)⟩,
     ⟨some 14, some (13, true), .load1 (.tmp 2)⟩,
     ⟨some 15, some (13, true), .loadN 4 (.tmp 3)⟩,
     ⟨some 16, some (13, true), .callv (.tmp 14) [(.tmp 15)]⟩,
     ⟨some 17, some (13, true), .un .not (.tmp 16)⟩,
     ⟨some 18, none, .pick (.tmp 13) (.tmp 17) (.const (.bool false))⟩,
     ⟨some 4, none, .mov (.tmp 18)⟩])
   .ret))⟩

/-- slices.Sort[[]int,int] -/
def c23 : AFunc := ⟨11, 1, [],
 (.seq
  (.ops [⟨some 3, none, .mov (.tmp 0)⟩,
    ⟨some 4, none, .lenV (.tmp 3)⟩,
    ⟨some 2, none, .mov (.tmp 4)⟩])
  (.ops [⟨some 5, none, .mov (.tmp 0)⟩,
    ⟨some 6, none, .mov (.tmp 2)⟩,
    ⟨some 7, none, .mov (.tmp 2)⟩,
    ⟨some 8, none, .cvInt .u64 (.tmp 7)⟩,
    ⟨some 9, none, .call 30 [(.tmp 8)]⟩,
    ⟨some 10, none, .call 29 [(.tmp 5), (.const (.int .i64 (0))), (.tmp 6), (.tmp 9)]⟩]))⟩

/-- slices.Compact[[]int,int] -/
def c24 : AFunc := ⟨61, 1, [.inl 2],
 (.seq
  (.ops [⟨some 2, none, .mov (.const (.slice none 0 0))⟩])
  (.seq
   (.seq
    (.ops [⟨some 6, none, .mov (.tmp 0)⟩,
      ⟨some 7, none, .lenV (.tmp 6)⟩,
      ⟨some 8, none, .bin .lss (.tmp 7) (.const (.int .i64 (2)))⟩])
    (.cond (.tmp 8)
     (.seq
      (.ops [⟨some 9, none, .mov (.tmp 0)⟩,
        ⟨some 2, none, .mov (.tmp 9)⟩])
      .ret)
     .skip))
   (.seq
    (.seq
     (.ops [⟨some 3, none, .mov (.const (.int .i64 (1)))⟩])
     (.block 0
      (.loop
       (.seq
        (.seq
         (.ops [⟨some 10, none, .mov (.tmp 3)⟩,
           ⟨some 11, none, .mov (.tmp 0)⟩,
           ⟨some 12, none, .lenV (.tmp 11)⟩,
           ⟨some 13, none, .bin .lss (.tmp 10) (.tmp 12)⟩])
         (.cond (.tmp 13)
          .skip
          (.exit 0)))
        (.seq
         (.block 1
          (.seq
           (.opsD [⟨some 16, none, .mov (.tmp 0)⟩,
             ⟨some 17, none, .mov (.tmp 3)⟩,
             ⟨some 18, none, .iaddrS 1 (.tmp 16) (.tmp 17)⟩,
             ⟨some 19, none, .load1 (.tmp 18)⟩,
             ⟨some 20, none, .mov (.tmp 0)⟩,
             ⟨some 21, none, .mov (.tmp 3)⟩,
             ⟨some 22, none, .bin .sub (.tmp 21) (.const (.int .i64 (1)))⟩,
             ⟨some 23, none, .iaddrS 1 (.tmp 20) (.tmp 22)⟩,
             ⟨some 24, none, .load1 (.tmp 23)⟩,
             ⟨some 25, none, .bin .eql (.tmp 19) (.tmp 24)⟩] [])
           (.cond (.tmp 25)
            (.seq
             (.ops [⟨some 26, none, .mov (.tmp 0)⟩,
               ⟨some 27, none, .mov (.tmp 3)⟩,
               ⟨some 28, none, .sliceV 1 (.tmp 26) (some (.tmp 27)) none none⟩,
               ⟨some 4, none, .mov (.tmp 28)⟩])
             (.seq
              (.seq
               (.ops [⟨some 5, none, .mov (.const (.int .i64 (1)))⟩])
               (.block 2
                (.loop
                 (.seq
                  (.seq
                   (.ops [⟨some 29, none, .mov (.tmp 5)⟩,
                     ⟨some 30, none, .mov (.tmp 4)⟩,
                     ⟨some 31, none, .lenV (.tmp 30)⟩,
                     ⟨some 32, none, .bin .lss (.tmp 29) (.tmp 31)⟩])
                   (.cond (.tmp 32)
                    .skip
                    (.exit 2)))
                  (.seq
                   (.block 3
                    (.seq
                     (.opsD [⟨some 35, none, .mov (.tmp 4)⟩,
                       ⟨some 36, none, .mov (.tmp 5)⟩,
                       ⟨some 37, none, .iaddrS 1 (.tmp 35) (.tmp 36)⟩,
                       ⟨some 38, none, .load1 (.tmp 37)⟩,
                       ⟨some 39, none, .mov (.tmp 4)⟩,
                       ⟨some 40, none, .mov (.tmp 5)⟩,
                       ⟨some 41, none, .bin .sub (.tmp 40) (.const (.int .i64 (1)))⟩,
                       ⟨some 42, none, .iaddrS 1 (.tmp 39) (.tmp 41)⟩,
                       ⟨some 43, none, .load1 (.tmp 42)⟩,
                       ⟨some 44, none, .bin .neq (.tmp 38) (.tmp 43)⟩] [])
                     (.cond (.tmp 44)
                      (.seq
                       (.ops [⟨some 45, none, .mov (.tmp 0)⟩,
                         ⟨some 46, none, .mov (.tmp 3)⟩,
                         ⟨some 47, none, .mov (.tmp 4)⟩,
                         ⟨some 48, none, .mov (.tmp 5)⟩,
                         ⟨some 49, none, .iaddrS 1 (.tmp 47) (.tmp 48)⟩,
                         ⟨some 50, none, .load1 (.tmp 49)⟩,
                         ⟨some 51, none, .iaddrS 1 (.tmp 45) (.tmp 46)⟩,
                         ⟨none, none, .store 1 (.tmp 51) (.tmp 50)⟩])
                       (.ops [⟨some 52, none, .mov (.tmp 3)⟩,
                         ⟨some 53, none, .bin .add (.tmp 52) (.const (.int .i64 (1)))⟩,
                         ⟨some 3, none, .mov (.tmp 53)⟩]))
                      .skip)))
                   (.ops [⟨some 33, none, .mov (.tmp 5)⟩,
                     ⟨some 34, none, .bin .add (.tmp 33) (.const (.int .i64 (1)))⟩,
                     ⟨some 5, none, .mov (.tmp 34)⟩]))))))
              (.seq
               (.ops [⟨some 54, none, .mov (.tmp 0)⟩,
                 ⟨some 55, none, .mov (.tmp 3)⟩,
                 ⟨some 56, none, .sliceV 1 (.tmp 54) (some (.tmp 55)) none none⟩,
                 ⟨none, none, .clear [.int .i64 (0)] (.tmp 56)⟩])
               (.seq
                (.ops [⟨some 57, none, .mov (.tmp 0)⟩,
                  ⟨some 58, none, .mov (.tmp 3)⟩,
                  ⟨some 59, none, .sliceV 1 (.tmp 57) none (some (.tmp 58)) none⟩,
                  ⟨some 2, none, .mov (.tmp 59)⟩])
                .ret))))
            .skip)))
         (.ops [⟨some 14, none, .mov (.tmp 3)⟩,
           ⟨some 15, none, .bin .add (.tmp 14) (.const (.int .i64 (1)))⟩,
           ⟨some 3, none, .mov (.tmp 15)⟩]))))))
    (.seq
     (.ops [⟨some 60, none, .mov (.tmp 0)⟩,
       ⟨some 2, none, .mov (.tmp 60)⟩])
     .ret))))⟩

/-- slices.Index[[]int,int] -/
def c28 : AFunc := ⟨19, 2, [.inl 4],
 (.seq
  (.ops [⟨some 4, none, .mov (.const (.int .i64 (0)))⟩])
  (.seq
   (.seq
    (.ops [⟨some 6, none, .mov (.tmp 0)⟩,
      ⟨some 7, none, .lenV (.tmp 6)⟩,
      ⟨some 8, none, .mov (.const (.int .i64 (0)))⟩])
    (.block 0
     (.loop
      (.seq
       (.ops [⟨some 9, none, .bin .lss (.tmp 8) (.tmp 7)⟩])
       (.seq
        (.cond (.tmp 9)
         .skip
         (.exit 0))
        (.seq
         (.block 1
          (.seq
           (.ops [⟨some 10, none, .mov (.tmp 8)⟩,
             ⟨some 5, none, .mov (.tmp 10)⟩])
           (.seq
            (.ops [⟨some 11, none, .mov (.tmp 1)⟩,
              ⟨some 12, none, .mov (.tmp 0)⟩,
              ⟨some 13, none, .mov (.tmp 5)⟩,
              ⟨some 14, none, .iaddrS 1 (.tmp 12) (.tmp 13)⟩,
              ⟨some 15, none, .load1 (.tmp 14)⟩,
              ⟨some 16, none, .bin .eql (.tmp 11) (.tmp 15)⟩])
            (.cond (.tmp 16)
             (.seq
              (.ops [⟨some 17, none, .mov (.tmp 5)⟩,
                ⟨some 4, none, .mov (.tmp 17)⟩])
              .ret)
             .skip))))
         (.ops [⟨some 18, none, .bin .add (.tmp 8) (.const (.int .i64 (1)))⟩,
           ⟨some 8, none, .mov (.tmp 18)⟩])))))))
   (.seq
    (.ops [⟨some 4, none, .mov (.const (.int .i64 (-1)))⟩])
    .ret)))⟩

/-- slices.pdqsortOrdered[int] -/
def c29 : AFunc := ⟨134, 4, [],
 (.seq
  (.ops [⟨some 8, none, .mov (.const (.bool true))⟩])
  (.seq
   (.ops [⟨some 9, none, .mov (.const (.bool true))⟩])
   (.block 0
    (.loop
     (.block 1
      (.seq
       (.ops [⟨some 19, none, .mov (.tmp 2)⟩,
         ⟨some 20, none, .mov (.tmp 1)⟩,
         ⟨some 21, none, .bin .sub (.tmp 19) (.tmp 20)⟩,
         ⟨some 10, none, .mov (.tmp 21)⟩])
       (.seq
        (.seq
         (.ops [⟨some 22, none, .mov (.tmp 10)⟩,
           ⟨some 23, none, .bin .leq (.tmp 22) (.const (.int .i64 (12)))⟩])
         (.cond (.tmp 23)
          (.seq
           (.ops [⟨some 24, none, .mov (.tmp 0)⟩,
             ⟨some 25, none, .mov (.tmp 1)⟩,
             ⟨some 26, none, .mov (.tmp 2)⟩,
             ⟨some 27, none, .call 31 [(.tmp 24), (.tmp 25), (.tmp 26)]⟩])
           .ret)
          .skip))
        (.seq
         (.seq
          (.ops [⟨some 28, none, .mov (.tmp 3)⟩,
            ⟨some 29, none, .bin .eql (.tmp 28) (.const (.int .i64 (0)))⟩])
          (.cond (.tmp 29)
           (.seq
            (.ops [⟨some 30, none, .mov (.tmp 0)⟩,
              ⟨some 31, none, .mov (.tmp 1)⟩,
              ⟨some 32, none, .mov (.tmp 2)⟩,
              ⟨some 33, none, .call 32 [(.tmp 30), (.tmp 31), (.tmp 32)]⟩])
            .ret)
           .skip))
         (.seq
          (.seq
           (.ops [⟨some 34, none, .mov (.tmp 8)⟩,
             ⟨some 35, none, .un .not (.tmp 34)⟩])
           (.cond (.tmp 35)
            (.seq
             (.ops [⟨some 36, none, .mov (.tmp 0)⟩,
               ⟨some 37, none, .mov (.tmp 1)⟩,
               ⟨some 38, none, .mov (.tmp 2)⟩,
               ⟨some 39, none, .call 33 [(.tmp 36), (.tmp 37), (.tmp 38)]⟩])
             (.ops [⟨some 40, none, .mov (.tmp 3)⟩,
               ⟨some 41, none, .bin .sub (.tmp 40) (.const (.int .i64 (1)))⟩,
               ⟨some 3, none, .mov (.tmp 41)⟩]))
            .skip))
          (.seq
           (.ops [⟨some 43, none, .mov (.tmp 0)⟩,
             ⟨some 44, none, .mov (.tmp 1)⟩,
             ⟨some 45, none, .mov (.tmp 2)⟩,
             ⟨some 46, none, .call 34 [(.tmp 43), (.tmp 44), (.tmp 45)]⟩,
             ⟨some 42, none, .mov (.tmp 46)⟩,
             ⟨some 47, none, .ext (.tmp 42) 0⟩,
             ⟨some 48, none, .ext (.tmp 42) 1⟩,
             ⟨some 11, none, .mov (.tmp 47)⟩,
             ⟨some 12, none, .mov (.tmp 48)⟩])
           (.seq
            (.seq
             (.ops [⟨some 49, none, .mov (.tmp 12)⟩,
               ⟨some 50, none, .bin .eql (.tmp 49) (.const (.int .i64 (2)))⟩])
             (.cond (.tmp 50)
              (.seq
               (.ops [⟨some 51, none, .mov (.tmp 0)⟩,
                 ⟨some 52, none, .mov (.tmp 1)⟩,
                 ⟨some 53, none, .mov (.tmp 2)⟩,
                 ⟨some 54, none, .call 35 [(.tmp 51), (.tmp 52), (.tmp 53)]⟩])
               (.seq
                (.ops [⟨some 55, none, .mov (.tmp 2)⟩,
                  ⟨some 56, none, .bin .sub (.tmp 55) (.const (.int .i64 (1)))⟩,
                  ⟨some 57, none, .mov (.tmp 11)⟩,
                  ⟨some 58, none, .mov (.tmp 1)⟩,
                  ⟨some 59, none, .bin .sub (.tmp 57) (.tmp 58)⟩,
                  ⟨some 60, none, .bin .sub (.tmp 56) (.tmp 59)⟩,
                  ⟨some 11, none, .mov (.tmp 60)⟩])
                (.ops [⟨some 12, none, .mov (.const (.int .i64 (1)))⟩])))
              .skip))
            (.seq
             (.seq
              (.ops [⟨some 61, none, .mov (.tmp 8)⟩,
                ⟨some 62, none, .mov (.tmp 61)⟩,
                ⟨some 63, some (62, true), .mov (.tmp 9)⟩,
                ⟨some 64, none, .pick (.tmp 62) (.tmp 63) (.const (.bool false))⟩,
                ⟨some 65, none, .mov (.tmp 64)⟩,
                ⟨some 66, some (65, true), .mov (.tmp 12)⟩,
                ⟨some 67, some (65, true), .bin .eql (.tmp 66) (.const (.int .i64 (1)))⟩,
                ⟨some 68, none, .pick (.tmp 65) (.tmp 67) (.const (.bool false))⟩])
              (.cond (.tmp 68)
               (.seq
                (.ops [⟨some 69, none, .mov (.tmp 0)⟩,
                  ⟨some 70, none, .mov (.tmp 1)⟩,
                  ⟨some 71, none, .mov (.tmp 2)⟩,
                  ⟨some 72, none, .call 36 [(.tmp 69), (.tmp 70), (.tmp 71)]⟩])
                (.cond (.tmp 72)
                 .ret
                 .skip))
               .skip))
             (.seq
              (.seq
               (.opsD [⟨some 73, none, .mov (.tmp 1)⟩,
                 ⟨some 74, none, .bin .gtr (.tmp 73) (.const (.int .i64 (0)))⟩,
                 ⟨some 75, none, .mov (.tmp 74)⟩,
                 ⟨some 76, some (75, true), .mov (.tmp 0)⟩,
                 ⟨some 77, some (75, true), .mov (.tmp 1)⟩,
                 ⟨some 78, some (75, true), .bin .sub (.tmp 77) (.const (.int .i64 (1)))⟩,
                 ⟨some 79, some (75, true), .iaddrS 1 (.tmp 76) (.tmp 78)⟩,
                 ⟨some 80, some (75, true), .load1 (.tmp 79)⟩,
                 ⟨some 81, some (75, true), .mov (.tmp 0)⟩,
                 ⟨some 82, some (75, true), .mov (.tmp 11)⟩,
                 ⟨some 83, some (75, true), .iaddrS 1 (.tmp 81) (.tmp 82)⟩,
                 ⟨some 84, some (75, true), .load1 (.tmp 83)⟩,
                 ⟨some 85, some (75, true), .call 37 [(.tmp 80), (.tmp 84)]⟩,
                 ⟨some 86, some (75, true), .un .not (.tmp 85)⟩,
                 ⟨some 87, none, .pick (.tmp 75) (.tmp 86) (.const (.bool false))⟩] [])
               (.cond (.tmp 87)
                (.seq
                 (.ops [⟨some 88, none, .mov (.tmp 0)⟩,
                   ⟨some 89, none, .mov (.tmp 1)⟩,
                   ⟨some 90, none, .mov (.tmp 2)⟩,
                   ⟨some 91, none, .mov (.tmp 11)⟩,
                   ⟨some 92, none, .call 38 [(.tmp 88), (.tmp 89), (.tmp 90), (.tmp 91)]⟩,
                   ⟨some 13, none, .mov (.tmp 92)⟩])
                 (.seq
                  (.ops [⟨some 93, none, .mov (.tmp 13)⟩,
                    ⟨some 1, none, .mov (.tmp 93)⟩])
                  (.exit 1)))
                .skip))
              (.seq
               (.ops [⟨some 95, none, .mov (.tmp 0)⟩,
                 ⟨some 96, none, .mov (.tmp 1)⟩,
                 ⟨some 97, none, .mov (.tmp 2)⟩,
                 ⟨some 98, none, .mov (.tmp 11)⟩,
                 ⟨some 99, none, .call 39 [(.tmp 95), (.tmp 96), (.tmp 97), (.tmp 98)]⟩,
                 ⟨some 94, none, .mov (.tmp 99)⟩,
                 ⟨some 100, none, .ext (.tmp 94) 0⟩,
                 ⟨some 101, none, .ext (.tmp 94) 1⟩,
                 ⟨some 14, none, .mov (.tmp 100)⟩,
                 ⟨some 15, none, .mov (.tmp 101)⟩])
               (.seq
                (.ops [⟨some 102, none, .mov (.tmp 15)⟩,
                  ⟨some 9, none, .mov (.tmp 102)⟩])
                (.seq
                 (.ops [⟨some 103, none, .mov (.tmp 14)⟩,
                   ⟨some 104, none, .mov (.tmp 1)⟩,
                   ⟨some 105, none, .bin .sub (.tmp 103) (.tmp 104)⟩,
                   ⟨some 106, none, .mov (.tmp 2)⟩,
                   ⟨some 107, none, .mov (.tmp 14)⟩,
                   ⟨some 108, none, .bin .sub (.tmp 106) (.tmp 107)⟩,
                   ⟨some 16, none, .mov (.tmp 105)⟩,
                   ⟨some 17, none, .mov (.tmp 108)⟩])
                 (.seq
                  (.ops [⟨some 109, none, .mov (.tmp 10)⟩,
                    ⟨some 110, none, .bin .quo (.tmp 109) (.const (.int .i64 (8)))⟩,
                    ⟨some 18, none, .mov (.tmp 110)⟩])
                  (.seq
                   (.ops [⟨some 111, none, .mov (.tmp 16)⟩,
                     ⟨some 112, none, .mov (.tmp 17)⟩,
                     ⟨some 113, none, .bin .lss (.tmp 111) (.tmp 112)⟩])
                   (.cond (.tmp 113)
                    (.seq
                     (.ops [⟨some 114, none, .mov (.tmp 16)⟩,
                       ⟨some 115, none, .mov (.tmp 18)⟩,
                       ⟨some 116, none, .bin .geq (.tmp 114) (.tmp 115)⟩,
                       ⟨some 8, none, .mov (.tmp 116)⟩])
                     (.seq
                      (.ops [⟨some 117, none, .mov (.tmp 0)⟩,
                        ⟨some 118, none, .mov (.tmp 1)⟩,
                        ⟨some 119, none, .mov (.tmp 14)⟩,
                        ⟨some 120, none, .mov (.tmp 3)⟩,
                        ⟨some 121, none, .call 29 [(.tmp 117), (.tmp 118), (.tmp 119), (.tmp 120)]⟩])
                      (.ops [⟨some 122, none, .mov (.tmp 14)⟩,
                        ⟨some 123, none, .bin .add (.tmp 122) (.const (.int .i64 (1)))⟩,
                        ⟨some 1, none, .mov (.tmp 123)⟩])))
                    (.seq
                     (.ops [⟨some 124, none, .mov (.tmp 17)⟩,
                       ⟨some 125, none, .mov (.tmp 18)⟩,
                       ⟨some 126, none, .bin .geq (.tmp 124) (.tmp 125)⟩,
                       ⟨some 8, none, .mov (.tmp 126)⟩])
                     (.seq
                      (.ops [⟨some 127, none, .mov (.tmp 0)⟩,
                        ⟨some 128, none, .mov (.tmp 14)⟩,
                        ⟨some 129, none, .bin .add (.tmp 128) (.const (.int .i64 (1)))⟩,
                        ⟨some 130, none, .mov (.tmp 2)⟩,
                        ⟨some 131, none, .mov (.tmp 3)⟩,
                        ⟨some 132, none, .call 29 [(.tmp 127), (.tmp 129), (.tmp 130), (.tmp 131)]⟩])
                      (.ops [⟨some 133, none, .mov (.tmp 14)⟩,
                        ⟨some 2, none, .mov (.tmp 133)⟩]))))))))))))))))))))))⟩

/-- math/bits.Len -/
def c30 : AFunc := ⟨8, 1, [.inl 2],
 (.seq
  (.ops [⟨some 2, none, .mov (.const (.int .i64 (0)))⟩])
  (.seq
   (.cond (.const (.bool false))
    (.seq
     (.ops [⟨some 3, none, .mov (.tmp 0)⟩,
       ⟨some 4, none, .cvInt .u32 (.tmp 3)⟩,
       ⟨some 5, none, .call 40 [(.tmp 4)]⟩,
       ⟨some 2, none, .mov (.tmp 5)⟩])
     .ret)
    .skip)
   (.seq
    (.ops [⟨some 6, none, .mov (.tmp 0)⟩,
      ⟨some 7, none, .call 41 [(.tmp 6)]⟩,
      ⟨some 2, none, .mov (.tmp 7)⟩])
    .ret)))⟩

/-- slices.insertionSortOrdered[int] -/
def c31 : AFunc := ⟨49, 3, [],
 (.seq
  (.ops [⟨some 8, none, .mov (.tmp 1)⟩,
    ⟨some 9, none, .bin .add (.tmp 8) (.const (.int .i64 (1)))⟩,
    ⟨some 6, none, .mov (.tmp 9)⟩])
  (.block 0
   (.loop
    (.seq
     (.seq
      (.ops [⟨some 10, none, .mov (.tmp 6)⟩,
        ⟨some 11, none, .mov (.tmp 2)⟩,
        ⟨some 12, none, .bin .lss (.tmp 10) (.tmp 11)⟩])
      (.cond (.tmp 12)
       .skip
       (.exit 0)))
     (.seq
      (.block 1
       (.seq
        (.ops [⟨some 15, none, .mov (.tmp 6)⟩,
          ⟨some 7, none, .mov (.tmp 15)⟩])
        (.block 2
         (.loop
          (.seq
           (.seq
            (.opsD [⟨some 16, none, .mov (.tmp 7)⟩,
              ⟨some 17, none, .mov (.tmp 1)⟩,
              ⟨some 18, none, .bin .gtr (.tmp 16) (.tmp 17)⟩,
              ⟨some 19, none, .mov (.tmp 18)⟩,
              ⟨some 20, some (19, true), .mov (.tmp 0)⟩,
              ⟨some 21, some (19, true), .mov (.tmp 7)⟩,
              ⟨some 22, some (19, true), .iaddrS 1 (.tmp 20) (.tmp 21)⟩,
              ⟨some 23, some (19, true), .load1 (.tmp 22)⟩,
              ⟨some 24, some (19, true), .mov (.tmp 0)⟩,
              ⟨some 25, some (19, true), .mov (.tmp 7)⟩,
              ⟨some 26, some (19, true), .bin .sub (.tmp 25) (.const (.int .i64 (1)))⟩,
              ⟨some 27, some (19, true), .iaddrS 1 (.tmp 24) (.tmp 26)⟩,
              ⟨some 28, some (19, true), .load1 (.tmp 27)⟩,
              ⟨some 29, some (19, true), .call 37 [(.tmp 23), (.tmp 28)]⟩,
              ⟨some 30, none, .pick (.tmp 19) (.tmp 29) (.const (.bool false))⟩] [])
            (.cond (.tmp 30)
             .skip
             (.exit 2)))
           (.seq
            (.block 3
             (.opsD [⟨some 33, none, .mov (.tmp 0)⟩,
               ⟨some 34, none, .mov (.tmp 7)⟩,
               ⟨some 35, none, .mov (.tmp 0)⟩,
               ⟨some 36, none, .mov (.tmp 7)⟩,
               ⟨some 37, none, .bin .sub (.tmp 36) (.const (.int .i64 (1)))⟩,
               ⟨some 38, none, .mov (.tmp 0)⟩,
               ⟨some 39, none, .mov (.tmp 7)⟩,
               ⟨some 40, none, .bin .sub (.tmp 39) (.const (.int .i64 (1)))⟩,
               ⟨some 41, none, .iaddrS 1 (.tmp 38) (.tmp 40)⟩,
               ⟨some 42, none, .load1 (.tmp 41)⟩,
               ⟨some 43, none, .mov (.tmp 0)⟩,
               ⟨some 44, none, .mov (.tmp 7)⟩,
               ⟨some 45, none, .iaddrS 1 (.tmp 43) (.tmp 44)⟩,
               ⟨some 46, none, .load1 (.tmp 45)⟩,
               ⟨some 47, none, .iaddrS 1 (.tmp 33) (.tmp 34)⟩,
               ⟨none, none, .store 1 (.tmp 47) (.tmp 42)⟩,
               ⟨some 48, none, .iaddrS 1 (.tmp 35) (.tmp 37)⟩,
               ⟨none, none, .store 1 (.tmp 48) (.tmp 46)⟩] []))
            (.ops [⟨some 31, none, .mov (.tmp 7)⟩,
              ⟨some 32, none, .bin .sub (.tmp 31) (.const (.int .i64 (1)))⟩,
              ⟨some 7, none, .mov (.tmp 32)⟩])))))))
      (.ops [⟨some 13, none, .mov (.tmp 6)⟩,
        ⟨some 14, none, .bin .add (.tmp 13) (.const (.int .i64 (1)))⟩,
        ⟨some 6, none, .mov (.tmp 14)⟩]))))))⟩

/-- slices.choosePivotOrdered[int] -/
def c34 : AFunc := ⟨57, 3, [.inl 6, .inl 7],
 (.seq
  (.ops [⟨some 6, none, .mov (.const (.int .i64 (0)))⟩,
    ⟨some 7, none, .mov (.const (.int .i64 (0)))⟩])
  (.seq
   (.ops [⟨some 13, none, .mov (.tmp 2)⟩,
     ⟨some 14, none, .mov (.tmp 1)⟩,
     ⟨some 15, none, .bin .sub (.tmp 13) (.tmp 14)⟩,
     ⟨some 8, none, .mov (.tmp 15)⟩])
   (.seq
    (.ops [⟨some 9, none, .alloc 3 [.int .i64 (0)]⟩])
    (.seq
     (.ops [⟨some 16, none, .mov (.tmp 1)⟩,
       ⟨some 17, none, .mov (.tmp 8)⟩,
       ⟨some 18, none, .bin .quo (.tmp 17) (.const (.int .i64 (4)))⟩,
       ⟨some 19, none, .bin .mul (.tmp 18) (.const (.int .i64 (1)))⟩,
       ⟨some 20, none, .bin .add (.tmp 16) (.tmp 19)⟩,
       ⟨some 10, none, .mov (.tmp 20)⟩])
     (.seq
      (.ops [⟨some 21, none, .mov (.tmp 1)⟩,
        ⟨some 22, none, .mov (.tmp 8)⟩,
        ⟨some 23, none, .bin .quo (.tmp 22) (.const (.int .i64 (4)))⟩,
        ⟨some 24, none, .bin .mul (.tmp 23) (.const (.int .i64 (2)))⟩,
        ⟨some 25, none, .bin .add (.tmp 21) (.tmp 24)⟩,
        ⟨some 11, none, .mov (.tmp 25)⟩])
      (.seq
       (.ops [⟨some 26, none, .mov (.tmp 1)⟩,
         ⟨some 27, none, .mov (.tmp 8)⟩,
         ⟨some 28, none, .bin .quo (.tmp 27) (.const (.int .i64 (4)))⟩,
         ⟨some 29, none, .bin .mul (.tmp 28) (.const (.int .i64 (3)))⟩,
         ⟨some 30, none, .bin .add (.tmp 26) (.tmp 29)⟩,
         ⟨some 12, none, .mov (.tmp 30)⟩])
       (.seq
        (.seq
         (.ops [⟨some 31, none, .mov (.tmp 8)⟩,
           ⟨some 32, none, .bin .geq (.tmp 31) (.const (.int .i64 (8)))⟩])
         (.cond (.tmp 32)
          (.seq
           (.seq
            (.ops [⟨some 33, none, .mov (.tmp 8)⟩,
              ⟨some 34, none, .bin .geq (.tmp 33) (.const (.int .i64 (50)))⟩])
            (.cond (.tmp 34)
             (.seq
              (.ops [⟨some 35, none, .mov (.tmp 0)⟩,
                ⟨some 36, none, .mov (.tmp 10)⟩,
                ⟨some 37, none, .call 45 [(.tmp 35), (.tmp 36), (.tmp 9)]⟩,
                ⟨some 10, none, .mov (.tmp 37)⟩])
              (.seq
               (.ops [⟨some 38, none, .mov (.tmp 0)⟩,
                 ⟨some 39, none, .mov (.tmp 11)⟩,
                 ⟨some 40, none, .call 45 [(.tmp 38), (.tmp 39), (.tmp 9)]⟩,
                 ⟨some 11, none, .mov (.tmp 40)⟩])
               (.ops [⟨some 41, none, .mov (.tmp 0)⟩,
                 ⟨some 42, none, .mov (.tmp 12)⟩,
                 ⟨some 43, none, .call 45 [(.tmp 41), (.tmp 42), (.tmp 9)]⟩,
                 ⟨some 12, none, .mov (.tmp 43)⟩])))
             .skip))
           (.ops [⟨some 44, none, .mov (.tmp 0)⟩,
             ⟨some 45, none, .mov (.tmp 10)⟩,
             ⟨some 46, none, .mov (.tmp 11)⟩,
             ⟨some 47, none, .mov (.tmp 12)⟩,
             ⟨some 48, none, .call 46 [(.tmp 44), (.tmp 45), (.tmp 46), (.tmp 47), (.tmp 9)]⟩,
             ⟨some 11, none, .mov (.tmp 48)⟩]))
          .skip))
        (.seq
         (.ops [⟨some 49, none, .load1 (.tmp 9)⟩])
         (.block 0
          (.seq
           (.ops [⟨some 52, none, .bin .eql (.tmp 49) (.const (.int .i64 (0)))⟩,
             ⟨some 51, none, .mov (.tmp 52)⟩])
           (.cond (.tmp 51)
            (.seq
             (.ops [⟨some 53, none, .mov (.tmp 11)⟩,
               ⟨some 6, none, .mov (.tmp 53)⟩,
               ⟨some 7, none, .mov (.const (.int .i64 (1)))⟩])
             .ret)
            (.seq
             (.ops [⟨some 55, none, .bin .eql (.tmp 49) (.const (.int .i64 (12)))⟩,
               ⟨some 54, none, .mov (.tmp 55)⟩])
             (.cond (.tmp 54)
              (.seq
               (.ops [⟨some 56, none, .mov (.tmp 11)⟩,
                 ⟨some 6, none, .mov (.tmp 56)⟩,
                 ⟨some 7, none, .mov (.const (.int .i64 (2)))⟩])
               .ret)
              (.seq
               (.ops [⟨some 50, none, .mov (.tmp 11)⟩,
                 ⟨some 6, none, .mov (.tmp 50)⟩,
                 ⟨some 7, none, .mov (.const (.int .i64 (0)))⟩])
               .ret))))))))))))))⟩

/-- slices.partialInsertionSortOrdered[int] -/
def c36 : AFunc := ⟨133, 3, [.inl 6],
 (.seq
  (.ops [⟨some 6, none, .mov (.const (.bool false))⟩])
  (.seq
   (.ops [⟨some 11, none, .mov (.tmp 1)⟩,
     ⟨some 12, none, .bin .add (.tmp 11) (.const (.int .i64 (1)))⟩,
     ⟨some 7, none, .mov (.tmp 12)⟩])
   (.seq
    (.seq
     (.ops [⟨some 8, none, .mov (.const (.int .i64 (0)))⟩])
     (.block 0
      (.loop
       (.seq
        (.seq
         (.ops [⟨some 13, none, .mov (.tmp 8)⟩,
           ⟨some 14, none, .bin .lss (.tmp 13) (.const (.int .i64 (5)))⟩])
         (.cond (.tmp 14)
          .skip
          (.exit 0)))
        (.seq
         (.block 1
          (.seq
           (.block 2
            (.loop
             (.seq
              (.seq
               (.opsD [⟨some 17, none, .mov (.tmp 7)⟩,
                 ⟨some 18, none, .mov (.tmp 2)⟩,
                 ⟨some 19, none, .bin .lss (.tmp 17) (.tmp 18)⟩,
                 ⟨some 20, none, .mov (.tmp 19)⟩,
                 ⟨some 21, some (20, true), .mov (.tmp 0)⟩,
                 ⟨some 22, some (20, true), .mov (.tmp 7)⟩,
                 ⟨some 23, some (20, true), .iaddrS 1 (.tmp 21) (.tmp 22)⟩,
                 ⟨some 24, some (20, true), .load1 (.tmp 23)⟩,
                 ⟨some 25, some (20, true), .mov (.tmp 0)⟩,
                 ⟨some 26, some (20, true), .mov (.tmp 7)⟩,
                 ⟨some 27, some (20, true), .bin .sub (.tmp 26) (.const (.int .i64 (1)))⟩,
                 ⟨some 28, some (20, true), .iaddrS 1 (.tmp 25) (.tmp 27)⟩,
                 ⟨some 29, some (20, true), .load1 (.tmp 28)⟩,
                 ⟨some 30, some (20, true), .call 37 [(.tmp 24), (.tmp 29)]⟩,
                 ⟨some 31, some (20, true), .un .not (.tmp 30)⟩,
                 ⟨some 32, none, .pick (.tmp 20) (.tmp 31) (.const (.bool false))⟩] [])
               (.cond (.tmp 32)
                .skip
                (.exit 2)))
              (.block 3
               (.ops [⟨some 33, none, .mov (.tmp 7)⟩,
                 ⟨some 34, none, .bin .add (.tmp 33) (.const (.int .i64 (1)))⟩,
                 ⟨some 7, none, .mov (.tmp 34)⟩])))))
           (.seq
            (.seq
             (.ops [⟨some 35, none, .mov (.tmp 7)⟩,
               ⟨some 36, none, .mov (.tmp 2)⟩,
               ⟨some 37, none, .bin .eql (.tmp 35) (.tmp 36)⟩])
             (.cond (.tmp 37)
              (.seq
               (.ops [⟨some 6, none, .mov (.const (.bool true))⟩])
               .ret)
              .skip))
            (.seq
             (.seq
              (.ops [⟨some 38, none, .mov (.tmp 2)⟩,
                ⟨some 39, none, .mov (.tmp 1)⟩,
                ⟨some 40, none, .bin .sub (.tmp 38) (.tmp 39)⟩,
                ⟨some 41, none, .bin .lss (.tmp 40) (.const (.int .i64 (50)))⟩])
              (.cond (.tmp 41)
               (.seq
                (.ops [⟨some 6, none, .mov (.const (.bool false))⟩])
                .ret)
               .skip))
             (.seq
              (.opsD [⟨some 42, none, .mov (.tmp 0)⟩,
                ⟨some 43, none, .mov (.tmp 7)⟩,
                ⟨some 44, none, .mov (.tmp 0)⟩,
                ⟨some 45, none, .mov (.tmp 7)⟩,
                ⟨some 46, none, .bin .sub (.tmp 45) (.const (.int .i64 (1)))⟩,
                ⟨some 47, none, .mov (.tmp 0)⟩,
                ⟨some 48, none, .mov (.tmp 7)⟩,
                ⟨some 49, none, .bin .sub (.tmp 48) (.const (.int .i64 (1)))⟩,
                ⟨some 50, none, .iaddrS 1 (.tmp 47) (.tmp 49)⟩,
                ⟨some 51, none, .load1 (.tmp 50)⟩,
                ⟨some 52, none, .mov (.tmp 0)⟩,
                ⟨some 53, none, .mov (.tmp 7)⟩,
                ⟨some 54, none, .iaddrS 1 (.tmp 52) (.tmp 53)⟩,
                ⟨some 55, none, .load1 (.tmp 54)⟩,
                ⟨some 56, none, .iaddrS 1 (.tmp 42) (.tmp 43)⟩,
                ⟨none, none, .store 1 (.tmp 56) (.tmp 51)⟩,
                ⟨some 57, none, .iaddrS 1 (.tmp 44) (.tmp 46)⟩,
                ⟨none, none, .store 1 (.tmp 57) (.tmp 55)⟩] [])
              (.seq
               (.seq
                (.ops [⟨some 58, none, .mov (.tmp 7)⟩,
                  ⟨some 59, none, .mov (.tmp 1)⟩,
                  ⟨some 60, none, .bin .sub (.tmp 58) (.tmp 59)⟩,
                  ⟨some 61, none, .bin .geq (.tmp 60) (.const (.int .i64 (2)))⟩])
                (.cond (.tmp 61)
                 (.seq
                  (.ops [⟨some 62, none, .mov (.tmp 7)⟩,
                    ⟨some 63, none, .bin .sub (.tmp 62) (.const (.int .i64 (1)))⟩,
                    ⟨some 9, none, .mov (.tmp 63)⟩])
                  (.block 4
                   (.loop
                    (.seq
                     (.seq
                      (.ops [⟨some 64, none, .mov (.tmp 9)⟩,
                        ⟨some 65, none, .bin .geq (.tmp 64) (.const (.int .i64 (1)))⟩])
                      (.cond (.tmp 65)
                       .skip
                       (.exit 4)))
                     (.seq
                      (.block 5
                       (.seq
                        (.seq
                         (.opsD [⟨some 68, none, .mov (.tmp 0)⟩,
                           ⟨some 69, none, .mov (.tmp 9)⟩,
                           ⟨some 70, none, .iaddrS 1 (.tmp 68) (.tmp 69)⟩,
                           ⟨some 71, none, .load1 (.tmp 70)⟩,
                           ⟨some 72, none, .mov (.tmp 0)⟩,
                           ⟨some 73, none, .mov (.tmp 9)⟩,
                           ⟨some 74, none, .bin .sub (.tmp 73) (.const (.int .i64 (1)))⟩,
                           ⟨some 75, none, .iaddrS 1 (.tmp 72) (.tmp 74)⟩,
                           ⟨some 76, none, .load1 (.tmp 75)⟩,
                           ⟨some 77, none, .call 37 [(.tmp 71), (.tmp 76)]⟩,
                           ⟨some 78, none, .un .not (.tmp 77)⟩] [])
                         (.cond (.tmp 78)
                          (.exit 4)
                          .skip))
                        (.opsD [⟨some 79, none, .mov (.tmp 0)⟩,
                          ⟨some 80, none, .mov (.tmp 9)⟩,
                          ⟨some 81, none, .mov (.tmp 0)⟩,
                          ⟨some 82, none, .mov (.tmp 9)⟩,
                          ⟨some 83, none, .bin .sub (.tmp 82) (.const (.int .i64 (1)))⟩,
                          ⟨some 84, none, .mov (.tmp 0)⟩,
                          ⟨some 85, none, .mov (.tmp 9)⟩,
                          ⟨some 86, none, .bin .sub (.tmp 85) (.const (.int .i64 (1)))⟩,
                          ⟨some 87, none, .iaddrS 1 (.tmp 84) (.tmp 86)⟩,
                          ⟨some 88, none, .load1 (.tmp 87)⟩,
                          ⟨some 89, none, .mov (.tmp 0)⟩,
                          ⟨some 90, none, .mov (.tmp 9)⟩,
                          ⟨some 91, none, .iaddrS 1 (.tmp 89) (.tmp 90)⟩,
                          ⟨some 92, none, .load1 (.tmp 91)⟩,
                          ⟨some 93, none, .iaddrS 1 (.tmp 79) (.tmp 80)⟩,
                          ⟨none, none, .store 1 (.tmp 93) (.tmp 88)⟩,
                          ⟨some 94, none, .iaddrS 1 (.tmp 81) (.tmp 83)⟩,
                          ⟨none, none, .store 1 (.tmp 94) (.tmp 92)⟩] [])))
                      (.ops [⟨some 66, none, .mov (.tmp 9)⟩,
                        ⟨some 67, none, .bin .sub (.tmp 66) (.const (.int .i64 (1)))⟩,
                        ⟨some 9, none, .mov (.tmp 67)⟩]))))))
                 .skip))
               (.seq
                (.ops [⟨some 95, none, .mov (.tmp 2)⟩,
                  ⟨some 96, none, .mov (.tmp 7)⟩,
                  ⟨some 97, none, .bin .sub (.tmp 95) (.tmp 96)⟩,
                  ⟨some 98, none, .bin .geq (.tmp 97) (.const (.int .i64 (2)))⟩])
                (.cond (.tmp 98)
                 (.seq
                  (.ops [⟨some 99, none, .mov (.tmp 7)⟩,
                    ⟨some 100, none, .bin .add (.tmp 99) (.const (.int .i64 (1)))⟩,
                    ⟨some 10, none, .mov (.tmp 100)⟩])
                  (.block 6
                   (.loop
                    (.seq
                     (.seq
                      (.ops [⟨some 101, none, .mov (.tmp 10)⟩,
                        ⟨some 102, none, .mov (.tmp 2)⟩,
                        ⟨some 103, none, .bin .lss (.tmp 101) (.tmp 102)⟩])
                      (.cond (.tmp 103)
                       .skip
                       (.exit 6)))
                     (.seq
                      (.block 7
                       (.seq
                        (.seq
                         (.opsD [⟨some 106, none, .mov (.tmp 0)⟩,
                           ⟨some 107, none, .mov (.tmp 10)⟩,
                           ⟨some 108, none, .iaddrS 1 (.tmp 106) (.tmp 107)⟩,
                           ⟨some 109, none, .load1 (.tmp 108)⟩,
                           ⟨some 110, none, .mov (.tmp 0)⟩,
                           ⟨some 111, none, .mov (.tmp 10)⟩,
                           ⟨some 112, none, .bin .sub (.tmp 111) (.const (.int .i64 (1)))⟩,
                           ⟨some 113, none, .iaddrS 1 (.tmp 110) (.tmp 112)⟩,
                           ⟨some 114, none, .load1 (.tmp 113)⟩,
                           ⟨some 115, none, .call 37 [(.tmp 109), (.tmp 114)]⟩,
                           ⟨some 116, none, .un .not (.tmp 115)⟩] [])
                         (.cond (.tmp 116)
                          (.exit 6)
                          .skip))
                        (.opsD [⟨some 117, none, .mov (.tmp 0)⟩,
                          ⟨some 118, none, .mov (.tmp 10)⟩,
                          ⟨some 119, none, .mov (.tmp 0)⟩,
                          ⟨some 120, none, .mov (.tmp 10)⟩,
                          ⟨some 121, none, .bin .sub (.tmp 120) (.const (.int .i64 (1)))⟩,
                          ⟨some 122, none, .mov (.tmp 0)⟩,
                          ⟨some 123, none, .mov (.tmp 10)⟩,
                          ⟨some 124, none, .bin .sub (.tmp 123) (.const (.int .i64 (1)))⟩,
                          ⟨some 125, none, .iaddrS 1 (.tmp 122) (.tmp 124)⟩,
                          ⟨some 126, none, .load1 (.tmp 125)⟩,
                          ⟨some 127, none, .mov (.tmp 0)⟩,
                          ⟨some 128, none, .mov (.tmp 10)⟩,
                          ⟨some 129, none, .iaddrS 1 (.tmp 127) (.tmp 128)⟩,
                          ⟨some 130, none, .load1 (.tmp 129)⟩,
                          ⟨some 131, none, .iaddrS 1 (.tmp 117) (.tmp 118)⟩,
                          ⟨none, none, .store 1 (.tmp 131) (.tmp 126)⟩,
                          ⟨some 132, none, .iaddrS 1 (.tmp 119) (.tmp 121)⟩,
                          ⟨none, none, .store 1 (.tmp 132) (.tmp 130)⟩] [])))
                      (.ops [⟨some 104, none, .mov (.tmp 10)⟩,
                        ⟨some 105, none, .bin .add (.tmp 104) (.const (.int .i64 (1)))⟩,
                        ⟨some 10, none, .mov (.tmp 105)⟩]))))))
                 .skip))))))))
         (.ops [⟨some 15, none, .mov (.tmp 8)⟩,
           ⟨some 16, none, .bin .add (.tmp 15) (.const (.int .i64 (1)))⟩,
           ⟨some 8, none, .mov (.tmp 16)⟩]))))))
    (.seq
     (.ops [⟨some 6, none, .mov (.const (.bool false))⟩])
     .ret))))⟩

/-- cmp.Less[int] -/
def c37 : AFunc := ⟨17, 2, [.inl 4],
 (.seq
  (.ops [⟨some 4, none, .mov (.const (.bool false))⟩])
  (.seq
   (.ops [⟨some 5, none, .mov (.tmp 0)⟩,
     ⟨some 6, none, .call 27 [(.tmp 5)]⟩,
     ⟨some 7, none, .mov (.tmp 6)⟩,
     ⟨some 8, some (7, true), .mov (.tmp 1)⟩,
     ⟨some 9, some (7, true), .call 27 [(.tmp 8)]⟩,
     ⟨some 10, some (7, true), .un .not (.tmp 9)⟩,
     ⟨some 11, none, .pick (.tmp 7) (.tmp 10) (.const (.bool false))⟩,
     ⟨some 12, none, .mov (.tmp 11)⟩,
     ⟨some 13, some (12, false), .mov (.tmp 0)⟩,
     ⟨some 14, some (12, false), .mov (.tmp 1)⟩,
     ⟨some 15, some (12, false), .bin .lss (.tmp 13) (.tmp 14)⟩,
     ⟨some 16, none, .pick (.tmp 12) (.const (.bool true)) (.tmp 15)⟩,
     ⟨some 4, none, .mov (.tmp 16)⟩])
   .ret))⟩

/-- math/bits.Len32 -/
def c40 : AFunc := ⟨19, 1, [.inl 2],
 (.seq
  (.ops [⟨some 2, none, .mov (.const (.int .i64 (0)))⟩])
  (.seq
   (.seq
    (.ops [⟨some 3, none, .mov (.tmp 0)⟩,
      ⟨some 4, none, .bin .geq (.tmp 3) (.const (.int .u32 (65536)))⟩])
    (.cond (.tmp 4)
     (.seq
      (.ops [⟨some 5, none, .mov (.tmp 0)⟩,
        ⟨some 6, none, .bin .shr (.tmp 5) (.const (.int .u64 (16)))⟩,
        ⟨some 0, none, .mov (.tmp 6)⟩])
      (.ops [⟨some 2, none, .mov (.const (.int .i64 (16)))⟩]))
     .skip))
   (.seq
    (.seq
     (.ops [⟨some 7, none, .mov (.tmp 0)⟩,
       ⟨some 8, none, .bin .geq (.tmp 7) (.const (.int .u32 (256)))⟩])
     (.cond (.tmp 8)
      (.seq
       (.ops [⟨some 9, none, .mov (.tmp 0)⟩,
         ⟨some 10, none, .bin .shr (.tmp 9) (.const (.int .u64 (8)))⟩,
         ⟨some 0, none, .mov (.tmp 10)⟩])
       (.ops [⟨some 11, none, .mov (.tmp 2)⟩,
         ⟨some 12, none, .bin .add (.tmp 11) (.const (.int .i64 (8)))⟩,
         ⟨some 2, none, .mov (.tmp 12)⟩]))
      .skip))
    (.seq
     (.ops [⟨some 13, none, .mov (.tmp 2)⟩,
       ⟨some 14, none, .mov (.tmp 0)⟩,
       ⟨some 15, none, .cvInt .u8 (.tmp 14)⟩,
       ⟨some 16, none, .idxS (.const (.string ⟨⟨tab8⟩⟩)) (.tmp 15)⟩,
       ⟨some 17, none, .cvInt .i64 (.tmp 16)⟩,
       ⟨some 18, none, .bin .add (.tmp 13) (.tmp 17)⟩,
       ⟨some 2, none, .mov (.tmp 18)⟩])
     .ret))))⟩

/-- math/bits.Len64 -/
def c41 : AFunc := ⟨25, 1, [.inl 2],
 (.seq
  (.ops [⟨some 2, none, .mov (.const (.int .i64 (0)))⟩])
  (.seq
   (.seq
    (.ops [⟨some 3, none, .mov (.tmp 0)⟩,
      ⟨some 4, none, .bin .geq (.tmp 3) (.const (.int .u64 (4294967296)))⟩])
    (.cond (.tmp 4)
     (.seq
      (.ops [⟨some 5, none, .mov (.tmp 0)⟩,
        ⟨some 6, none, .bin .shr (.tmp 5) (.const (.int .u64 (32)))⟩,
        ⟨some 0, none, .mov (.tmp 6)⟩])
      (.ops [⟨some 2, none, .mov (.const (.int .i64 (32)))⟩]))
     .skip))
   (.seq
    (.seq
     (.ops [⟨some 7, none, .mov (.tmp 0)⟩,
       ⟨some 8, none, .bin .geq (.tmp 7) (.const (.int .u64 (65536)))⟩])
     (.cond (.tmp 8)
      (.seq
       (.ops [⟨some 9, none, .mov (.tmp 0)⟩,
         ⟨some 10, none, .bin .shr (.tmp 9) (.const (.int .u64 (16)))⟩,
         ⟨some 0, none, .mov (.tmp 10)⟩])
       (.ops [⟨some 11, none, .mov (.tmp 2)⟩,
         ⟨some 12, none, .bin .add (.tmp 11) (.const (.int .i64 (16)))⟩,
         ⟨some 2, none, .mov (.tmp 12)⟩]))
      .skip))
    (.seq
     (.seq
      (.ops [⟨some 13, none, .mov (.tmp 0)⟩,
        ⟨some 14, none, .bin .geq (.tmp 13) (.const (.int .u64 (256)))⟩])
      (.cond (.tmp 14)
       (.seq
        (.ops [⟨some 15, none, .mov (.tmp 0)⟩,
          ⟨some 16, none, .bin .shr (.tmp 15) (.const (.int .u64 (8)))⟩,
          ⟨some 0, none, .mov (.tmp 16)⟩])
        (.ops [⟨some 17, none, .mov (.tmp 2)⟩,
          ⟨some 18, none, .bin .add (.tmp 17) (.const (.int .i64 (8)))⟩,
          ⟨some 2, none, .mov (.tmp 18)⟩]))
       .skip))
     (.seq
      (.ops [⟨some 19, none, .mov (.tmp 2)⟩,
        ⟨some 20, none, .mov (.tmp 0)⟩,
        ⟨some 21, none, .cvInt .u8 (.tmp 20)⟩,
        ⟨some 22, none, .idxS (.const (.string ⟨⟨tab8⟩⟩)) (.tmp 21)⟩,
        ⟨some 23, none, .cvInt .i64 (.tmp 22)⟩,
        ⟨some 24, none, .bin .add (.tmp 19) (.tmp 23)⟩,
        ⟨some 2, none, .mov (.tmp 24)⟩])
      .ret)))))⟩

/-- slices.medianOrdered[int] -/
def c46 : AFunc := ⟨36, 5, [.inl 10],
 (.seq
  (.ops [⟨some 10, none, .mov (.const (.int .i64 (0)))⟩])
  (.seq
   (.ops [⟨some 12, none, .mov (.tmp 0)⟩,
     ⟨some 13, none, .mov (.tmp 1)⟩,
     ⟨some 14, none, .mov (.tmp 2)⟩,
     ⟨some 15, none, .mov (.tmp 4)⟩,
     ⟨some 16, none, .call 47 [(.tmp 12), (.tmp 13), (.tmp 14), (.tmp 15)]⟩,
     ⟨some 11, none, .mov (.tmp 16)⟩,
     ⟨some 17, none, .ext (.tmp 11) 0⟩,
     ⟨some 18, none, .ext (.tmp 11) 1⟩,
     ⟨some 1, none, .mov (.tmp 17)⟩,
     ⟨some 2, none, .mov (.tmp 18)⟩])
   (.seq
    (.ops [⟨some 20, none, .mov (.tmp 0)⟩,
      ⟨some 21, none, .mov (.tmp 2)⟩,
      ⟨some 22, none, .mov (.tmp 3)⟩,
      ⟨some 23, none, .mov (.tmp 4)⟩,
      ⟨some 24, none, .call 47 [(.tmp 20), (.tmp 21), (.tmp 22), (.tmp 23)]⟩,
      ⟨some 19, none, .mov (.tmp 24)⟩,
      ⟨some 25, none, .ext (.tmp 19) 0⟩,
      ⟨some 26, none, .ext (.tmp 19) 1⟩,
      ⟨some 2, none, .mov (.tmp 25)⟩,
      ⟨some 3, none, .mov (.tmp 26)⟩])
    (.seq
     (.ops [⟨some 28, none, .mov (.tmp 0)⟩,
       ⟨some 29, none, .mov (.tmp 1)⟩,
       ⟨some 30, none, .mov (.tmp 2)⟩,
       ⟨some 31, none, .mov (.tmp 4)⟩,
       ⟨some 32, none, .call 47 [(.tmp 28), (.tmp 29), (.tmp 30), (.tmp 31)]⟩,
       ⟨some 27, none, .mov (.tmp 32)⟩,
       ⟨some 33, none, .ext (.tmp 27) 0⟩,
       ⟨some 34, none, .ext (.tmp 27) 1⟩,
       ⟨some 1, none, .mov (.tmp 33)⟩,
       ⟨some 2, none, .mov (.tmp 34)⟩])
     (.seq
      (.ops [⟨some 35, none, .mov (.tmp 2)⟩,
        ⟨some 10, none, .mov (.tmp 35)⟩])
      .ret)))))⟩

/-- slices.order2Ordered[int] -/
def c47 : AFunc := ⟨28, 4, [.inl 8, .inl 9],
 (.seq
  (.ops [⟨some 8, none, .mov (.const (.int .i64 (0)))⟩,
    ⟨some 9, none, .mov (.const (.int .i64 (0)))⟩])
  (.seq
   (.seq
    (.opsD [⟨some 10, none, .mov (.tmp 0)⟩,
      ⟨some 11, none, .mov (.tmp 2)⟩,
      ⟨some 12, none, .iaddrS 1 (.tmp 10) (.tmp 11)⟩,
      ⟨some 13, none, .load1 (.tmp 12)⟩,
      ⟨some 14, none, .mov (.tmp 0)⟩,
      ⟨some 15, none, .mov (.tmp 1)⟩,
      ⟨some 16, none, .iaddrS 1 (.tmp 14) (.tmp 15)⟩,
      ⟨some 17, none, .load1 (.tmp 16)⟩,
      ⟨some 18, none, .call 37 [(.tmp 13), (.tmp 17)]⟩] [])
    (.cond (.tmp 18)
     (.seq
      (.ops [⟨some 19, none, .mov (.tmp 3)⟩,
        ⟨some 20, none, .nilchk (.tmp 19)⟩,
        ⟨some 21, none, .load1 (.tmp 20)⟩,
        ⟨some 22, none, .bin .add (.tmp 21) (.const (.int .i64 (1)))⟩,
        ⟨some 23, none, .nilchk (.tmp 19)⟩,
        ⟨none, none, .store 1 (.tmp 23) (.tmp 22)⟩])
      (.seq
       (.ops [⟨some 24, none, .mov (.tmp 2)⟩,
         ⟨some 25, none, .mov (.tmp 1)⟩,
         ⟨some 8, none, .mov (.tmp 24)⟩,
         ⟨some 9, none, .mov (.tmp 25)⟩])
       .ret))
     .skip))
   (.seq
    (.ops [⟨some 26, none, .mov (.tmp 1)⟩,
      ⟨some 27, none, .mov (.tmp 2)⟩,
      ⟨some 8, none, .mov (.tmp 26)⟩,
      ⟨some 9, none, .mov (.tmp 27)⟩])
    .ret)))⟩


def c8a : ACode := (.ops [⟨some 10, none, .alloc 25 [.int .i64 (0), .bool false, .bool false, .int .i64 (0)]⟩,
          ⟨none, none, .store 4 (.tmp 10) (.tmp 22)⟩])
def c8b : ACode := (.block 1
         (.ops [⟨some 23, none, .load1 (.tmp 8)⟩,
           ⟨some 24, none, .faddr 0 (.tmp 10)⟩,
           ⟨some 25, none, .load1 (.tmp 24)⟩,
           ⟨some 26, none, .bslice 3 1 [.int .i64 (0)] [(0, 1, (.tmp 25))]⟩,
           ⟨some 27, none, .append 3 1 8 (.tmp 23) (.tmp 26)⟩,
           ⟨none, none, .store 1 (.tmp 8) (.tmp 27)⟩]))
theorem t4 : T 4 = some c4 := by kernel_rfl
theorem t8 : T 8 = some c8 := by kernel_rfl
theorem t19 : T 19 = some c19 := by kernel_rfl
theorem t20 : T 20 = some c20 := by kernel_rfl
theorem t21 : T 21 = some c21 := by kernel_rfl
theorem t22 : T 22 = some c22 := by kernel_rfl
theorem t23 : T 23 = some c23 := by kernel_rfl
theorem t24 : T 24 = some c24 := by kernel_rfl
theorem t28 : T 28 = some c28 := by kernel_rfl
theorem t29 : T 29 = some c29 := by kernel_rfl
theorem t30 : T 30 = some c30 := by kernel_rfl
theorem t31 : T 31 = some c31 := by kernel_rfl
theorem t34 : T 34 = some c34 := by kernel_rfl
theorem t36 : T 36 = some c36 := by kernel_rfl
theorem t37 : T 37 = some c37 := by kernel_rfl
theorem t40 : T 40 = some c40 := by kernel_rfl
theorem t41 : T 41 = some c41 := by kernel_rfl
theorem t46 : T 46 = some c46 := by kernel_rfl
theorem t47 : T 47 = some c47 := by kernel_rfl
end Go.Proofs.Ytbhhmnokddkhmaa
