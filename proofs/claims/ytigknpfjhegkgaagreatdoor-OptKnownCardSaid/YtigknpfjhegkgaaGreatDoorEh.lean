/- Functions that panic and recover, by what stands for them. -/
import Derived.Test.YtigknpfjhegkgaaGreatDoorM3
import Derived.Test.YtigknpfjhegkgaaGreatDoorProg
import Derived.Test.YtigknpfjhegkgaaGreatDoorChecked
import Derived.KernelRfl
set_option linter.unusedSimpArgs false
set_option linter.unusedVariables false
namespace Go.Proofs.YtigknpfjhegkgaaGreatDoor
open Go Go.AS
set_option maxRecDepth 100000
theorem PC_panic {P : Program} {id : Nat} {ops : Array Oper} {o : Oper} {aos : List AOper} {k : Nat} (h : ops.toList.getLast? = some o) (hg : o.guard = none) (hop : o.op = .panic (.tmp k)) (hm : ops.toList.dropLast.mapM (compileOper P ops) = some aos) : PC P (.region id ops false) (.seq (.ops aos) (.exit (1000000 + k))) := by
  refine PC.panic (pre := ops.toList.dropLast) (o := o) ?_ hg hop hm
  obtain ⟨l⟩ := ops
  simp only at h ⊢
  rcases List.eq_nil_or_concat l with rfl | ⟨m, x, rfl⟩
  · simp at h
  · simp at h
    subst h
    simp
/-- plait/ctrl.decode[plait/api.Prio]: what is guarded -/
def i149 : ACode :=
 (.seq
  (.seq
   (.ops [⟨some 13, none, .mov (.tmp 0)⟩,
     ⟨some 14, none, .bin .eql (.tmp 13) (.const (.string ⟨⟨[]⟩⟩))⟩])
   (.cond (.tmp 14)
    (.seq
     (.ops [⟨some 15, none, .build [.int .i64 (0)] [(0, 1, (.const (.int .i64 (4))))]⟩,
       ⟨some 16, none, .mkI 241 (.tmp 15)⟩])
     (.exit 1000016))
    .skip))
  (.seq
   (.ops [⟨some 17, none, .mov (.tmp 0)⟩,
     ⟨some 18, none, .call 124 [(.tmp 17)]⟩,
     ⟨some 9, none, .mov (.tmp 18)⟩])
   (.seq
    (.ops [⟨some 19, none, .mov (.tmp 9)⟩,
      ⟨some 20, none, .call 129 [(.tmp 19)]⟩,
      ⟨some 10, none, .mov (.tmp 20)⟩])
    (.seq
     (.seq
      (.ops [⟨some 21, none, .mov (.tmp 10)⟩,
        ⟨some 22, none, .bin .shr (.tmp 21) (.const (.int .u64 (4)))⟩,
        ⟨some 23, none, .cvInt .i64 (.tmp 22)⟩,
        ⟨some 24, none, .mov (.tmp 1)⟩,
        ⟨some 25, none, .bin .neq (.tmp 23) (.tmp 24)⟩])
      (.cond (.tmp 25)
       (.seq
        (.ops [⟨some 26, none, .build [.int .i64 (0)] [(0, 1, (.const (.int .i64 (7))))]⟩,
          ⟨some 27, none, .mkI 241 (.tmp 26)⟩])
        (.exit 1000027))
       .skip))
     (.seq
      (.ops [⟨some 28, none, .mov (.tmp 2)⟩,
        ⟨some 29, none, .mov (.tmp 10)⟩,
        ⟨some 30, none, .bin .and (.tmp 29) (.const (.int .u8 (15)))⟩,
        ⟨some 31, none, .mov (.tmp 9)⟩,
        ⟨some 32, none, .callv (.tmp 28) [(.tmp 30), (.tmp 31)]⟩,
        ⟨none, none, .store 1 (.tmp 6) (.tmp 32)⟩])
      (.seq
       (.seq
        (.ops [⟨some 33, none, .mov (.tmp 9)⟩,
          ⟨some 34, none, .call 141 [(.tmp 33)]⟩,
          ⟨some 11, none, .mov (.tmp 34)⟩])
        (.seq
         (.ops [⟨some 35, none, .mov (.tmp 11)⟩,
           ⟨some 36, none, .bin .neq (.tmp 35) (.const (.int .i64 (0)))⟩])
         (.cond (.tmp 36)
          (.seq
           (.ops [⟨some 37, none, .mov (.tmp 11)⟩,
             ⟨some 38, none, .build [.int .i64 (0)] [(0, 1, (.tmp 37))]⟩,
             ⟨some 39, none, .mkI 241 (.tmp 38)⟩])
           (.exit 1000039))
          .skip)))
       (.seq
        (.ops [⟨some 40, none, .loadN 1 (.tmp 6)⟩,
          ⟨none, none, .store 1 (.tmp 6) (.tmp 40)⟩,
          ⟨none, none, .store 1 (.tmp 7) (.const (.int .i64 (0)))⟩])
        .ret)))))))
/-- plait/ctrl.decode[plait/api.Prio]$1 -/
def q149 : ACode :=
 (.seq
  (.ops [⟨some 5, none, .mov (.tmp 3)⟩,
    ⟨some 6, none, .eq true true .iface (.tmp 5) (.const (.nilIface))⟩])
  (.cond (.tmp 6)
   (.opsD [⟨some 7, none, .loadN 1 (.tmp 0)⟩,
     ⟨some 8, none, .mov (.tmp 3)⟩,
     ⟨some 9, none, .tassert 241 (.tmp 8)⟩,
     ⟨some 10, none, .fld1 0 (.tmp 9)⟩,
     ⟨none, none, .store 1 (.tmp 1) (.tmp 7)⟩,
     ⟨none, none, .store 1 (.tmp 2) (.tmp 10)⟩] [])
   .skip))
/-- plait/ctrl.decode[plait/api.Prio]: what stands for it -/
def s149 : AFunc := ⟨41, 3, [.inr (6, 1, true), .inr (7, 1, false)], .seq (.ops [⟨some 6, none, .alloc 46 [.bool false]⟩, ⟨some 7, none, .alloc 31 [.int .i64 (0)]⟩]) (.seq (.ops [⟨some 8, none, .alloc 46 [.bool false]⟩]) (.seq (.ops [⟨some 12, none, .mkF 171 [] [(.tmp 8), (.tmp 6), (.tmp 7)]⟩]) (.guarded 171 12 11 4 3 q149 i149)))⟩
theorem s149_ok : SoundFn Tryz.prog 149 s149 := by
  refine guarded_sound (F := Tryz.f149) (Fc := Tryz.f171) (Checked.mixed Tryz.checked) Tryz.func149 rfl (by kernel_rfl) (by kernel_rfl) (by kernel_rfl) rfl rfl rfl ?_ Tryz.func171 (by kernel_rfl) rfl (by kernel_rfl) rfl rfl rfl rfl rfl rfl rfl (by kernel_rfl)
  exact (PC.seq (PC.seq (PC.reg (by kernel_rfl) rfl) (PC.cond rfl (by exact PC_panic (k := 16) rfl rfl rfl (by kernel_rfl)) (PC.reg (by kernel_rfl) rfl))) (PC.seq (PC.reg (by kernel_rfl) rfl) (PC.seq (PC.reg (by kernel_rfl) rfl) (PC.seq (PC.seq (PC.reg (by kernel_rfl) rfl) (PC.cond rfl (by exact PC_panic (k := 27) rfl rfl rfl (by kernel_rfl)) (PC.reg (by kernel_rfl) rfl))) (PC.seq (PC.reg (by kernel_rfl) rfl) (PC.seq (PC.seq (PC.reg (by kernel_rfl) rfl) (PC.seq (PC.reg (by kernel_rfl) rfl) (PC.cond rfl (by exact PC_panic (k := 39) rfl rfl rfl (by kernel_rfl)) (PC.reg (by kernel_rfl) rfl)))) (PC.seq (PC.reg (by kernel_rfl) rfl) (PC.reg (by kernel_rfl) rfl))))))))

/-- plait/ctrl.decode[plait/api.Fail]: what is guarded -/
def i152 : ACode :=
 (.seq
  (.seq
   (.ops [⟨some 13, none, .mov (.tmp 0)⟩,
     ⟨some 14, none, .bin .eql (.tmp 13) (.const (.string ⟨⟨[]⟩⟩))⟩])
   (.cond (.tmp 14)
    (.seq
     (.ops [⟨some 15, none, .build [.int .i64 (0)] [(0, 1, (.const (.int .i64 (4))))]⟩,
       ⟨some 16, none, .mkI 241 (.tmp 15)⟩])
     (.exit 1000016))
    .skip))
  (.seq
   (.ops [⟨some 17, none, .mov (.tmp 0)⟩,
     ⟨some 18, none, .call 124 [(.tmp 17)]⟩,
     ⟨some 9, none, .mov (.tmp 18)⟩])
   (.seq
    (.ops [⟨some 19, none, .mov (.tmp 9)⟩,
      ⟨some 20, none, .call 129 [(.tmp 19)]⟩,
      ⟨some 10, none, .mov (.tmp 20)⟩])
    (.seq
     (.seq
      (.ops [⟨some 21, none, .mov (.tmp 10)⟩,
        ⟨some 22, none, .bin .shr (.tmp 21) (.const (.int .u64 (4)))⟩,
        ⟨some 23, none, .cvInt .i64 (.tmp 22)⟩,
        ⟨some 24, none, .mov (.tmp 1)⟩,
        ⟨some 25, none, .bin .neq (.tmp 23) (.tmp 24)⟩])
      (.cond (.tmp 25)
       (.seq
        (.ops [⟨some 26, none, .build [.int .i64 (0)] [(0, 1, (.const (.int .i64 (7))))]⟩,
          ⟨some 27, none, .mkI 241 (.tmp 26)⟩])
        (.exit 1000027))
       .skip))
     (.seq
      (.ops [⟨some 28, none, .mov (.tmp 2)⟩,
        ⟨some 29, none, .mov (.tmp 10)⟩,
        ⟨some 30, none, .bin .and (.tmp 29) (.const (.int .u8 (15)))⟩,
        ⟨some 31, none, .mov (.tmp 9)⟩,
        ⟨some 32, none, .callv (.tmp 28) [(.tmp 30), (.tmp 31)]⟩,
        ⟨none, none, .store 1 (.tmp 6) (.tmp 32)⟩])
      (.seq
       (.seq
        (.ops [⟨some 33, none, .mov (.tmp 9)⟩,
          ⟨some 34, none, .call 141 [(.tmp 33)]⟩,
          ⟨some 11, none, .mov (.tmp 34)⟩])
        (.seq
         (.ops [⟨some 35, none, .mov (.tmp 11)⟩,
           ⟨some 36, none, .bin .neq (.tmp 35) (.const (.int .i64 (0)))⟩])
         (.cond (.tmp 36)
          (.seq
           (.ops [⟨some 37, none, .mov (.tmp 11)⟩,
             ⟨some 38, none, .build [.int .i64 (0)] [(0, 1, (.tmp 37))]⟩,
             ⟨some 39, none, .mkI 241 (.tmp 38)⟩])
           (.exit 1000039))
          .skip)))
       (.seq
        (.ops [⟨some 40, none, .loadN 1 (.tmp 6)⟩,
          ⟨none, none, .store 1 (.tmp 6) (.tmp 40)⟩,
          ⟨none, none, .store 1 (.tmp 7) (.const (.int .i64 (0)))⟩])
        .ret)))))))
/-- plait/ctrl.decode[plait/api.Fail]$1 -/
def q152 : ACode :=
 (.seq
  (.ops [⟨some 5, none, .mov (.tmp 3)⟩,
    ⟨some 6, none, .eq true true .iface (.tmp 5) (.const (.nilIface))⟩])
  (.cond (.tmp 6)
   (.opsD [⟨some 7, none, .loadN 1 (.tmp 0)⟩,
     ⟨some 8, none, .mov (.tmp 3)⟩,
     ⟨some 9, none, .tassert 241 (.tmp 8)⟩,
     ⟨some 10, none, .fld1 0 (.tmp 9)⟩,
     ⟨none, none, .store 1 (.tmp 1) (.tmp 7)⟩,
     ⟨none, none, .store 1 (.tmp 2) (.tmp 10)⟩] [])
   .skip))
/-- plait/ctrl.decode[plait/api.Fail]: what stands for it -/
def s152 : AFunc := ⟨41, 3, [.inr (6, 1, true), .inr (7, 1, false)], .seq (.ops [⟨some 6, none, .alloc 48 [.int .u64 (0)]⟩, ⟨some 7, none, .alloc 31 [.int .i64 (0)]⟩]) (.seq (.ops [⟨some 8, none, .alloc 48 [.int .u64 (0)]⟩]) (.seq (.ops [⟨some 12, none, .mkF 172 [] [(.tmp 8), (.tmp 6), (.tmp 7)]⟩]) (.guarded 172 12 11 4 3 q152 i152)))⟩
theorem s152_ok : SoundFn Tryz.prog 152 s152 := by
  refine guarded_sound (F := Tryz.f152) (Fc := Tryz.f172) (Checked.mixed Tryz.checked) Tryz.func152 rfl (by kernel_rfl) (by kernel_rfl) (by kernel_rfl) rfl rfl rfl ?_ Tryz.func172 (by kernel_rfl) rfl (by kernel_rfl) rfl rfl rfl rfl rfl rfl rfl (by kernel_rfl)
  exact (PC.seq (PC.seq (PC.reg (by kernel_rfl) rfl) (PC.cond rfl (by exact PC_panic (k := 16) rfl rfl rfl (by kernel_rfl)) (PC.reg (by kernel_rfl) rfl))) (PC.seq (PC.reg (by kernel_rfl) rfl) (PC.seq (PC.reg (by kernel_rfl) rfl) (PC.seq (PC.seq (PC.reg (by kernel_rfl) rfl) (PC.cond rfl (by exact PC_panic (k := 27) rfl rfl rfl (by kernel_rfl)) (PC.reg (by kernel_rfl) rfl))) (PC.seq (PC.reg (by kernel_rfl) rfl) (PC.seq (PC.seq (PC.reg (by kernel_rfl) rfl) (PC.seq (PC.reg (by kernel_rfl) rfl) (PC.cond rfl (by exact PC_panic (k := 39) rfl rfl rfl (by kernel_rfl)) (PC.reg (by kernel_rfl) rfl)))) (PC.seq (PC.reg (by kernel_rfl) rfl) (PC.reg (by kernel_rfl) rfl))))))))

/-- plait/ctrl.decode[plait/api.Fast]: what is guarded -/
def i154 : ACode :=
 (.seq
  (.seq
   (.ops [⟨some 13, none, .mov (.tmp 0)⟩,
     ⟨some 14, none, .bin .eql (.tmp 13) (.const (.string ⟨⟨[]⟩⟩))⟩])
   (.cond (.tmp 14)
    (.seq
     (.ops [⟨some 15, none, .build [.int .i64 (0)] [(0, 1, (.const (.int .i64 (4))))]⟩,
       ⟨some 16, none, .mkI 241 (.tmp 15)⟩])
     (.exit 1000016))
    .skip))
  (.seq
   (.ops [⟨some 17, none, .mov (.tmp 0)⟩,
     ⟨some 18, none, .call 124 [(.tmp 17)]⟩,
     ⟨some 9, none, .mov (.tmp 18)⟩])
   (.seq
    (.ops [⟨some 19, none, .mov (.tmp 9)⟩,
      ⟨some 20, none, .call 129 [(.tmp 19)]⟩,
      ⟨some 10, none, .mov (.tmp 20)⟩])
    (.seq
     (.seq
      (.ops [⟨some 21, none, .mov (.tmp 10)⟩,
        ⟨some 22, none, .bin .shr (.tmp 21) (.const (.int .u64 (4)))⟩,
        ⟨some 23, none, .cvInt .i64 (.tmp 22)⟩,
        ⟨some 24, none, .mov (.tmp 1)⟩,
        ⟨some 25, none, .bin .neq (.tmp 23) (.tmp 24)⟩])
      (.cond (.tmp 25)
       (.seq
        (.ops [⟨some 26, none, .build [.int .i64 (0)] [(0, 1, (.const (.int .i64 (7))))]⟩,
          ⟨some 27, none, .mkI 241 (.tmp 26)⟩])
        (.exit 1000027))
       .skip))
     (.seq
      (.ops [⟨some 28, none, .mov (.tmp 2)⟩,
        ⟨some 29, none, .mov (.tmp 10)⟩,
        ⟨some 30, none, .bin .and (.tmp 29) (.const (.int .u8 (15)))⟩,
        ⟨some 31, none, .mov (.tmp 9)⟩,
        ⟨some 32, none, .callv (.tmp 28) [(.tmp 30), (.tmp 31)]⟩,
        ⟨none, none, .store 1 (.tmp 6) (.tmp 32)⟩])
      (.seq
       (.seq
        (.ops [⟨some 33, none, .mov (.tmp 9)⟩,
          ⟨some 34, none, .call 141 [(.tmp 33)]⟩,
          ⟨some 11, none, .mov (.tmp 34)⟩])
        (.seq
         (.ops [⟨some 35, none, .mov (.tmp 11)⟩,
           ⟨some 36, none, .bin .neq (.tmp 35) (.const (.int .i64 (0)))⟩])
         (.cond (.tmp 36)
          (.seq
           (.ops [⟨some 37, none, .mov (.tmp 11)⟩,
             ⟨some 38, none, .build [.int .i64 (0)] [(0, 1, (.tmp 37))]⟩,
             ⟨some 39, none, .mkI 241 (.tmp 38)⟩])
           (.exit 1000039))
          .skip)))
       (.seq
        (.ops [⟨some 40, none, .loadN 1 (.tmp 6)⟩,
          ⟨none, none, .store 1 (.tmp 6) (.tmp 40)⟩,
          ⟨none, none, .store 1 (.tmp 7) (.const (.int .i64 (0)))⟩])
        .ret)))))))
/-- plait/ctrl.decode[plait/api.Fast]$1 -/
def q154 : ACode :=
 (.seq
  (.ops [⟨some 5, none, .mov (.tmp 3)⟩,
    ⟨some 6, none, .eq true true .iface (.tmp 5) (.const (.nilIface))⟩])
  (.cond (.tmp 6)
   (.opsD [⟨some 7, none, .loadN 1 (.tmp 0)⟩,
     ⟨some 8, none, .mov (.tmp 3)⟩,
     ⟨some 9, none, .tassert 241 (.tmp 8)⟩,
     ⟨some 10, none, .fld1 0 (.tmp 9)⟩,
     ⟨none, none, .store 1 (.tmp 1) (.tmp 7)⟩,
     ⟨none, none, .store 1 (.tmp 2) (.tmp 10)⟩] [])
   .skip))
/-- plait/ctrl.decode[plait/api.Fast]: what stands for it -/
def s154 : AFunc := ⟨41, 3, [.inr (6, 1, true), .inr (7, 1, false)], .seq (.ops [⟨some 6, none, .alloc 50 [.int .u64 (0)]⟩, ⟨some 7, none, .alloc 31 [.int .i64 (0)]⟩]) (.seq (.ops [⟨some 8, none, .alloc 50 [.int .u64 (0)]⟩]) (.seq (.ops [⟨some 12, none, .mkF 173 [] [(.tmp 8), (.tmp 6), (.tmp 7)]⟩]) (.guarded 173 12 11 4 3 q154 i154)))⟩
theorem s154_ok : SoundFn Tryz.prog 154 s154 := by
  refine guarded_sound (F := Tryz.f154) (Fc := Tryz.f173) (Checked.mixed Tryz.checked) Tryz.func154 rfl (by kernel_rfl) (by kernel_rfl) (by kernel_rfl) rfl rfl rfl ?_ Tryz.func173 (by kernel_rfl) rfl (by kernel_rfl) rfl rfl rfl rfl rfl rfl rfl (by kernel_rfl)
  exact (PC.seq (PC.seq (PC.reg (by kernel_rfl) rfl) (PC.cond rfl (by exact PC_panic (k := 16) rfl rfl rfl (by kernel_rfl)) (PC.reg (by kernel_rfl) rfl))) (PC.seq (PC.reg (by kernel_rfl) rfl) (PC.seq (PC.reg (by kernel_rfl) rfl) (PC.seq (PC.seq (PC.reg (by kernel_rfl) rfl) (PC.cond rfl (by exact PC_panic (k := 27) rfl rfl rfl (by kernel_rfl)) (PC.reg (by kernel_rfl) rfl))) (PC.seq (PC.reg (by kernel_rfl) rfl) (PC.seq (PC.seq (PC.reg (by kernel_rfl) rfl) (PC.seq (PC.reg (by kernel_rfl) rfl) (PC.cond rfl (by exact PC_panic (k := 39) rfl rfl rfl (by kernel_rfl)) (PC.reg (by kernel_rfl) rfl)))) (PC.seq (PC.reg (by kernel_rfl) rfl) (PC.reg (by kernel_rfl) rfl))))))))

/-- plait/ctrl.decode[plait/api.Rst]: what is guarded -/
def i156 : ACode :=
 (.seq
  (.seq
   (.ops [⟨some 13, none, .mov (.tmp 0)⟩,
     ⟨some 14, none, .bin .eql (.tmp 13) (.const (.string ⟨⟨[]⟩⟩))⟩])
   (.cond (.tmp 14)
    (.seq
     (.ops [⟨some 15, none, .build [.int .i64 (0)] [(0, 1, (.const (.int .i64 (4))))]⟩,
       ⟨some 16, none, .mkI 241 (.tmp 15)⟩])
     (.exit 1000016))
    .skip))
  (.seq
   (.ops [⟨some 17, none, .mov (.tmp 0)⟩,
     ⟨some 18, none, .call 124 [(.tmp 17)]⟩,
     ⟨some 9, none, .mov (.tmp 18)⟩])
   (.seq
    (.ops [⟨some 19, none, .mov (.tmp 9)⟩,
      ⟨some 20, none, .call 129 [(.tmp 19)]⟩,
      ⟨some 10, none, .mov (.tmp 20)⟩])
    (.seq
     (.seq
      (.ops [⟨some 21, none, .mov (.tmp 10)⟩,
        ⟨some 22, none, .bin .shr (.tmp 21) (.const (.int .u64 (4)))⟩,
        ⟨some 23, none, .cvInt .i64 (.tmp 22)⟩,
        ⟨some 24, none, .mov (.tmp 1)⟩,
        ⟨some 25, none, .bin .neq (.tmp 23) (.tmp 24)⟩])
      (.cond (.tmp 25)
       (.seq
        (.ops [⟨some 26, none, .build [.int .i64 (0)] [(0, 1, (.const (.int .i64 (7))))]⟩,
          ⟨some 27, none, .mkI 241 (.tmp 26)⟩])
        (.exit 1000027))
       .skip))
     (.seq
      (.ops [⟨some 28, none, .mov (.tmp 2)⟩,
        ⟨some 29, none, .mov (.tmp 10)⟩,
        ⟨some 30, none, .bin .and (.tmp 29) (.const (.int .u8 (15)))⟩,
        ⟨some 31, none, .mov (.tmp 9)⟩,
        ⟨some 32, none, .callv (.tmp 28) [(.tmp 30), (.tmp 31)]⟩,
        ⟨none, none, .store 2 (.tmp 6) (.tmp 32)⟩])
      (.seq
       (.seq
        (.ops [⟨some 33, none, .mov (.tmp 9)⟩,
          ⟨some 34, none, .call 141 [(.tmp 33)]⟩,
          ⟨some 11, none, .mov (.tmp 34)⟩])
        (.seq
         (.ops [⟨some 35, none, .mov (.tmp 11)⟩,
           ⟨some 36, none, .bin .neq (.tmp 35) (.const (.int .i64 (0)))⟩])
         (.cond (.tmp 36)
          (.seq
           (.ops [⟨some 37, none, .mov (.tmp 11)⟩,
             ⟨some 38, none, .build [.int .i64 (0)] [(0, 1, (.tmp 37))]⟩,
             ⟨some 39, none, .mkI 241 (.tmp 38)⟩])
           (.exit 1000039))
          .skip)))
       (.seq
        (.ops [⟨some 40, none, .loadN 2 (.tmp 6)⟩,
          ⟨none, none, .store 2 (.tmp 6) (.tmp 40)⟩,
          ⟨none, none, .store 1 (.tmp 7) (.const (.int .i64 (0)))⟩])
        .ret)))))))
/-- plait/ctrl.decode[plait/api.Rst]$1 -/
def q156 : ACode :=
 (.seq
  (.ops [⟨some 5, none, .mov (.tmp 3)⟩,
    ⟨some 6, none, .eq true true .iface (.tmp 5) (.const (.nilIface))⟩])
  (.cond (.tmp 6)
   (.opsD [⟨some 7, none, .loadN 2 (.tmp 0)⟩,
     ⟨some 8, none, .mov (.tmp 3)⟩,
     ⟨some 9, none, .tassert 241 (.tmp 8)⟩,
     ⟨some 10, none, .fld1 0 (.tmp 9)⟩,
     ⟨none, none, .store 2 (.tmp 1) (.tmp 7)⟩,
     ⟨none, none, .store 1 (.tmp 2) (.tmp 10)⟩] [])
   .skip))
/-- plait/ctrl.decode[plait/api.Rst]: what stands for it -/
def s156 : AFunc := ⟨41, 3, [.inr (6, 2, true), .inr (7, 1, false)], .seq (.ops [⟨some 6, none, .alloc 52 [.int .i64 (0), .int .i64 (0)]⟩, ⟨some 7, none, .alloc 31 [.int .i64 (0)]⟩]) (.seq (.ops [⟨some 8, none, .alloc 52 [.int .i64 (0), .int .i64 (0)]⟩]) (.seq (.ops [⟨some 12, none, .mkF 174 [] [(.tmp 8), (.tmp 6), (.tmp 7)]⟩]) (.guarded 174 12 11 4 3 q156 i156)))⟩
theorem s156_ok : SoundFn Tryz.prog 156 s156 := by
  refine guarded_sound (F := Tryz.f156) (Fc := Tryz.f174) (Checked.mixed Tryz.checked) Tryz.func156 rfl (by kernel_rfl) (by kernel_rfl) (by kernel_rfl) rfl rfl rfl ?_ Tryz.func174 (by kernel_rfl) rfl (by kernel_rfl) rfl rfl rfl rfl rfl rfl rfl (by kernel_rfl)
  exact (PC.seq (PC.seq (PC.reg (by kernel_rfl) rfl) (PC.cond rfl (by exact PC_panic (k := 16) rfl rfl rfl (by kernel_rfl)) (PC.reg (by kernel_rfl) rfl))) (PC.seq (PC.reg (by kernel_rfl) rfl) (PC.seq (PC.reg (by kernel_rfl) rfl) (PC.seq (PC.seq (PC.reg (by kernel_rfl) rfl) (PC.cond rfl (by exact PC_panic (k := 27) rfl rfl rfl (by kernel_rfl)) (PC.reg (by kernel_rfl) rfl))) (PC.seq (PC.reg (by kernel_rfl) rfl) (PC.seq (PC.seq (PC.reg (by kernel_rfl) rfl) (PC.seq (PC.reg (by kernel_rfl) rfl) (PC.cond rfl (by exact PC_panic (k := 39) rfl rfl rfl (by kernel_rfl)) (PC.reg (by kernel_rfl) rfl)))) (PC.seq (PC.reg (by kernel_rfl) rfl) (PC.reg (by kernel_rfl) rfl))))))))

end Go.Proofs.YtigknpfjhegkgaaGreatDoor
