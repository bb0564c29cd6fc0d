/- What each function asks: printed by hoas.py off the loaded program; each is held against the program by the kernel. -/
import Derived.Test.YtiaiglgfangedaaDoorN
set_option linter.unusedVariables false
set_option linter.unusedSimpArgs false
set_option linter.unusedSectionVars false
namespace Go.Proofs.YtiaiglgfangedaaDoor
open Go Go.Isk
set_option maxRecDepth 100000
-- slices.Sorted[string]
def F.slices_Sorted_string (k : Value → World → Prop) (a0 : Value) (w : World) : Prop :=
  mv (.slice none 0 0) fun t2 =>
  mv a0 fun t4 =>
  C Tryd.prog N.slices_Collect_string #[t4] w fun t5 w =>
  mv t5 fun t3 =>
  mv t3 fun t6 =>
  C Tryd.prog N.slices_Sort_string_string #[t6] w fun t7 w =>
  mv t3 fun t8 =>
  mv t8 fun t2_1 =>
  k t2_1 w
theorem C.slices_Sorted_string {k : Value → World → Prop} {a0 : Value} {w : World} (h : F.slices_Sorted_string k a0 w) : C Tryd.prog N.slices_Sorted_string #[a0] w k :=
  den_calls (H := { moves := [], vars := [2, 3] }) (args := [a0]) mixed Tryd.func37 (by kernel_rfl) (by kernel_rfl) (by kernel_rfl) h

-- maps.Keys[map[string]isthmus/files.file,string,isthmus/files.file]
def F.maps_Keys_map_string_files_file_string_files_file (k : Value → World → Prop) (a0 : Value) (w : World) : Prop :=
  o1 Tryd.prog (Instr.box 52 a0) w fun t1 w =>
  mv .nilFunc fun t2 =>
  o1 Tryd.prog (Instr.makeFunc (.func 55) #[] #[t1]) w fun t3 w =>
  mv t3 fun t2_1 =>
  k t2_1 w
theorem C.maps_Keys_map_string_files_file_string_files_file {k : Value → World → Prop} {a0 : Value} {w : World} (h : F.maps_Keys_map_string_files_file_string_files_file k a0 w) : C Tryd.prog N.maps_Keys_map_string_files_file_string_files_file #[a0] w k :=
  den_calls (H := { moves := [], vars := [2] }) (args := [a0]) mixed Tryd.func38 (by kernel_rfl) (by kernel_rfl) (by kernel_rfl) h

-- isthmus/files.named
def F.files_named (k : Value → World → Prop) (a0 : Value) (w : World) : Prop :=
  mv (.bool false) fun t2 =>
  mv a0 fun t3 =>
  o1 Tryd.prog (Builtin.len_ #[9] 3 #[t3]) w fun t4 w =>
  o1 Tryd.prog (bin .geq 3 (.tmp 4) (.const (.int .i64 1)) t4 (.int .i64 1)) w fun t5 w =>
  mv t5 fun t6 =>
  gd t6 true (fun k1 => mv a0 fun v => k1 v w) w fun t7 w =>
  gd t6 true (fun k2 => o1 Tryd.prog (Builtin.len_ #[9] 3 #[t7]) w k2) w fun t8 w =>
  gd t6 true (fun k3 => o1 Tryd.prog (bin .leq 3 (.tmp 8) (.const (.int .i64 64)) t8 (.int .i64 64)) w k3) w fun t9 w =>
  pk t6 t9 (.bool false) fun t10 =>
  mv t10 fun t11 =>
  gd t11 true (fun k4 => mv a0 fun v => k4 v w) w fun t12 w =>
  gd t11 true (fun k5 => o1 Tryd.prog (convert 9 22 t12) w k5) w fun t13 w =>
  gd t11 true (fun k6 => C Tryd.prog N.slices_ContainsFunc_bytes #[t13, .func (.func 57) #[] #[]] w k6) w fun t14 w =>
  gd t11 true (fun k7 => o1 Tryd.prog (Op.unary .not t14) w k7) w fun t15 w =>
  pk t11 t15 (.bool false) fun t16 =>
  mv t16 fun t2_1 =>
  k t2_1 w
theorem C.files_named {k : Value → World → Prop} {a0 : Value} {w : World} (h : F.files_named k a0 w) : C Tryd.prog N.files_named #[a0] w k :=
  den_calls (H := { moves := [], vars := [2] }) (args := [a0]) mixed Tryd.func39 (by kernel_rfl) (by kernel_rfl) (by kernel_rfl) h

-- errors.as
def F.errors_as (k : Value → World → Prop) (a0 a1 a2 a3 : Value) (w : World) : Prop :=
  o1 Tryd.prog (Instr.box 93 a2) w fun t6 w =>
  mv (.bool false) fun t8 =>
  lp [a0, t8, undef, undef, undef, undef, undef, undef, undef] w fun I1 μ1 => ∀ (x1 : Env) (w1 : World), I1 [x1 0, x1 8, x1 9, x1 10, x1 11, x1 12, x1 14, x1 15, x1 50] w1 →
  mv (x1 0) fun t16 =>
  oN Tryd.prog (callFunc N.internal_reflectlite_TypeOf #[t16]) w1 fun t17 w =>
  mv a3 fun t18 =>
  iv Tryd.prog t17 "AssignableTo" #[t18] w fun t19 w =>
  br t19 (fun _ =>
  o1 Tryd.prog (Instr.loadAt 93 t6) w fun t20 w =>
  oN Tryd.prog (callFunc N.internal_reflectlite_Value_Elem #[t20]) w fun t21 w =>
  mv (x1 0) fun t22 =>
  oN Tryd.prog (callFunc N.internal_reflectlite_ValueOf #[t22]) w fun t23 w =>
  oN Tryd.prog (callFunc N.internal_reflectlite_Value_Set #[t21, t23]) w fun t24 w =>
  mv (.bool true) fun t8_1 =>
  k t8_1 w) (fun _ =>
  mv (x1 0) fun t26 =>
  o1 Tryd.prog (Instr.typeAssert t26 27 117 true) w fun t27 w =>
  mv t27 fun t25 =>
  o1 Tryd.prog (Instr.extract t25 0) w fun t28 w =>
  o1 Tryd.prog (Instr.extract t25 1) w fun t29 w =>
  mv t28 fun t9 =>
  mv t29 fun t10 =>
  mv t10 fun t30 =>
  mv t30 fun t31 =>
  gd t31 true (fun k1 => mv t9 fun v => k1 v w) w fun t32 w =>
  gd t31 true (fun k2 => mv a1 fun v => k2 v w) w fun t33 w =>
  gd t31 true (fun k3 => iv Tryd.prog t32 "As" #[t33] w k3) w fun t34 w =>
  pk t31 t34 (.bool false) fun t35 =>
  br t35 (fun _ =>
  mv (.bool true) fun t8_2 =>
  k t8_2 w) (fun _ =>
  mv (x1 0) fun t36 =>
  o1 Tryd.prog (Instr.typeAssert t36 27 120 true) w fun t37 w =>
  o1 Tryd.prog (Instr.extract t37 1) w fun t38 w =>
  o1 Tryd.prog (Instr.extract t37 0) w fun t39 w =>
  br t38 (fun _ =>
  mv t39 fun t11 =>
  mv t11 fun t40 =>
  iv Tryd.prog t40 "Unwrap" #[] w fun t41 w =>
  mv t41 fun t0 =>
  mv t0 fun t42 =>
  o1 Tryd.prog (bin .eql 27 (.tmp 42) (.const .nilIface) t42 .nilIface) w fun t43 w =>
  br t43 (fun _ =>
  mv (.bool false) fun t8_3 =>
  k t8_3 w) (fun _ =>
  I1 [t0, (x1 8), t9, t10, t11, (x1 12), (x1 14), (x1 15), (x1 50)] w ∧ μ1 [t0, (x1 8), t9, t10, t11, (x1 12), (x1 14), (x1 15), (x1 50)] w < μ1 [x1 0, x1 8, x1 9, x1 10, x1 11, x1 12, x1 14, x1 15, x1 50] w1)) (fun _ =>
  o1 Tryd.prog (Instr.typeAssert t36 27 121 true) w fun t44 w =>
  o1 Tryd.prog (Instr.extract t44 1) w fun t45 w =>
  o1 Tryd.prog (Instr.extract t44 0) w fun t46 w =>
  br t45 (fun _ =>
  mv t46 fun t12 =>
  mv t12 fun t47 =>
  iv Tryd.prog t47 "Unwrap" #[] w fun t48 w =>
  o1 Tryd.prog (Builtin.len_ #[122] 3 #[t48]) w fun t49 w =>
  mv (.int .i64 0) fun t50 =>
  lp [(x1 8), (x1 14), t50] w fun I2 μ2 => ∀ (x2 : Env) (w2 : World), I2 [x2 8, x2 14, x2 50] w2 →
  o1 Tryd.prog (bin .lss 3 (.tmp 50) (.tmp 49) (x2 50) t49) w2 fun t51 w =>
  br t51 (fun _ =>
  jn (fun x3 => [x3 8, x3 14]) (fun k4 =>
  o1 Tryd.prog (Instr.indexAt 122 t48 (x2 50)) w fun t52 w =>
  o1 Tryd.prog (Instr.loadAt 27 t52) w fun t53 w =>
  mv t53 fun t14 =>
  mv t14 fun t54 =>
  o1 Tryd.prog (bin .eql 27 (.tmp 54) (.const .nilIface) t54 .nilIface) w fun t55 w =>
  br t55 (fun _ =>
  k4 [(x2 8), t14] w) (fun _ =>
  mv t14 fun t56 =>
  mv a1 fun t57 =>
  o1 Tryd.prog (Instr.loadAt 93 t6) w fun t58 w =>
  mv a3 fun t59 =>
  C Tryd.prog N.errors_as #[t56, t57, t58, t59] w fun t60 w =>
  br t60 (fun _ =>
  mv (.bool true) fun t8_4 =>
  k t8_4 w) (fun _ =>
  k4 [(x2 8), t14] w))) fun x3 w =>
  o1 Tryd.prog (bin .add 3 (.tmp 50) (.const (.int .i64 1)) (x2 50) (.int .i64 1)) w fun t61 w =>
  mv t61 fun t50_1 =>
  I2 [(x3 8), (x3 14), t50_1] w ∧ μ2 [(x3 8), (x3 14), t50_1] w < μ2 [x2 8, x2 14, x2 50] w2) (fun _ =>
  mv (.bool false) fun t8_5 =>
  k t8_5 w)) (fun _ =>
  mv t36 fun t15 =>
  mv (.bool false) fun t8_6 =>
  k t8_6 w))))
theorem C.errors_as {k : Value → World → Prop} {a0 a1 a2 a3 : Value} {w : World} (h : F.errors_as k a0 a1 a2 a3 w) : C Tryd.prog N.errors_as #[a0, a1, a2, a3] w k :=
  den_calls (H := { moves := [], vars := [0, 8, 9, 10, 11, 12, 14, 15, 50] }) (args := [a0, a1, a2, a3]) mixed Tryd.func43 (by kernel_rfl) (by kernel_rfl) (by kernel_rfl) h

-- isthmus/isthmusref04.get
def F.isthmusref04_get (k : Value → World → Prop) (a0 a1 : Value) (w : World) : Prop :=
  o1 Tryd.prog (Instr.box 42 a0) w fun t2 w =>
  o1 Tryd.prog (Instr.alloc 80 true (.tuple #[])) w fun t4 w =>
  mv (.int .i64 0) fun t5 =>
  mv a1 fun t9 =>
  C Tryd.prog N.isthmusref04_named #[t9] w fun t10 w =>
  o1 Tryd.prog (Op.unary .not t10) w fun t11 w =>
  mv t11 fun t8 =>
  br t8 (fun _ =>
  o1 Tryd.prog (Instr.build 80 #[]) w fun t12 w =>
  o0 Tryd.prog (Instr.storeAt 80 t4 t12) w fun _ w =>
  mv (.int .i64 1) fun t5_1 =>
  rc Tryd.prog 80 t4 w fun r0 =>
  k (.tuple #[r0, t5_1]) w) (fun _ =>
  o1 Tryd.prog (Instr.fieldAt 42 t2 4) w fun t14 w =>
  o1 Tryd.prog (Instr.loadAt 4 t14) w fun t15 w =>
  mv t15 fun t13 =>
  br t13 (fun _ =>
  o1 Tryd.prog (Instr.build 80 #[]) w fun t16 w =>
  o0 Tryd.prog (Instr.storeAt 80 t4 t16) w fun _ w =>
  mv (.int .i64 13) fun t5_2 =>
  rc Tryd.prog 80 t4 w fun r0 =>
  k (.tuple #[r0, t5_2]) w) (fun _ =>
  o1 Tryd.prog (Instr.loadAt 42 t2) w fun t18 w =>
  mv a1 fun t19 =>
  C Tryd.prog N.isthmusref04_find #[t18, t19] w fun t20 w =>
  mv t20 fun t17 =>
  o1 Tryd.prog (Instr.extract t17 0) w fun t21 w =>
  o1 Tryd.prog (Instr.extract t17 1) w fun t22 w =>
  mv t21 fun t6 =>
  mv t22 fun t7 =>
  mv t7 fun t23 =>
  o1 Tryd.prog (Op.unary .not t23) w fun t24 w =>
  br t24 (fun _ =>
  o1 Tryd.prog (Instr.build 80 #[]) w fun t25 w =>
  o0 Tryd.prog (Instr.storeAt 80 t4 t25) w fun _ w =>
  mv (.int .i64 8) fun t5_3 =>
  rc Tryd.prog 80 t4 w fun r0 =>
  k (.tuple #[r0, t5_3]) w) (fun _ =>
  o1 Tryd.prog (Instr.fieldAt 42 t2 0) w fun t26 w =>
  o1 Tryd.prog (Instr.loadAt 40 t26) w fun t27 w =>
  mv t6 fun t28 =>
  o1 Tryd.prog (Instr.indexAt 40 t27 t28) w fun t29 w =>
  o1 Tryd.prog (Instr.loadAt 80 t29) w fun t30 w =>
  o0 Tryd.prog (Instr.storeAt 80 t4 t30) w fun _ w =>
  mv (.int .i64 0) fun t5_4 =>
  rc Tryd.prog 80 t4 w fun r0 =>
  k (.tuple #[r0, t5_4]) w)))
theorem C.isthmusref04_get {k : Value → World → Prop} {a0 a1 : Value} {w : World} (h : F.isthmusref04_get k a0 a1 w) : C Tryd.prog N.isthmusref04_get #[a0, a1] w k :=
  den_calls (H := { moves := [], vars := [5, 6, 7, 8, 13] }) (args := [a0, a1]) mixed Tryd.func44 (by kernel_rfl) (by kernel_rfl) (by kernel_rfl) h

-- isthmus/isthmusref04.step
def F.isthmusref04_step (k : Value → World → Prop) (a0 : Value) (w : World) : Prop :=
  o1 Tryd.prog (Instr.box 42 a0) w fun t1 w =>
  o1 Tryd.prog (Instr.alloc 42 true (.tuple #[])) w fun t2 w =>
  mv (.bool false) fun t3 =>
  o1 Tryd.prog (Instr.fieldAt 42 t1 2) w fun t4 w =>
  o1 Tryd.prog (Instr.loadAt 4 t4) w fun t5 w =>
  mv t5 fun t6 =>
  gd t6 true (fun k1 => o1 Tryd.prog (Instr.fieldAt 42 t1 3) w k1) w fun t7 w =>
  gd t6 true (fun k2 => o1 Tryd.prog (Instr.loadAt 3 t7) w k2) w fun t8 w =>
  gd t6 true (fun k3 => o1 Tryd.prog (bin .eql 3 (.tmp 8) (.const (.int .i64 0)) t8 (.int .i64 0)) w k3) w fun t9 w =>
  pk t6 t9 (.bool false) fun t10 =>
  br t10 (fun _ =>
  o1 Tryd.prog (Instr.fieldAt 42 t1 4) w fun t11 w =>
  o0 Tryd.prog (Instr.storeAt 4 t11 (.bool true)) w fun _ w =>
  o1 Tryd.prog (Instr.loadAt 42 t1) w fun t12 w =>
  o0 Tryd.prog (Instr.storeAt 42 t2 t12) w fun _ w =>
  mv (.bool true) fun t3_1 =>
  rc Tryd.prog 42 t2 w fun r0 =>
  k (.tuple #[r0, t3_1]) w) (fun _ =>
  o1 Tryd.prog (Instr.fieldAt 42 t1 3) w fun t13 w =>
  o1 Tryd.prog (Instr.loadAt 3 t13) w fun t14 w =>
  o1 Tryd.prog (bin .sub 3 (.tmp 14) (.const (.int .i64 1)) t14 (.int .i64 1)) w fun t15 w =>
  o1 Tryd.prog (Instr.fieldAt 42 t1 3) w fun t16 w =>
  o0 Tryd.prog (Instr.storeAt 3 t16 t15) w fun _ w =>
  o1 Tryd.prog (Instr.fieldAt 42 t1 1) w fun t17 w =>
  o1 Tryd.prog (Instr.loadAt 3 t17) w fun t18 w =>
  o1 Tryd.prog (bin .add 3 (.tmp 18) (.const (.int .i64 1)) t18 (.int .i64 1)) w fun t19 w =>
  o1 Tryd.prog (Instr.fieldAt 42 t1 1) w fun t20 w =>
  o0 Tryd.prog (Instr.storeAt 3 t20 t19) w fun _ w =>
  o1 Tryd.prog (Instr.loadAt 42 t1) w fun t21 w =>
  o0 Tryd.prog (Instr.storeAt 42 t2 t21) w fun _ w =>
  mv (.bool false) fun t3_2 =>
  rc Tryd.prog 42 t2 w fun r0 =>
  k (.tuple #[r0, t3_2]) w)
theorem C.isthmusref04_step {k : Value → World → Prop} {a0 : Value} {w : World} (h : F.isthmusref04_step k a0 w) : C Tryd.prog N.isthmusref04_step #[a0] w k :=
  den_calls (H := { moves := [], vars := [3] }) (args := [a0]) mixed Tryd.func45 (by kernel_rfl) (by kernel_rfl) (by kernel_rfl) h

-- isthmus/isthmusref04.set
def F.isthmusref04_set (k : Value → World → Prop) (a0 a1 : Value) (w : World) : Prop :=
  o1 Tryd.prog (Instr.box 42 a0) w fun t2 w =>
  o1 Tryd.prog (Instr.box 80 a1) w fun t3 w =>
  o1 Tryd.prog (Instr.alloc 42 true (.tuple #[])) w fun t4 w =>
  o1 Tryd.prog (Instr.loadAt 42 t2) w fun t9 w =>
  o1 Tryd.prog (Instr.fieldAt 80 t3 0) w fun t10 w =>
  o1 Tryd.prog (Instr.loadAt 9 t10) w fun t11 w =>
  C Tryd.prog N.isthmusref04_find #[t9, t11] w fun t12 w =>
  mv t12 fun t8 =>
  o1 Tryd.prog (Instr.extract t8 0) w fun t13 w =>
  o1 Tryd.prog (Instr.extract t8 1) w fun t14 w =>
  mv t13 fun t5 =>
  mv t14 fun t6 =>
  mv (.slice none 0 0) fun t7 =>
  dr w.drew fun S1 =>
  mv t7 fun t15 =>
  tk Tryd.prog S1 (Instr.fieldAt 42 t2 0) fun t16 =>
  tk Tryd.prog S1 (Instr.loadAt 40 t16) fun t17 =>
  mv t5 fun t18 =>
  tk Tryd.prog S1 (Instr.sliceAt 40 t17 none (some t18) none) fun t19 =>
  tk Tryd.prog S1 (Instr.loadAt 80 t3) fun t21 =>
  (ob Tryd.prog (fun _ => Builtin.append_ #[40, 40] 40 #[t15, t19]) w.drew fun t20 w =>
  S1 w ∧
  o1 Tryd.prog (Instr.buildSlice 40 1 #[(0, t21)]) w fun t22 w =>
  S1 w ∧
  ob Tryd.prog (fun _ => Builtin.append_ #[40, 40] 40 #[t20, t22]) w fun t23 w =>
  S1 w ∧
  mv t23 fun t7_1 =>
  mv t6 fun t24 =>
  jn (fun x1 => [x1 5]) (fun k1 =>
  br t24 (fun _ =>
  mv t5 fun t25 =>
  o1 Tryd.prog (bin .add 3 (.tmp 25) (.const (.int .i64 1)) t25 (.int .i64 1)) w fun t26 w =>
  mv t26 fun t5_1 =>
  k1 [t5_1] w) (fun _ =>
  k1 [t5] w)) fun x1 w =>
  mv t7_1 fun t27 =>
  o1 Tryd.prog (Instr.fieldAt 42 t2 0) w fun t28 w =>
  o1 Tryd.prog (Instr.loadAt 40 t28) w fun t29 w =>
  mv (x1 5) fun t30 =>
  o1 Tryd.prog (Instr.sliceAt 40 t29 (some t30) none none) w fun t31 w =>
  ob Tryd.prog (fun _ => Builtin.append_ #[40, 40] 40 #[t27, t31]) w fun t32 w =>
  o1 Tryd.prog (Instr.fieldAt 42 t2 0) w fun t33 w =>
  o0 Tryd.prog (Instr.storeAt 40 t33 t32) w fun _ w =>
  o1 Tryd.prog (Instr.loadAt 42 t2) w fun t34 w =>
  o0 Tryd.prog (Instr.storeAt 42 t4 t34) w fun _ w =>
  rc Tryd.prog 42 t4 w fun r0 =>
  k r0 w) ∧ (
  o1 Tryd.prog (Instr.buildSlice 40 1 #[(0, t21)]) w.drew fun t22_1 w =>
  S1 w ∧
  ob Tryd.prog (fun _ => Builtin.append_ #[40, 40] 40 #[t15, t19]) w fun t20_1 w =>
  S1 w ∧
  ob Tryd.prog (fun _ => Builtin.append_ #[40, 40] 40 #[t20_1, t22_1]) w fun t23_1 w =>
  S1 w ∧
  mv t23_1 fun t7_2 =>
  mv t6 fun t24_1 =>
  jn (fun x2 => [x2 5]) (fun k2 =>
  br t24_1 (fun _ =>
  mv t5 fun t25_1 =>
  o1 Tryd.prog (bin .add 3 (.tmp 25) (.const (.int .i64 1)) t25_1 (.int .i64 1)) w fun t26_1 w =>
  mv t26_1 fun t5_2 =>
  k2 [t5_2] w) (fun _ =>
  k2 [t5] w)) fun x2 w =>
  mv t7_2 fun t27_1 =>
  o1 Tryd.prog (Instr.fieldAt 42 t2 0) w fun t28_1 w =>
  o1 Tryd.prog (Instr.loadAt 40 t28_1) w fun t29_1 w =>
  mv (x2 5) fun t30_1 =>
  o1 Tryd.prog (Instr.sliceAt 40 t29_1 (some t30_1) none none) w fun t31_1 w =>
  ob Tryd.prog (fun _ => Builtin.append_ #[40, 40] 40 #[t27_1, t31_1]) w fun t32_1 w =>
  o1 Tryd.prog (Instr.fieldAt 42 t2 0) w fun t33_1 w =>
  o0 Tryd.prog (Instr.storeAt 40 t33_1 t32_1) w fun _ w =>
  o1 Tryd.prog (Instr.loadAt 42 t2) w fun t34_1 w =>
  o0 Tryd.prog (Instr.storeAt 42 t4 t34_1) w fun _ w =>
  rc Tryd.prog 42 t4 w fun r0 =>
  k r0 w)
theorem C.isthmusref04_set {k : Value → World → Prop} {a0 a1 : Value} {w : World} (h : F.isthmusref04_set k a0 a1 w) : C Tryd.prog N.isthmusref04_set #[a0, a1] w k :=
  den_calls (H := { moves := [(3, (.take 0 (.take 1 (.take 2 (.take 3 (.take 4 (.take 6 (.two 5 7 (.force 7 (.force 8 (.take 9 .fin))) (.force 5 (.force 8 (.take 9 .fin)))))))))))], vars := [5, 6, 7] }) (args := [a0, a1]) mixed Tryd.func46 (by kernel_rfl) (by kernel_rfl) (by kernel_rfl) h

-- isthmus/isthmusref04.named
def F.isthmusref04_named (k : Value → World → Prop) (a0 : Value) (w : World) : Prop :=
  mv (.bool false) fun t2 =>
  mv (.int .i64 0) fun t3 =>
  lp [t2, t3] w fun I1 μ1 => ∀ (x1 : Env) (w1 : World), I1 [x1 2, x1 3] w1 →
  mv (x1 3) fun t4 =>
  mv a0 fun t5 =>
  o1 Tryd.prog (Builtin.len_ #[9] 3 #[t5]) w1 fun t6 w =>
  o1 Tryd.prog (bin .lss 3 (.tmp 4) (.tmp 6) t4 t6) w fun t7 w =>
  br t7 (fun _ =>
  mv a0 fun t10 =>
  mv (x1 3) fun t11 =>
  o1 Tryd.prog (Instr.index 9 t10 t11) w fun t12 w =>
  o1 Tryd.prog (bin .lss 5 (.tmp 12) (.const (.int .u8 33)) t12 (.int .u8 33)) w fun t13 w =>
  mv t13 fun t14 =>
  gd t14 false (fun k1 => mv a0 fun v => k1 v w) w fun t15 w =>
  gd t14 false (fun k2 => mv (x1 3) fun v => k2 v w) w fun t16 w =>
  gd t14 false (fun k3 => o1 Tryd.prog (Instr.index 9 t15 t16) w k3) w fun t17 w =>
  gd t14 false (fun k4 => o1 Tryd.prog (bin .gtr 5 (.tmp 17) (.const (.int .u8 126)) t17 (.int .u8 126)) w k4) w fun t18 w =>
  pk t14 (.bool true) t18 fun t19 =>
  br t19 (fun _ =>
  mv (.bool false) fun t2_1 =>
  k t2_1 w) (fun _ =>
  mv (x1 3) fun t8 =>
  o1 Tryd.prog (bin .add 3 (.tmp 8) (.const (.int .i64 1)) t8 (.int .i64 1)) w fun t9 w =>
  mv t9 fun t3_1 =>
  I1 [(x1 2), t3_1] w ∧ μ1 [(x1 2), t3_1] w < μ1 [x1 2, x1 3] w1)) (fun _ =>
  mv a0 fun t20 =>
  o1 Tryd.prog (Builtin.len_ #[9] 3 #[t20]) w fun t21 w =>
  o1 Tryd.prog (bin .gtr 3 (.tmp 21) (.const (.int .i64 0)) t21 (.int .i64 0)) w fun t22 w =>
  mv t22 fun t23 =>
  gd t23 true (fun k5 => mv a0 fun v => k5 v w) w fun t24 w =>
  gd t23 true (fun k6 => o1 Tryd.prog (Builtin.len_ #[9] 3 #[t24]) w k6) w fun t25 w =>
  gd t23 true (fun k7 => o1 Tryd.prog (bin .leq 3 (.tmp 25) (.const (.int .i64 64)) t25 (.int .i64 64)) w k7) w fun t26 w =>
  pk t23 t26 (.bool false) fun t27 =>
  mv t27 fun t2_2 =>
  k t2_2 w)
theorem C.isthmusref04_named {k : Value → World → Prop} {a0 : Value} {w : World} (h : F.isthmusref04_named k a0 w) : C Tryd.prog N.isthmusref04_named #[a0] w k :=
  den_calls (H := { moves := [], vars := [2, 3] }) (args := [a0]) mixed Tryd.func47 (by kernel_rfl) (by kernel_rfl) (by kernel_rfl) h

-- isthmus/isthmusref04.drop
def F.isthmusref04_drop (k : Value → World → Prop) (a0 a1 : Value) (w : World) : Prop :=
  o1 Tryd.prog (Instr.box 42 a0) w fun t2 w =>
  o1 Tryd.prog (Instr.alloc 42 true (.tuple #[])) w fun t4 w =>
  o1 Tryd.prog (Instr.loadAt 42 t2) w fun t9 w =>
  mv a1 fun t10 =>
  C Tryd.prog N.isthmusref04_find #[t9, t10] w fun t11 w =>
  mv t11 fun t8 =>
  o1 Tryd.prog (Instr.extract t8 0) w fun t12 w =>
  o1 Tryd.prog (Instr.extract t8 1) w fun t13 w =>
  mv t12 fun t5 =>
  mv t13 fun t6 =>
  mv t6 fun t14 =>
  o1 Tryd.prog (Op.unary .not t14) w fun t15 w =>
  br t15 (fun _ =>
  o1 Tryd.prog (Instr.loadAt 42 t2) w fun t16 w =>
  o0 Tryd.prog (Instr.storeAt 42 t4 t16) w fun _ w =>
  rc Tryd.prog 42 t4 w fun r0 =>
  k r0 w) (fun _ =>
  mv (.slice none 0 0) fun t7 =>
  dr w.drew fun S1 =>
  mv t7 fun t17 =>
  tk Tryd.prog S1 (Instr.fieldAt 42 t2 0) fun t18 =>
  tk Tryd.prog S1 (Instr.loadAt 40 t18) fun t19 =>
  mv t5 fun t20 =>
  tk Tryd.prog S1 (Instr.sliceAt 40 t19 none (some t20) none) fun t21 =>
  tk Tryd.prog S1 (Instr.fieldAt 42 t2 0) fun t23 =>
  tk Tryd.prog S1 (Instr.loadAt 40 t23) fun t24 =>
  mv t5 fun t25 =>
  tk Tryd.prog S1 (bin .add 3 (.tmp 25) (.const (.int .i64 1)) t25 (.int .i64 1)) fun t26 =>
  tk Tryd.prog S1 (Instr.sliceAt 40 t24 (some t26) none none) fun t27 =>
  ob Tryd.prog (fun _ => Builtin.append_ #[40, 40] 40 #[t17, t21]) w.drew fun t22 w =>
  S1 w ∧
  ob Tryd.prog (fun _ => Builtin.append_ #[40, 40] 40 #[t22, t27]) w fun t28 w =>
  S1 w ∧
  tk Tryd.prog S1 (Instr.fieldAt 42 t2 0) fun t29 =>
  o0 Tryd.prog (Instr.storeAt 40 t29 t28) w fun _ w =>
  o1 Tryd.prog (Instr.loadAt 42 t2) w fun t30 w =>
  o0 Tryd.prog (Instr.storeAt 42 t4 t30) w fun _ w =>
  rc Tryd.prog 42 t4 w fun r0 =>
  k r0 w)
theorem C.isthmusref04_drop {k : Value → World → Prop} {a0 a1 : Value} {w : World} (h : F.isthmusref04_drop k a0 a1 w) : C Tryd.prog N.isthmusref04_drop #[a0, a1] w k :=
  den_calls (H := { moves := [(5, (.take 0 (.take 1 (.take 2 (.take 3 (.take 4 (.take 6 (.take 7 (.take 8 (.take 9 (.take 10 (.force 5 (.force 11 (.take 12 (.last 13)))))))))))))))], vars := [5, 6, 7] }) (args := [a0, a1]) mixed Tryd.func48 (by kernel_rfl) (by kernel_rfl) (by kernel_rfl) h

-- (*isthmus/files.FS).Rename$1
def F.files_FS_Rename_1 (k : Value → World → Prop) (a0 a1 a2 a3 : Value) (w : World) : Prop :=
  o1 Tryd.prog (Instr.box 59 a0) w fun t4 w =>
  dr w.drew fun S1 =>
  tk Tryd.prog S1 (Instr.loadAt 23 a1) fun t5 =>
  nilOk t5 = true ∧ mv t5 fun t6 =>
  tk Tryd.prog S1 (Instr.fieldAt 54 t6 0) fun t7 =>
  tk Tryd.prog S1 (Instr.loadAt 52 t7) fun t8 =>
  tk Tryd.prog S1 (Instr.loadAt 9 a2) fun t9 =>
  ob Tryd.prog (fun _ => Builtin.delete_ #[52, 9] 0 #[t8, t9]) w.drew fun _ w =>
  dr w.drew fun S2 =>
  tk Tryd.prog S2 (Instr.loadAt 23 a1) fun t10 =>
  nilOk t10 = true ∧ mv t10 fun t11 =>
  tk Tryd.prog S2 (Instr.fieldAt 54 t11 0) fun t12 =>
  tk Tryd.prog S2 (Instr.loadAt 52 t12) fun t13 =>
  tk Tryd.prog S2 (Instr.loadAt 9 a3) fun t14 =>
  tk Tryd.prog S2 (Instr.loadAt 59 t4) fun t15 =>
  o0 Tryd.prog (Instr.mapUpdate 52 t13 t14 t15) w.drew fun _ w =>
  k (.tuple #[]) w
theorem C.files_FS_Rename_1 {k : Value → World → Prop} {a0 a1 a2 a3 : Value} {w : World} (h : F.files_FS_Rename_1 k a0 a1 a2 a3 w) : C Tryd.prog N.files_FS_Rename_1 #[a0, a1, a2, a3] w k :=
  den_calls (H := { moves := [(1, (.take 0 (.take 1 (.take 2 (.take 3 (.take 4 (.last 5))))))), (2, (.take 0 (.take 1 (.take 2 (.take 3 (.take 4 (.take 5 (.last 6))))))))], vars := [] }) (args := [a0, a1, a2, a3]) mixed Tryd.func49 (by kernel_rfl) (by kernel_rfl) (by kernel_rfl) h

-- (*isthmus/files.FS).Remove$1
def F.files_FS_Remove_1 (k : Value → World → Prop) (a0 a1 a2 : Value) (w : World) : Prop :=
  o1 Tryd.prog (Instr.box 59 a0) w fun t3 w =>
  dr w.drew fun S1 =>
  tk Tryd.prog S1 (Instr.loadAt 23 a1) fun t4 =>
  nilOk t4 = true ∧ mv t4 fun t5 =>
  tk Tryd.prog S1 (Instr.fieldAt 54 t5 0) fun t6 =>
  tk Tryd.prog S1 (Instr.loadAt 52 t6) fun t7 =>
  tk Tryd.prog S1 (Instr.loadAt 9 a2) fun t8 =>
  ob Tryd.prog (fun _ => Builtin.delete_ #[52, 9] 0 #[t7, t8]) w.drew fun _ w =>
  k (.tuple #[]) w
theorem C.files_FS_Remove_1 {k : Value → World → Prop} {a0 a1 a2 : Value} {w : World} (h : F.files_FS_Remove_1 k a0 a1 a2 w) : C Tryd.prog N.files_FS_Remove_1 #[a0, a1, a2] w k :=
  den_calls (H := { moves := [(1, (.take 0 (.take 1 (.take 2 (.take 3 (.take 4 (.last 5)))))))], vars := [] }) (args := [a0, a1, a2]) mixed Tryd.func50 (by kernel_rfl) (by kernel_rfl) (by kernel_rfl) h

-- (*isthmus/files.FS).Cut$1
def F.files_FS_Cut_1 (k : Value → World → Prop) (a0 a1 a2 a3 : Value) (w : World) : Prop :=
  o1 Tryd.prog (Instr.box 59 a0) w fun t4 w =>
  dr w.drew fun S1 =>
  tk Tryd.prog S1 (Instr.loadAt 23 a2) fun t5 =>
  nilOk t5 = true ∧ mv t5 fun t6 =>
  tk Tryd.prog S1 (Instr.fieldAt 54 t6 0) fun t7 =>
  tk Tryd.prog S1 (Instr.loadAt 52 t7) fun t8 =>
  tk Tryd.prog S1 (Instr.loadAt 9 a3) fun t9 =>
  tk Tryd.prog S1 (Instr.fieldAt 59 t4 0) fun t10 =>
  tk Tryd.prog S1 (Instr.loadAt 22 t10) fun t11 =>
  tk Tryd.prog S1 (Instr.loadAt 3 a1) fun t12 =>
  tk Tryd.prog S1 (Instr.loadAt 3 a1) fun t13 =>
  tk Tryd.prog S1 (Instr.sliceAt 22 t11 none (some t12) (some t13)) fun t14 =>
  tk Tryd.prog S1 (Instr.loadAt 3 a1) fun t15 =>
  tk Tryd.prog S1 (Instr.build 59 #[(0, t14), (1, t15)]) fun t16 =>
  o0 Tryd.prog (Instr.mapUpdate 52 t8 t9 t16) w.drew fun _ w =>
  k (.tuple #[]) w
theorem C.files_FS_Cut_1 {k : Value → World → Prop} {a0 a1 a2 a3 : Value} {w : World} (h : F.files_FS_Cut_1 k a0 a1 a2 a3 w) : C Tryd.prog N.files_FS_Cut_1 #[a0, a1, a2, a3] w k :=
  den_calls (H := { moves := [(1, (.take 0 (.take 1 (.take 2 (.take 3 (.take 4 (.take 5 (.take 6 (.take 7 (.take 8 (.take 9 (.take 10 (.take 11 (.last 12))))))))))))))], vars := [] }) (args := [a0, a1, a2, a3]) mixed Tryd.func51 (by kernel_rfl) (by kernel_rfl) (by kernel_rfl) h

-- slices.Collect[string]
def F.slices_Collect_string (k : Value → World → Prop) (a0 : Value) (w : World) : Prop :=
  mv (.slice none 0 0) fun t2 =>
  mv a0 fun t3 =>
  C Tryd.prog N.slices_AppendSeq_string_string #[.slice none 0 0, t3] w fun t4 w =>
  mv t4 fun t2_1 =>
  k t2_1 w
theorem C.slices_Collect_string {k : Value → World → Prop} {a0 : Value} {w : World} (h : F.slices_Collect_string k a0 w) : C Tryd.prog N.slices_Collect_string #[a0] w k :=
  den_calls (H := { moves := [], vars := [2] }) (args := [a0]) mixed Tryd.func53 (by kernel_rfl) (by kernel_rfl) (by kernel_rfl) h

-- slices.Sort[[]string,string]
def F.slices_Sort_string_string (k : Value → World → Prop) (a0 : Value) (w : World) : Prop :=
  mv a0 fun t3 =>
  o1 Tryd.prog (Builtin.len_ #[48] 3 #[t3]) w fun t4 w =>
  mv t4 fun t2 =>
  mv a0 fun t5 =>
  mv t2 fun t6 =>
  mv t2 fun t7 =>
  o1 Tryd.prog (convert 3 25 t7) w fun t8 w =>
  C Tryd.prog N.math_bits_Len #[t8] w fun t9 w =>
  C Tryd.prog N.slices_pdqsortOrdered_string #[t5, .int .i64 0, t6, t9] w fun t10 w =>
  k (.tuple #[]) w
theorem C.slices_Sort_string_string {k : Value → World → Prop} {a0 : Value} {w : World} (h : F.slices_Sort_string_string k a0 w) : C Tryd.prog N.slices_Sort_string_string #[a0] w k :=
  den_calls (H := { moves := [], vars := [2] }) (args := [a0]) mixed Tryd.func54 (by kernel_rfl) (by kernel_rfl) (by kernel_rfl) h

-- maps.Keys[map[string]isthmus/files.file,string,isthmus/files.file]$1
-- slices.ContainsFunc[[]byte,byte]
def F.slices_ContainsFunc_bytes (k : Value → World → Prop) (a0 a1 : Value) (w : World) : Prop :=
  mv (.bool false) fun t4 =>
  mv a0 fun t5 =>
  mv a1 fun t6 =>
  C Tryd.prog N.slices_IndexFunc_bytes #[t5, t6] w fun t7 w =>
  o1 Tryd.prog (bin .geq 3 (.tmp 7) (.const (.int .i64 0)) t7 (.int .i64 0)) w fun t8 w =>
  mv t8 fun t4_1 =>
  k t4_1 w
theorem C.slices_ContainsFunc_bytes {k : Value → World → Prop} {a0 a1 : Value} {w : World} (h : F.slices_ContainsFunc_bytes k a0 a1 w) : C Tryd.prog N.slices_ContainsFunc_bytes #[a0, a1] w k :=
  den_calls (H := { moves := [], vars := [4] }) (args := [a0, a1]) mixed Tryd.func56 (by kernel_rfl) (by kernel_rfl) (by kernel_rfl) h

-- isthmus/files.named$1
def F.files_named_1 (k : Value → World → Prop) (a0 : Value) (w : World) : Prop :=
  mv (.bool false) fun t2 =>
  mv a0 fun t3 =>
  o1 Tryd.prog (bin .lss 5 (.tmp 3) (.const (.int .u8 33)) t3 (.int .u8 33)) w fun t4 w =>
  mv t4 fun t5 =>
  gd t5 false (fun k1 => mv a0 fun v => k1 v w) w fun t6 w =>
  gd t5 false (fun k2 => o1 Tryd.prog (bin .gtr 5 (.tmp 6) (.const (.int .u8 126)) t6 (.int .u8 126)) w k2) w fun t7 w =>
  pk t5 (.bool true) t7 fun t8 =>
  mv t8 fun t2_1 =>
  k t2_1 w
theorem C.files_named_1 {k : Value → World → Prop} {a0 : Value} {w : World} (h : F.files_named_1 k a0 w) : C Tryd.prog N.files_named_1 #[a0] w k :=
  den_calls (H := { moves := [], vars := [2] }) (args := [a0]) mixed Tryd.func57 (by kernel_rfl) (by kernel_rfl) (by kernel_rfl) h

-- isthmus/isthmusref04.find
def F.isthmusref04_find (k : Value → World → Prop) (a0 a1 : Value) (w : World) : Prop :=
  o1 Tryd.prog (Instr.box 42 a0) w fun t2 w =>
  mv (.int .i64 0) fun t4 =>
  mv (.bool false) fun t5 =>
  mv (.int .i64 0) fun t6 =>
  lp [t6] w fun I1 μ1 => ∀ (x1 : Env) (w1 : World), I1 [x1 6] w1 →
  mv (x1 6) fun t7 =>
  o1 Tryd.prog (Instr.fieldAt 42 t2 0) w1 fun t8 w =>
  o1 Tryd.prog (Instr.loadAt 40 t8) w fun t9 w =>
  o1 Tryd.prog (Builtin.len_ #[40] 3 #[t9]) w fun t10 w =>
  o1 Tryd.prog (bin .lss 3 (.tmp 7) (.tmp 10) t7 t10) w fun t11 w =>
  mv t11 fun t12 =>
  gd t12 true (fun k1 => o1 Tryd.prog (Instr.fieldAt 42 t2 0) w k1) w fun t13 w =>
  gd t12 true (fun k2 => o1 Tryd.prog (Instr.loadAt 40 t13) w k2) w fun t14 w =>
  gd t12 true (fun k3 => mv (x1 6) fun v => k3 v w) w fun t15 w =>
  gd t12 true (fun k4 => o1 Tryd.prog (Instr.indexAt 40 t14 t15) w k4) w fun t16 w =>
  gd t12 true (fun k5 => o1 Tryd.prog (Instr.fieldAt 80 t16 0) w k5) w fun t17 w =>
  gd t12 true (fun k6 => o1 Tryd.prog (Instr.loadAt 9 t17) w k6) w fun t18 w =>
  gd t12 true (fun k7 => mv a1 fun v => k7 v w) w fun t19 w =>
  gd t12 true (fun k8 => o1 Tryd.prog (bin .lss 9 (.tmp 18) (.tmp 19) t18 t19) w k8) w fun t20 w =>
  pk t12 t20 (.bool false) fun t21 =>
  br t21 (fun _ =>
  mv (x1 6) fun t22 =>
  o1 Tryd.prog (bin .add 3 (.tmp 22) (.const (.int .i64 1)) t22 (.int .i64 1)) w fun t23 w =>
  mv t23 fun t6_1 =>
  I1 [t6_1] w ∧ μ1 [t6_1] w < μ1 [x1 6] w1) (fun _ =>
  mv (x1 6) fun t24 =>
  mv (x1 6) fun t25 =>
  tk Tryd.prog (fun w' => w' = w.drew) (Instr.fieldAt 42 t2 0) fun t26 =>
  tk Tryd.prog (fun w' => w' = w.drew) (Instr.loadAt 40 t26) fun t27 =>
  tk Tryd.prog (fun w' => w' = w.drew) (Builtin.len_ #[40] 3 #[t27]) fun t28 =>
  tk Tryd.prog (fun w' => w' = w.drew) (bin .lss 3 (.tmp 25) (.tmp 28) t25 t28) fun t29 =>
  mv t29 fun t30 =>
  gdT t30 true (fun k9 => tk Tryd.prog (fun w' => w' = w.drew) (Instr.fieldAt 42 t2 0) k9) fun t31 =>
  gdT t30 true (fun k10 => tk Tryd.prog (fun w' => w' = w.drew) (Instr.loadAt 40 t31) k10) fun t32 =>
  gdT t30 true (fun k11 => mv (x1 6) k11) fun t33 =>
  gdT t30 true (fun k12 => tk Tryd.prog (fun w' => w' = w.drew) (Instr.indexAt 40 t32 t33) k12) fun t34 =>
  gdT t30 true (fun k13 => tk Tryd.prog (fun w' => w' = w.drew) (Instr.fieldAt 80 t34 0) k13) fun t35 =>
  gdT t30 true (fun k14 => tk Tryd.prog (fun w' => w' = w.drew) (Instr.loadAt 9 t35) k14) fun t36 =>
  gdT t30 true (fun k15 => mv a1 k15) fun t37 =>
  gdT t30 true (fun k16 => tk Tryd.prog (fun w' => w' = w.drew) (bin .eql 9 (.tmp 36) (.tmp 37) t36 t37) k16) fun t38 =>
  pk t30 t38 (.bool false) fun t39 =>
  mv t24 fun t4_1 =>
  mv t39 fun t5_1 =>
  k (.tuple #[t4_1, t5_1]) w.drew)
theorem C.isthmusref04_find {k : Value → World → Prop} {a0 a1 : Value} {w : World} (h : F.isthmusref04_find k a0 a1 w) : C Tryd.prog N.isthmusref04_find #[a0, a1] w k :=
  den_calls (H := { moves := [(4, (.take 0 (.take 1 (.take 2 (.take 3 (.take 4 (.take 5 (.take 6 (.take 7 (.take 8 (.take 9 (.take 10 (.take 11 (.take 12 (.take 13 (.take 14 (.take 15 (.take 16 (.take 17 .fin)))))))))))))))))))], vars := [4, 5, 6] }) (args := [a0, a1]) mixed Tryd.func61 (by kernel_rfl) (by kernel_rfl) (by kernel_rfl) h

-- slices.pdqsortOrdered[string]
def F.slices_pdqsortOrdered_string (k : Value → World → Prop) (a0 a1 a2 a3 : Value) (w : World) : Prop :=
  mv (.bool true) fun t8 =>
  mv (.bool true) fun t9 =>
  lp [a1, a2, a3, t8, t9, undef, undef, undef, undef, undef, undef, undef, undef, undef] w fun I1 μ1 => ∀ (x1 : Env) (w1 : World), I1 [x1 1, x1 2, x1 3, x1 8, x1 9, x1 10, x1 11, x1 12, x1 13, x1 14, x1 15, x1 16, x1 17, x1 18] w1 →
  jn (fun x2 => [x2 1, x2 2, x2 3, x2 8, x2 9, x2 10, x2 11, x2 12, x2 13, x2 14, x2 15, x2 16, x2 17, x2 18]) (fun k1 =>
  mv (x1 2) fun t19 =>
  mv (x1 1) fun t20 =>
  o1 Tryd.prog (bin .sub 3 (.tmp 19) (.tmp 20) t19 t20) w1 fun t21 w =>
  mv t21 fun t10 =>
  mv t10 fun t22 =>
  o1 Tryd.prog (bin .leq 3 (.tmp 22) (.const (.int .i64 12)) t22 (.int .i64 12)) w fun t23 w =>
  br t23 (fun _ =>
  mv a0 fun t24 =>
  mv (x1 1) fun t25 =>
  mv (x1 2) fun t26 =>
  C Tryd.prog N.slices_insertionSortOrdered_string #[t24, t25, t26] w fun t27 w =>
  k (.tuple #[]) w) (fun _ =>
  mv (x1 3) fun t28 =>
  o1 Tryd.prog (bin .eql 3 (.tmp 28) (.const (.int .i64 0)) t28 (.int .i64 0)) w fun t29 w =>
  br t29 (fun _ =>
  mv a0 fun t30 =>
  mv (x1 1) fun t31 =>
  mv (x1 2) fun t32 =>
  C Tryd.prog N.slices_heapSortOrdered_string #[t30, t31, t32] w fun t33 w =>
  k (.tuple #[]) w) (fun _ =>
  mv (x1 8) fun t34 =>
  o1 Tryd.prog (Op.unary .not t34) w fun t35 w =>
  jn (fun x3 => [x3 3]) (fun k2 =>
  br t35 (fun _ =>
  mv a0 fun t36 =>
  mv (x1 1) fun t37 =>
  mv (x1 2) fun t38 =>
  C Tryd.prog N.slices_breakPatternsOrdered_string #[t36, t37, t38] w fun t39 w =>
  mv (x1 3) fun t40 =>
  o1 Tryd.prog (bin .sub 3 (.tmp 40) (.const (.int .i64 1)) t40 (.int .i64 1)) w fun t41 w =>
  mv t41 fun t3 =>
  k2 [t3] w) (fun _ =>
  k2 [(x1 3)] w)) fun x3 w =>
  mv a0 fun t43 =>
  mv (x1 1) fun t44 =>
  mv (x1 2) fun t45 =>
  C Tryd.prog N.slices_choosePivotOrdered_string #[t43, t44, t45] w fun t46 w =>
  mv t46 fun t42 =>
  o1 Tryd.prog (Instr.extract t42 0) w fun t47 w =>
  o1 Tryd.prog (Instr.extract t42 1) w fun t48 w =>
  mv t47 fun t11 =>
  mv t48 fun t12 =>
  mv t12 fun t49 =>
  o1 Tryd.prog (bin .eql 131 (.tmp 49) (.const (.int .i64 2)) t49 (.int .i64 2)) w fun t50 w =>
  jn (fun x4 => [x4 11, x4 12]) (fun k3 =>
  br t50 (fun _ =>
  mv a0 fun t51 =>
  mv (x1 1) fun t52 =>
  mv (x1 2) fun t53 =>
  C Tryd.prog N.slices_reverseRangeOrdered_string #[t51, t52, t53] w fun t54 w =>
  mv (x1 2) fun t55 =>
  o1 Tryd.prog (bin .sub 3 (.tmp 55) (.const (.int .i64 1)) t55 (.int .i64 1)) w fun t56 w =>
  mv t11 fun t57 =>
  mv (x1 1) fun t58 =>
  o1 Tryd.prog (bin .sub 3 (.tmp 57) (.tmp 58) t57 t58) w fun t59 w =>
  o1 Tryd.prog (bin .sub 3 (.tmp 56) (.tmp 59) t56 t59) w fun t60 w =>
  mv t60 fun t11_1 =>
  mv (.int .i64 1) fun t12_1 =>
  k3 [t11_1, t12_1] w) (fun _ =>
  k3 [t11, t12] w)) fun x4 w =>
  mv (x1 8) fun t61 =>
  mv t61 fun t62 =>
  gd t62 true (fun k4 => mv (x1 9) fun v => k4 v w) w fun t63 w =>
  pk t62 t63 (.bool false) fun t64 =>
  mv t64 fun t65 =>
  gd t65 true (fun k5 => mv (x4 12) fun v => k5 v w) w fun t66 w =>
  gd t65 true (fun k6 => o1 Tryd.prog (bin .eql 131 (.tmp 66) (.const (.int .i64 1)) t66 (.int .i64 1)) w k6) w fun t67 w =>
  pk t65 t67 (.bool false) fun t68 =>
  jn (fun x5 => []) (fun k7 =>
  br t68 (fun _ =>
  mv a0 fun t69 =>
  mv (x1 1) fun t70 =>
  mv (x1 2) fun t71 =>
  C Tryd.prog N.slices_partialInsertionSortOrdered_string #[t69, t70, t71] w fun t72 w =>
  br t72 (fun _ =>
  k (.tuple #[]) w) (fun _ =>
  k7 [] w)) (fun _ =>
  k7 [] w)) fun x5 w =>
  dr w.drew fun S1 =>
  mv (x1 1) fun t73 =>
  tk Tryd.prog S1 (bin .gtr 3 (.tmp 73) (.const (.int .i64 0)) t73 (.int .i64 0)) fun t74 =>
  mv t74 fun t75 =>
  gdT t75 true (fun k8 => mv a0 k8) fun t76 =>
  gdT t75 true (fun k9 => mv (x1 1) k9) fun t77 =>
  gdT t75 true (fun k10 => tk Tryd.prog S1 (bin .sub 3 (.tmp 77) (.const (.int .i64 1)) t77 (.int .i64 1)) k10) fun t78 =>
  gdT t75 true (fun k11 => tk Tryd.prog S1 (Instr.indexAt 48 t76 t78) k11) fun t79 =>
  gdT t75 true (fun k12 => tk Tryd.prog S1 (Instr.loadAt 9 t79) k12) fun t80 =>
  gdT t75 true (fun k13 => mv a0 k13) fun t81 =>
  gdT t75 true (fun k14 => mv (x4 11) k14) fun t82 =>
  gdT t75 true (fun k15 => tk Tryd.prog S1 (Instr.indexAt 48 t81 t82) k15) fun t83 =>
  gdT t75 true (fun k16 => tk Tryd.prog S1 (Instr.loadAt 9 t83) k16) fun t84 =>
  gd t75 true (fun k17 => C Tryd.prog N.cmp_Less_string #[t80, t84] w.drew k17) w.drew fun t85 w =>
  S1 w ∧
  gdT t75 true (fun k18 => tk Tryd.prog S1 (Op.unary .not t85) k18) fun t86 =>
  pk t75 t86 (.bool false) fun t87 =>
  br t87 (fun _ =>
  mv a0 fun t88 =>
  mv (x1 1) fun t89 =>
  mv (x1 2) fun t90 =>
  mv (x4 11) fun t91 =>
  C Tryd.prog N.slices_partitionEqualOrdered_string #[t88, t89, t90, t91] w fun t92 w =>
  mv t92 fun t13 =>
  mv t13 fun t93 =>
  mv t93 fun t1 =>
  k1 [t1, (x1 2), (x3 3), (x1 8), (x1 9), t10, (x4 11), (x4 12), t13, (x1 14), (x1 15), (x1 16), (x1 17), (x1 18)] w) (fun _ =>
  mv a0 fun t95 =>
  mv (x1 1) fun t96 =>
  mv (x1 2) fun t97 =>
  mv (x4 11) fun t98 =>
  C Tryd.prog N.slices_partitionOrdered_string #[t95, t96, t97, t98] w fun t99 w =>
  mv t99 fun t94 =>
  o1 Tryd.prog (Instr.extract t94 0) w fun t100 w =>
  o1 Tryd.prog (Instr.extract t94 1) w fun t101 w =>
  mv t100 fun t14 =>
  mv t101 fun t15 =>
  mv t15 fun t102 =>
  mv t102 fun t9_1 =>
  mv t14 fun t103 =>
  mv (x1 1) fun t104 =>
  o1 Tryd.prog (bin .sub 3 (.tmp 103) (.tmp 104) t103 t104) w fun t105 w =>
  mv (x1 2) fun t106 =>
  mv t14 fun t107 =>
  o1 Tryd.prog (bin .sub 3 (.tmp 106) (.tmp 107) t106 t107) w fun t108 w =>
  mv t105 fun t16 =>
  mv t108 fun t17 =>
  mv t10 fun t109 =>
  o1 Tryd.prog (bin .quo 3 (.tmp 109) (.const (.int .i64 8)) t109 (.int .i64 8)) w fun t110 w =>
  mv t110 fun t18 =>
  mv t16 fun t111 =>
  mv t17 fun t112 =>
  o1 Tryd.prog (bin .lss 3 (.tmp 111) (.tmp 112) t111 t112) w fun t113 w =>
  jn (fun x6 => [x6 1, x6 2, x6 8]) (fun k19 =>
  br t113 (fun _ =>
  mv t16 fun t114 =>
  mv t18 fun t115 =>
  o1 Tryd.prog (bin .geq 3 (.tmp 114) (.tmp 115) t114 t115) w fun t116 w =>
  mv t116 fun t8_1 =>
  mv a0 fun t117 =>
  mv (x1 1) fun t118 =>
  mv t14 fun t119 =>
  mv (x3 3) fun t120 =>
  C Tryd.prog N.slices_pdqsortOrdered_string #[t117, t118, t119, t120] w fun t121 w =>
  mv t14 fun t122 =>
  o1 Tryd.prog (bin .add 3 (.tmp 122) (.const (.int .i64 1)) t122 (.int .i64 1)) w fun t123 w =>
  mv t123 fun t1_1 =>
  k19 [t1_1, (x1 2), t8_1] w) (fun _ =>
  mv t17 fun t124 =>
  mv t18 fun t125 =>
  o1 Tryd.prog (bin .geq 3 (.tmp 124) (.tmp 125) t124 t125) w fun t126 w =>
  mv t126 fun t8_2 =>
  mv a0 fun t127 =>
  mv t14 fun t128 =>
  o1 Tryd.prog (bin .add 3 (.tmp 128) (.const (.int .i64 1)) t128 (.int .i64 1)) w fun t129 w =>
  mv (x1 2) fun t130 =>
  mv (x3 3) fun t131 =>
  C Tryd.prog N.slices_pdqsortOrdered_string #[t127, t129, t130, t131] w fun t132 w =>
  mv t14 fun t133 =>
  mv t133 fun t2 =>
  k19 [(x1 1), t2, t8_2] w)) fun x6 w =>
  k1 [(x6 1), (x6 2), (x3 3), (x6 8), t9_1, t10, (x4 11), (x4 12), (x1 13), t14, t15, t16, t17, t18] w)))) fun x2 w =>
  I1 [(x2 1), (x2 2), (x2 3), (x2 8), (x2 9), (x2 10), (x2 11), (x2 12), (x2 13), (x2 14), (x2 15), (x2 16), (x2 17), (x2 18)] w ∧ μ1 [(x2 1), (x2 2), (x2 3), (x2 8), (x2 9), (x2 10), (x2 11), (x2 12), (x2 13), (x2 14), (x2 15), (x2 16), (x2 17), (x2 18)] w < μ1 [x1 1, x1 2, x1 3, x1 8, x1 9, x1 10, x1 11, x1 12, x1 13, x1 14, x1 15, x1 16, x1 17, x1 18] w1
theorem C.slices_pdqsortOrdered_string {k : Value → World → Prop} {a0 a1 a2 a3 : Value} {w : World} (h : F.slices_pdqsortOrdered_string k a0 a1 a2 a3 w) : C Tryd.prog N.slices_pdqsortOrdered_string #[a0, a1, a2, a3] w k :=
  den_calls (H := { moves := [(17, (.take 0 (.take 1 (.take 2 (.take 3 (.take 4 (.take 5 (.take 6 (.take 7 (.take 8 (.take 9 (.take 10 (.take 11 (.force 12 (.take 13 (.take 14 .fin))))))))))))))))], vars := [1, 2, 3, 8, 9, 10, 11, 12, 13, 14, 15, 16, 17, 18] }) (args := [a0, a1, a2, a3]) mixed Tryd.func63 (by kernel_rfl) (by kernel_rfl) (by kernel_rfl) h

-- math/bits.Len
def F.math_bits_Len (k : Value → World → Prop) (a0 : Value) (w : World) : Prop :=
  mv (.int .i64 0) fun t2 =>
  br (.bool false) (fun _ =>
  mv a0 fun t3 =>
  o1 Tryd.prog (convert 25 139 t3) w fun t4 w =>
  C Tryd.prog N.math_bits_Len32 #[t4] w fun t5 w =>
  mv t5 fun t2_1 =>
  k t2_1 w) (fun _ =>
  mv a0 fun t6 =>
  C Tryd.prog N.math_bits_Len64 #[t6] w fun t7 w =>
  mv t7 fun t2_2 =>
  k t2_2 w)
theorem C.math_bits_Len {k : Value → World → Prop} {a0 : Value} {w : World} (h : F.math_bits_Len k a0 w) : C Tryd.prog N.math_bits_Len #[a0] w k :=
  den_calls (H := { moves := [], vars := [2] }) (args := [a0]) mixed Tryd.func64 (by kernel_rfl) (by kernel_rfl) (by kernel_rfl) h

-- slices.IndexFunc[[]byte,byte]
def F.slices_IndexFunc_bytes (k : Value → World → Prop) (a0 a1 : Value) (w : World) : Prop :=
  mv (.int .i64 0) fun t4 =>
  mv a0 fun t6 =>
  o1 Tryd.prog (Builtin.len_ #[22] 3 #[t6]) w fun t7 w =>
  mv (.int .i64 0) fun t8 =>
  lp [t4, undef, t8] w fun I1 μ1 => ∀ (x1 : Env) (w1 : World), I1 [x1 4, x1 5, x1 8] w1 →
  o1 Tryd.prog (bin .lss 3 (.tmp 8) (.tmp 7) (x1 8) t7) w1 fun t9 w =>
  br t9 (fun _ =>
  mv (x1 8) fun t10 =>
  mv t10 fun t5 =>
  mv a1 fun t11 =>
  mv a0 fun t12 =>
  mv t5 fun t13 =>
  o1 Tryd.prog (Instr.indexAt 22 t12 t13) w fun t14 w =>
  o1 Tryd.prog (Instr.loadAt 5 t14) w fun t15 w =>
  cv Tryd.prog t11 #[t15] w fun t16 w =>
  br t16 (fun _ =>
  mv t5 fun t17 =>
  mv t17 fun t4_1 =>
  k t4_1 w) (fun _ =>
  o1 Tryd.prog (bin .add 3 (.tmp 8) (.const (.int .i64 1)) (x1 8) (.int .i64 1)) w fun t18 w =>
  mv t18 fun t8_1 =>
  I1 [(x1 4), t5, t8_1] w ∧ μ1 [(x1 4), t5, t8_1] w < μ1 [x1 4, x1 5, x1 8] w1)) (fun _ =>
  mv (.int .i64 (-1)) fun t4_2 =>
  k t4_2 w)
theorem C.slices_IndexFunc_bytes {k : Value → World → Prop} {a0 a1 : Value} {w : World} (h : F.slices_IndexFunc_bytes k a0 a1 w) : C Tryd.prog N.slices_IndexFunc_bytes #[a0, a1] w k :=
  den_calls (H := { moves := [], vars := [4, 5, 8] }) (args := [a0, a1]) mixed Tryd.func65 (by kernel_rfl) (by kernel_rfl) (by kernel_rfl) h

-- slices.insertionSortOrdered[string]
def F.slices_insertionSortOrdered_string (k : Value → World → Prop) (a0 a1 a2 : Value) (w : World) : Prop :=
  mv a1 fun t8 =>
  o1 Tryd.prog (bin .add 3 (.tmp 8) (.const (.int .i64 1)) t8 (.int .i64 1)) w fun t9 w =>
  mv t9 fun t6 =>
  lp [t6, undef] w fun I1 μ1 => ∀ (x1 : Env) (w1 : World), I1 [x1 6, x1 7] w1 →
  mv (x1 6) fun t10 =>
  mv a2 fun t11 =>
  o1 Tryd.prog (bin .lss 3 (.tmp 10) (.tmp 11) t10 t11) w1 fun t12 w =>
  br t12 (fun _ =>
  mv (x1 6) fun t15 =>
  mv t15 fun t7 =>
  lp [t7] w fun I2 μ2 => ∀ (x2 : Env) (w2 : World), I2 [x2 7] w2 →
  dr w2.drew fun S1 =>
  mv (x2 7) fun t16 =>
  mv a1 fun t17 =>
  tk Tryd.prog S1 (bin .gtr 3 (.tmp 16) (.tmp 17) t16 t17) fun t18 =>
  mv t18 fun t19 =>
  gdT t19 true (fun k1 => mv a0 k1) fun t20 =>
  gdT t19 true (fun k2 => mv (x2 7) k2) fun t21 =>
  gdT t19 true (fun k3 => tk Tryd.prog S1 (Instr.indexAt 48 t20 t21) k3) fun t22 =>
  gdT t19 true (fun k4 => tk Tryd.prog S1 (Instr.loadAt 9 t22) k4) fun t23 =>
  gdT t19 true (fun k5 => mv a0 k5) fun t24 =>
  gdT t19 true (fun k6 => mv (x2 7) k6) fun t25 =>
  gdT t19 true (fun k7 => tk Tryd.prog S1 (bin .sub 3 (.tmp 25) (.const (.int .i64 1)) t25 (.int .i64 1)) k7) fun t26 =>
  gdT t19 true (fun k8 => tk Tryd.prog S1 (Instr.indexAt 48 t24 t26) k8) fun t27 =>
  gdT t19 true (fun k9 => tk Tryd.prog S1 (Instr.loadAt 9 t27) k9) fun t28 =>
  gd t19 true (fun k10 => C Tryd.prog N.cmp_Less_string #[t23, t28] w2.drew k10) w2.drew fun t29 w =>
  S1 w ∧
  pk t19 t29 (.bool false) fun t30 =>
  br t30 (fun _ =>
  dr w.drew fun S2 =>
  mv a0 fun t33 =>
  mv (x2 7) fun t34 =>
  mv a0 fun t35 =>
  mv (x2 7) fun t36 =>
  tk Tryd.prog S2 (bin .sub 3 (.tmp 36) (.const (.int .i64 1)) t36 (.int .i64 1)) fun t37 =>
  mv a0 fun t38 =>
  mv (x2 7) fun t39 =>
  tk Tryd.prog S2 (bin .sub 3 (.tmp 39) (.const (.int .i64 1)) t39 (.int .i64 1)) fun t40 =>
  tk Tryd.prog S2 (Instr.indexAt 48 t38 t40) fun t41 =>
  tk Tryd.prog S2 (Instr.loadAt 9 t41) fun t42 =>
  mv a0 fun t43 =>
  mv (x2 7) fun t44 =>
  tk Tryd.prog S2 (Instr.indexAt 48 t43 t44) fun t45 =>
  tk Tryd.prog S2 (Instr.loadAt 9 t45) fun t46 =>
  tk Tryd.prog S2 (Instr.indexAt 48 t33 t34) fun t47 =>
  o0 Tryd.prog (Instr.storeAt 9 t47 t42) w.drew fun _ w =>
  S2 w ∧
  tk Tryd.prog S2 (Instr.indexAt 48 t35 t37) fun t48 =>
  o0 Tryd.prog (Instr.storeAt 9 t48 t46) w fun _ w =>
  mv (x2 7) fun t31 =>
  o1 Tryd.prog (bin .sub 3 (.tmp 31) (.const (.int .i64 1)) t31 (.int .i64 1)) w fun t32 w =>
  mv t32 fun t7_1 =>
  I2 [t7_1] w ∧ μ2 [t7_1] w < μ2 [x2 7] w2) (fun _ =>
  mv (x1 6) fun t13 =>
  o1 Tryd.prog (bin .add 3 (.tmp 13) (.const (.int .i64 1)) t13 (.int .i64 1)) w fun t14 w =>
  mv t14 fun t6_1 =>
  I1 [t6_1, (x2 7)] w ∧ μ1 [t6_1, (x2 7)] w < μ1 [x1 6, x1 7] w1)) (fun _ =>
  k (.tuple #[]) w)
theorem C.slices_insertionSortOrdered_string {k : Value → World → Prop} {a0 a1 a2 : Value} {w : World} (h : F.slices_insertionSortOrdered_string k a0 a1 a2 w) : C Tryd.prog N.slices_insertionSortOrdered_string #[a0, a1, a2] w k :=
  den_calls (H := { moves := [(4, (.take 0 (.take 1 (.take 2 (.take 3 (.take 4 (.take 5 (.take 6 (.take 7 (.take 8 (.take 9 (.take 10 (.take 11 (.take 12 (.force 13 (.take 14 .fin)))))))))))))))), (6, (.take 0 (.take 1 (.take 2 (.take 3 (.take 4 (.take 5 (.take 6 (.take 7 (.take 8 (.take 9 (.take 10 (.take 11 (.take 12 (.take 13 (.take 14 (.force 15 (.take 16 (.last 17)))))))))))))))))))], vars := [6, 7] }) (args := [a0, a1, a2]) mixed Tryd.func66 (by kernel_rfl) (by kernel_rfl) (by kernel_rfl) h

-- slices.heapSortOrdered[string]
def F.slices_heapSortOrdered_string (k : Value → World → Prop) (a0 a1 a2 : Value) (w : World) : Prop :=
  mv a1 fun t11 =>
  mv t11 fun t6 =>
  mv (.int .i64 0) fun t7 =>
  mv a2 fun t12 =>
  mv a1 fun t13 =>
  o1 Tryd.prog (bin .sub 3 (.tmp 12) (.tmp 13) t12 t13) w fun t14 w =>
  mv t14 fun t8 =>
  mv t8 fun t15 =>
  o1 Tryd.prog (bin .sub 3 (.tmp 15) (.const (.int .i64 1)) t15 (.int .i64 1)) w fun t16 w =>
  o1 Tryd.prog (bin .quo 3 (.tmp 16) (.const (.int .i64 2)) t16 (.int .i64 2)) w fun t17 w =>
  mv t17 fun t9 =>
  lp [t9] w fun I1 μ1 => ∀ (x1 : Env) (w1 : World), I1 [x1 9] w1 →
  mv (x1 9) fun t18 =>
  o1 Tryd.prog (bin .geq 3 (.tmp 18) (.const (.int .i64 0)) t18 (.int .i64 0)) w1 fun t19 w =>
  br t19 (fun _ =>
  mv a0 fun t22 =>
  mv (x1 9) fun t23 =>
  mv t8 fun t24 =>
  mv t6 fun t25 =>
  C Tryd.prog N.slices_siftDownOrdered_string #[t22, t23, t24, t25] w fun t26 w =>
  mv (x1 9) fun t20 =>
  o1 Tryd.prog (bin .sub 3 (.tmp 20) (.const (.int .i64 1)) t20 (.int .i64 1)) w fun t21 w =>
  mv t21 fun t9_1 =>
  I1 [t9_1] w ∧ μ1 [t9_1] w < μ1 [x1 9] w1) (fun _ =>
  mv t8 fun t27 =>
  o1 Tryd.prog (bin .sub 3 (.tmp 27) (.const (.int .i64 1)) t27 (.int .i64 1)) w fun t28 w =>
  mv t28 fun t10 =>
  lp [t10] w fun I2 μ2 => ∀ (x2 : Env) (w2 : World), I2 [x2 10] w2 →
  mv (x2 10) fun t29 =>
  o1 Tryd.prog (bin .geq 3 (.tmp 29) (.const (.int .i64 0)) t29 (.int .i64 0)) w2 fun t30 w =>
  br t30 (fun _ =>
  dr w.drew fun S1 =>
  mv a0 fun t33 =>
  mv t6 fun t34 =>
  mv a0 fun t35 =>
  mv t6 fun t36 =>
  mv (x2 10) fun t37 =>
  tk Tryd.prog S1 (bin .add 3 (.tmp 36) (.tmp 37) t36 t37) fun t38 =>
  mv a0 fun t39 =>
  mv t6 fun t40 =>
  mv (x2 10) fun t41 =>
  tk Tryd.prog S1 (bin .add 3 (.tmp 40) (.tmp 41) t40 t41) fun t42 =>
  tk Tryd.prog S1 (Instr.indexAt 48 t39 t42) fun t43 =>
  tk Tryd.prog S1 (Instr.loadAt 9 t43) fun t44 =>
  mv a0 fun t45 =>
  mv t6 fun t46 =>
  tk Tryd.prog S1 (Instr.indexAt 48 t45 t46) fun t47 =>
  tk Tryd.prog S1 (Instr.loadAt 9 t47) fun t48 =>
  tk Tryd.prog S1 (Instr.indexAt 48 t33 t34) fun t49 =>
  o0 Tryd.prog (Instr.storeAt 9 t49 t44) w.drew fun _ w =>
  S1 w ∧
  tk Tryd.prog S1 (Instr.indexAt 48 t35 t38) fun t50 =>
  o0 Tryd.prog (Instr.storeAt 9 t50 t48) w fun _ w =>
  mv a0 fun t51 =>
  mv t7 fun t52 =>
  mv (x2 10) fun t53 =>
  mv t6 fun t54 =>
  C Tryd.prog N.slices_siftDownOrdered_string #[t51, t52, t53, t54] w fun t55 w =>
  mv (x2 10) fun t31 =>
  o1 Tryd.prog (bin .sub 3 (.tmp 31) (.const (.int .i64 1)) t31 (.int .i64 1)) w fun t32 w =>
  mv t32 fun t10_1 =>
  I2 [t10_1] w ∧ μ2 [t10_1] w < μ2 [x2 10] w2) (fun _ =>
  k (.tuple #[]) w))
theorem C.slices_heapSortOrdered_string {k : Value → World → Prop} {a0 a1 a2 : Value} {w : World} (h : F.slices_heapSortOrdered_string k a0 a1 a2 w) : C Tryd.prog N.slices_heapSortOrdered_string #[a0, a1, a2] w k :=
  den_calls (H := { moves := [(10, (.take 0 (.take 1 (.take 2 (.take 3 (.take 4 (.take 5 (.take 6 (.take 7 (.take 8 (.take 9 (.take 10 (.take 11 (.take 12 (.take 13 (.take 14 (.take 15 (.take 16 (.force 17 (.take 18 (.last 19)))))))))))))))))))))], vars := [6, 7, 8, 9, 10] }) (args := [a0, a1, a2]) mixed Tryd.func67 (by kernel_rfl) (by kernel_rfl) (by kernel_rfl) h

-- slices.breakPatternsOrdered[string]
def F.slices_breakPatternsOrdered_string (k : Value → World → Prop) (a0 a1 a2 : Value) (w : World) : Prop :=
  mv a2 fun t11 =>
  mv a1 fun t12 =>
  o1 Tryd.prog (bin .sub 3 (.tmp 11) (.tmp 12) t11 t12) w fun t13 w =>
  mv t13 fun t6 =>
  mv t6 fun t14 =>
  o1 Tryd.prog (bin .geq 3 (.tmp 14) (.const (.int .i64 8)) t14 (.int .i64 8)) w fun t15 w =>
  jn (fun x1 => [x1 8, x1 9, x1 10]) (fun k1 =>
  br t15 (fun _ =>
  mv t6 fun t16 =>
  o1 Tryd.prog (convert 3 142 t16) w fun t17 w =>
  o1 Tryd.prog (Instr.alloc 142 true (.tuple #[])) w fun t7 w =>
  o0 Tryd.prog (Instr.storeAt 142 t7 t17) w fun _ w =>
  mv t6 fun t18 =>
  C Tryd.prog N.slices_nextPowerOfTwo #[t18] w fun t19 w =>
  mv t19 fun t8 =>
  mv a1 fun t20 =>
  mv t6 fun t21 =>
  o1 Tryd.prog (bin .quo 3 (.tmp 21) (.const (.int .i64 4)) t21 (.int .i64 4)) w fun t22 w =>
  o1 Tryd.prog (bin .mul 3 (.tmp 22) (.const (.int .i64 2)) t22 (.int .i64 2)) w fun t23 w =>
  o1 Tryd.prog (bin .add 3 (.tmp 20) (.tmp 23) t20 t23) w fun t24 w =>
  o1 Tryd.prog (bin .sub 3 (.tmp 24) (.const (.int .i64 1)) t24 (.int .i64 1)) w fun t25 w =>
  mv t25 fun t9 =>
  lp [t9, undef] w fun I2 μ2 => ∀ (x2 : Env) (w1 : World), I2 [x2 9, x2 10] w1 →
  mv (x2 9) fun t26 =>
  mv a1 fun t27 =>
  mv t6 fun t28 =>
  o1 Tryd.prog (bin .quo 3 (.tmp 28) (.const (.int .i64 4)) t28 (.int .i64 4)) w1 fun t29 w =>
  o1 Tryd.prog (bin .mul 3 (.tmp 29) (.const (.int .i64 2)) t29 (.int .i64 2)) w fun t30 w =>
  o1 Tryd.prog (bin .add 3 (.tmp 27) (.tmp 30) t27 t30) w fun t31 w =>
  o1 Tryd.prog (bin .add 3 (.tmp 31) (.const (.int .i64 1)) t31 (.int .i64 1)) w fun t32 w =>
  o1 Tryd.prog (bin .leq 3 (.tmp 26) (.tmp 32) t26 t32) w fun t33 w =>
  br t33 (fun _ =>
  C Tryd.prog N.slices_xorshift_Next #[t7] w fun t36 w =>
  mv t8 fun t37 =>
  o1 Tryd.prog (bin .sub 25 (.tmp 37) (.const (.int .u64 1)) t37 (.int .u64 1)) w fun t38 w =>
  o1 Tryd.prog (bin .and 25 (.tmp 36) (.tmp 38) t36 t38) w fun t39 w =>
  o1 Tryd.prog (convert 25 3 t39) w fun t40 w =>
  mv t40 fun t10 =>
  mv t10 fun t41 =>
  mv t6 fun t42 =>
  o1 Tryd.prog (bin .geq 3 (.tmp 41) (.tmp 42) t41 t42) w fun t43 w =>
  jn (fun x3 => [x3 10]) (fun k2 =>
  br t43 (fun _ =>
  mv t10 fun t44 =>
  mv t6 fun t45 =>
  o1 Tryd.prog (bin .sub 3 (.tmp 44) (.tmp 45) t44 t45) w fun t46 w =>
  mv t46 fun t10_1 =>
  k2 [t10_1] w) (fun _ =>
  k2 [t10] w)) fun x3 w =>
  dr w.drew fun S1 =>
  mv a0 fun t47 =>
  mv (x2 9) fun t48 =>
  mv a0 fun t49 =>
  mv a1 fun t50 =>
  mv (x3 10) fun t51 =>
  tk Tryd.prog S1 (bin .add 3 (.tmp 50) (.tmp 51) t50 t51) fun t52 =>
  mv a0 fun t53 =>
  mv a1 fun t54 =>
  mv (x3 10) fun t55 =>
  tk Tryd.prog S1 (bin .add 3 (.tmp 54) (.tmp 55) t54 t55) fun t56 =>
  tk Tryd.prog S1 (Instr.indexAt 48 t53 t56) fun t57 =>
  tk Tryd.prog S1 (Instr.loadAt 9 t57) fun t58 =>
  mv a0 fun t59 =>
  mv (x2 9) fun t60 =>
  tk Tryd.prog S1 (Instr.indexAt 48 t59 t60) fun t61 =>
  tk Tryd.prog S1 (Instr.loadAt 9 t61) fun t62 =>
  tk Tryd.prog S1 (Instr.indexAt 48 t47 t48) fun t63 =>
  o0 Tryd.prog (Instr.storeAt 9 t63 t58) w.drew fun _ w =>
  S1 w ∧
  tk Tryd.prog S1 (Instr.indexAt 48 t49 t52) fun t64 =>
  o0 Tryd.prog (Instr.storeAt 9 t64 t62) w fun _ w =>
  mv (x2 9) fun t34 =>
  o1 Tryd.prog (bin .add 3 (.tmp 34) (.const (.int .i64 1)) t34 (.int .i64 1)) w fun t35 w =>
  mv t35 fun t9_1 =>
  I2 [t9_1, (x3 10)] w ∧ μ2 [t9_1, (x3 10)] w < μ2 [x2 9, x2 10] w1) (fun _ =>
  k1 [t8, (x2 9), (x2 10)] w)) (fun _ =>
  k1 [undef, undef, undef] w)) fun x1 w =>
  k (.tuple #[]) w
theorem C.slices_breakPatternsOrdered_string {k : Value → World → Prop} {a0 a1 a2 : Value} {w : World} (h : F.slices_breakPatternsOrdered_string k a0 a1 a2 w) : C Tryd.prog N.slices_breakPatternsOrdered_string #[a0, a1, a2] w k :=
  den_calls (H := { moves := [(10, (.take 0 (.take 1 (.take 2 (.take 3 (.take 4 (.take 5 (.take 6 (.take 7 (.take 8 (.take 9 (.take 10 (.take 11 (.take 12 (.take 13 (.take 14 (.take 15 (.take 16 (.force 17 (.take 18 (.last 19)))))))))))))))))))))], vars := [6, 8, 9, 10] }) (args := [a0, a1, a2]) mixed Tryd.func68 (by kernel_rfl) (by kernel_rfl) (by kernel_rfl) h

-- slices.choosePivotOrdered[string]
def F.slices_choosePivotOrdered_string (k : Value → World → Prop) (a0 a1 a2 : Value) (w : World) : Prop :=
  mv (.int .i64 0) fun t6 =>
  mv (.int .i64 0) fun t7 =>
  mv a2 fun t13 =>
  mv a1 fun t14 =>
  o1 Tryd.prog (bin .sub 3 (.tmp 13) (.tmp 14) t13 t14) w fun t15 w =>
  mv t15 fun t8 =>
  o1 Tryd.prog (Instr.alloc 3 true (.tuple #[])) w fun t9 w =>
  mv a1 fun t16 =>
  mv t8 fun t17 =>
  o1 Tryd.prog (bin .quo 3 (.tmp 17) (.const (.int .i64 4)) t17 (.int .i64 4)) w fun t18 w =>
  o1 Tryd.prog (bin .mul 3 (.tmp 18) (.const (.int .i64 1)) t18 (.int .i64 1)) w fun t19 w =>
  o1 Tryd.prog (bin .add 3 (.tmp 16) (.tmp 19) t16 t19) w fun t20 w =>
  mv t20 fun t10 =>
  mv a1 fun t21 =>
  mv t8 fun t22 =>
  o1 Tryd.prog (bin .quo 3 (.tmp 22) (.const (.int .i64 4)) t22 (.int .i64 4)) w fun t23 w =>
  o1 Tryd.prog (bin .mul 3 (.tmp 23) (.const (.int .i64 2)) t23 (.int .i64 2)) w fun t24 w =>
  o1 Tryd.prog (bin .add 3 (.tmp 21) (.tmp 24) t21 t24) w fun t25 w =>
  mv t25 fun t11 =>
  mv a1 fun t26 =>
  mv t8 fun t27 =>
  o1 Tryd.prog (bin .quo 3 (.tmp 27) (.const (.int .i64 4)) t27 (.int .i64 4)) w fun t28 w =>
  o1 Tryd.prog (bin .mul 3 (.tmp 28) (.const (.int .i64 3)) t28 (.int .i64 3)) w fun t29 w =>
  o1 Tryd.prog (bin .add 3 (.tmp 26) (.tmp 29) t26 t29) w fun t30 w =>
  mv t30 fun t12 =>
  mv t8 fun t31 =>
  o1 Tryd.prog (bin .geq 3 (.tmp 31) (.const (.int .i64 8)) t31 (.int .i64 8)) w fun t32 w =>
  jn (fun x1 => [x1 10, x1 11, x1 12]) (fun k1 =>
  br t32 (fun _ =>
  mv t8 fun t33 =>
  o1 Tryd.prog (bin .geq 3 (.tmp 33) (.const (.int .i64 50)) t33 (.int .i64 50)) w fun t34 w =>
  jn (fun x2 => [x2 10, x2 11, x2 12]) (fun k2 =>
  br t34 (fun _ =>
  mv a0 fun t35 =>
  mv t10 fun t36 =>
  C Tryd.prog N.slices_medianAdjacentOrdered_string #[t35, t36, t9] w fun t37 w =>
  mv t37 fun t10_1 =>
  mv a0 fun t38 =>
  mv t11 fun t39 =>
  C Tryd.prog N.slices_medianAdjacentOrdered_string #[t38, t39, t9] w fun t40 w =>
  mv t40 fun t11_1 =>
  mv a0 fun t41 =>
  mv t12 fun t42 =>
  C Tryd.prog N.slices_medianAdjacentOrdered_string #[t41, t42, t9] w fun t43 w =>
  mv t43 fun t12_1 =>
  k2 [t10_1, t11_1, t12_1] w) (fun _ =>
  k2 [t10, t11, t12] w)) fun x2 w =>
  mv a0 fun t44 =>
  mv (x2 10) fun t45 =>
  mv (x2 11) fun t46 =>
  mv (x2 12) fun t47 =>
  C Tryd.prog N.slices_medianOrdered_string #[t44, t45, t46, t47, t9] w fun t48 w =>
  mv t48 fun t11_2 =>
  k1 [(x2 10), t11_2, (x2 12)] w) (fun _ =>
  k1 [t10, t11, t12] w)) fun x1 w =>
  o1 Tryd.prog (Instr.loadAt 3 t9) w fun t49 w =>
  o1 Tryd.prog (bin .eql 3 (.tmp 49) (.const (.int .i64 0)) t49 (.int .i64 0)) w fun t52 w =>
  mv t52 fun t51 =>
  br t51 (fun _ =>
  mv (x1 11) fun t53 =>
  mv t53 fun t6_1 =>
  mv (.int .i64 1) fun t7_1 =>
  k (.tuple #[t6_1, t7_1]) w) (fun _ =>
  o1 Tryd.prog (bin .eql 3 (.tmp 49) (.const (.int .i64 12)) t49 (.int .i64 12)) w fun t55 w =>
  mv t55 fun t54 =>
  br t54 (fun _ =>
  mv (x1 11) fun t56 =>
  mv t56 fun t6_2 =>
  mv (.int .i64 2) fun t7_2 =>
  k (.tuple #[t6_2, t7_2]) w) (fun _ =>
  mv (x1 11) fun t50 =>
  mv t50 fun t6_3 =>
  mv (.int .i64 0) fun t7_3 =>
  k (.tuple #[t6_3, t7_3]) w))
theorem C.slices_choosePivotOrdered_string {k : Value → World → Prop} {a0 a1 a2 : Value} {w : World} (h : F.slices_choosePivotOrdered_string k a0 a1 a2 w) : C Tryd.prog N.slices_choosePivotOrdered_string #[a0, a1, a2] w k :=
  den_calls (H := { moves := [], vars := [6, 7, 8, 10, 11, 12, 51, 54] }) (args := [a0, a1, a2]) mixed Tryd.func69 (by kernel_rfl) (by kernel_rfl) (by kernel_rfl) h

end Go.Proofs.YtiaiglgfangedaaDoor
