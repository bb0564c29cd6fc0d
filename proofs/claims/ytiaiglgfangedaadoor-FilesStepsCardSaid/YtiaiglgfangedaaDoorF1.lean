/- What each function asks: printed by hoas.py off the loaded program; each is held against the program by the kernel. -/
import Derived.Test.YtiaiglgfangedaaDoorN
set_option linter.unusedVariables false
set_option linter.unusedSimpArgs false
set_option linter.unusedSectionVars false
namespace Go.Proofs.YtiaiglgfangedaaDoor
open Go Go.Isk
set_option maxRecDepth 100000
-- isthmus/isthmuslaw04.same
-- (*isthmus/files.FS).Clone
-- (*isthmus/files.FS).List
def F.files_FS_List (k : Value → World → Prop) (a0 : Value) (w : World) : Prop :=
  mv (.slice none 0 0) fun t2 =>
  mv a0 fun t3 =>
  o1 Tryd.prog (bin .eql 23 (.tmp 3) (.const (.pointer none)) t3 (.pointer none)) w fun t4 w =>
  br t4 (fun _ =>
  mv (.slice none 0 0) fun t2_1 =>
  k t2_1 w) (fun _ =>
  mv a0 fun t5 =>
  nilOk t5 = true ∧ mv t5 fun t6 =>
  o1 Tryd.prog (Instr.fieldAt 54 t6 0) w fun t7 w =>
  o1 Tryd.prog (Instr.loadAt 52 t7) w fun t8 w =>
  C Tryd.prog N.maps_Keys_map_string_files_file_string_files_file #[t8] w fun t9 w =>
  C Tryd.prog N.slices_Sorted_string #[t9] w fun t10 w =>
  mv t10 fun t2_2 =>
  k t2_2 w)
theorem C.files_FS_List {k : Value → World → Prop} {a0 : Value} {w : World} (h : F.files_FS_List k a0 w) : C Tryd.prog N.files_FS_List #[a0] w k :=
  den_calls (H := { moves := [], vars := [2] }) (args := [a0]) mixed Tryd.func19 (by kernel_rfl) (by kernel_rfl) (by kernel_rfl) h

-- isthmus/files.fault
def F.files_fault (k : Value → World → Prop) (a0 a1 : Value) (w : World) : Prop :=
  mv .nilIface fun t4 =>
  mv a0 fun t5 =>
  o1 Tryd.prog (bin .add 9 (.const (.string ⟨#[102, 105, 108, 101, 32]⟩)) (.tmp 5) (.string ⟨#[102, 105, 108, 101, 32]⟩) t5) w fun t6 w =>
  mv a1 fun t7 =>
  o1 Tryd.prog (Instr.makeInterface 56 t7) w fun t8 w =>
  o1 Tryd.prog (Instr.build 88 #[(0, t6), (1, t8)]) w fun t9 w =>
  o1 Tryd.prog (Instr.box 88 t9) w fun t10 w =>
  o1 Tryd.prog (Instr.makeInterface 86 t10) w fun t11 w =>
  mv t11 fun t4_1 =>
  k t4_1 w
theorem C.files_fault {k : Value → World → Prop} {a0 a1 : Value} {w : World} (h : F.files_fault k a0 a1 w) : C Tryd.prog N.files_fault #[a0, a1] w k :=
  den_calls (H := { moves := [], vars := [4] }) (args := [a0, a1]) mixed Tryd.func20 (by kernel_rfl) (by kernel_rfl) (by kernel_rfl) h

-- (*isthmus/files.FS).ready
def F.files_FS_ready (k : Value → World → Prop) (a0 a1 : Value) (w : World) : Prop :=
  mv .nilIface fun t4 =>
  mv a1 fun t7 =>
  o1 Tryd.prog (Builtin.len_ #[48] 3 #[t7]) w fun t8 w =>
  mv (.int .i64 0) fun t9 =>
  lp [t4, undef, t9] w fun I1 μ1 => ∀ (x1 : Env) (w1 : World), I1 [x1 4, x1 6, x1 9] w1 →
  o1 Tryd.prog (bin .lss 3 (.tmp 9) (.tmp 8) (x1 9) t8) w1 fun t10 w =>
  br t10 (fun _ =>
  o1 Tryd.prog (Instr.indexAt 48 t7 (x1 9)) w fun t11 w =>
  o1 Tryd.prog (Instr.loadAt 9 t11) w fun t12 w =>
  mv t12 fun t6 =>
  mv a0 fun t13 =>
  o1 Tryd.prog (bin .eql 23 (.tmp 13) (.const (.pointer none)) t13 (.pointer none)) w fun t14 w =>
  mv t14 fun t15 =>
  gd t15 false (fun k1 => mv t6 fun v => k1 v w) w fun t16 w =>
  gd t15 false (fun k2 => C Tryd.prog N.files_named #[t16] w k2) w fun t17 w =>
  gd t15 false (fun k3 => o1 Tryd.prog (Op.unary .not t17) w k3) w fun t18 w =>
  pk t15 (.bool true) t18 fun t19 =>
  br t19 (fun _ =>
  mv t6 fun t20 =>
  C Tryd.prog N.files_fault #[t20, .int .i64 1] w fun t21 w =>
  mv t21 fun t4_1 =>
  k t4_1 w) (fun _ =>
  o1 Tryd.prog (bin .add 3 (.tmp 9) (.const (.int .i64 1)) (x1 9) (.int .i64 1)) w fun t22 w =>
  mv t22 fun t9_1 =>
  I1 [(x1 4), t6, t9_1] w ∧ μ1 [(x1 4), t6, t9_1] w < μ1 [x1 4, x1 6, x1 9] w1)) (fun _ =>
  mv a0 fun t24 =>
  o1 Tryd.prog (bin .eql 23 (.tmp 24) (.const (.pointer none)) t24 (.pointer none)) w fun t25 w =>
  mv t25 fun t23 =>
  br t23 (fun _ =>
  C Tryd.prog N.files_fault #[.string ⟨#[]⟩, .int .i64 1] w fun t26 w =>
  mv t26 fun t4_2 =>
  k t4_2 w) (fun _ =>
  mv a0 fun t28 =>
  nilOk t28 = true ∧ mv t28 fun t29 =>
  o1 Tryd.prog (Instr.fieldAt 54 t29 4) w fun t30 w =>
  o1 Tryd.prog (Instr.loadAt 4 t30) w fun t31 w =>
  mv t31 fun t27 =>
  br t27 (fun _ =>
  C Tryd.prog N.files_fault #[.string ⟨#[]⟩, .int .i64 13] w fun t32 w =>
  mv t32 fun t4_3 =>
  k t4_3 w) (fun _ =>
  mv .nilIface fun t4_4 =>
  k t4_4 w)))
theorem C.files_FS_ready {k : Value → World → Prop} {a0 a1 : Value} {w : World} (h : F.files_FS_ready k a0 a1 w) : C Tryd.prog N.files_FS_ready #[a0, a1] w k :=
  den_calls (H := { moves := [], vars := [4, 6, 9, 23, 27] }) (args := [a0, a1]) mixed Tryd.func21 (by kernel_rfl) (by kernel_rfl) (by kernel_rfl) h

-- (*isthmus/files.FS).step
def F.files_FS_step (k : Value → World → Prop) (a0 : Value) (w : World) : Prop :=
  mv .nilIface fun t2 =>
  mv a0 fun t3 =>
  nilOk t3 = true ∧ mv t3 fun t4 =>
  o1 Tryd.prog (Instr.fieldAt 54 t4 2) w fun t5 w =>
  o1 Tryd.prog (Instr.loadAt 4 t5) w fun t6 w =>
  mv t6 fun t7 =>
  gd t7 true (fun k1 => mv a0 fun v => k1 v w) w fun t8 w =>
  gd t7 true (fun k2 => nilOk t8 = true ∧ mv t8 fun v => k2 v w) w fun t9 w =>
  gd t7 true (fun k3 => o1 Tryd.prog (Instr.fieldAt 54 t9 3) w k3) w fun t10 w =>
  gd t7 true (fun k4 => o1 Tryd.prog (Instr.loadAt 3 t10) w k4) w fun t11 w =>
  gd t7 true (fun k5 => o1 Tryd.prog (bin .eql 3 (.tmp 11) (.const (.int .i64 0)) t11 (.int .i64 0)) w k5) w fun t12 w =>
  pk t7 t12 (.bool false) fun t13 =>
  br t13 (fun _ =>
  mv a0 fun t14 =>
  nilOk t14 = true ∧ mv t14 fun t15 =>
  o1 Tryd.prog (Instr.fieldAt 54 t15 4) w fun t16 w =>
  o0 Tryd.prog (Instr.storeAt 4 t16 (.bool true)) w fun _ w =>
  C Tryd.prog N.files_fault #[.string ⟨#[]⟩, .int .i64 13] w fun t17 w =>
  mv t17 fun t2_1 =>
  k t2_1 w) (fun _ =>
  mv a0 fun t18 =>
  nilOk t18 = true ∧ mv t18 fun t19 =>
  o1 Tryd.prog (Instr.fieldAt 54 t19 3) w fun t20 w =>
  o1 Tryd.prog (Instr.loadAt 3 t20) w fun t21 w =>
  o1 Tryd.prog (bin .sub 3 (.tmp 21) (.const (.int .i64 1)) t21 (.int .i64 1)) w fun t22 w =>
  nilOk t18 = true ∧ mv t18 fun t23 =>
  o1 Tryd.prog (Instr.fieldAt 54 t23 3) w fun t24 w =>
  o0 Tryd.prog (Instr.storeAt 3 t24 t22) w fun _ w =>
  mv a0 fun t25 =>
  nilOk t25 = true ∧ mv t25 fun t26 =>
  o1 Tryd.prog (Instr.fieldAt 54 t26 1) w fun t27 w =>
  o1 Tryd.prog (Instr.loadAt 3 t27) w fun t28 w =>
  o1 Tryd.prog (bin .add 3 (.tmp 28) (.const (.int .i64 1)) t28 (.int .i64 1)) w fun t29 w =>
  nilOk t25 = true ∧ mv t25 fun t30 =>
  o1 Tryd.prog (Instr.fieldAt 54 t30 1) w fun t31 w =>
  o0 Tryd.prog (Instr.storeAt 3 t31 t29) w fun _ w =>
  mv .nilIface fun t2_2 =>
  k t2_2 w)
theorem C.files_FS_step {k : Value → World → Prop} {a0 : Value} {w : World} (h : F.files_FS_step k a0 w) : C Tryd.prog N.files_FS_step #[a0] w k :=
  den_calls (H := { moves := [], vars := [2] }) (args := [a0]) mixed Tryd.func22 (by kernel_rfl) (by kernel_rfl) (by kernel_rfl) h

-- errors.As
def F.errors_As (k : Value → World → Prop) (a0 a1 : Value) (w : World) : Prop :=
  mv (.bool false) fun t4 =>
  mv a0 fun t8 =>
  o1 Tryd.prog (bin .eql 27 (.tmp 8) (.const .nilIface) t8 .nilIface) w fun t9 w =>
  br t9 (fun _ =>
  mv (.bool false) fun t4_1 =>
  k t4_1 w) (fun _ =>
  mv a1 fun t10 =>
  o1 Tryd.prog (bin .eql 20 (.tmp 10) (.const .nilIface) t10 .nilIface) w fun t11 w =>
  jn (fun x1 => []) (fun k1 =>
  br t11 (fun _ =>
  o1 Tryd.prog (Instr.makeInterface 9 (.string ⟨#[101, 114, 114, 111, 114, 115, 58, 32, 116, 97, 114, 103, 101, 116, 32, 99, 97, 110, 110, 111, 116, 32, 98, 101, 32, 110, 105, 108]⟩)) w fun t12 w =>
  False) (fun _ =>
  k1 [] w)) fun x1 w =>
  mv a1 fun t13 =>
  oN Tryd.prog (callFunc N.internal_reflectlite_ValueOf #[t13]) w fun t14 w =>
  o1 Tryd.prog (Instr.alloc 93 true (.tuple #[])) w fun t5 w =>
  o0 Tryd.prog (Instr.storeAt 93 t5 t14) w fun _ w =>
  o1 Tryd.prog (Instr.loadAt 93 t5) w fun t15 w =>
  oN Tryd.prog (callFunc N.internal_reflectlite_Value_Type #[t15]) w fun t16 w =>
  mv t16 fun t6 =>
  mv t6 fun t17 =>
  iv Tryd.prog t17 "Kind" #[] w fun t18 w =>
  o1 Tryd.prog (bin .neq 98 (.tmp 18) (.const (.int .u8 22)) t18 (.int .u8 22)) w fun t19 w =>
  mv t19 fun t20 =>
  gd t20 false (fun k2 => o1 Tryd.prog (Instr.loadAt 93 t5) w k2) w fun t21 w =>
  gd t20 false (fun k3 => oN Tryd.prog (callFunc N.internal_reflectlite_Value_IsNil #[t21]) w k3) w fun t22 w =>
  pk t20 (.bool true) t22 fun t23 =>
  jn (fun x2 => []) (fun k4 =>
  br t23 (fun _ =>
  o1 Tryd.prog (Instr.makeInterface 9 (.string ⟨#[101, 114, 114, 111, 114, 115, 58, 32, 116, 97, 114, 103, 101, 116, 32, 109, 117, 115, 116, 32, 98, 101, 32, 97, 32, 110, 111, 110, 45, 110, 105, 108, 32, 112, 111, 105, 110, 116, 101, 114]⟩)) w fun t24 w =>
  False) (fun _ =>
  k4 [] w)) fun x2 w =>
  mv t6 fun t25 =>
  iv Tryd.prog t25 "Elem" #[] w fun t26 w =>
  mv t26 fun t7 =>
  mv t7 fun t27 =>
  iv Tryd.prog t27 "Kind" #[] w fun t28 w =>
  o1 Tryd.prog (bin .neq 98 (.tmp 28) (.const (.int .u8 20)) t28 (.int .u8 20)) w fun t29 w =>
  mv t29 fun t30 =>
  gd t30 true (fun k5 => mv t7 fun v => k5 v w) w fun t31 w =>
  gd t30 true (fun k6 => o1 Tryd.prog (Instr.loadAt 96 (.pointer (some ⟨0, 0, none⟩))) w k6) w fun t32 w =>
  gd t30 true (fun k7 => iv Tryd.prog t31 "Implements" #[t32] w k7) w fun t33 w =>
  gd t30 true (fun k8 => o1 Tryd.prog (Op.unary .not t33) w k8) w fun t34 w =>
  pk t30 t34 (.bool false) fun t35 =>
  jn (fun x3 => []) (fun k9 =>
  br t35 (fun _ =>
  o1 Tryd.prog (Instr.makeInterface 9 (.string ⟨#[101, 114, 114, 111, 114, 115, 58, 32, 42, 116, 97, 114, 103, 101, 116, 32, 109, 117, 115, 116, 32, 98, 101, 32, 105, 110, 116, 101, 114, 102, 97, 99, 101, 32, 111, 114, 32, 105, 109, 112, 108, 101, 109, 101, 110, 116, 32, 101, 114, 114, 111, 114]⟩)) w fun t36 w =>
  False) (fun _ =>
  k9 [] w)) fun x3 w =>
  mv a0 fun t37 =>
  mv a1 fun t38 =>
  o1 Tryd.prog (Instr.loadAt 93 t5) w fun t39 w =>
  mv t7 fun t40 =>
  C Tryd.prog N.errors_as #[t37, t38, t39, t40] w fun t41 w =>
  mv t41 fun t4_2 =>
  k t4_2 w)
theorem C.errors_As {k : Value → World → Prop} {a0 a1 : Value} {w : World} (h : F.errors_As k a0 a1 w) : C Tryd.prog N.errors_As #[a0, a1] w k :=
  den_calls (H := { moves := [], vars := [4, 6, 7] }) (args := [a0, a1]) mixed Tryd.func23 (by kernel_rfl) (by kernel_rfl) (by kernel_rfl) h

-- (*isthmus/files.FS).find
def F.files_FS_find (k : Value → World → Prop) (a0 a1 : Value) (w : World) : Prop :=
  o1 Tryd.prog (Instr.alloc 59 true (.tuple #[])) w fun t4 w =>
  mv .nilIface fun t5 =>
  mv a0 fun t9 =>
  mv a1 fun t10 =>
  o1 Tryd.prog (Instr.buildSlice 48 1 #[(0, t10)]) w fun t11 w =>
  C Tryd.prog N.files_FS_ready #[t9, t11] w fun t12 w =>
  mv t12 fun t6 =>
  mv t6 fun t13 =>
  o1 Tryd.prog (bin .neq 27 (.tmp 13) (.const .nilIface) t13 .nilIface) w fun t14 w =>
  br t14 (fun _ =>
  o1 Tryd.prog (Instr.build 59 #[]) w fun t15 w =>
  mv t6 fun t16 =>
  o0 Tryd.prog (Instr.storeAt 59 t4 t15) w fun _ w =>
  mv t16 fun t5_1 =>
  rc Tryd.prog 59 t4 w fun r0 =>
  k (.tuple #[r0, t5_1]) w) (fun _ =>
  mv a0 fun t18 =>
  nilOk t18 = true ∧ mv t18 fun t19 =>
  o1 Tryd.prog (Instr.fieldAt 54 t19 0) w fun t20 w =>
  o1 Tryd.prog (Instr.loadAt 52 t20) w fun t21 w =>
  mv a1 fun t22 =>
  o1 Tryd.prog (Instr.lookup 52 t21 t22 true) w fun t23 w =>
  mv t23 fun t17 =>
  o1 Tryd.prog (Instr.extract t17 0) w fun t24 w =>
  o1 Tryd.prog (Instr.extract t17 1) w fun t25 w =>
  o1 Tryd.prog (Instr.alloc 59 true (.tuple #[])) w fun t7 w =>
  o0 Tryd.prog (Instr.storeAt 59 t7 t24) w fun _ w =>
  mv t25 fun t8 =>
  mv t8 fun t26 =>
  o1 Tryd.prog (Op.unary .not t26) w fun t27 w =>
  br t27 (fun _ =>
  o1 Tryd.prog (Instr.build 59 #[]) w fun t28 w =>
  mv a1 fun t29 =>
  C Tryd.prog N.files_fault #[t29, .int .i64 8] w fun t30 w =>
  o0 Tryd.prog (Instr.storeAt 59 t4 t28) w fun _ w =>
  mv t30 fun t5_2 =>
  rc Tryd.prog 59 t4 w fun r0 =>
  k (.tuple #[r0, t5_2]) w) (fun _ =>
  o1 Tryd.prog (Instr.loadAt 59 t7) w fun t31 w =>
  o0 Tryd.prog (Instr.storeAt 59 t4 t31) w fun _ w =>
  mv .nilIface fun t5_3 =>
  rc Tryd.prog 59 t4 w fun r0 =>
  k (.tuple #[r0, t5_3]) w))
theorem C.files_FS_find {k : Value → World → Prop} {a0 a1 : Value} {w : World} (h : F.files_FS_find k a0 a1 w) : C Tryd.prog N.files_FS_find #[a0, a1] w k :=
  den_calls (H := { moves := [], vars := [5, 6, 8] }) (args := [a0, a1]) mixed Tryd.func24 (by kernel_rfl) (by kernel_rfl) (by kernel_rfl) h

-- slices.Clone[[]byte,byte]
def F.slices_Clone_bytes (k : Value → World → Prop) (a0 : Value) (w : World) : Prop :=
  mv (.slice none 0 0) fun t2 =>
  mv a0 fun t3 =>
  o1 Tryd.prog (bin .eql 22 (.tmp 3) (.const (.slice none 0 0)) t3 (.slice none 0 0)) w fun t4 w =>
  br t4 (fun _ =>
  mv (.slice none 0 0) fun t2_1 =>
  k t2_1 w) (fun _ =>
  o1 Tryd.prog (Instr.buildSlice 22 0 #[]) w fun t5 w =>
  mv a0 fun t6 =>
  ob Tryd.prog (fun _ => Builtin.append_ #[22, 22] 22 #[t5, t6]) w fun t7 w =>
  mv t7 fun t2_2 =>
  k t2_2 w)
theorem C.slices_Clone_bytes {k : Value → World → Prop} {a0 : Value} {w : World} (h : F.slices_Clone_bytes k a0 w) : C Tryd.prog N.slices_Clone_bytes #[a0] w k :=
  den_calls (H := { moves := [], vars := [2] }) (args := [a0]) mixed Tryd.func25 (by kernel_rfl) (by kernel_rfl) (by kernel_rfl) h

-- (*isthmus/files.FS).change
def F.files_FS_change (k : Value → World → Prop) (a0 a1 a2 : Value) (w : World) : Prop :=
  mv .nilIface fun t6 =>
  mv a0 fun t11 =>
  mv a1 fun t12 =>
  C Tryd.prog N.files_FS_find #[t11, t12] w fun t13 w =>
  mv t13 fun t10 =>
  o1 Tryd.prog (Instr.extract t10 0) w fun t14 w =>
  o1 Tryd.prog (Instr.extract t10 1) w fun t15 w =>
  o1 Tryd.prog (Instr.alloc 59 true (.tuple #[])) w fun t7 w =>
  o0 Tryd.prog (Instr.storeAt 59 t7 t14) w fun _ w =>
  mv t15 fun t8 =>
  mv t8 fun t16 =>
  o1 Tryd.prog (bin .neq 27 (.tmp 16) (.const .nilIface) t16 .nilIface) w fun t17 w =>
  br t17 (fun _ =>
  mv t8 fun t18 =>
  mv t18 fun t6_1 =>
  k t6_1 w) (fun _ =>
  mv a0 fun t19 =>
  C Tryd.prog N.files_FS_step #[t19] w fun t20 w =>
  mv t20 fun t9 =>
  mv t9 fun t21 =>
  o1 Tryd.prog (bin .neq 27 (.tmp 21) (.const .nilIface) t21 .nilIface) w fun t22 w =>
  br t22 (fun _ =>
  mv t9 fun t23 =>
  mv t23 fun t6_2 =>
  k t6_2 w) (fun _ =>
  mv a2 fun t24 =>
  o1 Tryd.prog (Instr.loadAt 59 t7) w fun t25 w =>
  cv Tryd.prog t24 #[t25] w fun t26 w =>
  mv .nilIface fun t6_3 =>
  k t6_3 w))
theorem C.files_FS_change {k : Value → World → Prop} {a0 a1 a2 : Value} {w : World} (h : F.files_FS_change k a0 a1 a2 w) : C Tryd.prog N.files_FS_change #[a0, a1, a2] w k :=
  den_calls (H := { moves := [], vars := [6, 8, 9] }) (args := [a0, a1, a2]) mixed Tryd.func26 (by kernel_rfl) (by kernel_rfl) (by kernel_rfl) h

-- (*isthmus/files.FS).Sync$1
def F.files_FS_Sync_1 (k : Value → World → Prop) (a0 a1 a2 : Value) (w : World) : Prop :=
  o1 Tryd.prog (Instr.box 59 a0) w fun t3 w =>
  dr w.drew fun S1 =>
  tk Tryd.prog S1 (Instr.loadAt 23 a1) fun t4 =>
  nilOk t4 = true ∧ mv t4 fun t5 =>
  tk Tryd.prog S1 (Instr.fieldAt 54 t5 0) fun t6 =>
  tk Tryd.prog S1 (Instr.loadAt 52 t6) fun t7 =>
  tk Tryd.prog S1 (Instr.loadAt 9 a2) fun t8 =>
  tk Tryd.prog S1 (Instr.fieldAt 59 t3 0) fun t9 =>
  tk Tryd.prog S1 (Instr.loadAt 22 t9) fun t10 =>
  tk Tryd.prog S1 (Instr.fieldAt 59 t3 0) fun t11 =>
  tk Tryd.prog S1 (Instr.loadAt 22 t11) fun t12 =>
  tk Tryd.prog S1 (Builtin.len_ #[22] 3 #[t12]) fun t13 =>
  tk Tryd.prog S1 (Instr.build 59 #[(0, t10), (1, t13)]) fun t14 =>
  o0 Tryd.prog (Instr.mapUpdate 52 t7 t8 t14) w.drew fun _ w =>
  k (.tuple #[]) w
theorem C.files_FS_Sync_1 {k : Value → World → Prop} {a0 a1 a2 : Value} {w : World} (h : F.files_FS_Sync_1 k a0 a1 a2 w) : C Tryd.prog N.files_FS_Sync_1 #[a0, a1, a2] w k :=
  den_calls (H := { moves := [(1, (.take 0 (.take 1 (.take 2 (.take 3 (.take 4 (.take 5 (.take 6 (.take 7 (.take 8 (.take 9 (.take 10 (.last 11)))))))))))))], vars := [] }) (args := [a0, a1, a2]) mixed Tryd.func27 (by kernel_rfl) (by kernel_rfl) (by kernel_rfl) h

-- isthmus/isthmusref04.Append
-- isthmus/isthmusref04.Change
-- (*isthmus/files.FS).Rename
-- (*isthmus/files.FS).Remove
-- (*isthmus/files.FS).Cut
-- isthmus/isthmusref04.Start
-- (*isthmus/files.FS).Safe
-- isthmus/isthmusref04.Read
-- maps.Clone[map[string]isthmus/files.file,string,isthmus/files.file]
end Go.Proofs.YtiaiglgfangedaaDoor
