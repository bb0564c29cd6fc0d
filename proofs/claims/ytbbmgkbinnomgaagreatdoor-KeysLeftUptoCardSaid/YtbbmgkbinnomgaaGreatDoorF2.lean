/- What each function asks: printed by hoas.py off the loaded program; each is held against the program by the kernel. -/
import Derived.Test.YtbbmgkbinnomgaaGreatDoorN
set_option linter.unusedVariables false
set_option linter.unusedSimpArgs false
set_option linter.unusedSectionVars false
namespace Go.Proofs.YtbbmgkbinnomgaaGreatDoor
open Go Go.Isk
set_option maxRecDepth 100000
-- isthmus/wots.digest
def F.wots_digest (k : Value → World → Prop) (a0 : Value) (w : World) : Prop :=
  mv (.bool false) fun t2 =>
  mv a0 fun t3 =>
  o1 Tryz.prog (bin .geq 3 (.tmp 3) (.const (.int .i64 1)) t3 (.int .i64 1)) w fun t4 w =>
  mv t4 fun t5 =>
  gd t5 true (fun k1 => mv a0 fun v => k1 v w) w fun t6 w =>
  gd t5 true (fun k2 => o1 Tryz.prog (bin .leq 3 (.tmp 6) (.const (.int .i64 32)) t6 (.int .i64 32)) w k2) w fun t7 w =>
  pk t5 t7 (.bool false) fun t8 =>
  mv t8 fun t2_1 =>
  k t2_1 w
theorem C.wots_digest {k : Value → World → Prop} {a0 : Value} {w : World} (h : F.wots_digest k a0 w) : C Tryz.prog N.wots_digest #[a0] w k :=
  den_calls (H := { moves := [], vars := [2] }) (args := [a0]) mixed Tryz.func70 (by kernel_rfl) (by kernel_rfl) (by kernel_rfl) h

-- isthmus/wots.fault
def F.wots_fault (k : Value → World → Prop) (a0 a1 : Value) (w : World) : Prop :=
  mv .nilIface fun t4 =>
  mv a0 fun t5 =>
  mv a1 fun t6 =>
  o1 Tryz.prog (Instr.makeInterface 87 t6) w fun t7 w =>
  o1 Tryz.prog (Instr.build 138 #[(0, t5), (1, t7)]) w fun t8 w =>
  o1 Tryz.prog (Instr.box 138 t8) w fun t9 w =>
  o1 Tryz.prog (Instr.makeInterface 136 t9) w fun t10 w =>
  mv t10 fun t4_1 =>
  k t4_1 w
theorem C.wots_fault {k : Value → World → Prop} {a0 a1 : Value} {w : World} (h : F.wots_fault k a0 a1 w) : C Tryz.prog N.wots_fault #[a0, a1] w k :=
  den_calls (H := { moves := [], vars := [4] }) (args := [a0, a1]) mixed Tryz.func71 (by kernel_rfl) (by kernel_rfl) (by kernel_rfl) h

-- isthmus/wots.check
def F.wots_check (k : Value → World → Prop) (a0 a1 : Value) (w : World) : Prop :=
  mv .nilIface fun t4 =>
  mv a0 fun t6 =>
  o1 Tryz.prog (bin .lss 3 (.tmp 6) (.const (.int .i64 0)) t6 (.int .i64 0)) w fun t7 w =>
  mv t7 fun t8 =>
  gd t8 false (fun k1 => mv a0 fun v => k1 v w) w fun t9 w =>
  gd t8 false (fun k2 => o1 Tryz.prog (bin .geq 3 (.tmp 9) (.const (.int .i64 1024)) t9 (.int .i64 1024)) w k2) w fun t10 w =>
  pk t8 (.bool true) t10 fun t11 =>
  mv t11 fun t5 =>
  br t5 (fun _ =>
  C Tryz.prog N.wots_fault #[.string ⟨#[108, 101, 97, 102]⟩, .int .i64 1] w fun t12 w =>
  mv t12 fun t4_1 =>
  k t4_1 w) (fun _ =>
  mv a1 fun t14 =>
  C Tryz.prog N.wots_digest #[t14] w fun t15 w =>
  o1 Tryz.prog (Op.unary .not t15) w fun t16 w =>
  mv t16 fun t13 =>
  br t13 (fun _ =>
  C Tryz.prog N.wots_fault #[.string ⟨#[100, 105, 103, 101, 115, 116]⟩, .int .i64 1] w fun t17 w =>
  mv t17 fun t4_2 =>
  k t4_2 w) (fun _ =>
  mv .nilIface fun t4_3 =>
  k t4_3 w))
theorem C.wots_check {k : Value → World → Prop} {a0 a1 : Value} {w : World} (h : F.wots_check k a0 a1 w) : C Tryz.prog N.wots_check #[a0, a1] w k :=
  den_calls (H := { moves := [], vars := [4, 5, 13] }) (args := [a0, a1]) mixed Tryz.func72 (by kernel_rfl) (by kernel_rfl) (by kernel_rfl) h

-- isthmus/wots.Len
def F.wots_Len (k : Value → World → Prop) (a0 : Value) (w : World) : Prop :=
  mv (.int .i64 0) fun t2 =>
  mv a0 fun t3 =>
  C Tryz.prog N.wots_digest #[t3] w fun t4 w =>
  o1 Tryz.prog (Op.unary .not t4) w fun t5 w =>
  br t5 (fun _ =>
  mv (.int .i64 0) fun t2_1 =>
  k t2_1 w) (fun _ =>
  mv a0 fun t6 =>
  o1 Tryz.prog (bin .mul 3 (.const (.int .i64 2)) (.tmp 6) (.int .i64 2) t6) w fun t7 w =>
  o1 Tryz.prog (bin .add 3 (.tmp 7) (.const (.int .i64 3)) t7 (.int .i64 3)) w fun t8 w =>
  mv t8 fun t2_2 =>
  k t2_2 w)
theorem C.wots_Len {k : Value → World → Prop} {a0 : Value} {w : World} (h : F.wots_Len k a0 w) : C Tryz.prog N.wots_Len #[a0] w k :=
  den_calls (H := { moves := [], vars := [2] }) (args := [a0]) mixed Tryz.func73 (by kernel_rfl) (by kernel_rfl) (by kernel_rfl) h

-- isthmus/wots.Digits
def F.wots_Digits (k : Value → World → Prop) (a0 : Value) (w : World) : Prop :=
  mv (.slice none 0 0) fun t2 =>
  mv a0 fun t10 =>
  o1 Tryz.prog (Builtin.len_ #[26] 3 #[t10]) w fun t11 w =>
  C Tryz.prog N.wots_digest #[t11] w fun t12 w =>
  o1 Tryz.prog (Op.unary .not t12) w fun t13 w =>
  br t13 (fun _ =>
  mv (.slice none 0 0) fun t2_1 =>
  k t2_1 w) (fun _ =>
  mv a0 fun t14 =>
  o1 Tryz.prog (Builtin.len_ #[26] 3 #[t14]) w fun t15 w =>
  C Tryz.prog N.wots_Len #[t15] w fun t16 w =>
  o1 Tryz.prog (Instr.makeSlice 63 (.int .i64 0) t16) w fun t17 w =>
  mv t17 fun t3 =>
  mv (.int .i64 0) fun t4 =>
  mv a0 fun t18 =>
  o1 Tryz.prog (Builtin.len_ #[26] 3 #[t18]) w fun t19 w =>
  mv (.int .i64 0) fun t20 =>
  lp [t3, t4, undef, undef, t20, undef] w fun I1 μ1 => ∀ (x1 : Env) (w1 : World), I1 [x1 3, x1 4, x1 6, x1 8, x1 20, x1 31] w1 →
  o1 Tryz.prog (bin .lss 3 (.tmp 20) (.tmp 19) (x1 20) t19) w1 fun t21 w =>
  br t21 (fun _ =>
  o1 Tryz.prog (Instr.indexAt 26 t18 (x1 20)) w fun t22 w =>
  o1 Tryz.prog (Instr.loadAt 5 t22) w fun t23 w =>
  mv t23 fun t6 =>
  mv t6 fun t24 =>
  o1 Tryz.prog (bin .shr 5 (.tmp 24) (.const (.int .u64 4)) t24 (.int .u64 4)) w fun t25 w =>
  o1 Tryz.prog (convert 5 3 t25) w fun t26 w =>
  mv t6 fun t27 =>
  o1 Tryz.prog (bin .and 5 (.tmp 27) (.const (.int .u8 15)) t27 (.int .u8 15)) w fun t28 w =>
  o1 Tryz.prog (convert 5 3 t28) w fun t29 w =>
  o1 Tryz.prog (Instr.build 199 #[(0, t26), (1, t29)]) w fun t30 w =>
  mv (.int .i64 0) fun t31 =>
  lp [(x1 3), (x1 4), (x1 8), t31] w fun I2 μ2 => ∀ (x2 : Env) (w2 : World), I2 [x2 3, x2 4, x2 8, x2 31] w2 →
  o1 Tryz.prog (bin .lss 3 (.tmp 31) (.const (.int .i64 2)) (x2 31) (.int .i64 2)) w2 fun t32 w =>
  br t32 (fun _ =>
  o1 Tryz.prog (Instr.index 199 t30 (x2 31)) w fun t33 w =>
  mv t33 fun t8 =>
  mv (x2 3) fun t34 =>
  mv t8 fun t35 =>
  o1 Tryz.prog (Instr.buildSlice 63 1 #[(0, t35)]) w fun t36 w =>
  ob Tryz.prog (fun _ => Builtin.append_ #[63, 63] 63 #[t34, t36]) w fun t37 w =>
  mv t37 fun t3_1 =>
  mv (x2 4) fun t38 =>
  mv t8 fun t39 =>
  o1 Tryz.prog (bin .sub 3 (.const (.int .i64 15)) (.tmp 39) (.int .i64 15) t39) w fun t40 w =>
  o1 Tryz.prog (bin .add 3 (.tmp 38) (.tmp 40) t38 t40) w fun t41 w =>
  mv t41 fun t4_1 =>
  o1 Tryz.prog (bin .add 3 (.tmp 31) (.const (.int .i64 1)) (x2 31) (.int .i64 1)) w fun t42 w =>
  mv t42 fun t31_1 =>
  I2 [t3_1, t4_1, t8, t31_1] w ∧ μ2 [t3_1, t4_1, t8, t31_1] w < μ2 [x2 3, x2 4, x2 8, x2 31] w2) (fun _ =>
  o1 Tryz.prog (bin .add 3 (.tmp 20) (.const (.int .i64 1)) (x1 20) (.int .i64 1)) w fun t43 w =>
  mv t43 fun t20_1 =>
  I1 [(x2 3), (x2 4), t6, (x2 8), t20_1, (x2 31)] w ∧ μ1 [(x2 3), (x2 4), t6, (x2 8), t20_1, (x2 31)] w < μ1 [x1 3, x1 4, x1 6, x1 8, x1 20, x1 31] w1)) (fun _ =>
  mv (.int .i64 8) fun t9 =>
  lp [(x1 3), t9] w fun I3 μ3 => ∀ (x3 : Env) (w3 : World), I3 [x3 3, x3 9] w3 →
  mv (x3 9) fun t44 =>
  o1 Tryz.prog (bin .geq 3 (.tmp 44) (.const (.int .i64 0)) t44 (.int .i64 0)) w3 fun t45 w =>
  br t45 (fun _ =>
  mv (x3 3) fun t48 =>
  mv (x1 4) fun t49 =>
  mv (x3 9) fun t50 =>
  o1 Tryz.prog (convert 3 49 t50) w fun t51 w =>
  o1 Tryz.prog (bin .shr 3 (.tmp 49) (.tmp 51) t49 t51) w fun t52 w =>
  o1 Tryz.prog (bin .and 3 (.tmp 52) (.const (.int .i64 15)) t52 (.int .i64 15)) w fun t53 w =>
  o1 Tryz.prog (Instr.buildSlice 63 1 #[(0, t53)]) w fun t54 w =>
  ob Tryz.prog (fun _ => Builtin.append_ #[63, 63] 63 #[t48, t54]) w fun t55 w =>
  mv t55 fun t3_2 =>
  mv (x3 9) fun t46 =>
  o1 Tryz.prog (bin .sub 3 (.tmp 46) (.const (.int .i64 4)) t46 (.int .i64 4)) w fun t47 w =>
  mv t47 fun t9_1 =>
  I3 [t3_2, t9_1] w ∧ μ3 [t3_2, t9_1] w < μ3 [x3 3, x3 9] w3) (fun _ =>
  mv (x3 3) fun t56 =>
  mv t56 fun t2_2 =>
  k t2_2 w)))
theorem C.wots_Digits {k : Value → World → Prop} {a0 : Value} {w : World} (h : F.wots_Digits k a0 w) : C Tryz.prog N.wots_Digits #[a0] w k :=
  den_calls (H := { moves := [], vars := [2, 3, 4, 6, 8, 9, 20, 31] }) (args := [a0]) mixed Tryz.func74 (by kernel_rfl) (by kernel_rfl) (by kernel_rfl) h

-- isthmus/wots.Step
def F.wots_Step (k : Value → World → Prop) (a0 a1 a2 a3 a4 : Value) (w : World) : Prop :=
  o1 Tryz.prog (Instr.box 23 a0) w fun t5 w =>
  o1 Tryz.prog (Instr.alloc 23 true (.tuple #[])) w fun t10 w =>
  o1 Tryz.prog (Instr.alloc 200 true (.tuple #[])) w fun t11 w =>
  mv a3 fun t14 =>
  o1 Tryz.prog (Builtin.max_ #[3, 3] 3 #[t14, .int .i64 0]) w fun t15 w =>
  mv t15 fun t12 =>
  lp [t12, undef] w fun I1 μ1 => ∀ (x1 : Env) (w1 : World), I1 [x1 12, x1 13] w1 →
  mv (x1 12) fun t16 =>
  mv a4 fun t17 =>
  o1 Tryz.prog (Builtin.min_ #[3, 3] 3 #[t17, .int .i64 15]) w1 fun t18 w =>
  o1 Tryz.prog (bin .lss 3 (.tmp 16) (.tmp 18) t16 t18) w fun t19 w =>
  br t19 (fun _ =>
  o1 Tryz.prog (Instr.sliceAt 200 t11 none (some (.int .i64 0)) none) w fun t22 w =>
  o1 Tryz.prog (Instr.buildSlice 26 1 #[(0, .int .u8 3)]) w fun t23 w =>
  ob Tryz.prog (fun _ => Builtin.append_ #[26, 26] 26 #[t22, t23]) w fun t24 w =>
  mv a1 fun t25 =>
  C Tryz.prog N.wots_number #[t24, t25] w fun t26 w =>
  mv a2 fun t27 =>
  C Tryz.prog N.wots_number #[t26, t27] w fun t28 w =>
  mv (x1 12) fun t29 =>
  C Tryz.prog N.wots_number #[t28, t29] w fun t30 w =>
  mv t30 fun t13 =>
  mv t13 fun t31 =>
  o1 Tryz.prog (Instr.sliceAt 23 t5 none none none) w fun t32 w =>
  ob Tryz.prog (fun _ => Builtin.append_ #[26, 26] 26 #[t31, t32]) w fun t33 w =>
  C Tryz.prog N.sha_Sum #[t33] w fun t34 w =>
  o0 Tryz.prog (Instr.storeAt 23 t5 t34) w fun _ w =>
  mv (x1 12) fun t20 =>
  o1 Tryz.prog (bin .add 3 (.tmp 20) (.const (.int .i64 1)) t20 (.int .i64 1)) w fun t21 w =>
  mv t21 fun t12_1 =>
  I1 [t12_1, t13] w ∧ μ1 [t12_1, t13] w < μ1 [x1 12, x1 13] w1) (fun _ =>
  o1 Tryz.prog (Instr.loadAt 23 t5) w fun t35 w =>
  o0 Tryz.prog (Instr.storeAt 23 t10 t35) w fun _ w =>
  rc Tryz.prog 23 t10 w fun r0 =>
  k r0 w)
theorem C.wots_Step {k : Value → World → Prop} {a0 a1 a2 a3 a4 : Value} {w : World} (h : F.wots_Step k a0 a1 a2 a3 a4 w) : C Tryz.prog N.wots_Step #[a0, a1, a2, a3, a4] w k :=
  den_calls (H := { moves := [], vars := [12, 13] }) (args := [a0, a1, a2, a3, a4]) mixed Tryz.func75 (by kernel_rfl) (by kernel_rfl) (by kernel_rfl) h

-- isthmus/sha.Leaf
def F.sha_Leaf (k : Value → World → Prop) (a0 : Value) (w : World) : Prop :=
  o1 Tryz.prog (Instr.alloc 23 true (.tuple #[])) w fun t2 w =>
  o1 Tryz.prog (Instr.buildSlice 26 1 #[(0, .int .u8 0)]) w fun t3 w =>
  mv a0 fun t4 =>
  ob Tryz.prog (fun _ => Builtin.append_ #[26, 26] 26 #[t3, t4]) w fun t5 w =>
  C Tryz.prog N.sha_Sum #[t5] w fun t6 w =>
  o0 Tryz.prog (Instr.storeAt 23 t2 t6) w fun _ w =>
  rc Tryz.prog 23 t2 w fun r0 =>
  k r0 w
theorem C.sha_Leaf {k : Value → World → Prop} {a0 : Value} {w : World} (h : F.sha_Leaf k a0 w) : C Tryz.prog N.sha_Leaf #[a0] w k :=
  den_calls (H := { moves := [], vars := [] }) (args := [a0]) mixed Tryz.func76 (by kernel_rfl) (by kernel_rfl) (by kernel_rfl) h

-- isthmus/sha.turns
def F.sha_turns (k : Value → World → Prop) (a0 a1 : Value) (w : World) : Prop :=
  mv (.slice none 0 0) fun t4 =>
  mv (.slice none 0 0) fun t5 =>
  lp [a0, a1, t5, undef, undef] w fun I1 μ1 => ∀ (x1 : Env) (w1 : World), I1 [x1 0, x1 1, x1 5, x1 6, x1 7] w1 →
  mv (x1 1) fun t8 =>
  o1 Tryz.prog (bin .gtr 3 (.tmp 8) (.const (.int .i64 1)) t8 (.int .i64 1)) w1 fun t9 w =>
  br t9 (fun _ =>
  mv (x1 1) fun t10 =>
  C Tryz.prog N.sha_half #[t10] w fun t11 w =>
  mv t11 fun t6 =>
  mv (x1 0) fun t12 =>
  mv t6 fun t13 =>
  o1 Tryz.prog (bin .geq 3 (.tmp 12) (.tmp 13) t12 t13) w fun t14 w =>
  mv t14 fun t7 =>
  mv (x1 5) fun t15 =>
  mv t7 fun t16 =>
  o1 Tryz.prog (Instr.buildSlice 62 1 #[(0, t16)]) w fun t17 w =>
  ob Tryz.prog (fun _ => Builtin.append_ #[62, 62] 62 #[t15, t17]) w fun t18 w =>
  mv t18 fun t5_1 =>
  mv t7 fun t19 =>
  jn (fun x2 => [x2 0, x2 1]) (fun k1 =>
  br t19 (fun _ =>
  mv (x1 0) fun t20 =>
  mv t6 fun t21 =>
  o1 Tryz.prog (bin .sub 3 (.tmp 20) (.tmp 21) t20 t21) w fun t22 w =>
  mv (x1 1) fun t23 =>
  mv t6 fun t24 =>
  o1 Tryz.prog (bin .sub 3 (.tmp 23) (.tmp 24) t23 t24) w fun t25 w =>
  mv t22 fun t0 =>
  mv t25 fun t1 =>
  k1 [t0, t1] w) (fun _ =>
  mv t6 fun t26 =>
  mv t26 fun t1_1 =>
  k1 [(x1 0), t1_1] w)) fun x2 w =>
  I1 [(x2 0), (x2 1), t5_1, t6, t7] w ∧ μ1 [(x2 0), (x2 1), t5_1, t6, t7] w < μ1 [x1 0, x1 1, x1 5, x1 6, x1 7] w1) (fun _ =>
  mv (x1 5) fun t27 =>
  mv t27 fun t4_1 =>
  k t4_1 w)
theorem C.sha_turns {k : Value → World → Prop} {a0 a1 : Value} {w : World} (h : F.sha_turns k a0 a1 w) : C Tryz.prog N.sha_turns #[a0, a1] w k :=
  den_calls (H := { moves := [], vars := [0, 1, 4, 5, 6, 7] }) (args := [a0, a1]) mixed Tryz.func77 (by kernel_rfl) (by kernel_rfl) (by kernel_rfl) h

-- isthmus/isthmusref05.check
-- isthmus/isthmusref05.Digits
-- isthmus/isthmusref02.Hash
-- isthmus/isthmusref05.Step
-- isthmus/isthmusref01.Leaf
-- isthmus/isthmusref01.Steps
-- isthmus/isthmusref01.fold
-- (*isthmus/files.FS).Read
def F.files_FS_Read (k : Value → World → Prop) (a0 a1 : Value) (w : World) : Prop :=
  mv (.slice none 0 0) fun t4 =>
  mv .nilIface fun t5 =>
  mv a0 fun t9 =>
  mv a1 fun t10 =>
  C Tryz.prog N.files_FS_find #[t9, t10] w fun t11 w =>
  mv t11 fun t8 =>
  o1 Tryz.prog (Instr.extract t8 0) w fun t12 w =>
  o1 Tryz.prog (Instr.extract t8 1) w fun t13 w =>
  o1 Tryz.prog (Instr.alloc 114 true (.tuple #[])) w fun t6 w =>
  o0 Tryz.prog (Instr.storeAt 114 t6 t12) w fun _ w =>
  mv t13 fun t7 =>
  o1 Tryz.prog (Instr.fieldAt 114 t6 0) w fun t14 w =>
  o1 Tryz.prog (Instr.loadAt 26 t14) w fun t15 w =>
  C Tryz.prog N.slices_Clone_bytes #[t15] w fun t16 w =>
  mv t7 fun t17 =>
  mv t16 fun t4_1 =>
  mv t17 fun t5_1 =>
  k (.tuple #[t4_1, t5_1]) w
theorem C.files_FS_Read {k : Value → World → Prop} {a0 a1 : Value} {w : World} (h : F.files_FS_Read k a0 a1 w) : C Tryz.prog N.files_FS_Read #[a0, a1] w k :=
  den_calls (H := { moves := [], vars := [4, 5, 7] }) (args := [a0, a1]) mixed Tryz.func85 (by kernel_rfl) (by kernel_rfl) (by kernel_rfl) h

-- errors.Is
def F.errors_Is (k : Value → World → Prop) (a0 a1 : Value) (w : World) : Prop :=
  mv (.bool false) fun t4 =>
  mv a0 fun t6 =>
  o1 Tryz.prog (bin .eql 30 (.tmp 6) (.const .nilIface) t6 .nilIface) w fun t7 w =>
  mv t7 fun t8 =>
  gd t8 false (fun k1 => mv a1 fun v => k1 v w) w fun t9 w =>
  gd t8 false (fun k2 => o1 Tryz.prog (bin .eql 30 (.tmp 9) (.const .nilIface) t9 .nilIface) w k2) w fun t10 w =>
  pk t8 (.bool true) t10 fun t11 =>
  br t11 (fun _ =>
  mv a0 fun t12 =>
  mv a1 fun t13 =>
  o1 Tryz.prog (bin .eql 30 (.tmp 12) (.tmp 13) t12 t13) w fun t14 w =>
  mv t14 fun t4_1 =>
  k t4_1 w) (fun _ =>
  mv a1 fun t15 =>
  oN Tryz.prog (callFunc N.internal_reflectlite_TypeOf #[t15]) w fun t16 w =>
  iv Tryz.prog t16 "Comparable" #[] w fun t17 w =>
  mv t17 fun t5 =>
  mv a0 fun t18 =>
  mv a1 fun t19 =>
  mv t5 fun t20 =>
  C Tryz.prog N.errors_is #[t18, t19, t20] w fun t21 w =>
  mv t21 fun t4_2 =>
  k t4_2 w)
theorem C.errors_Is {k : Value → World → Prop} {a0 a1 : Value} {w : World} (h : F.errors_Is k a0 a1 w) : C Tryz.prog N.errors_Is #[a0, a1] w k :=
  den_calls (H := { moves := [], vars := [4, 5] }) (args := [a0, a1]) mixed Tryz.func86 (by kernel_rfl) (by kernel_rfl) (by kernel_rfl) h

-- isthmus/frame.Scan
-- isthmus/frame.Torn
-- (*isthmus/files.FS).Cut
-- isthmus/sha.start
def F.sha_start (k : Value → World → Prop) (w : World) : Prop :=
  o1 Tryz.prog (Instr.alloc 157 true (.tuple #[])) w fun t0 w =>
  o1 Tryz.prog (Instr.build 157 #[(0, .int .u32 1779033703), (1, .int .u32 3144134277), (2, .int .u32 1013904242), (3, .int .u32 2773480762), (4, .int .u32 1359893119), (5, .int .u32 2600822924), (6, .int .u32 528734635), (7, .int .u32 1541459225)]) w fun t1 w =>
  o0 Tryz.prog (Instr.storeAt 157 t0 t1) w fun _ w =>
  rc Tryz.prog 157 t0 w fun r0 =>
  k r0 w
theorem C.sha_start {k : Value → World → Prop} {w : World} (h : F.sha_start k  w) : C Tryz.prog N.sha_start #[] w k :=
  den_calls (H := { moves := [], vars := [] }) (args := []) mixed Tryz.func90 (by kernel_rfl) (by kernel_rfl) (by kernel_rfl) h

-- (*isthmus/sha.words).mix
def F.sha_words_mix (k : Value → World → Prop) (a0 a1 : Value) (w : World) : Prop :=
  o1 Tryz.prog (Instr.alloc 175 true (.tuple #[])) w fun t4 w =>
  mv (.int .i64 0) fun t24 =>
  lp [undef, t24] w fun I1 μ1 => ∀ (x1 : Env) (w1 : World), I1 [x1 5, x1 24] w1 →
  o1 Tryz.prog (bin .lss 3 (.tmp 24) (.const (.int .i64 16)) (x1 24) (.int .i64 16)) w1 fun t25 w =>
  br t25 (fun _ =>
  mv (x1 24) fun t26 =>
  mv t26 fun t5 =>
  dr w.drew fun S1 =>
  mv t5 fun t27 =>
  mv a1 fun t28 =>
  mv t5 fun t29 =>
  tk Tryz.prog S1 (bin .mul 3 (.const (.int .i64 4)) (.tmp 29) (.int .i64 4) t29) fun t30 =>
  tk Tryz.prog S1 (Instr.indexAt 26 t28 t30) fun t31 =>
  tk Tryz.prog S1 (Instr.loadAt 5 t31) fun t32 =>
  tk Tryz.prog S1 (convert 5 155 t32) fun t33 =>
  tk Tryz.prog S1 (bin .shl 155 (.tmp 33) (.const (.int .u64 24)) t33 (.int .u64 24)) fun t34 =>
  mv a1 fun t35 =>
  mv t5 fun t36 =>
  tk Tryz.prog S1 (bin .mul 3 (.const (.int .i64 4)) (.tmp 36) (.int .i64 4) t36) fun t37 =>
  tk Tryz.prog S1 (bin .add 3 (.tmp 37) (.const (.int .i64 1)) t37 (.int .i64 1)) fun t38 =>
  tk Tryz.prog S1 (Instr.indexAt 26 t35 t38) fun t39 =>
  tk Tryz.prog S1 (Instr.loadAt 5 t39) fun t40 =>
  tk Tryz.prog S1 (convert 5 155 t40) fun t41 =>
  tk Tryz.prog S1 (bin .shl 155 (.tmp 41) (.const (.int .u64 16)) t41 (.int .u64 16)) fun t42 =>
  tk Tryz.prog S1 (bin .or 155 (.tmp 34) (.tmp 42) t34 t42) fun t43 =>
  mv a1 fun t44 =>
  mv t5 fun t45 =>
  tk Tryz.prog S1 (bin .mul 3 (.const (.int .i64 4)) (.tmp 45) (.int .i64 4) t45) fun t46 =>
  tk Tryz.prog S1 (bin .add 3 (.tmp 46) (.const (.int .i64 2)) t46 (.int .i64 2)) fun t47 =>
  tk Tryz.prog S1 (Instr.indexAt 26 t44 t47) fun t48 =>
  tk Tryz.prog S1 (Instr.loadAt 5 t48) fun t49 =>
  tk Tryz.prog S1 (convert 5 155 t49) fun t50 =>
  tk Tryz.prog S1 (bin .shl 155 (.tmp 50) (.const (.int .u64 8)) t50 (.int .u64 8)) fun t51 =>
  tk Tryz.prog S1 (bin .or 155 (.tmp 43) (.tmp 51) t43 t51) fun t52 =>
  mv a1 fun t53 =>
  mv t5 fun t54 =>
  tk Tryz.prog S1 (bin .mul 3 (.const (.int .i64 4)) (.tmp 54) (.int .i64 4) t54) fun t55 =>
  tk Tryz.prog S1 (bin .add 3 (.tmp 55) (.const (.int .i64 3)) t55 (.int .i64 3)) fun t56 =>
  tk Tryz.prog S1 (Instr.indexAt 26 t53 t56) fun t57 =>
  tk Tryz.prog S1 (Instr.loadAt 5 t57) fun t58 =>
  tk Tryz.prog S1 (convert 5 155 t58) fun t59 =>
  tk Tryz.prog S1 (bin .or 155 (.tmp 52) (.tmp 59) t52 t59) fun t60 =>
  tk Tryz.prog S1 (Instr.indexAt 175 t4 t27) fun t61 =>
  o0 Tryz.prog (Instr.storeAt 155 t61 t60) w.drew fun _ w =>
  o1 Tryz.prog (bin .add 3 (.tmp 24) (.const (.int .i64 1)) (x1 24) (.int .i64 1)) w fun t62 w =>
  mv t62 fun t24_1 =>
  I1 [t5, t24_1] w ∧ μ1 [t5, t24_1] w < μ1 [x1 5, x1 24] w1) (fun _ =>
  mv (.int .i64 16) fun t6 =>
  lp [t6, undef, undef, undef, undef] w fun I2 μ2 => ∀ (x2 : Env) (w2 : World), I2 [x2 6, x2 7, x2 8, x2 9, x2 10] w2 →
  mv (x2 6) fun t63 =>
  o1 Tryz.prog (bin .lss 3 (.tmp 63) (.const (.int .i64 64)) t63 (.int .i64 64)) w2 fun t64 w =>
  br t64 (fun _ =>
  mv (x2 6) fun t67 =>
  tk Tryz.prog (fun w' => w' = w.drew) (bin .sub 3 (.tmp 67) (.const (.int .i64 15)) t67 (.int .i64 15)) fun t68 =>
  tk Tryz.prog (fun w' => w' = w.drew) (Instr.indexAt 175 t4 t68) fun t69 =>
  tk Tryz.prog (fun w' => w' = w.drew) (Instr.loadAt 155 t69) fun t70 =>
  mv (x2 6) fun t71 =>
  tk Tryz.prog (fun w' => w' = w.drew) (bin .sub 3 (.tmp 71) (.const (.int .i64 2)) t71 (.int .i64 2)) fun t72 =>
  tk Tryz.prog (fun w' => w' = w.drew) (Instr.indexAt 175 t4 t72) fun t73 =>
  tk Tryz.prog (fun w' => w' = w.drew) (Instr.loadAt 155 t73) fun t74 =>
  mv t70 fun t7 =>
  mv t74 fun t8 =>
  mv t7 fun t75 =>
  C Tryz.prog N.math_bits_RotateLeft32 #[t75, .int .i64 (-7)] w.drew fun t76 w =>
  mv t7 fun t77 =>
  C Tryz.prog N.math_bits_RotateLeft32 #[t77, .int .i64 (-18)] w fun t78 w =>
  o1 Tryz.prog (bin .xor 155 (.tmp 76) (.tmp 78) t76 t78) w fun t79 w =>
  mv t7 fun t80 =>
  o1 Tryz.prog (bin .shr 155 (.tmp 80) (.const (.int .u64 3)) t80 (.int .u64 3)) w fun t81 w =>
  o1 Tryz.prog (bin .xor 155 (.tmp 79) (.tmp 81) t79 t81) w fun t82 w =>
  mv t82 fun t9 =>
  mv t8 fun t83 =>
  C Tryz.prog N.math_bits_RotateLeft32 #[t83, .int .i64 (-17)] w fun t84 w =>
  mv t8 fun t85 =>
  C Tryz.prog N.math_bits_RotateLeft32 #[t85, .int .i64 (-19)] w fun t86 w =>
  o1 Tryz.prog (bin .xor 155 (.tmp 84) (.tmp 86) t84 t86) w fun t87 w =>
  mv t8 fun t88 =>
  o1 Tryz.prog (bin .shr 155 (.tmp 88) (.const (.int .u64 10)) t88 (.int .u64 10)) w fun t89 w =>
  o1 Tryz.prog (bin .xor 155 (.tmp 87) (.tmp 89) t87 t89) w fun t90 w =>
  mv t90 fun t10 =>
  dr w.drew fun S2 =>
  mv (x2 6) fun t91 =>
  mv (x2 6) fun t92 =>
  tk Tryz.prog S2 (bin .sub 3 (.tmp 92) (.const (.int .i64 16)) t92 (.int .i64 16)) fun t93 =>
  tk Tryz.prog S2 (Instr.indexAt 175 t4 t93) fun t94 =>
  tk Tryz.prog S2 (Instr.loadAt 155 t94) fun t95 =>
  mv t9 fun t96 =>
  tk Tryz.prog S2 (bin .add 155 (.tmp 95) (.tmp 96) t95 t96) fun t97 =>
  mv (x2 6) fun t98 =>
  tk Tryz.prog S2 (bin .sub 3 (.tmp 98) (.const (.int .i64 7)) t98 (.int .i64 7)) fun t99 =>
  tk Tryz.prog S2 (Instr.indexAt 175 t4 t99) fun t100 =>
  tk Tryz.prog S2 (Instr.loadAt 155 t100) fun t101 =>
  tk Tryz.prog S2 (bin .add 155 (.tmp 97) (.tmp 101) t97 t101) fun t102 =>
  mv t10 fun t103 =>
  tk Tryz.prog S2 (bin .add 155 (.tmp 102) (.tmp 103) t102 t103) fun t104 =>
  tk Tryz.prog S2 (Instr.indexAt 175 t4 t91) fun t105 =>
  o0 Tryz.prog (Instr.storeAt 155 t105 t104) w.drew fun _ w =>
  mv (x2 6) fun t65 =>
  o1 Tryz.prog (bin .add 3 (.tmp 65) (.const (.int .i64 1)) t65 (.int .i64 1)) w fun t66 w =>
  mv t66 fun t6_1 =>
  I2 [t6_1, t7, t8, t9, t10] w ∧ μ2 [t6_1, t7, t8, t9, t10] w < μ2 [x2 6, x2 7, x2 8, x2 9, x2 10] w2) (fun _ =>
  mv a0 fun t106 =>
  nilOk t106 = true ∧ mv t106 fun t107 =>
  tk Tryz.prog (fun w' => w' = w.drew) (Instr.indexAt 157 t107 (.int .i64 0)) fun t108 =>
  tk Tryz.prog (fun w' => w' = w.drew) (Instr.loadAt 155 t108) fun t109 =>
  mv a0 fun t110 =>
  nilOk t110 = true ∧ mv t110 fun t111 =>
  tk Tryz.prog (fun w' => w' = w.drew) (Instr.indexAt 157 t111 (.int .i64 1)) fun t112 =>
  tk Tryz.prog (fun w' => w' = w.drew) (Instr.loadAt 155 t112) fun t113 =>
  mv a0 fun t114 =>
  nilOk t114 = true ∧ mv t114 fun t115 =>
  tk Tryz.prog (fun w' => w' = w.drew) (Instr.indexAt 157 t115 (.int .i64 2)) fun t116 =>
  tk Tryz.prog (fun w' => w' = w.drew) (Instr.loadAt 155 t116) fun t117 =>
  mv a0 fun t118 =>
  nilOk t118 = true ∧ mv t118 fun t119 =>
  tk Tryz.prog (fun w' => w' = w.drew) (Instr.indexAt 157 t119 (.int .i64 3)) fun t120 =>
  tk Tryz.prog (fun w' => w' = w.drew) (Instr.loadAt 155 t120) fun t121 =>
  mv a0 fun t122 =>
  nilOk t122 = true ∧ mv t122 fun t123 =>
  tk Tryz.prog (fun w' => w' = w.drew) (Instr.indexAt 157 t123 (.int .i64 4)) fun t124 =>
  tk Tryz.prog (fun w' => w' = w.drew) (Instr.loadAt 155 t124) fun t125 =>
  mv a0 fun t126 =>
  nilOk t126 = true ∧ mv t126 fun t127 =>
  tk Tryz.prog (fun w' => w' = w.drew) (Instr.indexAt 157 t127 (.int .i64 5)) fun t128 =>
  tk Tryz.prog (fun w' => w' = w.drew) (Instr.loadAt 155 t128) fun t129 =>
  mv a0 fun t130 =>
  nilOk t130 = true ∧ mv t130 fun t131 =>
  tk Tryz.prog (fun w' => w' = w.drew) (Instr.indexAt 157 t131 (.int .i64 6)) fun t132 =>
  tk Tryz.prog (fun w' => w' = w.drew) (Instr.loadAt 155 t132) fun t133 =>
  mv a0 fun t134 =>
  nilOk t134 = true ∧ mv t134 fun t135 =>
  tk Tryz.prog (fun w' => w' = w.drew) (Instr.indexAt 157 t135 (.int .i64 7)) fun t136 =>
  tk Tryz.prog (fun w' => w' = w.drew) (Instr.loadAt 155 t136) fun t137 =>
  mv t109 fun t11 =>
  mv t113 fun t12 =>
  mv t117 fun t13 =>
  mv t121 fun t14 =>
  mv t125 fun t15 =>
  mv t129 fun t16 =>
  mv t133 fun t17 =>
  mv t137 fun t18 =>
  mv (.int .i64 0) fun t138 =>
  lp [t11, t12, t13, t14, t15, t16, t17, t18, undef, undef, undef, t138] w.drew fun I3 μ3 => ∀ (x3 : Env) (w3 : World), I3 [x3 11, x3 12, x3 13, x3 14, x3 15, x3 16, x3 17, x3 18, x3 19, x3 20, x3 21, x3 138] w3 →
  o1 Tryz.prog (bin .lss 3 (.tmp 138) (.const (.int .i64 64)) (x3 138) (.int .i64 64)) w3 fun t139 w =>
  br t139 (fun _ =>
  mv (x3 138) fun t140 =>
  mv t140 fun t19 =>
  dr w.drew fun S3 =>
  mv (x3 18) fun t141 =>
  mv (x3 15) fun t142 =>
  mv (x3 15) fun t144 =>
  mv (x3 15) fun t147 =>
  mv (x3 15) fun t151 =>
  mv (x3 16) fun t152 =>
  tk Tryz.prog S3 (bin .and 155 (.tmp 151) (.tmp 152) t151 t152) fun t153 =>
  mv (x3 15) fun t154 =>
  tk Tryz.prog S3 (Op.unary .xor t154) fun t155 =>
  mv (x3 17) fun t156 =>
  tk Tryz.prog S3 (bin .and 155 (.tmp 155) (.tmp 156) t155 t156) fun t157 =>
  tk Tryz.prog S3 (bin .xor 155 (.tmp 153) (.tmp 157) t153 t157) fun t158 =>
  mv t19 fun t160 =>
  tk Tryz.prog S3 (Instr.indexAt 175 (.pointer (some ⟨1, 0, none⟩)) t160) fun t161 =>
  tk Tryz.prog S3 (Instr.loadAt 155 t161) fun t162 =>
  mv t19 fun t164 =>
  tk Tryz.prog S3 (Instr.indexAt 175 t4 t164) fun t165 =>
  tk Tryz.prog S3 (Instr.loadAt 155 t165) fun t166 =>
  C Tryz.prog N.math_bits_RotateLeft32 #[t142, .int .i64 (-6)] w.drew fun t143 w =>
  S3 w ∧
  C Tryz.prog N.math_bits_RotateLeft32 #[t144, .int .i64 (-11)] w fun t145 w =>
  S3 w ∧
  tk Tryz.prog S3 (bin .xor 155 (.tmp 143) (.tmp 145) t143 t145) fun t146 =>
  C Tryz.prog N.math_bits_RotateLeft32 #[t147, .int .i64 (-25)] w fun t148 w =>
  S3 w ∧
  tk Tryz.prog S3 (bin .xor 155 (.tmp 146) (.tmp 148) t146 t148) fun t149 =>
  tk Tryz.prog S3 (bin .add 155 (.tmp 141) (.tmp 149) t141 t149) fun t150 =>
  tk Tryz.prog S3 (bin .add 155 (.tmp 150) (.tmp 158) t150 t158) fun t159 =>
  tk Tryz.prog S3 (bin .add 155 (.tmp 159) (.tmp 162) t159 t162) fun t163 =>
  tk Tryz.prog S3 (bin .add 155 (.tmp 163) (.tmp 166) t163 t166) fun t167 =>
  mv t167 fun t20 =>
  mv (x3 11) fun t168 =>
  C Tryz.prog N.math_bits_RotateLeft32 #[t168, .int .i64 (-2)] w fun t169 w =>
  mv (x3 11) fun t170 =>
  C Tryz.prog N.math_bits_RotateLeft32 #[t170, .int .i64 (-13)] w fun t171 w =>
  o1 Tryz.prog (bin .xor 155 (.tmp 169) (.tmp 171) t169 t171) w fun t172 w =>
  mv (x3 11) fun t173 =>
  C Tryz.prog N.math_bits_RotateLeft32 #[t173, .int .i64 (-22)] w fun t174 w =>
  o1 Tryz.prog (bin .xor 155 (.tmp 172) (.tmp 174) t172 t174) w fun t175 w =>
  mv (x3 11) fun t176 =>
  mv (x3 12) fun t177 =>
  o1 Tryz.prog (bin .and 155 (.tmp 176) (.tmp 177) t176 t177) w fun t178 w =>
  mv (x3 11) fun t179 =>
  mv (x3 13) fun t180 =>
  o1 Tryz.prog (bin .and 155 (.tmp 179) (.tmp 180) t179 t180) w fun t181 w =>
  o1 Tryz.prog (bin .xor 155 (.tmp 178) (.tmp 181) t178 t181) w fun t182 w =>
  mv (x3 12) fun t183 =>
  mv (x3 13) fun t184 =>
  o1 Tryz.prog (bin .and 155 (.tmp 183) (.tmp 184) t183 t184) w fun t185 w =>
  o1 Tryz.prog (bin .xor 155 (.tmp 182) (.tmp 185) t182 t185) w fun t186 w =>
  o1 Tryz.prog (bin .add 155 (.tmp 175) (.tmp 186) t175 t186) w fun t187 w =>
  mv t187 fun t21 =>
  mv (x3 17) fun t188 =>
  mv (x3 16) fun t189 =>
  mv (x3 15) fun t190 =>
  mv (x3 14) fun t191 =>
  mv t20 fun t192 =>
  o1 Tryz.prog (bin .add 155 (.tmp 191) (.tmp 192) t191 t192) w fun t193 w =>
  mv (x3 13) fun t194 =>
  mv (x3 12) fun t195 =>
  mv (x3 11) fun t196 =>
  mv t20 fun t197 =>
  mv t21 fun t198 =>
  o1 Tryz.prog (bin .add 155 (.tmp 197) (.tmp 198) t197 t198) w fun t199 w =>
  mv t188 fun t18_1 =>
  mv t189 fun t17_1 =>
  mv t190 fun t16_1 =>
  mv t193 fun t15_1 =>
  mv t194 fun t14_1 =>
  mv t195 fun t13_1 =>
  mv t196 fun t12_1 =>
  mv t199 fun t11_1 =>
  o1 Tryz.prog (bin .add 3 (.tmp 138) (.const (.int .i64 1)) (x3 138) (.int .i64 1)) w fun t200 w =>
  mv t200 fun t138_1 =>
  I3 [t11_1, t12_1, t13_1, t14_1, t15_1, t16_1, t17_1, t18_1, t19, t20, t21, t138_1] w ∧ μ3 [t11_1, t12_1, t13_1, t14_1, t15_1, t16_1, t17_1, t18_1, t19, t20, t21, t138_1] w < μ3 [x3 11, x3 12, x3 13, x3 14, x3 15, x3 16, x3 17, x3 18, x3 19, x3 20, x3 21, x3 138] w3) (fun _ =>
  mv (x3 11) fun t201 =>
  mv (x3 12) fun t202 =>
  mv (x3 13) fun t203 =>
  mv (x3 14) fun t204 =>
  mv (x3 15) fun t205 =>
  mv (x3 16) fun t206 =>
  mv (x3 17) fun t207 =>
  mv (x3 18) fun t208 =>
  o1 Tryz.prog (Instr.build 156 #[(0, t201), (1, t202), (2, t203), (3, t204), (4, t205), (5, t206), (6, t207), (7, t208)]) w fun t209 w =>
  mv (.int .i64 0) fun t210 =>
  lp [undef, undef, t210] w fun I4 μ4 => ∀ (x4 : Env) (w4 : World), I4 [x4 22, x4 23, x4 210] w4 →
  o1 Tryz.prog (bin .lss 3 (.tmp 210) (.const (.int .i64 8)) (x4 210) (.int .i64 8)) w4 fun t211 w =>
  br t211 (fun _ =>
  mv (x4 210) fun t212 =>
  o1 Tryz.prog (Instr.index 156 t209 (x4 210)) w fun t213 w =>
  mv t212 fun t22 =>
  mv t213 fun t23 =>
  dr w.drew fun S4 =>
  mv a0 fun t214 =>
  mv t22 fun t215 =>
  nilOk t214 = true ∧ mv t214 fun t216 =>
  tk Tryz.prog S4 (Instr.indexAt 157 t216 t215) fun t217 =>
  tk Tryz.prog S4 (Instr.loadAt 155 t217) fun t218 =>
  mv t23 fun t219 =>
  tk Tryz.prog S4 (bin .add 155 (.tmp 218) (.tmp 219) t218 t219) fun t220 =>
  nilOk t214 = true ∧ mv t214 fun t221 =>
  tk Tryz.prog S4 (Instr.indexAt 157 t221 t215) fun t222 =>
  o0 Tryz.prog (Instr.storeAt 155 t222 t220) w.drew fun _ w =>
  o1 Tryz.prog (bin .add 3 (.tmp 210) (.const (.int .i64 1)) (x4 210) (.int .i64 1)) w fun t223 w =>
  mv t223 fun t210_1 =>
  I4 [t22, t23, t210_1] w ∧ μ4 [t22, t23, t210_1] w < μ4 [x4 22, x4 23, x4 210] w4) (fun _ =>
  k (.tuple #[]) w))))
theorem C.sha_words_mix {k : Value → World → Prop} {a0 a1 : Value} {w : World} (h : F.sha_words_mix k a0 a1 w) : C Tryz.prog N.sha_words_mix #[a0, a1] w k :=
  den_calls (H := { moves := [(4, (.take 0 (.take 1 (.take 2 (.take 3 (.take 4 (.take 5 (.take 6 (.take 7 (.take 8 (.take 9 (.take 10 (.take 11 (.take 12 (.take 13 (.take 14 (.take 15 (.take 16 (.take 17 (.take 18 (.take 19 (.take 20 (.take 21 (.take 22 (.take 23 (.take 24 (.take 25 (.take 26 (.take 27 (.take 28 (.take 29 (.take 30 (.take 31 (.take 32 (.take 33 (.take 34 (.last 35))))))))))))))))))))))))))))))))))))), (9, (.take 0 (.take 1 (.take 2 (.take 3 (.take 4 (.take 5 (.take 6 (.take 7 (.take 8 (.take 9 .fin))))))))))), (12, (.take 0 (.take 1 (.take 2 (.take 3 (.take 4 (.take 5 (.take 6 (.take 7 (.take 8 (.take 9 (.take 10 (.take 11 (.take 12 (.take 13 (.take 14 (.last 15))))))))))))))))), (13, (.take 0 (.take 1 (.take 2 (.take 3 (.take 4 (.take 5 (.take 6 (.take 7 (.take 8 (.take 9 (.take 10 (.take 11 (.take 12 (.take 13 (.take 14 (.take 15 (.take 16 (.take 17 (.take 18 (.take 19 (.take 20 (.take 21 (.take 22 (.take 23 (.take 24 (.take 25 (.take 26 (.take 27 (.take 28 (.take 29 (.take 30 (.take 31 (.take 32 (.take 33 (.take 34 (.take 35 (.take 36 (.take 37 (.take 38 (.take 39 .fin))))))))))))))))))))))))))))))))))))))))), (17, (.take 0 (.take 1 (.take 3 (.take 6 (.take 10 (.take 11 (.take 12 (.take 13 (.take 14 (.take 15 (.take 16 (.take 17 (.take 19 (.take 20 (.take 21 (.take 23 (.take 24 (.take 25 (.force 2 (.force 4 (.take 5 (.force 7 (.take 8 (.take 9 (.take 18 (.take 22 (.take 26 (.take 27 .fin))))))))))))))))))))))))))))), (24, (.take 0 (.take 1 (.take 2 (.take 3 (.take 4 (.take 5 (.take 6 (.take 7 (.take 8 (.last 9)))))))))))], vars := [5, 6, 7, 8, 9, 10, 11, 12, 13, 14, 15, 16, 17, 18, 19, 20, 21, 22, 23, 24, 138, 210] }) (args := [a0, a1]) mixed Tryz.func91 (by kernel_rfl) (by kernel_rfl) (by kernel_rfl) h

-- (isthmus/sha.words).end
def F.sha_words_end (k : Value → World → Prop) (a0 a1 a2 : Value) (w : World) : Prop :=
  o1 Tryz.prog (Instr.box 157 a0) w fun t3 w =>
  o1 Tryz.prog (Instr.alloc 23 true (.tuple #[])) w fun t6 w =>
  o1 Tryz.prog (Instr.alloc 213 true (.tuple #[])) w fun t7 w =>
  o1 Tryz.prog (Instr.sliceAt 213 t7 none none none) w fun t16 w =>
  mv a1 fun t17 =>
  ob Tryz.prog (fun _ => Builtin.copy_ #[26, 26] 3 #[t16, t17]) w fun t18 w =>
  mv t18 fun t8 =>
  mv t8 fun t19 =>
  o1 Tryz.prog (Instr.indexAt 213 t7 t19) w fun t20 w =>
  o0 Tryz.prog (Instr.storeAt 5 t20 (.int .u8 128)) w fun _ w =>
  mv (.int .i64 64) fun t9 =>
  mv t8 fun t21 =>
  o1 Tryz.prog (bin .add 3 (.tmp 21) (.const (.int .i64 9)) t21 (.int .i64 9)) w fun t22 w =>
  o1 Tryz.prog (bin .gtr 3 (.tmp 22) (.const (.int .i64 64)) t22 (.int .i64 64)) w fun t23 w =>
  jn (fun x1 => [x1 9]) (fun k1 =>
  br t23 (fun _ =>
  mv (.int .i64 128) fun t9_1 =>
  k1 [t9_1] w) (fun _ =>
  k1 [t9] w)) fun x1 w =>
  mv (.int .i64 0) fun t24 =>
  lp [undef, t24] w fun I2 μ2 => ∀ (x2 : Env) (w1 : World), I2 [x2 10, x2 24] w1 →
  o1 Tryz.prog (bin .lss 3 (.tmp 24) (.const (.int .i64 8)) (x2 24) (.int .i64 8)) w1 fun t25 w =>
  br t25 (fun _ =>
  mv (x2 24) fun t26 =>
  mv t26 fun t10 =>
  mv (x1 9) fun t27 =>
  o1 Tryz.prog (bin .sub 3 (.tmp 27) (.const (.int .i64 1)) t27 (.int .i64 1)) w fun t28 w =>
  mv t10 fun t29 =>
  o1 Tryz.prog (bin .sub 3 (.tmp 28) (.tmp 29) t28 t29) w fun t30 w =>
  mv a2 fun t31 =>
  o1 Tryz.prog (bin .mul 79 (.tmp 31) (.const (.int .u64 8)) t31 (.int .u64 8)) w fun t32 w =>
  mv t10 fun t33 =>
  o1 Tryz.prog (bin .mul 3 (.const (.int .i64 8)) (.tmp 33) (.int .i64 8) t33) w fun t34 w =>
  o1 Tryz.prog (convert 3 49 t34) w fun t35 w =>
  o1 Tryz.prog (bin .shr 79 (.tmp 32) (.tmp 35) t32 t35) w fun t36 w =>
  o1 Tryz.prog (convert 79 5 t36) w fun t37 w =>
  o1 Tryz.prog (Instr.indexAt 213 t7 t30) w fun t38 w =>
  o0 Tryz.prog (Instr.storeAt 5 t38 t37) w fun _ w =>
  o1 Tryz.prog (bin .add 3 (.tmp 24) (.const (.int .i64 1)) (x2 24) (.int .i64 1)) w fun t39 w =>
  mv t39 fun t24_1 =>
  I2 [t10, t24_1] w ∧ μ2 [t10, t24_1] w < μ2 [x2 10, x2 24] w1) (fun _ =>
  mv (.int .i64 0) fun t11 =>
  lp [t11] w fun I3 μ3 => ∀ (x3 : Env) (w2 : World), I3 [x3 11] w2 →
  mv (x3 11) fun t40 =>
  mv (x1 9) fun t41 =>
  o1 Tryz.prog (bin .lss 3 (.tmp 40) (.tmp 41) t40 t41) w2 fun t42 w =>
  br t42 (fun _ =>
  mv (x3 11) fun t45 =>
  mv (x3 11) fun t46 =>
  o1 Tryz.prog (bin .add 3 (.tmp 46) (.const (.int .i64 64)) t46 (.int .i64 64)) w fun t47 w =>
  o1 Tryz.prog (Instr.sliceAt 213 t7 (some t45) (some t47) none) w fun t48 w =>
  C Tryz.prog N.sha_words_mix #[t3, t48] w fun t49 w =>
  mv (x3 11) fun t43 =>
  o1 Tryz.prog (bin .add 3 (.tmp 43) (.const (.int .i64 64)) t43 (.int .i64 64)) w fun t44 w =>
  mv t44 fun t11_1 =>
  I3 [t11_1] w ∧ μ3 [t11_1] w < μ3 [x3 11] w2) (fun _ =>
  o1 Tryz.prog (Instr.alloc 23 true (.tuple #[])) w fun t12 w =>
  o1 Tryz.prog (Instr.loadAt 157 t3) w fun t50 w =>
  mv (.int .i64 0) fun t51 =>
  lp [undef, undef, undef, t51, undef] w fun I4 μ4 => ∀ (x4 : Env) (w3 : World), I4 [x4 13, x4 14, x4 15, x4 51, x4 55] w3 →
  o1 Tryz.prog (bin .lss 3 (.tmp 51) (.const (.int .i64 8)) (x4 51) (.int .i64 8)) w3 fun t52 w =>
  br t52 (fun _ =>
  mv (x4 51) fun t53 =>
  o1 Tryz.prog (Instr.index 157 t50 (x4 51)) w fun t54 w =>
  mv t53 fun t13 =>
  mv t54 fun t14 =>
  mv (.int .i64 0) fun t55 =>
  lp [(x4 15), t55] w fun I5 μ5 => ∀ (x5 : Env) (w4 : World), I5 [x5 15, x5 55] w4 →
  o1 Tryz.prog (bin .lss 3 (.tmp 55) (.const (.int .i64 4)) (x5 55) (.int .i64 4)) w4 fun t56 w =>
  br t56 (fun _ =>
  mv (x5 55) fun t57 =>
  mv t57 fun t15 =>
  mv t13 fun t58 =>
  o1 Tryz.prog (bin .mul 3 (.const (.int .i64 4)) (.tmp 58) (.int .i64 4) t58) w fun t59 w =>
  mv t15 fun t60 =>
  o1 Tryz.prog (bin .add 3 (.tmp 59) (.tmp 60) t59 t60) w fun t61 w =>
  mv t14 fun t62 =>
  mv t15 fun t63 =>
  o1 Tryz.prog (bin .mul 3 (.const (.int .i64 8)) (.tmp 63) (.int .i64 8) t63) w fun t64 w =>
  o1 Tryz.prog (bin .sub 3 (.const (.int .i64 24)) (.tmp 64) (.int .i64 24) t64) w fun t65 w =>
  o1 Tryz.prog (convert 3 49 t65) w fun t66 w =>
  o1 Tryz.prog (bin .shr 155 (.tmp 62) (.tmp 66) t62 t66) w fun t67 w =>
  o1 Tryz.prog (convert 155 5 t67) w fun t68 w =>
  o1 Tryz.prog (Instr.indexAt 23 t12 t61) w fun t69 w =>
  o0 Tryz.prog (Instr.storeAt 5 t69 t68) w fun _ w =>
  o1 Tryz.prog (bin .add 3 (.tmp 55) (.const (.int .i64 1)) (x5 55) (.int .i64 1)) w fun t70 w =>
  mv t70 fun t55_1 =>
  I5 [t15, t55_1] w ∧ μ5 [t15, t55_1] w < μ5 [x5 15, x5 55] w4) (fun _ =>
  o1 Tryz.prog (bin .add 3 (.tmp 51) (.const (.int .i64 1)) (x4 51) (.int .i64 1)) w fun t71 w =>
  mv t71 fun t51_1 =>
  I4 [t13, t14, (x5 15), t51_1, (x5 55)] w ∧ μ4 [t13, t14, (x5 15), t51_1, (x5 55)] w < μ4 [x4 13, x4 14, x4 15, x4 51, x4 55] w3)) (fun _ =>
  o1 Tryz.prog (Instr.loadAt 23 t12) w fun t72 w =>
  o0 Tryz.prog (Instr.storeAt 23 t6 t72) w fun _ w =>
  rc Tryz.prog 23 t6 w fun r0 =>
  k r0 w)))
theorem C.sha_words_end {k : Value → World → Prop} {a0 a1 a2 : Value} {w : World} (h : F.sha_words_end k a0 a1 a2 w) : C Tryz.prog N.sha_words_end #[a0, a1, a2] w k :=
  den_calls (H := { moves := [], vars := [8, 9, 10, 11, 13, 14, 15, 24, 51, 55] }) (args := [a0, a1, a2]) mixed Tryz.func92 (by kernel_rfl) (by kernel_rfl) (by kernel_rfl) h

-- isthmus/frame.Frame
def F.frame_Frame (k : Value → World → Prop) (a0 : Value) (w : World) : Prop :=
  mv (.slice none 0 0) fun t2 =>
  mv .nilIface fun t3 =>
  mv a0 fun t5 =>
  o1 Tryz.prog (Builtin.len_ #[26] 3 #[t5]) w fun t6 w =>
  o1 Tryz.prog (bin .eql 3 (.tmp 6) (.const (.int .i64 0)) t6 (.int .i64 0)) w fun t7 w =>
  mv t7 fun t4 =>
  br t4 (fun _ =>
  C Tryz.prog N.frame_fault #[.string ⟨#[112, 97, 121, 108, 111, 97, 100]⟩, .int .i64 1] w fun t8 w =>
  mv (.slice none 0 0) fun t2_1 =>
  mv t8 fun t3_1 =>
  k (.tuple #[t2_1, t3_1]) w) (fun _ =>
  mv a0 fun t10 =>
  o1 Tryz.prog (Builtin.len_ #[26] 3 #[t10]) w fun t11 w =>
  o1 Tryz.prog (bin .gtr 3 (.tmp 11) (.const (.int .i64 1048576)) t11 (.int .i64 1048576)) w fun t12 w =>
  mv t12 fun t9 =>
  br t9 (fun _ =>
  C Tryz.prog N.frame_fault #[.string ⟨#[112, 97, 121, 108, 111, 97, 100]⟩, .int .i64 2] w fun t13 w =>
  mv (.slice none 0 0) fun t2_2 =>
  mv t13 fun t3_2 =>
  k (.tuple #[t2_2, t3_2]) w) (fun _ =>
  mv a0 fun t14 =>
  o1 Tryz.prog (Builtin.len_ #[26] 3 #[t14]) w fun t15 w =>
  o1 Tryz.prog (convert 3 155 t15) w fun t16 w =>
  C Tryz.prog N.frame_put #[.slice none 0 0, t16] w fun t17 w =>
  C Tryz.prog N.frame_sealed #[.slice none 0 0, t17] w fun t18 w =>
  mv a0 fun t19 =>
  C Tryz.prog N.frame_sealed #[t18, t19] w fun t20 w =>
  mv t20 fun t2_3 =>
  mv .nilIface fun t3_3 =>
  k (.tuple #[t2_3, t3_3]) w))
theorem C.frame_Frame {k : Value → World → Prop} {a0 : Value} {w : World} (h : F.frame_Frame k a0 w) : C Tryz.prog N.frame_Frame #[a0] w k :=
  den_calls (H := { moves := [], vars := [2, 3, 4, 9] }) (args := [a0]) mixed Tryz.func93 (by kernel_rfl) (by kernel_rfl) (by kernel_rfl) h

-- isthmus/pack.New
def F.pack_New (k : Value → World → Prop) (w : World) : Prop :=
  mv (.pointer none) fun t0 =>
  o1 Tryz.prog (Instr.build 217 #[]) w fun t1 w =>
  o1 Tryz.prog (Instr.box 217 t1) w fun t2 w =>
  mv t2 fun t0_1 =>
  k t0_1 w
theorem C.pack_New {k : Value → World → Prop} {w : World} (h : F.pack_New k  w) : C Tryz.prog N.pack_New #[] w k :=
  den_calls (H := { moves := [], vars := [0] }) (args := []) mixed Tryz.func94 (by kernel_rfl) (by kernel_rfl) (by kernel_rfl) h

-- (*isthmus/pack.Writer).Uint
def F.pack_Writer_Uint (k : Value → World → Prop) (a0 a1 : Value) (w : World) : Prop :=
  mv (.pointer none) fun t4 =>
  mv a0 fun t5 =>
  o1 Tryz.prog (bin .eql 161 (.tmp 5) (.const (.pointer none)) t5 (.pointer none)) w fun t6 w =>
  br t6 (fun _ =>
  mv (.pointer none) fun t4_1 =>
  k t4_1 w) (fun _ =>
  lp [a1] w fun I1 μ1 => ∀ (x1 : Env) (w1 : World), I1 [x1 1] w1 →
  mv (x1 1) fun t7 =>
  o1 Tryz.prog (bin .geq 79 (.tmp 7) (.const (.int .u64 128)) t7 (.int .u64 128)) w1 fun t8 w =>
  br t8 (fun _ =>
  mv a0 fun t11 =>
  mv a0 fun t12 =>
  nilOk t12 = true ∧ mv t12 fun t13 =>
  o1 Tryz.prog (Instr.fieldAt 217 t13 0) w fun t14 w =>
  o1 Tryz.prog (Instr.loadAt 26 t14) w fun t15 w =>
  mv (x1 1) fun t16 =>
  o1 Tryz.prog (convert 79 5 t16) w fun t17 w =>
  o1 Tryz.prog (bin .or 5 (.tmp 17) (.const (.int .u8 128)) t17 (.int .u8 128)) w fun t18 w =>
  o1 Tryz.prog (Instr.buildSlice 26 1 #[(0, t18)]) w fun t19 w =>
  ob Tryz.prog (fun _ => Builtin.append_ #[26, 26] 26 #[t15, t19]) w fun t20 w =>
  nilOk t11 = true ∧ mv t11 fun t21 =>
  o1 Tryz.prog (Instr.fieldAt 217 t21 0) w fun t22 w =>
  o0 Tryz.prog (Instr.storeAt 26 t22 t20) w fun _ w =>
  mv (x1 1) fun t9 =>
  o1 Tryz.prog (bin .shr 79 (.tmp 9) (.const (.int .u64 7)) t9 (.int .u64 7)) w fun t10 w =>
  mv t10 fun t1 =>
  I1 [t1] w ∧ μ1 [t1] w < μ1 [x1 1] w1) (fun _ =>
  mv a0 fun t23 =>
  mv a0 fun t24 =>
  nilOk t24 = true ∧ mv t24 fun t25 =>
  o1 Tryz.prog (Instr.fieldAt 217 t25 0) w fun t26 w =>
  o1 Tryz.prog (Instr.loadAt 26 t26) w fun t27 w =>
  mv (x1 1) fun t28 =>
  o1 Tryz.prog (convert 79 5 t28) w fun t29 w =>
  o1 Tryz.prog (Instr.buildSlice 26 1 #[(0, t29)]) w fun t30 w =>
  ob Tryz.prog (fun _ => Builtin.append_ #[26, 26] 26 #[t27, t30]) w fun t31 w =>
  nilOk t23 = true ∧ mv t23 fun t32 =>
  o1 Tryz.prog (Instr.fieldAt 217 t32 0) w fun t33 w =>
  o0 Tryz.prog (Instr.storeAt 26 t33 t31) w fun _ w =>
  mv a0 fun t34 =>
  mv t34 fun t4_2 =>
  k t4_2 w))
theorem C.pack_Writer_Uint {k : Value → World → Prop} {a0 a1 : Value} {w : World} (h : F.pack_Writer_Uint k a0 a1 w) : C Tryz.prog N.pack_Writer_Uint #[a0, a1] w k :=
  den_calls (H := { moves := [], vars := [1, 4] }) (args := [a0, a1]) mixed Tryz.func95 (by kernel_rfl) (by kernel_rfl) (by kernel_rfl) h

-- (*isthmus/pack.Writer).Done
def F.pack_Writer_Done (k : Value → World → Prop) (a0 : Value) (w : World) : Prop :=
  mv (.slice none 0 0) fun t2 =>
  mv a0 fun t3 =>
  o1 Tryz.prog (bin .eql 161 (.tmp 3) (.const (.pointer none)) t3 (.pointer none)) w fun t4 w =>
  br t4 (fun _ =>
  mv (.slice none 0 0) fun t2_1 =>
  k t2_1 w) (fun _ =>
  mv a0 fun t5 =>
  nilOk t5 = true ∧ mv t5 fun t6 =>
  o1 Tryz.prog (Instr.fieldAt 217 t6 0) w fun t7 w =>
  o1 Tryz.prog (Instr.loadAt 26 t7) w fun t8 w =>
  ob Tryz.prog (fun _ => Builtin.append_ #[26, 26] 26 #[.slice none 0 0, t8]) w fun t9 w =>
  mv t9 fun t2_2 =>
  k t2_2 w)
theorem C.pack_Writer_Done {k : Value → World → Prop} {a0 : Value} {w : World} (h : F.pack_Writer_Done k a0 w) : C Tryz.prog N.pack_Writer_Done #[a0] w k :=
  den_calls (H := { moves := [], vars := [2] }) (args := [a0]) mixed Tryz.func96 (by kernel_rfl) (by kernel_rfl) (by kernel_rfl) h

-- (*isthmus/files.FS).Append
def F.files_FS_Append (k : Value → World → Prop) (a0 a1 a2 : Value) (w : World) : Prop :=
  mv .nilIface fun t6 =>
  mv a0 fun t10 =>
  mv a1 fun t11 =>
  o1 Tryz.prog (Instr.buildSlice 111 1 #[(0, t11)]) w fun t12 w =>
  C Tryz.prog N.files_FS_ready #[t10, t12] w fun t13 w =>
  mv t13 fun t7 =>
  mv t7 fun t14 =>
  o1 Tryz.prog (bin .neq 30 (.tmp 14) (.const .nilIface) t14 .nilIface) w fun t15 w =>
  br t15 (fun _ =>
  mv t7 fun t16 =>
  mv t16 fun t6_1 =>
  k t6_1 w) (fun _ =>
  mv a0 fun t18 =>
  nilOk t18 = true ∧ mv t18 fun t19 =>
  o1 Tryz.prog (Instr.fieldAt 104 t19 0) w fun t20 w =>
  o1 Tryz.prog (Instr.loadAt 102 t20) w fun t21 w =>
  mv a1 fun t22 =>
  o1 Tryz.prog (Instr.lookup 102 t21 t22 true) w fun t23 w =>
  mv t23 fun t17 =>
  o1 Tryz.prog (Instr.extract t17 0) w fun t24 w =>
  o1 Tryz.prog (Instr.extract t17 1) w fun t25 w =>
  o1 Tryz.prog (Instr.alloc 114 true (.tuple #[])) w fun t8 w =>
  o0 Tryz.prog (Instr.storeAt 114 t8 t24) w fun _ w =>
  mv t25 fun t9 =>
  mv t9 fun t27 =>
  o1 Tryz.prog (Op.unary .not t27) w fun t28 w =>
  mv t28 fun t29 =>
  gd t29 true (fun k1 => mv a0 fun v => k1 v w) w fun t30 w =>
  gd t29 true (fun k2 => nilOk t30 = true ∧ mv t30 fun v => k2 v w) w fun t31 w =>
  gd t29 true (fun k3 => o1 Tryz.prog (Instr.fieldAt 104 t31 0) w k3) w fun t32 w =>
  gd t29 true (fun k4 => o1 Tryz.prog (Instr.loadAt 102 t32) w k4) w fun t33 w =>
  gd t29 true (fun k5 => o1 Tryz.prog (Builtin.len_ #[102] 3 #[t33]) w k5) w fun t34 w =>
  gd t29 true (fun k6 => o1 Tryz.prog (bin .geq 3 (.tmp 34) (.const (.int .i64 64)) t34 (.int .i64 64)) w k6) w fun t35 w =>
  pk t29 t35 (.bool false) fun t36 =>
  mv t36 fun t26 =>
  br t26 (fun _ =>
  mv a1 fun t37 =>
  C Tryz.prog N.files_fault #[t37, .int .i64 10] w fun t38 w =>
  mv t38 fun t6_2 =>
  k t6_2 w) (fun _ =>
  mv a2 fun t40 =>
  o1 Tryz.prog (Builtin.len_ #[26] 3 #[t40]) w fun t41 w =>
  o1 Tryz.prog (Instr.fieldAt 114 t8 0) w fun t42 w =>
  o1 Tryz.prog (Instr.loadAt 26 t42) w fun t43 w =>
  o1 Tryz.prog (Builtin.len_ #[26] 3 #[t43]) w fun t44 w =>
  o1 Tryz.prog (bin .sub 3 (.const (.int .i64 16777216)) (.tmp 44) (.int .i64 16777216) t44) w fun t45 w =>
  o1 Tryz.prog (bin .gtr 3 (.tmp 41) (.tmp 45) t41 t45) w fun t46 w =>
  mv t46 fun t39 =>
  br t39 (fun _ =>
  mv a1 fun t47 =>
  C Tryz.prog N.files_fault #[t47, .int .i64 2] w fun t48 w =>
  mv t48 fun t6_3 =>
  k t6_3 w) (fun _ =>
  o1 Tryz.prog (Instr.fieldAt 114 t8 0) w fun t49 w =>
  o1 Tryz.prog (Instr.loadAt 26 t49) w fun t50 w =>
  o1 Tryz.prog (Instr.fieldAt 114 t8 0) w fun t51 w =>
  o1 Tryz.prog (Instr.loadAt 26 t51) w fun t52 w =>
  o1 Tryz.prog (Builtin.len_ #[26] 3 #[t52]) w fun t53 w =>
  o1 Tryz.prog (Instr.fieldAt 114 t8 0) w fun t54 w =>
  o1 Tryz.prog (Instr.loadAt 26 t54) w fun t55 w =>
  o1 Tryz.prog (Builtin.len_ #[26] 3 #[t55]) w fun t56 w =>
  o1 Tryz.prog (Instr.sliceAt 26 t50 none (some t53) (some t56)) w fun t57 w =>
  mv a2 fun t58 =>
  ob Tryz.prog (fun _ => Builtin.append_ #[26, 26] 26 #[t57, t58]) w fun t59 w =>
  o1 Tryz.prog (Instr.fieldAt 114 t8 0) w fun t60 w =>
  o0 Tryz.prog (Instr.storeAt 26 t60 t59) w fun _ w =>
  dr w.drew fun S1 =>
  mv a0 fun t61 =>
  nilOk t61 = true ∧ mv t61 fun t62 =>
  tk Tryz.prog S1 (Instr.fieldAt 104 t62 0) fun t63 =>
  tk Tryz.prog S1 (Instr.loadAt 102 t63) fun t64 =>
  mv a1 fun t65 =>
  tk Tryz.prog S1 (Instr.loadAt 114 t8) fun t66 =>
  o0 Tryz.prog (Instr.mapUpdate 102 t64 t65 t66) w.drew fun _ w =>
  mv a0 fun t67 =>
  C Tryz.prog N.files_FS_step #[t67] w fun t68 w =>
  mv t68 fun t6_4 =>
  k t6_4 w)))
theorem C.files_FS_Append {k : Value → World → Prop} {a0 a1 a2 : Value} {w : World} (h : F.files_FS_Append k a0 a1 a2 w) : C Tryz.prog N.files_FS_Append #[a0, a1, a2] w k :=
  den_calls (H := { moves := [(10, (.take 0 (.take 1 (.take 2 (.take 3 (.take 4 (.take 5 (.last 6))))))))], vars := [6, 7, 9, 26, 39] }) (args := [a0, a1, a2]) mixed Tryz.func97 (by kernel_rfl) (by kernel_rfl) (by kernel_rfl) h

-- (*isthmus/files.FS).Sync
def F.files_FS_Sync (k : Value → World → Prop) (a0 a1 : Value) (w : World) : Prop :=
  o1 Tryz.prog (Instr.box 53 a0) w fun t2 w =>
  o1 Tryz.prog (Instr.box 9 a1) w fun t3 w =>
  mv .nilIface fun t4 =>
  o1 Tryz.prog (Instr.loadAt 53 t2) w fun t5 w =>
  o1 Tryz.prog (Instr.loadAt 9 t3) w fun t6 w =>
  o1 Tryz.prog (Instr.makeFunc (.func 130) #[] #[t2, t3]) w fun t7 w =>
  C Tryz.prog N.files_FS_change #[t5, t6, t7] w fun t8 w =>
  mv t8 fun t4_1 =>
  k t4_1 w
theorem C.files_FS_Sync {k : Value → World → Prop} {a0 a1 : Value} {w : World} (h : F.files_FS_Sync k a0 a1 w) : C Tryz.prog N.files_FS_Sync #[a0, a1] w k :=
  den_calls (H := { moves := [], vars := [4] }) (args := [a0, a1]) mixed Tryz.func98 (by kernel_rfl) (by kernel_rfl) (by kernel_rfl) h

-- isthmus/wots.chains
def F.wots_chains (k : Value → World → Prop) (a0 a1 a2 : Value) (w : World) : Prop :=
  o1 Tryz.prog (Instr.box 23 a0) w fun t3 w =>
  mv (.slice none 0 0) fun t6 =>
  mv (.slice none 0 0) fun t7 =>
  mv a2 fun t11 =>
  o1 Tryz.prog (Builtin.len_ #[63] 3 #[t11]) w fun t12 w =>
  mv (.int .i64 0) fun t13 =>
  lp [t7, undef, undef, t13] w fun I1 μ1 => ∀ (x1 : Env) (w1 : World), I1 [x1 7, x1 8, x1 9, x1 13] w1 →
  o1 Tryz.prog (bin .lss 3 (.tmp 13) (.tmp 12) (x1 13) t12) w1 fun t14 w =>
  br t14 (fun _ =>
  mv (x1 13) fun t15 =>
  o1 Tryz.prog (Instr.indexAt 63 t11 (x1 13)) w fun t16 w =>
  o1 Tryz.prog (Instr.loadAt 3 t16) w fun t17 w =>
  mv t15 fun t8 =>
  mv t17 fun t9 =>
  o1 Tryz.prog (Instr.loadAt 23 t3) w fun t18 w =>
  mv a1 fun t19 =>
  mv t8 fun t20 =>
  C Tryz.prog N.wots_first #[t18, t19, t20] w fun t21 w =>
  mv a1 fun t22 =>
  mv t8 fun t23 =>
  mv t9 fun t24 =>
  C Tryz.prog N.wots_Step #[t21, t22, t23, .int .i64 0, t24] w fun t25 w =>
  o1 Tryz.prog (Instr.alloc 23 true (.tuple #[])) w fun t10 w =>
  o0 Tryz.prog (Instr.storeAt 23 t10 t25) w fun _ w =>
  mv (x1 7) fun t26 =>
  o1 Tryz.prog (Instr.sliceAt 23 t10 none none none) w fun t27 w =>
  ob Tryz.prog (fun _ => Builtin.append_ #[26, 26] 26 #[t26, t27]) w fun t28 w =>
  mv t28 fun t7_1 =>
  o1 Tryz.prog (bin .add 3 (.tmp 13) (.const (.int .i64 1)) (x1 13) (.int .i64 1)) w fun t29 w =>
  mv t29 fun t13_1 =>
  I1 [t7_1, t8, t9, t13_1] w ∧ μ1 [t7_1, t8, t9, t13_1] w < μ1 [x1 7, x1 8, x1 9, x1 13] w1) (fun _ =>
  mv (x1 7) fun t30 =>
  mv t30 fun t6_1 =>
  k t6_1 w)
theorem C.wots_chains {k : Value → World → Prop} {a0 a1 a2 : Value} {w : World} (h : F.wots_chains k a0 a1 a2 w) : C Tryz.prog N.wots_chains #[a0, a1, a2] w k :=
  den_calls (H := { moves := [], vars := [6, 7, 8, 9, 13] }) (args := [a0, a1, a2]) mixed Tryz.func99 (by kernel_rfl) (by kernel_rfl) (by kernel_rfl) h

-- (*isthmus/pack.Writer).Bytes
def F.pack_Writer_Bytes (k : Value → World → Prop) (a0 a1 : Value) (w : World) : Prop :=
  mv (.pointer none) fun t4 =>
  mv a0 fun t5 =>
  mv a1 fun t6 =>
  o1 Tryz.prog (Builtin.len_ #[26] 3 #[t6]) w fun t7 w =>
  o1 Tryz.prog (convert 3 79 t7) w fun t8 w =>
  C Tryz.prog N.pack_Writer_Uint #[t5, t8] w fun t9 w =>
  mv a1 fun t10 =>
  C Tryz.prog N.pack_Writer_raw #[t9, t10] w fun t11 w =>
  mv t11 fun t4_1 =>
  k t4_1 w
theorem C.pack_Writer_Bytes {k : Value → World → Prop} {a0 a1 : Value} {w : World} (h : F.pack_Writer_Bytes k a0 a1 w) : C Tryz.prog N.pack_Writer_Bytes #[a0, a1] w k :=
  den_calls (H := { moves := [], vars := [4] }) (args := [a0, a1]) mixed Tryz.func100 (by kernel_rfl) (by kernel_rfl) (by kernel_rfl) h

-- (*isthmus/pack.Writer).Hash
def F.pack_Writer_Hash (k : Value → World → Prop) (a0 a1 : Value) (w : World) : Prop :=
  o1 Tryz.prog (Instr.box 23 a1) w fun t3 w =>
  mv (.pointer none) fun t4 =>
  mv a0 fun t5 =>
  o1 Tryz.prog (Instr.sliceAt 23 t3 none none none) w fun t6 w =>
  C Tryz.prog N.pack_Writer_raw #[t5, t6] w fun t7 w =>
  mv t7 fun t4_1 =>
  k t4_1 w
theorem C.pack_Writer_Hash {k : Value → World → Prop} {a0 a1 : Value} {w : World} (h : F.pack_Writer_Hash k a0 a1 w) : C Tryz.prog N.pack_Writer_Hash #[a0, a1] w k :=
  den_calls (H := { moves := [], vars := [4] }) (args := [a0, a1]) mixed Tryz.func101 (by kernel_rfl) (by kernel_rfl) (by kernel_rfl) h

-- isthmus/files.named
def F.files_named (k : Value → World → Prop) (a0 : Value) (w : World) : Prop :=
  mv (.bool false) fun t2 =>
  mv a0 fun t3 =>
  o1 Tryz.prog (Builtin.len_ #[9] 3 #[t3]) w fun t4 w =>
  o1 Tryz.prog (bin .geq 3 (.tmp 4) (.const (.int .i64 1)) t4 (.int .i64 1)) w fun t5 w =>
  mv t5 fun t6 =>
  gd t6 true (fun k1 => mv a0 fun v => k1 v w) w fun t7 w =>
  gd t6 true (fun k2 => o1 Tryz.prog (Builtin.len_ #[9] 3 #[t7]) w k2) w fun t8 w =>
  gd t6 true (fun k3 => o1 Tryz.prog (bin .leq 3 (.tmp 8) (.const (.int .i64 64)) t8 (.int .i64 64)) w k3) w fun t9 w =>
  pk t6 t9 (.bool false) fun t10 =>
  mv t10 fun t11 =>
  gd t11 true (fun k4 => mv a0 fun v => k4 v w) w fun t12 w =>
  gd t11 true (fun k5 => o1 Tryz.prog (convert 9 26 t12) w k5) w fun t13 w =>
  gd t11 true (fun k6 => C Tryz.prog N.slices_ContainsFunc_bytes #[t13, .func (.func 134) #[] #[]] w k6) w fun t14 w =>
  gd t11 true (fun k7 => o1 Tryz.prog (Op.unary .not t14) w k7) w fun t15 w =>
  pk t11 t15 (.bool false) fun t16 =>
  mv t16 fun t2_1 =>
  k t2_1 w
theorem C.files_named {k : Value → World → Prop} {a0 : Value} {w : World} (h : F.files_named k a0 w) : C Tryz.prog N.files_named #[a0] w k :=
  den_calls (H := { moves := [], vars := [2] }) (args := [a0]) mixed Tryz.func102 (by kernel_rfl) (by kernel_rfl) (by kernel_rfl) h

-- slices.Sorted[string]
-- maps.Keys[map[string]isthmus/files.file,string,isthmus/files.file]
-- math/bits.Len
def F.math_bits_Len (k : Value → World → Prop) (a0 : Value) (w : World) : Prop :=
  mv (.int .i64 0) fun t2 =>
  br (.bool false) (fun _ =>
  mv a0 fun t3 =>
  o1 Tryz.prog (convert 49 155 t3) w fun t4 w =>
  C Tryz.prog N.math_bits_Len32 #[t4] w fun t5 w =>
  mv t5 fun t2_1 =>
  k t2_1 w) (fun _ =>
  mv a0 fun t6 =>
  C Tryz.prog N.math_bits_Len64 #[t6] w fun t7 w =>
  mv t7 fun t2_2 =>
  k t2_2 w)
theorem C.math_bits_Len {k : Value → World → Prop} {a0 : Value} {w : World} (h : F.math_bits_Len k a0 w) : C Tryz.prog N.math_bits_Len #[a0] w k :=
  den_calls (H := { moves := [], vars := [2] }) (args := [a0]) mixed Tryz.func105 (by kernel_rfl) (by kernel_rfl) (by kernel_rfl) h

-- isthmus/isthmusref01.constants
-- isthmus/isthmusref01.turn
-- isthmus/isthmusref05.at
-- (*isthmus/pack.Reader).live
def F.pack_Reader_live (k : Value → World → Prop) (a0 : Value) (w : World) : Prop :=
  mv (.bool false) fun t2 =>
  mv a0 fun t3 =>
  o1 Tryz.prog (bin .neq 119 (.tmp 3) (.const (.pointer none)) t3 (.pointer none)) w fun t4 w =>
  mv t4 fun t5 =>
  gd t5 true (fun k1 => mv a0 fun v => k1 v w) w fun t6 w =>
  gd t5 true (fun k2 => nilOk t6 = true ∧ mv t6 fun v => k2 v w) w fun t7 w =>
  gd t5 true (fun k3 => o1 Tryz.prog (Instr.fieldAt 181 t7 1) w k3) w fun t8 w =>
  gd t5 true (fun k4 => o1 Tryz.prog (Instr.loadAt 30 t8) w k4) w fun t9 w =>
  gd t5 true (fun k5 => o1 Tryz.prog (bin .eql 30 (.tmp 9) (.const .nilIface) t9 .nilIface) w k5) w fun t10 w =>
  pk t5 t10 (.bool false) fun t11 =>
  mv t11 fun t2_1 =>
  k t2_1 w
theorem C.pack_Reader_live {k : Value → World → Prop} {a0 : Value} {w : World} (h : F.pack_Reader_live k a0 w) : C Tryz.prog N.pack_Reader_live #[a0] w k :=
  den_calls (H := { moves := [], vars := [2] }) (args := [a0]) mixed Tryz.func109 (by kernel_rfl) (by kernel_rfl) (by kernel_rfl) h

-- isthmus/pack.number
def F.pack_number (k : Value → World → Prop) (a0 : Value) (w : World) : Prop :=
  mv (.int .u64 0) fun t2 =>
  mv (.int .i64 0) fun t3 =>
  mv (.int .i64 0) fun t4 =>
  mv (.int .u64 0) fun t5 =>
  mv (.int .i64 0) fun t8 =>
  jn (fun x1 => [x1 2, x1 3, x1 4, x1 5, x1 6, x1 7, x1 8]) (fun k1 =>
  lp [t2, t3, t4, t5, undef, undef, t8] w fun I2 μ2 => ∀ (x2 : Env) (w1 : World), I2 [x2 2, x2 3, x2 4, x2 5, x2 6, x2 7, x2 8] w1 →
  o1 Tryz.prog (bin .lss 3 (.tmp 8) (.const (.int .i64 10)) (x2 8) (.int .i64 10)) w1 fun t9 w =>
  br t9 (fun _ =>
  mv (x2 8) fun t10 =>
  mv t10 fun t6 =>
  mv t6 fun t11 =>
  mv a0 fun t12 =>
  o1 Tryz.prog (Builtin.len_ #[26] 3 #[t12]) w fun t13 w =>
  o1 Tryz.prog (bin .eql 3 (.tmp 11) (.tmp 13) t11 t13) w fun t14 w =>
  br t14 (fun _ =>
  mv (.int .u64 0) fun t2_1 =>
  mv (.int .i64 0) fun t3_1 =>
  mv (.int .i64 12) fun t4_1 =>
  k (.tuple #[t2_1, t3_1, t4_1]) w) (fun _ =>
  mv a0 fun t15 =>
  mv t6 fun t16 =>
  o1 Tryz.prog (Instr.indexAt 26 t15 t16) w fun t17 w =>
  o1 Tryz.prog (Instr.loadAt 5 t17) w fun t18 w =>
  mv t18 fun t7 =>
  mv t6 fun t19 =>
  o1 Tryz.prog (bin .eql 3 (.tmp 19) (.const (.int .i64 9)) t19 (.int .i64 9)) w fun t20 w =>
  mv t20 fun t21 =>
  gd t21 true (fun k2 => mv t7 fun v => k2 v w) w fun t22 w =>
  gd t21 true (fun k3 => o1 Tryz.prog (bin .gtr 5 (.tmp 22) (.const (.int .u8 1)) t22 (.int .u8 1)) w k3) w fun t23 w =>
  pk t21 t23 (.bool false) fun t24 =>
  br t24 (fun _ =>
  k1 [(x2 2), (x2 3), (x2 4), (x2 5), t6, t7, (x2 8)] w) (fun _ =>
  mv (x2 5) fun t25 =>
  mv t7 fun t26 =>
  o1 Tryz.prog (bin .andNot 5 (.tmp 26) (.const (.int .u8 128)) t26 (.int .u8 128)) w fun t27 w =>
  o1 Tryz.prog (convert 5 79 t27) w fun t28 w =>
  mv t6 fun t29 =>
  o1 Tryz.prog (bin .mul 3 (.const (.int .i64 7)) (.tmp 29) (.int .i64 7) t29) w fun t30 w =>
  o1 Tryz.prog (convert 3 49 t30) w fun t31 w =>
  o1 Tryz.prog (bin .shl 79 (.tmp 28) (.tmp 31) t28 t31) w fun t32 w =>
  o1 Tryz.prog (bin .or 79 (.tmp 25) (.tmp 32) t25 t32) w fun t33 w =>
  mv t33 fun t5_1 =>
  mv t7 fun t34 =>
  o1 Tryz.prog (bin .lss 5 (.tmp 34) (.const (.int .u8 128)) t34 (.int .u8 128)) w fun t35 w =>
  br t35 (fun _ =>
  mv t7 fun t36 =>
  o1 Tryz.prog (bin .eql 5 (.tmp 36) (.const (.int .u8 0)) t36 (.int .u8 0)) w fun t37 w =>
  mv t37 fun t38 =>
  gd t38 true (fun k4 => mv t6 fun v => k4 v w) w fun t39 w =>
  gd t38 true (fun k5 => o1 Tryz.prog (bin .gtr 3 (.tmp 39) (.const (.int .i64 0)) t39 (.int .i64 0)) w k5) w fun t40 w =>
  pk t38 t40 (.bool false) fun t41 =>
  br t41 (fun _ =>
  k1 [(x2 2), (x2 3), (x2 4), t5_1, t6, t7, (x2 8)] w) (fun _ =>
  mv t5_1 fun t42 =>
  mv t6 fun t43 =>
  o1 Tryz.prog (bin .add 3 (.tmp 43) (.const (.int .i64 1)) t43 (.int .i64 1)) w fun t44 w =>
  mv t42 fun t2_2 =>
  mv t44 fun t3_2 =>
  mv (.int .i64 0) fun t4_2 =>
  k (.tuple #[t2_2, t3_2, t4_2]) w)) (fun _ =>
  o1 Tryz.prog (bin .add 3 (.tmp 8) (.const (.int .i64 1)) (x2 8) (.int .i64 1)) w fun t45 w =>
  mv t45 fun t8_1 =>
  I2 [(x2 2), (x2 3), (x2 4), t5_1, t6, t7, t8_1] w ∧ μ2 [(x2 2), (x2 3), (x2 4), t5_1, t6, t7, t8_1] w < μ2 [x2 2, x2 3, x2 4, x2 5, x2 6, x2 7, x2 8] w1)))) (fun _ =>
  k1 [(x2 2), (x2 3), (x2 4), (x2 5), (x2 6), (x2 7), (x2 8)] w)) fun x1 w =>
  mv (.int .u64 0) fun t2_3 =>
  mv (.int .i64 0) fun t3_3 =>
  mv (.int .i64 3) fun t4_3 =>
  k (.tuple #[t2_3, t3_3, t4_3]) w
theorem C.pack_number {k : Value → World → Prop} {a0 : Value} {w : World} (h : F.pack_number k a0 w) : C Tryz.prog N.pack_number #[a0] w k :=
  den_calls (H := { moves := [], vars := [2, 3, 4, 5, 6, 7, 8] }) (args := [a0]) mixed Tryz.func110 (by kernel_rfl) (by kernel_rfl) (by kernel_rfl) h

-- (*isthmus/pack.Reader).fail
def F.pack_Reader_fail (k : Value → World → Prop) (a0 a1 a2 : Value) (w : World) : Prop :=
  mv a0 fun t6 =>
  o1 Tryz.prog (bin .neq 119 (.tmp 6) (.const (.pointer none)) t6 (.pointer none)) w fun t7 w =>
  mv t7 fun t8 =>
  gd t8 true (fun k1 => mv a0 fun v => k1 v w) w fun t9 w =>
  gd t8 true (fun k2 => nilOk t9 = true ∧ mv t9 fun v => k2 v w) w fun t10 w =>
  gd t8 true (fun k3 => o1 Tryz.prog (Instr.fieldAt 181 t10 1) w k3) w fun t11 w =>
  gd t8 true (fun k4 => o1 Tryz.prog (Instr.loadAt 30 t11) w k4) w fun t12 w =>
  gd t8 true (fun k5 => o1 Tryz.prog (bin .eql 30 (.tmp 12) (.const .nilIface) t12 .nilIface) w k5) w fun t13 w =>
  pk t8 t13 (.bool false) fun t14 =>
  jn (fun x1 => []) (fun k6 =>
  br t14 (fun _ =>
  mv a0 fun t15 =>
  mv a1 fun t16 =>
  mv a2 fun t17 =>
  o1 Tryz.prog (Instr.makeInterface 87 t17) w fun t18 w =>
  o1 Tryz.prog (Instr.build 138 #[(0, t16), (1, t18)]) w fun t19 w =>
  o1 Tryz.prog (Instr.box 138 t19) w fun t20 w =>
  o1 Tryz.prog (Instr.makeInterface 136 t20) w fun t21 w =>
  nilOk t15 = true ∧ mv t15 fun t22 =>
  o1 Tryz.prog (Instr.fieldAt 181 t22 1) w fun t23 w =>
  o0 Tryz.prog (Instr.storeAt 30 t23 t21) w fun _ w =>
  k6 [] w) (fun _ =>
  k6 [] w)) fun x1 w =>
  k (.tuple #[]) w
theorem C.pack_Reader_fail {k : Value → World → Prop} {a0 a1 a2 : Value} {w : World} (h : F.pack_Reader_fail k a0 a1 a2 w) : C Tryz.prog N.pack_Reader_fail #[a0, a1, a2] w k :=
  den_calls (H := { moves := [], vars := [] }) (args := [a0, a1, a2]) mixed Tryz.func111 (by kernel_rfl) (by kernel_rfl) (by kernel_rfl) h

-- (*isthmus/pack.Reader).take
def F.pack_Reader_take (k : Value → World → Prop) (a0 a1 a2 : Value) (w : World) : Prop :=
  mv (.slice none 0 0) fun t6 =>
  mv a0 fun t8 =>
  C Tryz.prog N.pack_Reader_live #[t8] w fun t9 w =>
  o1 Tryz.prog (Op.unary .not t9) w fun t10 w =>
  br t10 (fun _ =>
  mv (.slice none 0 0) fun t6_1 =>
  k t6_1 w) (fun _ =>
  mv a0 fun t11 =>
  nilOk t11 = true ∧ mv t11 fun t12 =>
  o1 Tryz.prog (Instr.fieldAt 181 t12 0) w fun t13 w =>
  o1 Tryz.prog (Instr.loadAt 26 t13) w fun t14 w =>
  o1 Tryz.prog (Builtin.len_ #[26] 3 #[t14]) w fun t15 w =>
  mv a2 fun t16 =>
  o1 Tryz.prog (bin .lss 3 (.tmp 15) (.tmp 16) t15 t16) w fun t17 w =>
  br t17 (fun _ =>
  mv a0 fun t18 =>
  mv a1 fun t19 =>
  C Tryz.prog N.pack_Reader_fail #[t18, t19, .int .i64 12] w fun t20 w =>
  mv (.slice none 0 0) fun t6_2 =>
  k t6_2 w) (fun _ =>
  mv a0 fun t21 =>
  nilOk t21 = true ∧ mv t21 fun t22 =>
  o1 Tryz.prog (Instr.fieldAt 181 t22 0) w fun t23 w =>
  o1 Tryz.prog (Instr.loadAt 26 t23) w fun t24 w =>
  mv a2 fun t25 =>
  o1 Tryz.prog (Instr.sliceAt 26 t24 none (some t25) none) w fun t26 w =>
  ob Tryz.prog (fun _ => Builtin.append_ #[26, 26] 26 #[.slice none 0 0, t26]) w fun t27 w =>
  mv t27 fun t7 =>
  mv a0 fun t28 =>
  mv a0 fun t29 =>
  nilOk t29 = true ∧ mv t29 fun t30 =>
  o1 Tryz.prog (Instr.fieldAt 181 t30 0) w fun t31 w =>
  o1 Tryz.prog (Instr.loadAt 26 t31) w fun t32 w =>
  mv a2 fun t33 =>
  o1 Tryz.prog (Instr.sliceAt 26 t32 (some t33) none none) w fun t34 w =>
  nilOk t28 = true ∧ mv t28 fun t35 =>
  o1 Tryz.prog (Instr.fieldAt 181 t35 0) w fun t36 w =>
  o0 Tryz.prog (Instr.storeAt 26 t36 t34) w fun _ w =>
  mv t7 fun t37 =>
  mv t37 fun t6_3 =>
  k t6_3 w))
theorem C.pack_Reader_take {k : Value → World → Prop} {a0 a1 a2 : Value} {w : World} (h : F.pack_Reader_take k a0 a1 a2 w) : C Tryz.prog N.pack_Reader_take #[a0, a1, a2] w k :=
  den_calls (H := { moves := [], vars := [6, 7] }) (args := [a0, a1, a2]) mixed Tryz.func112 (by kernel_rfl) (by kernel_rfl) (by kernel_rfl) h

-- (*isthmus/pack.Reader).Err
def F.pack_Reader_Err (k : Value → World → Prop) (a0 : Value) (w : World) : Prop :=
  mv .nilIface fun t2 =>
  mv a0 fun t3 =>
  o1 Tryz.prog (bin .eql 119 (.tmp 3) (.const (.pointer none)) t3 (.pointer none)) w fun t4 w =>
  br t4 (fun _ =>
  o1 Tryz.prog (Instr.makeInterface 87 (.int .i64 1)) w fun t5 w =>
  mv t5 fun t2_1 =>
  k t2_1 w) (fun _ =>
  mv a0 fun t6 =>
  nilOk t6 = true ∧ mv t6 fun t7 =>
  o1 Tryz.prog (Instr.fieldAt 181 t7 1) w fun t8 w =>
  o1 Tryz.prog (Instr.loadAt 30 t8) w fun t9 w =>
  mv t9 fun t2_2 =>
  k t2_2 w)
theorem C.pack_Reader_Err {k : Value → World → Prop} {a0 : Value} {w : World} (h : F.pack_Reader_Err k a0 w) : C Tryz.prog N.pack_Reader_Err #[a0] w k :=
  den_calls (H := { moves := [], vars := [2] }) (args := [a0]) mixed Tryz.func113 (by kernel_rfl) (by kernel_rfl) (by kernel_rfl) h

-- isthmus/wots.number
def F.wots_number (k : Value → World → Prop) (a0 a1 : Value) (w : World) : Prop :=
  mv (.slice none 0 0) fun t4 =>
  mv a1 fun t6 =>
  o1 Tryz.prog (convert 3 79 t6) w fun t7 w =>
  mv t7 fun t5 =>
  lp [a0, t5] w fun I1 μ1 => ∀ (x1 : Env) (w1 : World), I1 [x1 0, x1 5] w1 →
  mv (x1 5) fun t8 =>
  o1 Tryz.prog (bin .geq 79 (.tmp 8) (.const (.int .u64 128)) t8 (.int .u64 128)) w1 fun t9 w =>
  br t9 (fun _ =>
  mv (x1 0) fun t12 =>
  mv (x1 5) fun t13 =>
  o1 Tryz.prog (convert 79 5 t13) w fun t14 w =>
  o1 Tryz.prog (bin .or 5 (.tmp 14) (.const (.int .u8 128)) t14 (.int .u8 128)) w fun t15 w =>
  o1 Tryz.prog (Instr.buildSlice 26 1 #[(0, t15)]) w fun t16 w =>
  ob Tryz.prog (fun _ => Builtin.append_ #[26, 26] 26 #[t12, t16]) w fun t17 w =>
  mv t17 fun t0 =>
  mv (x1 5) fun t10 =>
  o1 Tryz.prog (bin .shr 79 (.tmp 10) (.const (.int .u64 7)) t10 (.int .u64 7)) w fun t11 w =>
  mv t11 fun t5_1 =>
  I1 [t0, t5_1] w ∧ μ1 [t0, t5_1] w < μ1 [x1 0, x1 5] w1) (fun _ =>
  mv (x1 0) fun t18 =>
  mv (x1 5) fun t19 =>
  o1 Tryz.prog (convert 79 5 t19) w fun t20 w =>
  o1 Tryz.prog (Instr.buildSlice 26 1 #[(0, t20)]) w fun t21 w =>
  ob Tryz.prog (fun _ => Builtin.append_ #[26, 26] 26 #[t18, t21]) w fun t22 w =>
  mv t22 fun t4_1 =>
  k t4_1 w)
theorem C.wots_number {k : Value → World → Prop} {a0 a1 : Value} {w : World} (h : F.wots_number k a0 a1 w) : C Tryz.prog N.wots_number #[a0, a1] w k :=
  den_calls (H := { moves := [], vars := [0, 4, 5] }) (args := [a0, a1]) mixed Tryz.func117 (by kernel_rfl) (by kernel_rfl) (by kernel_rfl) h

-- isthmus/isthmusref02.Uint
-- (*isthmus/files.FS).find
def F.files_FS_find (k : Value → World → Prop) (a0 a1 : Value) (w : World) : Prop :=
  o1 Tryz.prog (Instr.alloc 114 true (.tuple #[])) w fun t4 w =>
  mv .nilIface fun t5 =>
  mv a0 fun t9 =>
  mv a1 fun t10 =>
  o1 Tryz.prog (Instr.buildSlice 111 1 #[(0, t10)]) w fun t11 w =>
  C Tryz.prog N.files_FS_ready #[t9, t11] w fun t12 w =>
  mv t12 fun t6 =>
  mv t6 fun t13 =>
  o1 Tryz.prog (bin .neq 30 (.tmp 13) (.const .nilIface) t13 .nilIface) w fun t14 w =>
  br t14 (fun _ =>
  o1 Tryz.prog (Instr.build 114 #[]) w fun t15 w =>
  mv t6 fun t16 =>
  o0 Tryz.prog (Instr.storeAt 114 t4 t15) w fun _ w =>
  mv t16 fun t5_1 =>
  rc Tryz.prog 114 t4 w fun r0 =>
  k (.tuple #[r0, t5_1]) w) (fun _ =>
  mv a0 fun t18 =>
  nilOk t18 = true ∧ mv t18 fun t19 =>
  o1 Tryz.prog (Instr.fieldAt 104 t19 0) w fun t20 w =>
  o1 Tryz.prog (Instr.loadAt 102 t20) w fun t21 w =>
  mv a1 fun t22 =>
  o1 Tryz.prog (Instr.lookup 102 t21 t22 true) w fun t23 w =>
  mv t23 fun t17 =>
  o1 Tryz.prog (Instr.extract t17 0) w fun t24 w =>
  o1 Tryz.prog (Instr.extract t17 1) w fun t25 w =>
  o1 Tryz.prog (Instr.alloc 114 true (.tuple #[])) w fun t7 w =>
  o0 Tryz.prog (Instr.storeAt 114 t7 t24) w fun _ w =>
  mv t25 fun t8 =>
  mv t8 fun t26 =>
  o1 Tryz.prog (Op.unary .not t26) w fun t27 w =>
  br t27 (fun _ =>
  o1 Tryz.prog (Instr.build 114 #[]) w fun t28 w =>
  mv a1 fun t29 =>
  C Tryz.prog N.files_fault #[t29, .int .i64 8] w fun t30 w =>
  o0 Tryz.prog (Instr.storeAt 114 t4 t28) w fun _ w =>
  mv t30 fun t5_2 =>
  rc Tryz.prog 114 t4 w fun r0 =>
  k (.tuple #[r0, t5_2]) w) (fun _ =>
  o1 Tryz.prog (Instr.loadAt 114 t7) w fun t31 w =>
  o0 Tryz.prog (Instr.storeAt 114 t4 t31) w fun _ w =>
  mv .nilIface fun t5_3 =>
  rc Tryz.prog 114 t4 w fun r0 =>
  k (.tuple #[r0, t5_3]) w))
theorem C.files_FS_find {k : Value → World → Prop} {a0 a1 : Value} {w : World} (h : F.files_FS_find k a0 a1 w) : C Tryz.prog N.files_FS_find #[a0, a1] w k :=
  den_calls (H := { moves := [], vars := [5, 6, 8] }) (args := [a0, a1]) mixed Tryz.func119 (by kernel_rfl) (by kernel_rfl) (by kernel_rfl) h

-- slices.Clone[[]byte,byte]
def F.slices_Clone_bytes (k : Value → World → Prop) (a0 : Value) (w : World) : Prop :=
  mv (.slice none 0 0) fun t2 =>
  mv a0 fun t3 =>
  o1 Tryz.prog (bin .eql 26 (.tmp 3) (.const (.slice none 0 0)) t3 (.slice none 0 0)) w fun t4 w =>
  br t4 (fun _ =>
  mv (.slice none 0 0) fun t2_1 =>
  k t2_1 w) (fun _ =>
  o1 Tryz.prog (Instr.buildSlice 26 0 #[]) w fun t5 w =>
  mv a0 fun t6 =>
  ob Tryz.prog (fun _ => Builtin.append_ #[26, 26] 26 #[t5, t6]) w fun t7 w =>
  mv t7 fun t2_2 =>
  k t2_2 w)
theorem C.slices_Clone_bytes {k : Value → World → Prop} {a0 : Value} {w : World} (h : F.slices_Clone_bytes k a0 w) : C Tryz.prog N.slices_Clone_bytes #[a0] w k :=
  den_calls (H := { moves := [], vars := [2] }) (args := [a0]) mixed Tryz.func120 (by kernel_rfl) (by kernel_rfl) (by kernel_rfl) h

-- errors.is
def F.errors_is (k : Value → World → Prop) (a0 a1 a2 : Value) (w : World) : Prop :=
  mv (.bool false) fun t6 =>
  lp [a0, t6, undef, undef, undef, undef, undef, undef, undef] w fun I1 μ1 => ∀ (x1 : Env) (w1 : World), I1 [x1 0, x1 6, x1 7, x1 8, x1 9, x1 10, x1 12, x1 13, x1 45] w1 →
  mv a2 fun t14 =>
  mv t14 fun t15 =>
  gd t15 true (fun k1 => mv (x1 0) fun v => k1 v w1) w1 fun t16 w =>
  gd t15 true (fun k2 => mv a1 fun v => k2 v w) w fun t17 w =>
  gd t15 true (fun k3 => o1 Tryz.prog (bin .eql 30 (.tmp 16) (.tmp 17) t16 t17) w k3) w fun t18 w =>
  pk t15 t18 (.bool false) fun t19 =>
  br t19 (fun _ =>
  mv (.bool true) fun t6_1 =>
  k t6_1 w) (fun _ =>
  mv (x1 0) fun t21 =>
  o1 Tryz.prog (Instr.typeAssert t21 30 226 true) w fun t22 w =>
  mv t22 fun t20 =>
  o1 Tryz.prog (Instr.extract t20 0) w fun t23 w =>
  o1 Tryz.prog (Instr.extract t20 1) w fun t24 w =>
  mv t23 fun t7 =>
  mv t24 fun t8 =>
  mv t8 fun t25 =>
  mv t25 fun t26 =>
  gd t26 true (fun k4 => mv t7 fun v => k4 v w) w fun t27 w =>
  gd t26 true (fun k5 => mv a1 fun v => k5 v w) w fun t28 w =>
  gd t26 true (fun k6 => iv Tryz.prog t27 "Is" #[t28] w k6) w fun t29 w =>
  pk t26 t29 (.bool false) fun t30 =>
  br t30 (fun _ =>
  mv (.bool true) fun t6_2 =>
  k t6_2 w) (fun _ =>
  mv (x1 0) fun t31 =>
  o1 Tryz.prog (Instr.typeAssert t31 30 195 true) w fun t32 w =>
  o1 Tryz.prog (Instr.extract t32 1) w fun t33 w =>
  o1 Tryz.prog (Instr.extract t32 0) w fun t34 w =>
  br t33 (fun _ =>
  mv t34 fun t9 =>
  mv t9 fun t35 =>
  iv Tryz.prog t35 "Unwrap" #[] w fun t36 w =>
  mv t36 fun t0 =>
  mv t0 fun t37 =>
  o1 Tryz.prog (bin .eql 30 (.tmp 37) (.const .nilIface) t37 .nilIface) w fun t38 w =>
  br t38 (fun _ =>
  mv (.bool false) fun t6_3 =>
  k t6_3 w) (fun _ =>
  I1 [t0, (x1 6), t7, t8, t9, (x1 10), (x1 12), (x1 13), (x1 45)] w ∧ μ1 [t0, (x1 6), t7, t8, t9, (x1 10), (x1 12), (x1 13), (x1 45)] w < μ1 [x1 0, x1 6, x1 7, x1 8, x1 9, x1 10, x1 12, x1 13, x1 45] w1)) (fun _ =>
  o1 Tryz.prog (Instr.typeAssert t31 30 196 true) w fun t39 w =>
  o1 Tryz.prog (Instr.extract t39 1) w fun t40 w =>
  o1 Tryz.prog (Instr.extract t39 0) w fun t41 w =>
  br t40 (fun _ =>
  mv t41 fun t10 =>
  mv t10 fun t42 =>
  iv Tryz.prog t42 "Unwrap" #[] w fun t43 w =>
  o1 Tryz.prog (Builtin.len_ #[197] 3 #[t43]) w fun t44 w =>
  mv (.int .i64 0) fun t45 =>
  lp [(x1 6), (x1 12), t45] w fun I2 μ2 => ∀ (x2 : Env) (w2 : World), I2 [x2 6, x2 12, x2 45] w2 →
  o1 Tryz.prog (bin .lss 3 (.tmp 45) (.tmp 44) (x2 45) t44) w2 fun t46 w =>
  br t46 (fun _ =>
  o1 Tryz.prog (Instr.indexAt 197 t43 (x2 45)) w fun t47 w =>
  o1 Tryz.prog (Instr.loadAt 30 t47) w fun t48 w =>
  mv t48 fun t12 =>
  mv t12 fun t49 =>
  mv a1 fun t50 =>
  mv a2 fun t51 =>
  C Tryz.prog N.errors_is #[t49, t50, t51] w fun t52 w =>
  br t52 (fun _ =>
  mv (.bool true) fun t6_4 =>
  k t6_4 w) (fun _ =>
  o1 Tryz.prog (bin .add 3 (.tmp 45) (.const (.int .i64 1)) (x2 45) (.int .i64 1)) w fun t53 w =>
  mv t53 fun t45_1 =>
  I2 [(x2 6), t12, t45_1] w ∧ μ2 [(x2 6), t12, t45_1] w < μ2 [x2 6, x2 12, x2 45] w2)) (fun _ =>
  mv (.bool false) fun t6_5 =>
  k t6_5 w)) (fun _ =>
  mv t31 fun t13 =>
  mv (.bool false) fun t6_6 =>
  k t6_6 w))))
theorem C.errors_is {k : Value → World → Prop} {a0 a1 a2 : Value} {w : World} (h : F.errors_is k a0 a1 a2 w) : C Tryz.prog N.errors_is #[a0, a1, a2] w k :=
  den_calls (H := { moves := [], vars := [0, 6, 7, 8, 9, 10, 12, 13, 45] }) (args := [a0, a1, a2]) mixed Tryz.func121 (by kernel_rfl) (by kernel_rfl) (by kernel_rfl) h

-- isthmus/frame.One
end Go.Proofs.YtbbmgkbinnomgaaGreatDoor
