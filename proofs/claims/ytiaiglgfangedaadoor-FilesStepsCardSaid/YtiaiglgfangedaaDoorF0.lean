/- What each function asks: printed by hoas.py off the loaded program; each is held against the program by the kernel. -/
import Derived.Test.YtiaiglgfangedaaDoorN
set_option linter.unusedVariables false
set_option linter.unusedSimpArgs false
set_option linter.unusedSectionVars false
namespace Go.Proofs.YtiaiglgfangedaaDoor
open Go Go.Isk
set_option maxRecDepth 100000
-- gosem.cut.init
-- isthmus/isthmuslaw04.FilesSteps
def F.isthmuslaw04_FilesSteps (k : Value → World → Prop) (a0 a1 : Value) (w : World) : Prop :=
  mv (.bool false) fun t4 =>
  C Tryd.prog N.files_New #[] w fun t14 w =>
  mv t14 fun t5 =>
  mv a0 fun t15 =>
  o1 Tryd.prog (convert 3 25 t15) w fun t16 w =>
  o1 Tryd.prog (bin .rem 25 (.tmp 16) (.const (.int .u64 12)) t16 (.int .u64 12)) w fun t17 w =>
  o1 Tryd.prog (convert 25 3 t17) w fun t18 w =>
  mv t18 fun t6 =>
  mv t5 fun t19 =>
  o1 Tryd.prog (bin .eql 23 (.tmp 19) (.const (.pointer none)) t19 (.pointer none)) w fun t20 w =>
  mv t20 fun t21 =>
  gd t21 false (fun k1 => mv t5 fun v => k1 v w) w fun t22 w =>
  gd t21 false (fun k2 => mv t6 fun v => k2 v w) w fun t23 w =>
  gd t21 false (fun k3 => C Tryd.prog N.files_FS_Arm #[t22, t23] w k3) w fun t24 w =>
  gd t21 false (fun k4 => o1 Tryd.prog (bin .neq 27 (.tmp 24) (.const .nilIface) t24 .nilIface) w k4) w fun t25 w =>
  pk t21 (.bool true) t25 fun t26 =>
  mv t26 fun t27 =>
  gd t27 false (fun k5 => mv a1 fun v => k5 v w) w fun t28 w =>
  gd t27 false (fun k6 => o1 Tryd.prog (Builtin.len_ #[22] 3 #[t28]) w k6) w fun t29 w =>
  gd t27 false (fun k7 => o1 Tryd.prog (bin .gtr 3 (.tmp 29) (.const (.int .i64 1000)) t29 (.int .i64 1000)) w k7) w fun t30 w =>
  pk t27 (.bool true) t30 fun t31 =>
  br t31 (fun _ =>
  mv t5 fun t32 =>
  o1 Tryd.prog (bin .neq 23 (.tmp 32) (.const (.pointer none)) t32 (.pointer none)) w fun t33 w =>
  mv t33 fun t34 =>
  gd t34 true (fun k8 => C Tryd.prog N.isthmuslaw04_sure #[] w k8) w fun t35 w =>
  pk t34 t35 (.bool false) fun t36 =>
  mv t36 fun t4_1 =>
  k t4_1 w) (fun _ =>
  mv (.int .i64 0) fun t7 =>
  lp [t4, t7, undef] w fun I1 μ1 => ∀ (x1 : Env) (w1 : World), I1 [x1 4, x1 7, x1 8] w1 →
  mv (x1 7) fun t37 =>
  o1 Tryd.prog (bin .lss 3 (.tmp 37) (.const (.int .i64 15)) t37 (.int .i64 15)) w1 fun t38 w =>
  br t38 (fun _ =>
  mv t5 fun t41 =>
  mv a1 fun t42 =>
  C Tryd.prog N.files_FS_Append #[t41, .string ⟨#[97]⟩, t42] w fun t43 w =>
  mv t43 fun t8 =>
  mv t8 fun t44 =>
  o1 Tryd.prog (bin .eql 27 (.tmp 44) (.const .nilIface) t44 .nilIface) w fun t45 w =>
  mv (x1 7) fun t46 =>
  mv t6 fun t47 =>
  o1 Tryd.prog (bin .lss 3 (.tmp 46) (.tmp 47) t46 t47) w fun t48 w =>
  o1 Tryd.prog (bin .neq 4 (.tmp 45) (.tmp 48) t45 t48) w fun t49 w =>
  mv t49 fun t50 =>
  gd t50 false (fun k9 => mv t5 fun v => k9 v w) w fun t51 w =>
  gd t50 false (fun k10 => C Tryd.prog N.files_FS_Down #[t51] w k10) w fun t52 w =>
  gd t50 false (fun k11 => mv (x1 7) fun v => k11 v w) w fun t53 w =>
  gd t50 false (fun k12 => mv t6 fun v => k12 v w) w fun t54 w =>
  gd t50 false (fun k13 => o1 Tryd.prog (bin .geq 3 (.tmp 53) (.tmp 54) t53 t54) w k13) w fun t55 w =>
  gd t50 false (fun k14 => o1 Tryd.prog (bin .neq 4 (.tmp 52) (.tmp 55) t52 t55) w k14) w fun t56 w =>
  pk t50 (.bool true) t56 fun t57 =>
  mv t57 fun t58 =>
  gd t58 false (fun k15 => mv t5 fun v => k15 v w) w fun t59 w =>
  gd t58 false (fun k16 => C Tryd.prog N.files_FS_Steps #[t59] w k16) w fun t60 w =>
  gd t58 false (fun k17 => mv (x1 7) fun v => k17 v w) w fun t61 w =>
  gd t58 false (fun k18 => o1 Tryd.prog (bin .add 3 (.tmp 61) (.const (.int .i64 1)) t61 (.int .i64 1)) w k18) w fun t62 w =>
  gd t58 false (fun k19 => mv t6 fun v => k19 v w) w fun t63 w =>
  gd t58 false (fun k20 => o1 Tryd.prog (Builtin.min_ #[3, 3] 3 #[t62, t63]) w k20) w fun t64 w =>
  gd t58 false (fun k21 => o1 Tryd.prog (bin .neq 3 (.tmp 60) (.tmp 64) t60 t64) w k21) w fun t65 w =>
  pk t58 (.bool true) t65 fun t66 =>
  mv t66 fun t67 =>
  gd t67 false (fun k22 => mv t8 fun v => k22 v w) w fun t68 w =>
  gd t67 false (fun k23 => o1 Tryd.prog (bin .neq 27 (.tmp 68) (.const .nilIface) t68 .nilIface) w k23) w fun t69 w =>
  gd t67 false (fun k24 => mv t69 fun v => k24 v w) w fun t70 w =>
  gd t70 true (fun k25 => mv t8 fun v => k25 v w) w fun t71 w =>
  gd t70 true (fun k26 => C Tryd.prog N.isthmuslaw04_num #[t71] w k26) w fun t72 w =>
  gd t70 true (fun k27 => o1 Tryd.prog (bin .neq 3 (.tmp 72) (.const (.int .i64 13)) t72 (.int .i64 13)) w k27) w fun t73 w =>
  gd t67 false (fun k28 => pk t70 t73 (.bool false) fun v => k28 v w) w fun t74 w =>
  pk t67 (.bool true) t74 fun t75 =>
  br t75 (fun _ =>
  mv (.bool false) fun t4_2 =>
  k t4_2 w) (fun _ =>
  mv (x1 7) fun t39 =>
  o1 Tryd.prog (bin .add 3 (.tmp 39) (.const (.int .i64 1)) t39 (.int .i64 1)) w fun t40 w =>
  mv t40 fun t7_1 =>
  I1 [(x1 4), t7_1, t8] w ∧ μ1 [(x1 4), t7_1, t8] w < μ1 [x1 4, x1 7, x1 8] w1)) (fun _ =>
  mv t5 fun t77 =>
  C Tryd.prog N.files_FS_Read #[t77, .string ⟨#[97]⟩] w fun t78 w =>
  mv t78 fun t76 =>
  o1 Tryd.prog (Instr.extract t76 0) w fun t79 w =>
  o1 Tryd.prog (Instr.extract t76 1) w fun t80 w =>
  mv t79 fun t9 =>
  mv t80 fun t10 =>
  mv t5 fun t81 =>
  C Tryd.prog N.files_FS_Sync #[t81, .string ⟨#[97]⟩] w fun t82 w =>
  mv t82 fun t11 =>
  mv t5 fun t83 =>
  o1 Tryd.prog (Instr.buildSlice 37 1 #[(0, .int .i64 1099511627776)]) w fun t84 w =>
  C Tryd.prog N.files_FS_Start #[t83, t84] w fun t85 w =>
  mv t5 fun t87 =>
  C Tryd.prog N.files_FS_Read #[t87, .string ⟨#[97]⟩] w fun t88 w =>
  mv t88 fun t86 =>
  o1 Tryd.prog (Instr.extract t86 0) w fun t89 w =>
  o1 Tryd.prog (Instr.extract t86 1) w fun t90 w =>
  mv t89 fun t12 =>
  mv t90 fun t13 =>
  mv t10 fun t91 =>
  C Tryd.prog N.isthmuslaw04_num #[t91] w fun t92 w =>
  o1 Tryd.prog (bin .eql 3 (.tmp 92) (.const (.int .i64 13)) t92 (.int .i64 13)) w fun t93 w =>
  mv t93 fun t94 =>
  gd t94 true (fun k29 => mv t11 fun v => k29 v w) w fun t95 w =>
  gd t94 true (fun k30 => C Tryd.prog N.isthmuslaw04_num #[t95] w k30) w fun t96 w =>
  gd t94 true (fun k31 => o1 Tryd.prog (bin .eql 3 (.tmp 96) (.const (.int .i64 13)) t96 (.int .i64 13)) w k31) w fun t97 w =>
  pk t94 t97 (.bool false) fun t98 =>
  mv t98 fun t99 =>
  gd t99 true (fun k32 => mv t5 fun v => k32 v w) w fun t100 w =>
  gd t99 true (fun k33 => C Tryd.prog N.files_FS_Down #[t100] w k33) w fun t101 w =>
  gd t99 true (fun k34 => o1 Tryd.prog (Op.unary .not t101) w k34) w fun t102 w =>
  pk t99 t102 (.bool false) fun t103 =>
  mv t103 fun t104 =>
  gd t104 true (fun k35 => mv t13 fun v => k35 v w) w fun t105 w =>
  gd t104 true (fun k36 => o1 Tryd.prog (bin .eql 27 (.tmp 105) (.const .nilIface) t105 .nilIface) w k36) w fun t106 w =>
  pk t104 t106 (.bool false) fun t107 =>
  mv t107 fun t108 =>
  gd t108 true (fun k37 => mv t12 fun v => k37 v w) w fun t109 w =>
  gd t108 true (fun k38 => o1 Tryd.prog (Builtin.len_ #[22] 3 #[t109]) w k38) w fun t110 w =>
  gd t108 true (fun k39 => mv t6 fun v => k39 v w) w fun t111 w =>
  gd t108 true (fun k40 => o1 Tryd.prog (bin .add 3 (.tmp 111) (.const (.int .i64 1)) t111 (.int .i64 1)) w k40) w fun t112 w =>
  gd t108 true (fun k41 => mv a1 fun v => k41 v w) w fun t113 w =>
  gd t108 true (fun k42 => o1 Tryd.prog (Builtin.len_ #[22] 3 #[t113]) w k42) w fun t114 w =>
  gd t108 true (fun k43 => o1 Tryd.prog (bin .mul 3 (.tmp 112) (.tmp 114) t112 t114) w k43) w fun t115 w =>
  gd t108 true (fun k44 => o1 Tryd.prog (bin .eql 3 (.tmp 110) (.tmp 115) t110 t115) w k44) w fun t116 w =>
  pk t108 t116 (.bool false) fun t117 =>
  mv t117 fun t118 =>
  gd t118 true (fun k45 => mv t5 fun v => k45 v w) w fun t119 w =>
  gd t118 true (fun k46 => C Tryd.prog N.files_FS_Sync #[t119, .string ⟨#[97]⟩] w k46) w fun t120 w =>
  gd t118 true (fun k47 => o1 Tryd.prog (bin .eql 27 (.tmp 120) (.const .nilIface) t120 .nilIface) w k47) w fun t121 w =>
  pk t118 t121 (.bool false) fun t122 =>
  mv t122 fun t123 =>
  gd t123 true (fun k48 => C Tryd.prog N.isthmuslaw04_sure #[] w k48) w fun t124 w =>
  pk t123 t124 (.bool false) fun t125 =>
  mv t125 fun t4_3 =>
  k t4_3 w))
theorem C.isthmuslaw04_FilesSteps {k : Value → World → Prop} {a0 a1 : Value} {w : World} (h : F.isthmuslaw04_FilesSteps k a0 a1 w) : C Tryd.prog N.isthmuslaw04_FilesSteps #[a0, a1] w k :=
  den_calls (H := { moves := [], vars := [4, 5, 6, 7, 8, 9, 10, 11, 12, 13] }) (args := [a0, a1]) mixed Tryd.func3 (by kernel_rfl) (by kernel_rfl) (by kernel_rfl) h

-- isthmus/isthmuslaw04.FilesRuns
-- isthmus/isthmuslaw04.FilesClone
-- isthmus/files.New
def F.files_New (k : Value → World → Prop) (w : World) : Prop :=
  mv (.pointer none) fun t0 =>
  o1 Tryd.prog (Instr.makeMap 52 none) w fun t1 w =>
  o1 Tryd.prog (Instr.build 54 #[(0, t1)]) w fun t2 w =>
  o1 Tryd.prog (Instr.box 54 t2) w fun t3 w =>
  mv t3 fun t0_1 =>
  k t0_1 w
theorem C.files_New {k : Value → World → Prop} {w : World} (h : F.files_New k  w) : C Tryd.prog N.files_New #[] w k :=
  den_calls (H := { moves := [], vars := [0] }) (args := []) mixed Tryd.func6 (by kernel_rfl) (by kernel_rfl) (by kernel_rfl) h

-- (*isthmus/files.FS).Arm
def F.files_FS_Arm (k : Value → World → Prop) (a0 a1 : Value) (w : World) : Prop :=
  mv .nilIface fun t4 =>
  mv a0 fun t6 =>
  o1 Tryd.prog (bin .eql 23 (.tmp 6) (.const (.pointer none)) t6 (.pointer none)) w fun t7 w =>
  mv t7 fun t8 =>
  gd t8 false (fun k1 => mv a1 fun v => k1 v w) w fun t9 w =>
  gd t8 false (fun k2 => o1 Tryd.prog (bin .lss 3 (.tmp 9) (.const (.int .i64 0)) t9 (.int .i64 0)) w k2) w fun t10 w =>
  pk t8 (.bool true) t10 fun t11 =>
  br t11 (fun _ =>
  C Tryd.prog N.files_fault #[.string ⟨#[]⟩, .int .i64 1] w fun t12 w =>
  mv t12 fun t4_1 =>
  k t4_1 w) (fun _ =>
  mv a0 fun t13 =>
  C Tryd.prog N.files_FS_ready #[t13, .slice none 0 0] w fun t14 w =>
  mv t14 fun t5 =>
  mv t5 fun t15 =>
  o1 Tryd.prog (bin .neq 27 (.tmp 15) (.const .nilIface) t15 .nilIface) w fun t16 w =>
  br t16 (fun _ =>
  mv t5 fun t17 =>
  mv t17 fun t4_2 =>
  k t4_2 w) (fun _ =>
  mv a0 fun t18 =>
  mv a0 fun t19 =>
  mv a1 fun t20 =>
  nilOk t18 = true ∧ mv t18 fun t21 =>
  o1 Tryd.prog (Instr.fieldAt 54 t21 2) w fun t22 w =>
  o0 Tryd.prog (Instr.storeAt 4 t22 (.bool true)) w fun _ w =>
  nilOk t19 = true ∧ mv t19 fun t23 =>
  o1 Tryd.prog (Instr.fieldAt 54 t23 3) w fun t24 w =>
  o0 Tryd.prog (Instr.storeAt 3 t24 t20) w fun _ w =>
  mv .nilIface fun t4_3 =>
  k t4_3 w))
theorem C.files_FS_Arm {k : Value → World → Prop} {a0 a1 : Value} {w : World} (h : F.files_FS_Arm k a0 a1 w) : C Tryd.prog N.files_FS_Arm #[a0, a1] w k :=
  den_calls (H := { moves := [], vars := [4, 5] }) (args := [a0, a1]) mixed Tryd.func7 (by kernel_rfl) (by kernel_rfl) (by kernel_rfl) h

-- isthmus/isthmuslaw04.sure
def F.isthmuslaw04_sure (k : Value → World → Prop) (w : World) : Prop :=
  mv (.bool false) fun t0 =>
  C Tryd.prog N.files_New #[] w fun t7 w =>
  mv t7 fun t1 =>
  mv t1 fun t8 =>
  o1 Tryd.prog (bin .eql 23 (.tmp 8) (.const (.pointer none)) t8 (.pointer none)) w fun t9 w =>
  br t9 (fun _ =>
  mv (.bool false) fun t0_1 =>
  k t0_1 w) (fun _ =>
  mv t1 fun t10 =>
  o1 Tryd.prog (Instr.buildSlice 22 3 #[(0, .int .u8 97), (1, .int .u8 98), (2, .int .u8 99)]) w fun t11 w =>
  o1 Tryd.prog (convert 22 22 t11) w fun t12 w =>
  C Tryd.prog N.files_FS_Append #[t10, .string ⟨#[102]⟩, t12] w fun t13 w =>
  mv t1 fun t14 =>
  C Tryd.prog N.files_FS_Sync #[t14, .string ⟨#[102]⟩] w fun t15 w =>
  mv t1 fun t16 =>
  o1 Tryd.prog (Instr.buildSlice 22 3 #[(0, .int .u8 100), (1, .int .u8 101), (2, .int .u8 102)]) w fun t17 w =>
  o1 Tryd.prog (convert 22 22 t17) w fun t18 w =>
  C Tryd.prog N.files_FS_Append #[t16, .string ⟨#[102]⟩, t18] w fun t19 w =>
  mv t13 fun t2 =>
  mv t15 fun t3 =>
  mv t19 fun t4 =>
  mv t1 fun t20 =>
  o1 Tryd.prog (Instr.buildSlice 37 1 #[(0, .int .i64 1)]) w fun t21 w =>
  C Tryd.prog N.files_FS_Start #[t20, t21] w fun t22 w =>
  mv t1 fun t24 =>
  C Tryd.prog N.files_FS_Read #[t24, .string ⟨#[102]⟩] w fun t25 w =>
  mv t25 fun t23 =>
  o1 Tryd.prog (Instr.extract t23 0) w fun t26 w =>
  o1 Tryd.prog (Instr.extract t23 1) w fun t27 w =>
  mv t26 fun t5 =>
  mv t27 fun t6 =>
  mv t2 fun t28 =>
  o1 Tryd.prog (bin .eql 27 (.tmp 28) (.const .nilIface) t28 .nilIface) w fun t29 w =>
  mv t29 fun t30 =>
  gd t30 true (fun k1 => mv t3 fun v => k1 v w) w fun t31 w =>
  gd t30 true (fun k2 => o1 Tryd.prog (bin .eql 27 (.tmp 31) (.const .nilIface) t31 .nilIface) w k2) w fun t32 w =>
  pk t30 t32 (.bool false) fun t33 =>
  mv t33 fun t34 =>
  gd t34 true (fun k3 => mv t4 fun v => k3 v w) w fun t35 w =>
  gd t34 true (fun k4 => o1 Tryd.prog (bin .eql 27 (.tmp 35) (.const .nilIface) t35 .nilIface) w k4) w fun t36 w =>
  pk t34 t36 (.bool false) fun t37 =>
  mv t37 fun t38 =>
  gd t38 true (fun k5 => mv t6 fun v => k5 v w) w fun t39 w =>
  gd t38 true (fun k6 => o1 Tryd.prog (bin .eql 27 (.tmp 39) (.const .nilIface) t39 .nilIface) w k6) w fun t40 w =>
  pk t38 t40 (.bool false) fun t41 =>
  mv t41 fun t42 =>
  gd t42 true (fun k7 => mv t5 fun v => k7 v w) w fun t43 w =>
  gd t42 true (fun k8 => o1 Tryd.prog (convert 22 9 t43) w k8) w fun t44 w =>
  gd t42 true (fun k9 => o1 Tryd.prog (bin .eql 9 (.tmp 44) (.const (.string ⟨#[97, 98, 99, 100]⟩)) t44 (.string ⟨#[97, 98, 99, 100]⟩)) w k9) w fun t45 w =>
  pk t42 t45 (.bool false) fun t46 =>
  mv t46 fun t0_2 =>
  k t0_2 w)
theorem C.isthmuslaw04_sure {k : Value → World → Prop} {w : World} (h : F.isthmuslaw04_sure k  w) : C Tryd.prog N.isthmuslaw04_sure #[] w k :=
  den_calls (H := { moves := [], vars := [0, 1, 2, 3, 4, 5, 6] }) (args := []) mixed Tryd.func8 (by kernel_rfl) (by kernel_rfl) (by kernel_rfl) h

-- (*isthmus/files.FS).Append
def F.files_FS_Append (k : Value → World → Prop) (a0 a1 a2 : Value) (w : World) : Prop :=
  mv .nilIface fun t6 =>
  mv a0 fun t10 =>
  mv a1 fun t11 =>
  o1 Tryd.prog (Instr.buildSlice 48 1 #[(0, t11)]) w fun t12 w =>
  C Tryd.prog N.files_FS_ready #[t10, t12] w fun t13 w =>
  mv t13 fun t7 =>
  mv t7 fun t14 =>
  o1 Tryd.prog (bin .neq 27 (.tmp 14) (.const .nilIface) t14 .nilIface) w fun t15 w =>
  br t15 (fun _ =>
  mv t7 fun t16 =>
  mv t16 fun t6_1 =>
  k t6_1 w) (fun _ =>
  mv a0 fun t18 =>
  nilOk t18 = true ∧ mv t18 fun t19 =>
  o1 Tryd.prog (Instr.fieldAt 54 t19 0) w fun t20 w =>
  o1 Tryd.prog (Instr.loadAt 52 t20) w fun t21 w =>
  mv a1 fun t22 =>
  o1 Tryd.prog (Instr.lookup 52 t21 t22 true) w fun t23 w =>
  mv t23 fun t17 =>
  o1 Tryd.prog (Instr.extract t17 0) w fun t24 w =>
  o1 Tryd.prog (Instr.extract t17 1) w fun t25 w =>
  o1 Tryd.prog (Instr.alloc 59 true (.tuple #[])) w fun t8 w =>
  o0 Tryd.prog (Instr.storeAt 59 t8 t24) w fun _ w =>
  mv t25 fun t9 =>
  mv t9 fun t27 =>
  o1 Tryd.prog (Op.unary .not t27) w fun t28 w =>
  mv t28 fun t29 =>
  gd t29 true (fun k1 => mv a0 fun v => k1 v w) w fun t30 w =>
  gd t29 true (fun k2 => nilOk t30 = true ∧ mv t30 fun v => k2 v w) w fun t31 w =>
  gd t29 true (fun k3 => o1 Tryd.prog (Instr.fieldAt 54 t31 0) w k3) w fun t32 w =>
  gd t29 true (fun k4 => o1 Tryd.prog (Instr.loadAt 52 t32) w k4) w fun t33 w =>
  gd t29 true (fun k5 => o1 Tryd.prog (Builtin.len_ #[52] 3 #[t33]) w k5) w fun t34 w =>
  gd t29 true (fun k6 => o1 Tryd.prog (bin .geq 3 (.tmp 34) (.const (.int .i64 64)) t34 (.int .i64 64)) w k6) w fun t35 w =>
  pk t29 t35 (.bool false) fun t36 =>
  mv t36 fun t26 =>
  br t26 (fun _ =>
  mv a1 fun t37 =>
  C Tryd.prog N.files_fault #[t37, .int .i64 10] w fun t38 w =>
  mv t38 fun t6_2 =>
  k t6_2 w) (fun _ =>
  mv a2 fun t40 =>
  o1 Tryd.prog (Builtin.len_ #[22] 3 #[t40]) w fun t41 w =>
  o1 Tryd.prog (Instr.fieldAt 59 t8 0) w fun t42 w =>
  o1 Tryd.prog (Instr.loadAt 22 t42) w fun t43 w =>
  o1 Tryd.prog (Builtin.len_ #[22] 3 #[t43]) w fun t44 w =>
  o1 Tryd.prog (bin .sub 3 (.const (.int .i64 16777216)) (.tmp 44) (.int .i64 16777216) t44) w fun t45 w =>
  o1 Tryd.prog (bin .gtr 3 (.tmp 41) (.tmp 45) t41 t45) w fun t46 w =>
  mv t46 fun t39 =>
  br t39 (fun _ =>
  mv a1 fun t47 =>
  C Tryd.prog N.files_fault #[t47, .int .i64 2] w fun t48 w =>
  mv t48 fun t6_3 =>
  k t6_3 w) (fun _ =>
  o1 Tryd.prog (Instr.fieldAt 59 t8 0) w fun t49 w =>
  o1 Tryd.prog (Instr.loadAt 22 t49) w fun t50 w =>
  o1 Tryd.prog (Instr.fieldAt 59 t8 0) w fun t51 w =>
  o1 Tryd.prog (Instr.loadAt 22 t51) w fun t52 w =>
  o1 Tryd.prog (Builtin.len_ #[22] 3 #[t52]) w fun t53 w =>
  o1 Tryd.prog (Instr.fieldAt 59 t8 0) w fun t54 w =>
  o1 Tryd.prog (Instr.loadAt 22 t54) w fun t55 w =>
  o1 Tryd.prog (Builtin.len_ #[22] 3 #[t55]) w fun t56 w =>
  o1 Tryd.prog (Instr.sliceAt 22 t50 none (some t53) (some t56)) w fun t57 w =>
  mv a2 fun t58 =>
  ob Tryd.prog (fun _ => Builtin.append_ #[22, 22] 22 #[t57, t58]) w fun t59 w =>
  o1 Tryd.prog (Instr.fieldAt 59 t8 0) w fun t60 w =>
  o0 Tryd.prog (Instr.storeAt 22 t60 t59) w fun _ w =>
  dr w.drew fun S1 =>
  mv a0 fun t61 =>
  nilOk t61 = true ∧ mv t61 fun t62 =>
  tk Tryd.prog S1 (Instr.fieldAt 54 t62 0) fun t63 =>
  tk Tryd.prog S1 (Instr.loadAt 52 t63) fun t64 =>
  mv a1 fun t65 =>
  tk Tryd.prog S1 (Instr.loadAt 59 t8) fun t66 =>
  o0 Tryd.prog (Instr.mapUpdate 52 t64 t65 t66) w.drew fun _ w =>
  mv a0 fun t67 =>
  C Tryd.prog N.files_FS_step #[t67] w fun t68 w =>
  mv t68 fun t6_4 =>
  k t6_4 w)))
theorem C.files_FS_Append {k : Value → World → Prop} {a0 a1 a2 : Value} {w : World} (h : F.files_FS_Append k a0 a1 a2 w) : C Tryd.prog N.files_FS_Append #[a0, a1, a2] w k :=
  den_calls (H := { moves := [(10, (.take 0 (.take 1 (.take 2 (.take 3 (.take 4 (.take 5 (.last 6))))))))], vars := [6, 7, 9, 26, 39] }) (args := [a0, a1, a2]) mixed Tryd.func9 (by kernel_rfl) (by kernel_rfl) (by kernel_rfl) h

-- (*isthmus/files.FS).Down
def F.files_FS_Down (k : Value → World → Prop) (a0 : Value) (w : World) : Prop :=
  mv (.bool false) fun t2 =>
  mv a0 fun t3 =>
  o1 Tryd.prog (bin .neq 23 (.tmp 3) (.const (.pointer none)) t3 (.pointer none)) w fun t4 w =>
  mv t4 fun t5 =>
  gd t5 true (fun k1 => mv a0 fun v => k1 v w) w fun t6 w =>
  gd t5 true (fun k2 => nilOk t6 = true ∧ mv t6 fun v => k2 v w) w fun t7 w =>
  gd t5 true (fun k3 => o1 Tryd.prog (Instr.fieldAt 54 t7 4) w k3) w fun t8 w =>
  gd t5 true (fun k4 => o1 Tryd.prog (Instr.loadAt 4 t8) w k4) w fun t9 w =>
  pk t5 t9 (.bool false) fun t10 =>
  mv t10 fun t2_1 =>
  k t2_1 w
theorem C.files_FS_Down {k : Value → World → Prop} {a0 : Value} {w : World} (h : F.files_FS_Down k a0 w) : C Tryd.prog N.files_FS_Down #[a0] w k :=
  den_calls (H := { moves := [], vars := [2] }) (args := [a0]) mixed Tryd.func10 (by kernel_rfl) (by kernel_rfl) (by kernel_rfl) h

-- (*isthmus/files.FS).Steps
def F.files_FS_Steps (k : Value → World → Prop) (a0 : Value) (w : World) : Prop :=
  mv (.int .i64 0) fun t2 =>
  mv a0 fun t3 =>
  o1 Tryd.prog (bin .eql 23 (.tmp 3) (.const (.pointer none)) t3 (.pointer none)) w fun t4 w =>
  br t4 (fun _ =>
  mv (.int .i64 0) fun t2_1 =>
  k t2_1 w) (fun _ =>
  mv a0 fun t5 =>
  nilOk t5 = true ∧ mv t5 fun t6 =>
  o1 Tryd.prog (Instr.fieldAt 54 t6 1) w fun t7 w =>
  o1 Tryd.prog (Instr.loadAt 3 t7) w fun t8 w =>
  mv t8 fun t2_2 =>
  k t2_2 w)
theorem C.files_FS_Steps {k : Value → World → Prop} {a0 : Value} {w : World} (h : F.files_FS_Steps k a0 w) : C Tryd.prog N.files_FS_Steps #[a0] w k :=
  den_calls (H := { moves := [], vars := [2] }) (args := [a0]) mixed Tryd.func11 (by kernel_rfl) (by kernel_rfl) (by kernel_rfl) h

-- isthmus/isthmuslaw04.num
def F.isthmuslaw04_num (k : Value → World → Prop) (a0 : Value) (w : World) : Prop :=
  mv (.int .i64 0) fun t2 =>
  o1 Tryd.prog (Instr.alloc 56 true (.tuple #[])) w fun t3 w =>
  mv a0 fun t4 =>
  o1 Tryd.prog (bin .eql 27 (.tmp 4) (.const .nilIface) t4 .nilIface) w fun t5 w =>
  br t5 (fun _ =>
  mv (.int .i64 0) fun t2_1 =>
  k t2_1 w) (fun _ =>
  mv a0 fun t6 =>
  o1 Tryd.prog (Instr.makeInterface 63 t3) w fun t7 w =>
  C Tryd.prog N.errors_As #[t6, t7] w fun t8 w =>
  br t8 (fun _ =>
  o1 Tryd.prog (Instr.loadAt 56 t3) w fun t9 w =>
  mv t9 fun t2_2 =>
  k t2_2 w) (fun _ =>
  mv (.int .i64 (-1)) fun t2_3 =>
  k t2_3 w))
theorem C.isthmuslaw04_num {k : Value → World → Prop} {a0 : Value} {w : World} (h : F.isthmuslaw04_num k a0 w) : C Tryd.prog N.isthmuslaw04_num #[a0] w k :=
  den_calls (H := { moves := [], vars := [2] }) (args := [a0]) mixed Tryd.func12 (by kernel_rfl) (by kernel_rfl) (by kernel_rfl) h

-- (*isthmus/files.FS).Read
def F.files_FS_Read (k : Value → World → Prop) (a0 a1 : Value) (w : World) : Prop :=
  mv (.slice none 0 0) fun t4 =>
  mv .nilIface fun t5 =>
  mv a0 fun t9 =>
  mv a1 fun t10 =>
  C Tryd.prog N.files_FS_find #[t9, t10] w fun t11 w =>
  mv t11 fun t8 =>
  o1 Tryd.prog (Instr.extract t8 0) w fun t12 w =>
  o1 Tryd.prog (Instr.extract t8 1) w fun t13 w =>
  o1 Tryd.prog (Instr.alloc 59 true (.tuple #[])) w fun t6 w =>
  o0 Tryd.prog (Instr.storeAt 59 t6 t12) w fun _ w =>
  mv t13 fun t7 =>
  o1 Tryd.prog (Instr.fieldAt 59 t6 0) w fun t14 w =>
  o1 Tryd.prog (Instr.loadAt 22 t14) w fun t15 w =>
  C Tryd.prog N.slices_Clone_bytes #[t15] w fun t16 w =>
  mv t7 fun t17 =>
  mv t16 fun t4_1 =>
  mv t17 fun t5_1 =>
  k (.tuple #[t4_1, t5_1]) w
theorem C.files_FS_Read {k : Value → World → Prop} {a0 a1 : Value} {w : World} (h : F.files_FS_Read k a0 a1 w) : C Tryd.prog N.files_FS_Read #[a0, a1] w k :=
  den_calls (H := { moves := [], vars := [4, 5, 7] }) (args := [a0, a1]) mixed Tryd.func13 (by kernel_rfl) (by kernel_rfl) (by kernel_rfl) h

-- (*isthmus/files.FS).Sync
def F.files_FS_Sync (k : Value → World → Prop) (a0 a1 : Value) (w : World) : Prop :=
  o1 Tryd.prog (Instr.box 23 a0) w fun t2 w =>
  o1 Tryd.prog (Instr.box 9 a1) w fun t3 w =>
  mv .nilIface fun t4 =>
  o1 Tryd.prog (Instr.loadAt 23 t2) w fun t5 w =>
  o1 Tryd.prog (Instr.loadAt 9 t3) w fun t6 w =>
  o1 Tryd.prog (Instr.makeFunc (.func 27) #[] #[t2, t3]) w fun t7 w =>
  C Tryd.prog N.files_FS_change #[t5, t6, t7] w fun t8 w =>
  mv t8 fun t4_1 =>
  k t4_1 w
theorem C.files_FS_Sync {k : Value → World → Prop} {a0 a1 : Value} {w : World} (h : F.files_FS_Sync k a0 a1 w) : C Tryd.prog N.files_FS_Sync #[a0, a1] w k :=
  den_calls (H := { moves := [], vars := [4] }) (args := [a0, a1]) mixed Tryd.func14 (by kernel_rfl) (by kernel_rfl) (by kernel_rfl) h

-- (*isthmus/files.FS).Start
def F.files_FS_Start (k : Value → World → Prop) (a0 a1 : Value) (w : World) : Prop :=
  mv a0 fun t10 =>
  o1 Tryd.prog (bin .eql 23 (.tmp 10) (.const (.pointer none)) t10 (.pointer none)) w fun t11 w =>
  br t11 (fun _ =>
  k (.tuple #[]) w) (fun _ =>
  mv a0 fun t12 =>
  C Tryd.prog N.files_FS_List #[t12] w fun t13 w =>
  o1 Tryd.prog (Builtin.len_ #[48] 3 #[t13]) w fun t14 w =>
  mv (.int .i64 0) fun t15 =>
  lp [a1, undef, undef, undef, undef, t15] w fun I1 μ1 => ∀ (x1 : Env) (w1 : World), I1 [x1 1, x1 5, x1 7, x1 8, x1 9, x1 15] w1 →
  o1 Tryd.prog (bin .lss 3 (.tmp 15) (.tmp 14) (x1 15) t14) w1 fun t16 w =>
  br t16 (fun _ =>
  jn (fun x2 => [x2 1, x2 5, x2 7, x2 8, x2 9]) (fun k1 =>
  o1 Tryd.prog (Instr.indexAt 48 t13 (x1 15)) w fun t17 w =>
  o1 Tryd.prog (Instr.loadAt 9 t17) w fun t18 w =>
  mv t18 fun t5 =>
  mv a0 fun t19 =>
  nilOk t19 = true ∧ mv t19 fun t20 =>
  o1 Tryd.prog (Instr.fieldAt 54 t20 0) w fun t21 w =>
  o1 Tryd.prog (Instr.loadAt 52 t21) w fun t22 w =>
  mv t5 fun t23 =>
  o1 Tryd.prog (Instr.lookup 52 t22 t23 false) w fun t24 w =>
  o1 Tryd.prog (Instr.alloc 59 true (.tuple #[])) w fun t6 w =>
  o0 Tryd.prog (Instr.storeAt 59 t6 t24) w fun _ w =>
  o1 Tryd.prog (Instr.fieldAt 59 t6 0) w fun t25 w =>
  o1 Tryd.prog (Instr.loadAt 22 t25) w fun t26 w =>
  o1 Tryd.prog (Builtin.len_ #[22] 3 #[t26]) w fun t27 w =>
  o1 Tryd.prog (Instr.fieldAt 59 t6 1) w fun t28 w =>
  o1 Tryd.prog (Instr.loadAt 3 t28) w fun t29 w =>
  o1 Tryd.prog (bin .sub 3 (.tmp 27) (.tmp 29) t27 t29) w fun t30 w =>
  mv t30 fun t7 =>
  mv t7 fun t31 =>
  o1 Tryd.prog (bin .eql 3 (.tmp 31) (.const (.int .i64 0)) t31 (.int .i64 0)) w fun t32 w =>
  br t32 (fun _ =>
  k1 [(x1 1), t5, t7, (x1 8), (x1 9)] w) (fun _ =>
  mv (.int .i64 0) fun t8 =>
  mv (x1 1) fun t33 =>
  o1 Tryd.prog (Builtin.len_ #[37] 3 #[t33]) w fun t34 w =>
  o1 Tryd.prog (bin .gtr 3 (.tmp 34) (.const (.int .i64 0)) t34 (.int .i64 0)) w fun t35 w =>
  jn (fun x3 => [x3 1, x3 8]) (fun k2 =>
  br t35 (fun _ =>
  mv (x1 1) fun t36 =>
  tk Tryd.prog (fun w' => w' = w.drew) (Instr.indexAt 37 t36 (.int .i64 0)) fun t37 =>
  tk Tryd.prog (fun w' => w' = w.drew) (Instr.loadAt 3 t37) fun t38 =>
  mv t7 fun t39 =>
  tk Tryd.prog (fun w' => w' = w.drew) (Builtin.min_ #[3, 3] 3 #[t38, t39]) fun t40 =>
  tk Tryd.prog (fun w' => w' = w.drew) (Builtin.max_ #[3, 3] 3 #[t40, .int .i64 0]) fun t41 =>
  mv (x1 1) fun t42 =>
  tk Tryd.prog (fun w' => w' = w.drew) (Instr.sliceAt 37 t42 (some (.int .i64 1)) none none) fun t43 =>
  mv t41 fun t8_1 =>
  mv t43 fun t1 =>
  k2 [t1, t8_1] w.drew) (fun _ =>
  k2 [(x1 1), t8] w)) fun x3 w =>
  o1 Tryd.prog (Instr.fieldAt 59 t6 1) w fun t44 w =>
  o1 Tryd.prog (Instr.loadAt 3 t44) w fun t45 w =>
  mv (x3 8) fun t46 =>
  o1 Tryd.prog (bin .add 3 (.tmp 45) (.tmp 46) t45 t46) w fun t47 w =>
  mv t47 fun t9 =>
  dr w.drew fun S1 =>
  mv a0 fun t48 =>
  nilOk t48 = true ∧ mv t48 fun t49 =>
  tk Tryd.prog S1 (Instr.fieldAt 54 t49 0) fun t50 =>
  tk Tryd.prog S1 (Instr.loadAt 52 t50) fun t51 =>
  mv t5 fun t52 =>
  tk Tryd.prog S1 (Instr.fieldAt 59 t6 0) fun t53 =>
  tk Tryd.prog S1 (Instr.loadAt 22 t53) fun t54 =>
  mv t9 fun t55 =>
  mv t9 fun t56 =>
  tk Tryd.prog S1 (Instr.sliceAt 22 t54 none (some t55) (some t56)) fun t57 =>
  mv t9 fun t58 =>
  tk Tryd.prog S1 (Instr.build 59 #[(0, t57), (1, t58)]) fun t59 =>
  o0 Tryd.prog (Instr.mapUpdate 52 t51 t52 t59) w.drew fun _ w =>
  k1 [(x3 1), t5, t7, (x3 8), t9] w)) fun x2 w =>
  o1 Tryd.prog (bin .add 3 (.tmp 15) (.const (.int .i64 1)) (x1 15) (.int .i64 1)) w fun t60 w =>
  mv t60 fun t15_1 =>
  I1 [(x2 1), (x2 5), (x2 7), (x2 8), (x2 9), t15_1] w ∧ μ1 [(x2 1), (x2 5), (x2 7), (x2 8), (x2 9), t15_1] w < μ1 [x1 1, x1 5, x1 7, x1 8, x1 9, x1 15] w1) (fun _ =>
  mv a0 fun t61 =>
  mv a0 fun t62 =>
  nilOk t61 = true ∧ mv t61 fun t63 =>
  o1 Tryd.prog (Instr.fieldAt 54 t63 4) w fun t64 w =>
  o0 Tryd.prog (Instr.storeAt 4 t64 (.bool false)) w fun _ w =>
  nilOk t62 = true ∧ mv t62 fun t65 =>
  o1 Tryd.prog (Instr.fieldAt 54 t65 2) w fun t66 w =>
  o0 Tryd.prog (Instr.storeAt 4 t66 (.bool false)) w fun _ w =>
  k (.tuple #[]) w))
theorem C.files_FS_Start {k : Value → World → Prop} {a0 a1 : Value} {w : World} (h : F.files_FS_Start k a0 a1 w) : C Tryd.prog N.files_FS_Start #[a0, a1] w k :=
  den_calls (H := { moves := [(9, (.take 0 (.take 1 (.take 2 (.take 3 (.take 4 (.take 5 (.take 6 (.take 7 (.take 8 (.take 9 .fin))))))))))), (11, (.take 0 (.take 1 (.take 2 (.take 3 (.take 4 (.take 5 (.take 6 (.take 7 (.take 8 (.take 9 (.take 10 (.take 11 (.last 12))))))))))))))], vars := [1, 5, 7, 8, 9, 15] }) (args := [a0, a1]) mixed Tryd.func15 (by kernel_rfl) (by kernel_rfl) (by kernel_rfl) h

-- isthmus/isthmuslaw04.step
end Go.Proofs.YtiaiglgfangedaaDoor
