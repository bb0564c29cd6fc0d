/- What each function asks: printed by hoas.py off the loaded program; each is held against the program by the kernel. -/
import Derived.Test.YtiaiglgfangedaaDoorN
set_option linter.unusedVariables false
set_option linter.unusedSimpArgs false
set_option linter.unusedSectionVars false
namespace Go.Proofs.YtiaiglgfangedaaDoor
open Go Go.Isk
set_option maxRecDepth 100000
-- gosem.cut.init
-- isthmus/isthmuslaw04.FilesSteps
-- isthmus/isthmuslaw04.FilesRuns
-- isthmus/isthmuslaw04.FilesClone
def F.isthmuslaw04_FilesClone (k : Value → World → Prop) (a0 a1 : Value) (w : World) : Prop :=
  mv (.bool false) fun t4 =>
  C Tryd.prog N.files_New #[] w fun t13 w =>
  mv t13 fun t5 =>
  mv t5 fun t14 =>
  o1 Tryd.prog (bin .eql 23 (.tmp 14) (.const (.pointer none)) t14 (.pointer none)) w fun t15 w =>
  br t15 (fun _ =>
  mv (.bool false) fun t4_1 =>
  k t4_1 w) (fun _ =>
  o1 Tryd.prog (Instr.build 42 #[]) w fun t16 w =>
  o1 Tryd.prog (Instr.alloc 42 true (.tuple #[])) w fun t6 w =>
  o0 Tryd.prog (Instr.storeAt 42 t6 t16) w fun _ w =>
  mv (.int .i64 0) fun t7 =>
  lp [t7] w fun I1 μ1 => ∀ (x1 : Env) (w1 : World), I1 [x1 7] w1 →
  mv (x1 7) fun t17 =>
  mv a0 fun t18 =>
  o1 Tryd.prog (Builtin.len_ #[39] 3 #[t18]) w1 fun t19 w =>
  o1 Tryd.prog (bin .lss 3 (.tmp 17) (.tmp 19) t17 t19) w fun t20 w =>
  mv t20 fun t21 =>
  gd t21 true (fun k1 => mv (x1 7) fun v => k1 v w) w fun t22 w =>
  gd t21 true (fun k2 => o1 Tryd.prog (bin .lss 3 (.tmp 22) (.const (.int .i64 40)) t22 (.int .i64 40)) w k2) w fun t23 w =>
  pk t21 t23 (.bool false) fun t24 =>
  br t24 (fun _ =>
  dr w.drew fun S1 =>
  mv t5 fun t28 =>
  tk Tryd.prog S1 (Instr.loadAt 42 t6) fun t29 =>
  mv a0 fun t30 =>
  mv (x1 7) fun t31 =>
  tk Tryd.prog S1 (Instr.indexAt 39 t30 t31) fun t32 =>
  tk Tryd.prog S1 (Instr.loadAt 46 t32) fun t33 =>
  C Tryd.prog N.isthmuslaw04_step #[t28, t29, t33] w.drew fun t34 w =>
  S1 w ∧
  mv t34 fun t27 =>
  tk Tryd.prog S1 (Instr.extract t27 0) fun t35 =>
  tk Tryd.prog (fun _ => True) (Instr.extract t27 1) fun t36 =>
  o0 Tryd.prog (Instr.storeAt 42 t6 t35) w fun _ w =>
  mv (x1 7) fun t25 =>
  o1 Tryd.prog (bin .add 3 (.tmp 25) (.const (.int .i64 1)) t25 (.int .i64 1)) w fun t26 w =>
  mv t26 fun t7_1 =>
  I1 [t7_1] w ∧ μ1 [t7_1] w < μ1 [x1 7] w1) (fun _ =>
  dr w.drew fun S2 =>
  mv t5 fun t37 =>
  tk Tryd.prog S2 (Instr.loadAt 42 t6) fun t39 =>
  (C Tryd.prog N.files_FS_Clone #[t37] w.drew fun t38 w =>
  S2 w ∧
  o1 Tryd.prog (Instr.alloc 42 true (.tuple #[])) w fun t9 w =>
  S2 w ∧
  mv t38 fun t8 =>
  o0 Tryd.prog (Instr.storeAt 42 t9 t39) w fun _ w =>
  mv t8 fun t40 =>
  o1 Tryd.prog (bin .eql 23 (.tmp 40) (.const (.pointer none)) t40 (.pointer none)) w fun t41 w =>
  br t41 (fun _ =>
  mv (.bool false) fun t4_2 =>
  k t4_2 w) (fun _ =>
  mv (.int .i64 0) fun t10 =>
  lp [t4, t10, undef] w fun I2 μ2 => ∀ (x2 : Env) (w2 : World), I2 [x2 4, x2 10, x2 12] w2 →
  mv (x2 10) fun t42 =>
  mv a1 fun t43 =>
  o1 Tryd.prog (Builtin.len_ #[39] 3 #[t43]) w2 fun t44 w =>
  o1 Tryd.prog (bin .lss 3 (.tmp 42) (.tmp 44) t42 t44) w fun t45 w =>
  mv t45 fun t46 =>
  gd t46 true (fun k3 => mv (x2 10) fun v => k3 v w) w fun t47 w =>
  gd t46 true (fun k4 => o1 Tryd.prog (bin .lss 3 (.tmp 47) (.const (.int .i64 40)) t47 (.int .i64 40)) w k4) w fun t48 w =>
  pk t46 t48 (.bool false) fun t49 =>
  br t49 (fun _ =>
  dr w.drew fun S3 =>
  mv t8 fun t53 =>
  tk Tryd.prog S3 (Instr.loadAt 42 t9) fun t54 =>
  mv a1 fun t55 =>
  mv (x2 10) fun t56 =>
  tk Tryd.prog S3 (Instr.indexAt 39 t55 t56) fun t57 =>
  tk Tryd.prog S3 (Instr.loadAt 46 t57) fun t58 =>
  (C Tryd.prog N.isthmuslaw04_step #[t53, t54, t58] w.drew fun t59 w =>
  S3 w ∧
  mv t59 fun t52 =>
  tk Tryd.prog S3 (Instr.extract t52 0) fun t60 =>
  tk Tryd.prog S3 (Instr.extract t52 1) fun t61 =>
  o1 Tryd.prog (Instr.alloc 42 true (.tuple #[])) w fun t11 w =>
  S3 w ∧
  o0 Tryd.prog (Instr.storeAt 42 t11 t60) w fun _ w =>
  S3 w ∧
  mv t61 fun t12 =>
  o1 Tryd.prog (Instr.loadAt 42 t11) w fun t62 w =>
  o0 Tryd.prog (Instr.storeAt 42 t9 t62) w fun _ w =>
  mv t12 fun t63 =>
  o1 Tryd.prog (Op.unary .not t63) w fun t64 w =>
  br t64 (fun _ =>
  mv (.bool false) fun t4_3 =>
  k t4_3 w) (fun _ =>
  mv (x2 10) fun t50 =>
  o1 Tryd.prog (bin .add 3 (.tmp 50) (.const (.int .i64 1)) t50 (.int .i64 1)) w fun t51 w =>
  mv t51 fun t10_1 =>
  I2 [(x2 4), t10_1, t12] w ∧ μ2 [(x2 4), t10_1, t12] w < μ2 [x2 4, x2 10, x2 12] w2)) ∧ (
  o1 Tryd.prog (Instr.alloc 42 true (.tuple #[])) w.drew fun t11_1 w =>
  S3 w ∧
  C Tryd.prog N.isthmuslaw04_step #[t53, t54, t58] w fun t59_1 w =>
  S3 w ∧
  mv t59_1 fun t52_1 =>
  tk Tryd.prog S3 (Instr.extract t52_1 0) fun t60_1 =>
  tk Tryd.prog S3 (Instr.extract t52_1 1) fun t61_1 =>
  o0 Tryd.prog (Instr.storeAt 42 t11_1 t60_1) w fun _ w =>
  S3 w ∧
  mv t61_1 fun t12_1 =>
  o1 Tryd.prog (Instr.loadAt 42 t11_1) w fun t62_1 w =>
  o0 Tryd.prog (Instr.storeAt 42 t9 t62_1) w fun _ w =>
  mv t12_1 fun t63_1 =>
  o1 Tryd.prog (Op.unary .not t63_1) w fun t64_1 w =>
  br t64_1 (fun _ =>
  mv (.bool false) fun t4_4 =>
  k t4_4 w) (fun _ =>
  mv (x2 10) fun t50_1 =>
  o1 Tryd.prog (bin .add 3 (.tmp 50) (.const (.int .i64 1)) t50_1 (.int .i64 1)) w fun t51_1 w =>
  mv t51_1 fun t10_2 =>
  I2 [(x2 4), t10_2, t12_1] w ∧ μ2 [(x2 4), t10_2, t12_1] w < μ2 [x2 4, x2 10, x2 12] w2))) (fun _ =>
  mv t5 fun t65 =>
  o1 Tryd.prog (Instr.loadAt 42 t6) w fun t66 w =>
  C Tryd.prog N.isthmuslaw04_same #[t65, t66] w fun t67 w =>
  mv t67 fun t68 =>
  gd t68 true (fun k5 => mv t8 fun v => k5 v w) w fun t69 w =>
  gd t68 true (fun k6 => o1 Tryd.prog (Instr.loadAt 42 t9) w k6) w fun t70 w =>
  gd t68 true (fun k7 => C Tryd.prog N.isthmuslaw04_same #[t69, t70] w k7) w fun t71 w =>
  pk t68 t71 (.bool false) fun t72 =>
  mv t72 fun t73 =>
  gd t73 true (fun k8 => C Tryd.prog N.isthmuslaw04_sure #[] w k8) w fun t74 w =>
  pk t73 t74 (.bool false) fun t75 =>
  mv t75 fun t4_5 =>
  k t4_5 w))) ∧ (
  o1 Tryd.prog (Instr.alloc 42 true (.tuple #[])) w.drew fun t9_1 w =>
  S2 w ∧
  C Tryd.prog N.files_FS_Clone #[t37] w fun t38_1 w =>
  S2 w ∧
  mv t38_1 fun t8_1 =>
  o0 Tryd.prog (Instr.storeAt 42 t9_1 t39) w fun _ w =>
  mv t8_1 fun t40_1 =>
  o1 Tryd.prog (bin .eql 23 (.tmp 40) (.const (.pointer none)) t40_1 (.pointer none)) w fun t41_1 w =>
  br t41_1 (fun _ =>
  mv (.bool false) fun t4_6 =>
  k t4_6 w) (fun _ =>
  mv (.int .i64 0) fun t10_3 =>
  lp [t4, t10_3, undef] w fun I3 μ3 => ∀ (x3 : Env) (w3 : World), I3 [x3 4, x3 10, x3 12] w3 →
  mv (x3 10) fun t42_1 =>
  mv a1 fun t43_1 =>
  o1 Tryd.prog (Builtin.len_ #[39] 3 #[t43_1]) w3 fun t44_1 w =>
  o1 Tryd.prog (bin .lss 3 (.tmp 42) (.tmp 44) t42_1 t44_1) w fun t45_1 w =>
  mv t45_1 fun t46_1 =>
  gd t46_1 true (fun k9 => mv (x3 10) fun v => k9 v w) w fun t47_1 w =>
  gd t46_1 true (fun k10 => o1 Tryd.prog (bin .lss 3 (.tmp 47) (.const (.int .i64 40)) t47_1 (.int .i64 40)) w k10) w fun t48_1 w =>
  pk t46_1 t48_1 (.bool false) fun t49_1 =>
  br t49_1 (fun _ =>
  dr w.drew fun S4 =>
  mv t8_1 fun t53_1 =>
  tk Tryd.prog S4 (Instr.loadAt 42 t9_1) fun t54_1 =>
  mv a1 fun t55_1 =>
  mv (x3 10) fun t56_1 =>
  tk Tryd.prog S4 (Instr.indexAt 39 t55_1 t56_1) fun t57_1 =>
  tk Tryd.prog S4 (Instr.loadAt 46 t57_1) fun t58_1 =>
  (C Tryd.prog N.isthmuslaw04_step #[t53_1, t54_1, t58_1] w.drew fun t59_2 w =>
  S4 w ∧
  mv t59_2 fun t52_2 =>
  tk Tryd.prog S4 (Instr.extract t52_2 0) fun t60_2 =>
  tk Tryd.prog S4 (Instr.extract t52_2 1) fun t61_2 =>
  o1 Tryd.prog (Instr.alloc 42 true (.tuple #[])) w fun t11_2 w =>
  S4 w ∧
  o0 Tryd.prog (Instr.storeAt 42 t11_2 t60_2) w fun _ w =>
  S4 w ∧
  mv t61_2 fun t12_2 =>
  o1 Tryd.prog (Instr.loadAt 42 t11_2) w fun t62_2 w =>
  o0 Tryd.prog (Instr.storeAt 42 t9_1 t62_2) w fun _ w =>
  mv t12_2 fun t63_2 =>
  o1 Tryd.prog (Op.unary .not t63_2) w fun t64_2 w =>
  br t64_2 (fun _ =>
  mv (.bool false) fun t4_7 =>
  k t4_7 w) (fun _ =>
  mv (x3 10) fun t50_2 =>
  o1 Tryd.prog (bin .add 3 (.tmp 50) (.const (.int .i64 1)) t50_2 (.int .i64 1)) w fun t51_2 w =>
  mv t51_2 fun t10_4 =>
  I3 [(x3 4), t10_4, t12_2] w ∧ μ3 [(x3 4), t10_4, t12_2] w < μ3 [x3 4, x3 10, x3 12] w3)) ∧ (
  o1 Tryd.prog (Instr.alloc 42 true (.tuple #[])) w.drew fun t11_3 w =>
  S4 w ∧
  C Tryd.prog N.isthmuslaw04_step #[t53_1, t54_1, t58_1] w fun t59_3 w =>
  S4 w ∧
  mv t59_3 fun t52_3 =>
  tk Tryd.prog S4 (Instr.extract t52_3 0) fun t60_3 =>
  tk Tryd.prog S4 (Instr.extract t52_3 1) fun t61_3 =>
  o0 Tryd.prog (Instr.storeAt 42 t11_3 t60_3) w fun _ w =>
  S4 w ∧
  mv t61_3 fun t12_3 =>
  o1 Tryd.prog (Instr.loadAt 42 t11_3) w fun t62_3 w =>
  o0 Tryd.prog (Instr.storeAt 42 t9_1 t62_3) w fun _ w =>
  mv t12_3 fun t63_3 =>
  o1 Tryd.prog (Op.unary .not t63_3) w fun t64_3 w =>
  br t64_3 (fun _ =>
  mv (.bool false) fun t4_8 =>
  k t4_8 w) (fun _ =>
  mv (x3 10) fun t50_3 =>
  o1 Tryd.prog (bin .add 3 (.tmp 50) (.const (.int .i64 1)) t50_3 (.int .i64 1)) w fun t51_3 w =>
  mv t51_3 fun t10_5 =>
  I3 [(x3 4), t10_5, t12_3] w ∧ μ3 [(x3 4), t10_5, t12_3] w < μ3 [x3 4, x3 10, x3 12] w3))) (fun _ =>
  mv t5 fun t65_1 =>
  o1 Tryd.prog (Instr.loadAt 42 t6) w fun t66_1 w =>
  C Tryd.prog N.isthmuslaw04_same #[t65_1, t66_1] w fun t67_1 w =>
  mv t67_1 fun t68_1 =>
  gd t68_1 true (fun k11 => mv t8_1 fun v => k11 v w) w fun t69_1 w =>
  gd t68_1 true (fun k12 => o1 Tryd.prog (Instr.loadAt 42 t9_1) w k12) w fun t70_1 w =>
  gd t68_1 true (fun k13 => C Tryd.prog N.isthmuslaw04_same #[t69_1, t70_1] w k13) w fun t71_1 w =>
  pk t68_1 t71_1 (.bool false) fun t72_1 =>
  mv t72_1 fun t73_1 =>
  gd t73_1 true (fun k14 => C Tryd.prog N.isthmuslaw04_sure #[] w k14) w fun t74_1 w =>
  pk t73_1 t74_1 (.bool false) fun t75_1 =>
  mv t75_1 fun t4_9 =>
  k t4_9 w)))))
theorem C.isthmuslaw04_FilesClone {k : Value → World → Prop} {a0 a1 : Value} {w : World} (h : F.isthmuslaw04_FilesClone k a0 a1 w) : C Tryd.prog N.isthmuslaw04_FilesClone #[a0, a1] w k :=
  den_calls (H := { moves := [(8, (.take 0 (.take 1 (.take 2 (.take 3 (.take 4 (.take 5 (.force 6 (.take 7 (.take 8 (.pure 9 (.late 10 .fin)))))))))))), (9, (.take 0 (.take 2 (.two 1 3 (.force 3 (.take 4 (.last 5))) (.force 1 (.take 4 (.last 5))))))), (15, (.take 0 (.take 1 (.take 2 (.take 3 (.take 4 (.take 5 (.two 6 10 (.take 7 (.take 8 (.take 9 (.force 10 (.force 11 (.take 12 .fin)))))) (.force 6 (.take 7 (.take 8 (.take 9 (.force 11 (.take 12 .fin))))))))))))))], vars := [4, 5, 7, 8, 10, 12] }) (args := [a0, a1]) mixed Tryd.func5 (by kernel_rfl) (by kernel_rfl) (by kernel_rfl) h

-- isthmus/files.New
def F.files_New (k : Value → World → Prop) (w : World) : Prop :=
  mv (.pointer none) fun t0 =>
  o1 Tryd.prog (Instr.makeMap 52 none) w fun t1 w =>
  o1 Tryd.prog (Instr.build 54 #[(0, t1)]) w fun t2 w =>
  o1 Tryd.prog (Instr.box 54 t2) w fun t3 w =>
  mv t3 fun t0_1 =>
  k t0_1 w
theorem C.files_New {k : Value → World → Prop} {w : World} (h : F.files_New k  w) : C Tryd.prog N.files_New #[] w k :=
  den_calls (H := { moves := [], vars := [0] }) (args := []) mixed Tryd.func6 (by kernel_rfl) (by kernel_rfl) (by kernel_rfl) h

-- (*isthmus/files.FS).Arm
def F.files_FS_Arm (k : Value → World → Prop) (a0 a1 : Value) (w : World) : Prop :=
  mv .nilIface fun t4 =>
  mv a0 fun t6 =>
  o1 Tryd.prog (bin .eql 23 (.tmp 6) (.const (.pointer none)) t6 (.pointer none)) w fun t7 w =>
  mv t7 fun t8 =>
  gd t8 false (fun k1 => mv a1 fun v => k1 v w) w fun t9 w =>
  gd t8 false (fun k2 => o1 Tryd.prog (bin .lss 3 (.tmp 9) (.const (.int .i64 0)) t9 (.int .i64 0)) w k2) w fun t10 w =>
  pk t8 (.bool true) t10 fun t11 =>
  br t11 (fun _ =>
  C Tryd.prog N.files_fault #[.string ⟨#[]⟩, .int .i64 1] w fun t12 w =>
  mv t12 fun t4_1 =>
  k t4_1 w) (fun _ =>
  mv a0 fun t13 =>
  C Tryd.prog N.files_FS_ready #[t13, .slice none 0 0] w fun t14 w =>
  mv t14 fun t5 =>
  mv t5 fun t15 =>
  o1 Tryd.prog (bin .neq 27 (.tmp 15) (.const .nilIface) t15 .nilIface) w fun t16 w =>
  br t16 (fun _ =>
  mv t5 fun t17 =>
  mv t17 fun t4_2 =>
  k t4_2 w) (fun _ =>
  mv a0 fun t18 =>
  mv a0 fun t19 =>
  mv a1 fun t20 =>
  nilOk t18 = true ∧ mv t18 fun t21 =>
  o1 Tryd.prog (Instr.fieldAt 54 t21 2) w fun t22 w =>
  o0 Tryd.prog (Instr.storeAt 4 t22 (.bool true)) w fun _ w =>
  nilOk t19 = true ∧ mv t19 fun t23 =>
  o1 Tryd.prog (Instr.fieldAt 54 t23 3) w fun t24 w =>
  o0 Tryd.prog (Instr.storeAt 3 t24 t20) w fun _ w =>
  mv .nilIface fun t4_3 =>
  k t4_3 w))
theorem C.files_FS_Arm {k : Value → World → Prop} {a0 a1 : Value} {w : World} (h : F.files_FS_Arm k a0 a1 w) : C Tryd.prog N.files_FS_Arm #[a0, a1] w k :=
  den_calls (H := { moves := [], vars := [4, 5] }) (args := [a0, a1]) mixed Tryd.func7 (by kernel_rfl) (by kernel_rfl) (by kernel_rfl) h

-- isthmus/isthmuslaw04.sure
def F.isthmuslaw04_sure (k : Value → World → Prop) (w : World) : Prop :=
  mv (.bool false) fun t0 =>
  C Tryd.prog N.files_New #[] w fun t7 w =>
  mv t7 fun t1 =>
  mv t1 fun t8 =>
  o1 Tryd.prog (bin .eql 23 (.tmp 8) (.const (.pointer none)) t8 (.pointer none)) w fun t9 w =>
  br t9 (fun _ =>
  mv (.bool false) fun t0_1 =>
  k t0_1 w) (fun _ =>
  mv t1 fun t10 =>
  o1 Tryd.prog (Instr.buildSlice 22 3 #[(0, .int .u8 97), (1, .int .u8 98), (2, .int .u8 99)]) w fun t11 w =>
  o1 Tryd.prog (convert 22 22 t11) w fun t12 w =>
  C Tryd.prog N.files_FS_Append #[t10, .string ⟨#[102]⟩, t12] w fun t13 w =>
  mv t1 fun t14 =>
  C Tryd.prog N.files_FS_Sync #[t14, .string ⟨#[102]⟩] w fun t15 w =>
  mv t1 fun t16 =>
  o1 Tryd.prog (Instr.buildSlice 22 3 #[(0, .int .u8 100), (1, .int .u8 101), (2, .int .u8 102)]) w fun t17 w =>
  o1 Tryd.prog (convert 22 22 t17) w fun t18 w =>
  C Tryd.prog N.files_FS_Append #[t16, .string ⟨#[102]⟩, t18] w fun t19 w =>
  mv t13 fun t2 =>
  mv t15 fun t3 =>
  mv t19 fun t4 =>
  mv t1 fun t20 =>
  o1 Tryd.prog (Instr.buildSlice 37 1 #[(0, .int .i64 1)]) w fun t21 w =>
  C Tryd.prog N.files_FS_Start #[t20, t21] w fun t22 w =>
  mv t1 fun t24 =>
  C Tryd.prog N.files_FS_Read #[t24, .string ⟨#[102]⟩] w fun t25 w =>
  mv t25 fun t23 =>
  o1 Tryd.prog (Instr.extract t23 0) w fun t26 w =>
  o1 Tryd.prog (Instr.extract t23 1) w fun t27 w =>
  mv t26 fun t5 =>
  mv t27 fun t6 =>
  mv t2 fun t28 =>
  o1 Tryd.prog (bin .eql 27 (.tmp 28) (.const .nilIface) t28 .nilIface) w fun t29 w =>
  mv t29 fun t30 =>
  gd t30 true (fun k1 => mv t3 fun v => k1 v w) w fun t31 w =>
  gd t30 true (fun k2 => o1 Tryd.prog (bin .eql 27 (.tmp 31) (.const .nilIface) t31 .nilIface) w k2) w fun t32 w =>
  pk t30 t32 (.bool false) fun t33 =>
  mv t33 fun t34 =>
  gd t34 true (fun k3 => mv t4 fun v => k3 v w) w fun t35 w =>
  gd t34 true (fun k4 => o1 Tryd.prog (bin .eql 27 (.tmp 35) (.const .nilIface) t35 .nilIface) w k4) w fun t36 w =>
  pk t34 t36 (.bool false) fun t37 =>
  mv t37 fun t38 =>
  gd t38 true (fun k5 => mv t6 fun v => k5 v w) w fun t39 w =>
  gd t38 true (fun k6 => o1 Tryd.prog (bin .eql 27 (.tmp 39) (.const .nilIface) t39 .nilIface) w k6) w fun t40 w =>
  pk t38 t40 (.bool false) fun t41 =>
  mv t41 fun t42 =>
  gd t42 true (fun k7 => mv t5 fun v => k7 v w) w fun t43 w =>
  gd t42 true (fun k8 => o1 Tryd.prog (convert 22 9 t43) w k8) w fun t44 w =>
  gd t42 true (fun k9 => o1 Tryd.prog (bin .eql 9 (.tmp 44) (.const (.string ⟨#[97, 98, 99, 100]⟩)) t44 (.string ⟨#[97, 98, 99, 100]⟩)) w k9) w fun t45 w =>
  pk t42 t45 (.bool false) fun t46 =>
  mv t46 fun t0_2 =>
  k t0_2 w)
theorem C.isthmuslaw04_sure {k : Value → World → Prop} {w : World} (h : F.isthmuslaw04_sure k  w) : C Tryd.prog N.isthmuslaw04_sure #[] w k :=
  den_calls (H := { moves := [], vars := [0, 1, 2, 3, 4, 5, 6] }) (args := []) mixed Tryd.func8 (by kernel_rfl) (by kernel_rfl) (by kernel_rfl) h

-- (*isthmus/files.FS).Append
def F.files_FS_Append (k : Value → World → Prop) (a0 a1 a2 : Value) (w : World) : Prop :=
  mv .nilIface fun t6 =>
  mv a0 fun t10 =>
  mv a1 fun t11 =>
  o1 Tryd.prog (Instr.buildSlice 48 1 #[(0, t11)]) w fun t12 w =>
  C Tryd.prog N.files_FS_ready #[t10, t12] w fun t13 w =>
  mv t13 fun t7 =>
  mv t7 fun t14 =>
  o1 Tryd.prog (bin .neq 27 (.tmp 14) (.const .nilIface) t14 .nilIface) w fun t15 w =>
  br t15 (fun _ =>
  mv t7 fun t16 =>
  mv t16 fun t6_1 =>
  k t6_1 w) (fun _ =>
  mv a0 fun t18 =>
  nilOk t18 = true ∧ mv t18 fun t19 =>
  o1 Tryd.prog (Instr.fieldAt 54 t19 0) w fun t20 w =>
  o1 Tryd.prog (Instr.loadAt 52 t20) w fun t21 w =>
  mv a1 fun t22 =>
  o1 Tryd.prog (Instr.lookup 52 t21 t22 true) w fun t23 w =>
  mv t23 fun t17 =>
  o1 Tryd.prog (Instr.extract t17 0) w fun t24 w =>
  o1 Tryd.prog (Instr.extract t17 1) w fun t25 w =>
  o1 Tryd.prog (Instr.alloc 59 true (.tuple #[])) w fun t8 w =>
  o0 Tryd.prog (Instr.storeAt 59 t8 t24) w fun _ w =>
  mv t25 fun t9 =>
  mv t9 fun t27 =>
  o1 Tryd.prog (Op.unary .not t27) w fun t28 w =>
  mv t28 fun t29 =>
  gd t29 true (fun k1 => mv a0 fun v => k1 v w) w fun t30 w =>
  gd t29 true (fun k2 => nilOk t30 = true ∧ mv t30 fun v => k2 v w) w fun t31 w =>
  gd t29 true (fun k3 => o1 Tryd.prog (Instr.fieldAt 54 t31 0) w k3) w fun t32 w =>
  gd t29 true (fun k4 => o1 Tryd.prog (Instr.loadAt 52 t32) w k4) w fun t33 w =>
  gd t29 true (fun k5 => o1 Tryd.prog (Builtin.len_ #[52] 3 #[t33]) w k5) w fun t34 w =>
  gd t29 true (fun k6 => o1 Tryd.prog (bin .geq 3 (.tmp 34) (.const (.int .i64 64)) t34 (.int .i64 64)) w k6) w fun t35 w =>
  pk t29 t35 (.bool false) fun t36 =>
  mv t36 fun t26 =>
  br t26 (fun _ =>
  mv a1 fun t37 =>
  C Tryd.prog N.files_fault #[t37, .int .i64 10] w fun t38 w =>
  mv t38 fun t6_2 =>
  k t6_2 w) (fun _ =>
  mv a2 fun t40 =>
  o1 Tryd.prog (Builtin.len_ #[22] 3 #[t40]) w fun t41 w =>
  o1 Tryd.prog (Instr.fieldAt 59 t8 0) w fun t42 w =>
  o1 Tryd.prog (Instr.loadAt 22 t42) w fun t43 w =>
  o1 Tryd.prog (Builtin.len_ #[22] 3 #[t43]) w fun t44 w =>
  o1 Tryd.prog (bin .sub 3 (.const (.int .i64 16777216)) (.tmp 44) (.int .i64 16777216) t44) w fun t45 w =>
  o1 Tryd.prog (bin .gtr 3 (.tmp 41) (.tmp 45) t41 t45) w fun t46 w =>
  mv t46 fun t39 =>
  br t39 (fun _ =>
  mv a1 fun t47 =>
  C Tryd.prog N.files_fault #[t47, .int .i64 2] w fun t48 w =>
  mv t48 fun t6_3 =>
  k t6_3 w) (fun _ =>
  o1 Tryd.prog (Instr.fieldAt 59 t8 0) w fun t49 w =>
  o1 Tryd.prog (Instr.loadAt 22 t49) w fun t50 w =>
  o1 Tryd.prog (Instr.fieldAt 59 t8 0) w fun t51 w =>
  o1 Tryd.prog (Instr.loadAt 22 t51) w fun t52 w =>
  o1 Tryd.prog (Builtin.len_ #[22] 3 #[t52]) w fun t53 w =>
  o1 Tryd.prog (Instr.fieldAt 59 t8 0) w fun t54 w =>
  o1 Tryd.prog (Instr.loadAt 22 t54) w fun t55 w =>
  o1 Tryd.prog (Builtin.len_ #[22] 3 #[t55]) w fun t56 w =>
  o1 Tryd.prog (Instr.sliceAt 22 t50 none (some t53) (some t56)) w fun t57 w =>
  mv a2 fun t58 =>
  ob Tryd.prog (fun _ => Builtin.append_ #[22, 22] 22 #[t57, t58]) w fun t59 w =>
  o1 Tryd.prog (Instr.fieldAt 59 t8 0) w fun t60 w =>
  o0 Tryd.prog (Instr.storeAt 22 t60 t59) w fun _ w =>
  dr w.drew fun S1 =>
  mv a0 fun t61 =>
  nilOk t61 = true ∧ mv t61 fun t62 =>
  tk Tryd.prog S1 (Instr.fieldAt 54 t62 0) fun t63 =>
  tk Tryd.prog S1 (Instr.loadAt 52 t63) fun t64 =>
  mv a1 fun t65 =>
  tk Tryd.prog S1 (Instr.loadAt 59 t8) fun t66 =>
  o0 Tryd.prog (Instr.mapUpdate 52 t64 t65 t66) w.drew fun _ w =>
  mv a0 fun t67 =>
  C Tryd.prog N.files_FS_step #[t67] w fun t68 w =>
  mv t68 fun t6_4 =>
  k t6_4 w)))
theorem C.files_FS_Append {k : Value → World → Prop} {a0 a1 a2 : Value} {w : World} (h : F.files_FS_Append k a0 a1 a2 w) : C Tryd.prog N.files_FS_Append #[a0, a1, a2] w k :=
  den_calls (H := { moves := [(10, (.take 0 (.take 1 (.take 2 (.take 3 (.take 4 (.take 5 (.last 6))))))))], vars := [6, 7, 9, 26, 39] }) (args := [a0, a1, a2]) mixed Tryd.func9 (by kernel_rfl) (by kernel_rfl) (by kernel_rfl) h

-- (*isthmus/files.FS).Down
def F.files_FS_Down (k : Value → World → Prop) (a0 : Value) (w : World) : Prop :=
  mv (.bool false) fun t2 =>
  mv a0 fun t3 =>
  o1 Tryd.prog (bin .neq 23 (.tmp 3) (.const (.pointer none)) t3 (.pointer none)) w fun t4 w =>
  mv t4 fun t5 =>
  gd t5 true (fun k1 => mv a0 fun v => k1 v w) w fun t6 w =>
  gd t5 true (fun k2 => nilOk t6 = true ∧ mv t6 fun v => k2 v w) w fun t7 w =>
  gd t5 true (fun k3 => o1 Tryd.prog (Instr.fieldAt 54 t7 4) w k3) w fun t8 w =>
  gd t5 true (fun k4 => o1 Tryd.prog (Instr.loadAt 4 t8) w k4) w fun t9 w =>
  pk t5 t9 (.bool false) fun t10 =>
  mv t10 fun t2_1 =>
  k t2_1 w
theorem C.files_FS_Down {k : Value → World → Prop} {a0 : Value} {w : World} (h : F.files_FS_Down k a0 w) : C Tryd.prog N.files_FS_Down #[a0] w k :=
  den_calls (H := { moves := [], vars := [2] }) (args := [a0]) mixed Tryd.func10 (by kernel_rfl) (by kernel_rfl) (by kernel_rfl) h

-- (*isthmus/files.FS).Steps
def F.files_FS_Steps (k : Value → World → Prop) (a0 : Value) (w : World) : Prop :=
  mv (.int .i64 0) fun t2 =>
  mv a0 fun t3 =>
  o1 Tryd.prog (bin .eql 23 (.tmp 3) (.const (.pointer none)) t3 (.pointer none)) w fun t4 w =>
  br t4 (fun _ =>
  mv (.int .i64 0) fun t2_1 =>
  k t2_1 w) (fun _ =>
  mv a0 fun t5 =>
  nilOk t5 = true ∧ mv t5 fun t6 =>
  o1 Tryd.prog (Instr.fieldAt 54 t6 1) w fun t7 w =>
  o1 Tryd.prog (Instr.loadAt 3 t7) w fun t8 w =>
  mv t8 fun t2_2 =>
  k t2_2 w)
theorem C.files_FS_Steps {k : Value → World → Prop} {a0 : Value} {w : World} (h : F.files_FS_Steps k a0 w) : C Tryd.prog N.files_FS_Steps #[a0] w k :=
  den_calls (H := { moves := [], vars := [2] }) (args := [a0]) mixed Tryd.func11 (by kernel_rfl) (by kernel_rfl) (by kernel_rfl) h

-- isthmus/isthmuslaw04.num
def F.isthmuslaw04_num (k : Value → World → Prop) (a0 : Value) (w : World) : Prop :=
  mv (.int .i64 0) fun t2 =>
  o1 Tryd.prog (Instr.alloc 56 true (.tuple #[])) w fun t3 w =>
  mv a0 fun t4 =>
  o1 Tryd.prog (bin .eql 27 (.tmp 4) (.const .nilIface) t4 .nilIface) w fun t5 w =>
  br t5 (fun _ =>
  mv (.int .i64 0) fun t2_1 =>
  k t2_1 w) (fun _ =>
  mv a0 fun t6 =>
  o1 Tryd.prog (Instr.makeInterface 63 t3) w fun t7 w =>
  C Tryd.prog N.errors_As #[t6, t7] w fun t8 w =>
  br t8 (fun _ =>
  o1 Tryd.prog (Instr.loadAt 56 t3) w fun t9 w =>
  mv t9 fun t2_2 =>
  k t2_2 w) (fun _ =>
  mv (.int .i64 (-1)) fun t2_3 =>
  k t2_3 w))
theorem C.isthmuslaw04_num {k : Value → World → Prop} {a0 : Value} {w : World} (h : F.isthmuslaw04_num k a0 w) : C Tryd.prog N.isthmuslaw04_num #[a0] w k :=
  den_calls (H := { moves := [], vars := [2] }) (args := [a0]) mixed Tryd.func12 (by kernel_rfl) (by kernel_rfl) (by kernel_rfl) h

-- (*isthmus/files.FS).Read
def F.files_FS_Read (k : Value → World → Prop) (a0 a1 : Value) (w : World) : Prop :=
  mv (.slice none 0 0) fun t4 =>
  mv .nilIface fun t5 =>
  mv a0 fun t9 =>
  mv a1 fun t10 =>
  C Tryd.prog N.files_FS_find #[t9, t10] w fun t11 w =>
  mv t11 fun t8 =>
  o1 Tryd.prog (Instr.extract t8 0) w fun t12 w =>
  o1 Tryd.prog (Instr.extract t8 1) w fun t13 w =>
  o1 Tryd.prog (Instr.alloc 59 true (.tuple #[])) w fun t6 w =>
  o0 Tryd.prog (Instr.storeAt 59 t6 t12) w fun _ w =>
  mv t13 fun t7 =>
  o1 Tryd.prog (Instr.fieldAt 59 t6 0) w fun t14 w =>
  o1 Tryd.prog (Instr.loadAt 22 t14) w fun t15 w =>
  C Tryd.prog N.slices_Clone_bytes #[t15] w fun t16 w =>
  mv t7 fun t17 =>
  mv t16 fun t4_1 =>
  mv t17 fun t5_1 =>
  k (.tuple #[t4_1, t5_1]) w
theorem C.files_FS_Read {k : Value → World → Prop} {a0 a1 : Value} {w : World} (h : F.files_FS_Read k a0 a1 w) : C Tryd.prog N.files_FS_Read #[a0, a1] w k :=
  den_calls (H := { moves := [], vars := [4, 5, 7] }) (args := [a0, a1]) mixed Tryd.func13 (by kernel_rfl) (by kernel_rfl) (by kernel_rfl) h

-- (*isthmus/files.FS).Sync
def F.files_FS_Sync (k : Value → World → Prop) (a0 a1 : Value) (w : World) : Prop :=
  o1 Tryd.prog (Instr.box 23 a0) w fun t2 w =>
  o1 Tryd.prog (Instr.box 9 a1) w fun t3 w =>
  mv .nilIface fun t4 =>
  o1 Tryd.prog (Instr.loadAt 23 t2) w fun t5 w =>
  o1 Tryd.prog (Instr.loadAt 9 t3) w fun t6 w =>
  o1 Tryd.prog (Instr.makeFunc (.func 27) #[] #[t2, t3]) w fun t7 w =>
  C Tryd.prog N.files_FS_change #[t5, t6, t7] w fun t8 w =>
  mv t8 fun t4_1 =>
  k t4_1 w
theorem C.files_FS_Sync {k : Value → World → Prop} {a0 a1 : Value} {w : World} (h : F.files_FS_Sync k a0 a1 w) : C Tryd.prog N.files_FS_Sync #[a0, a1] w k :=
  den_calls (H := { moves := [], vars := [4] }) (args := [a0, a1]) mixed Tryd.func14 (by kernel_rfl) (by kernel_rfl) (by kernel_rfl) h

-- (*isthmus/files.FS).Start
def F.files_FS_Start (k : Value → World → Prop) (a0 a1 : Value) (w : World) : Prop :=
  mv a0 fun t10 =>
  o1 Tryd.prog (bin .eql 23 (.tmp 10) (.const (.pointer none)) t10 (.pointer none)) w fun t11 w =>
  br t11 (fun _ =>
  k (.tuple #[]) w) (fun _ =>
  mv a0 fun t12 =>
  C Tryd.prog N.files_FS_List #[t12] w fun t13 w =>
  o1 Tryd.prog (Builtin.len_ #[48] 3 #[t13]) w fun t14 w =>
  mv (.int .i64 0) fun t15 =>
  lp [a1, undef, undef, undef, undef, t15] w fun I1 μ1 => ∀ (x1 : Env) (w1 : World), I1 [x1 1, x1 5, x1 7, x1 8, x1 9, x1 15] w1 →
  o1 Tryd.prog (bin .lss 3 (.tmp 15) (.tmp 14) (x1 15) t14) w1 fun t16 w =>
  br t16 (fun _ =>
  jn (fun x2 => [x2 1, x2 5, x2 7, x2 8, x2 9]) (fun k1 =>
  o1 Tryd.prog (Instr.indexAt 48 t13 (x1 15)) w fun t17 w =>
  o1 Tryd.prog (Instr.loadAt 9 t17) w fun t18 w =>
  mv t18 fun t5 =>
  mv a0 fun t19 =>
  nilOk t19 = true ∧ mv t19 fun t20 =>
  o1 Tryd.prog (Instr.fieldAt 54 t20 0) w fun t21 w =>
  o1 Tryd.prog (Instr.loadAt 52 t21) w fun t22 w =>
  mv t5 fun t23 =>
  o1 Tryd.prog (Instr.lookup 52 t22 t23 false) w fun t24 w =>
  o1 Tryd.prog (Instr.alloc 59 true (.tuple #[])) w fun t6 w =>
  o0 Tryd.prog (Instr.storeAt 59 t6 t24) w fun _ w =>
  o1 Tryd.prog (Instr.fieldAt 59 t6 0) w fun t25 w =>
  o1 Tryd.prog (Instr.loadAt 22 t25) w fun t26 w =>
  o1 Tryd.prog (Builtin.len_ #[22] 3 #[t26]) w fun t27 w =>
  o1 Tryd.prog (Instr.fieldAt 59 t6 1) w fun t28 w =>
  o1 Tryd.prog (Instr.loadAt 3 t28) w fun t29 w =>
  o1 Tryd.prog (bin .sub 3 (.tmp 27) (.tmp 29) t27 t29) w fun t30 w =>
  mv t30 fun t7 =>
  mv t7 fun t31 =>
  o1 Tryd.prog (bin .eql 3 (.tmp 31) (.const (.int .i64 0)) t31 (.int .i64 0)) w fun t32 w =>
  br t32 (fun _ =>
  k1 [(x1 1), t5, t7, (x1 8), (x1 9)] w) (fun _ =>
  mv (.int .i64 0) fun t8 =>
  mv (x1 1) fun t33 =>
  o1 Tryd.prog (Builtin.len_ #[37] 3 #[t33]) w fun t34 w =>
  o1 Tryd.prog (bin .gtr 3 (.tmp 34) (.const (.int .i64 0)) t34 (.int .i64 0)) w fun t35 w =>
  jn (fun x3 => [x3 1, x3 8]) (fun k2 =>
  br t35 (fun _ =>
  mv (x1 1) fun t36 =>
  tk Tryd.prog (fun w' => w' = w.drew) (Instr.indexAt 37 t36 (.int .i64 0)) fun t37 =>
  tk Tryd.prog (fun w' => w' = w.drew) (Instr.loadAt 3 t37) fun t38 =>
  mv t7 fun t39 =>
  tk Tryd.prog (fun w' => w' = w.drew) (Builtin.min_ #[3, 3] 3 #[t38, t39]) fun t40 =>
  tk Tryd.prog (fun w' => w' = w.drew) (Builtin.max_ #[3, 3] 3 #[t40, .int .i64 0]) fun t41 =>
  mv (x1 1) fun t42 =>
  tk Tryd.prog (fun w' => w' = w.drew) (Instr.sliceAt 37 t42 (some (.int .i64 1)) none none) fun t43 =>
  mv t41 fun t8_1 =>
  mv t43 fun t1 =>
  k2 [t1, t8_1] w.drew) (fun _ =>
  k2 [(x1 1), t8] w)) fun x3 w =>
  o1 Tryd.prog (Instr.fieldAt 59 t6 1) w fun t44 w =>
  o1 Tryd.prog (Instr.loadAt 3 t44) w fun t45 w =>
  mv (x3 8) fun t46 =>
  o1 Tryd.prog (bin .add 3 (.tmp 45) (.tmp 46) t45 t46) w fun t47 w =>
  mv t47 fun t9 =>
  dr w.drew fun S1 =>
  mv a0 fun t48 =>
  nilOk t48 = true ∧ mv t48 fun t49 =>
  tk Tryd.prog S1 (Instr.fieldAt 54 t49 0) fun t50 =>
  tk Tryd.prog S1 (Instr.loadAt 52 t50) fun t51 =>
  mv t5 fun t52 =>
  tk Tryd.prog S1 (Instr.fieldAt 59 t6 0) fun t53 =>
  tk Tryd.prog S1 (Instr.loadAt 22 t53) fun t54 =>
  mv t9 fun t55 =>
  mv t9 fun t56 =>
  tk Tryd.prog S1 (Instr.sliceAt 22 t54 none (some t55) (some t56)) fun t57 =>
  mv t9 fun t58 =>
  tk Tryd.prog S1 (Instr.build 59 #[(0, t57), (1, t58)]) fun t59 =>
  o0 Tryd.prog (Instr.mapUpdate 52 t51 t52 t59) w.drew fun _ w =>
  k1 [(x3 1), t5, t7, (x3 8), t9] w)) fun x2 w =>
  o1 Tryd.prog (bin .add 3 (.tmp 15) (.const (.int .i64 1)) (x1 15) (.int .i64 1)) w fun t60 w =>
  mv t60 fun t15_1 =>
  I1 [(x2 1), (x2 5), (x2 7), (x2 8), (x2 9), t15_1] w ∧ μ1 [(x2 1), (x2 5), (x2 7), (x2 8), (x2 9), t15_1] w < μ1 [x1 1, x1 5, x1 7, x1 8, x1 9, x1 15] w1) (fun _ =>
  mv a0 fun t61 =>
  mv a0 fun t62 =>
  nilOk t61 = true ∧ mv t61 fun t63 =>
  o1 Tryd.prog (Instr.fieldAt 54 t63 4) w fun t64 w =>
  o0 Tryd.prog (Instr.storeAt 4 t64 (.bool false)) w fun _ w =>
  nilOk t62 = true ∧ mv t62 fun t65 =>
  o1 Tryd.prog (Instr.fieldAt 54 t65 2) w fun t66 w =>
  o0 Tryd.prog (Instr.storeAt 4 t66 (.bool false)) w fun _ w =>
  k (.tuple #[]) w))
theorem C.files_FS_Start {k : Value → World → Prop} {a0 a1 : Value} {w : World} (h : F.files_FS_Start k a0 a1 w) : C Tryd.prog N.files_FS_Start #[a0, a1] w k :=
  den_calls (H := { moves := [(9, (.take 0 (.take 1 (.take 2 (.take 3 (.take 4 (.take 5 (.take 6 (.take 7 (.take 8 (.take 9 .fin))))))))))), (11, (.take 0 (.take 1 (.take 2 (.take 3 (.take 4 (.take 5 (.take 6 (.take 7 (.take 8 (.take 9 (.take 10 (.take 11 (.last 12))))))))))))))], vars := [1, 5, 7, 8, 9, 15] }) (args := [a0, a1]) mixed Tryd.func15 (by kernel_rfl) (by kernel_rfl) (by kernel_rfl) h

-- isthmus/isthmuslaw04.step
def F.isthmuslaw04_step (k : Value → World → Prop) (a0 a1 a2 : Value) (w : World) : Prop :=
  o1 Tryd.prog (Instr.box 42 a1) w fun t4 w =>
  o1 Tryd.prog (Instr.box 46 a2) w fun t5 w =>
  o1 Tryd.prog (Instr.alloc 42 true (.tuple #[])) w fun t6 w =>
  mv (.bool false) fun t7 =>
  mv (.slice none 0 0) fun t8 =>
  mv t8 fun t13 =>
  o1 Tryd.prog (Instr.fieldAt 46 t5 4) w fun t14 w =>
  o1 Tryd.prog (Instr.loadAt 22 t14) w fun t15 w =>
  ob Tryd.prog (fun _ => Builtin.append_ #[22, 22] 22 #[t13, t15]) w fun t16 w =>
  mv t16 fun t8_1 =>
  mv .nilIface fun t9 =>
  mv (.int .i64 0) fun t10 =>
  o1 Tryd.prog (Instr.fieldAt 46 t5 0) w fun t17 w =>
  o1 Tryd.prog (Instr.loadAt 3 t17) w fun t18 w =>
  o1 Tryd.prog (convert 3 25 t18) w fun t19 w =>
  o1 Tryd.prog (bin .rem 25 (.tmp 19) (.const (.int .u64 8)) t19 (.int .u64 8)) w fun t20 w =>
  o1 Tryd.prog (convert 25 3 t20) w fun t21 w =>
  o1 Tryd.prog (bin .eql 3 (.tmp 21) (.const (.int .i64 0)) t21 (.int .i64 0)) w fun t33 w =>
  mv t33 fun t32 =>
  jn (fun x1 => [x1 32]) (fun k1 =>
  br t32 (fun _ =>
  k1 [t32] w) (fun _ =>
  o1 Tryd.prog (bin .eql 3 (.tmp 21) (.const (.int .i64 1)) t21 (.int .i64 1)) w fun t34 w =>
  mv t34 fun t32_1 =>
  k1 [t32_1] w)) fun x1 w =>
  jn (fun x2 => [x2 9, x2 10, x2 11, x2 12, x2 59, x2 72, x2 89, x2 102, x2 119, x2 129, x2 133]) (fun k2 =>
  br (x1 32) (fun _ =>
  mv a0 fun t35 =>
  o1 Tryd.prog (Instr.fieldAt 46 t5 2) w fun t36 w =>
  o1 Tryd.prog (Instr.loadAt 9 t36) w fun t37 w =>
  mv t8_1 fun t38 =>
  C Tryd.prog N.files_FS_Append #[t35, t37, t38] w fun t39 w =>
  mv t39 fun t9_1 =>
  o1 Tryd.prog (Instr.loadAt 42 t4) w fun t41 w =>
  o1 Tryd.prog (Instr.fieldAt 46 t5 2) w fun t42 w =>
  o1 Tryd.prog (Instr.loadAt 9 t42) w fun t43 w =>
  o1 Tryd.prog (Instr.fieldAt 46 t5 4) w fun t44 w =>
  o1 Tryd.prog (Instr.loadAt 22 t44) w fun t45 w =>
  o1 Tryd.prog (convert 22 9 t45) w fun t46 w =>
  C Tryd.prog N.isthmusref04_Append #[t41, t43, t46] w fun t47 w =>
  mv t47 fun t40 =>
  o1 Tryd.prog (Instr.extract t40 0) w fun t48 w =>
  o1 Tryd.prog (Instr.extract t40 1) w fun t49 w =>
  o0 Tryd.prog (Instr.storeAt 42 t4 t48) w fun _ w =>
  mv t49 fun t10_1 =>
  mv (.int .i64 0) fun t11 =>
  lp [t11] w fun I3 μ3 => ∀ (x3 : Env) (w1 : World), I3 [x3 11] w1 →
  mv (x3 11) fun t50 =>
  mv t8_1 fun t51 =>
  o1 Tryd.prog (Builtin.len_ #[22] 3 #[t51]) w1 fun t52 w =>
  o1 Tryd.prog (bin .lss 3 (.tmp 50) (.tmp 52) t50 t52) w fun t53 w =>
  br t53 (fun _ =>
  mv t8_1 fun t56 =>
  mv (x3 11) fun t57 =>
  o1 Tryd.prog (Instr.indexAt 22 t56 t57) w fun t58 w =>
  o0 Tryd.prog (Instr.storeAt 5 t58 (.int .u8 33)) w fun _ w =>
  mv (x3 11) fun t54 =>
  o1 Tryd.prog (bin .add 3 (.tmp 54) (.const (.int .i64 1)) t54 (.int .i64 1)) w fun t55 w =>
  mv t55 fun t11_1 =>
  I3 [t11_1] w ∧ μ3 [t11_1] w < μ3 [x3 11] w1) (fun _ =>
  k2 [t9_1, t10_1, (x3 11), undef, undef, undef, undef, undef, undef, undef, undef] w)) (fun _ =>
  o1 Tryd.prog (bin .eql 3 (.tmp 21) (.const (.int .i64 2)) t21 (.int .i64 2)) w fun t60 w =>
  mv t60 fun t59 =>
  jn (fun x4 => [x4 9, x4 10, x4 12, x4 72, x4 89, x4 102, x4 119, x4 129, x4 133]) (fun k3 =>
  br t59 (fun _ =>
  mv a0 fun t61 =>
  o1 Tryd.prog (Instr.fieldAt 46 t5 2) w fun t62 w =>
  o1 Tryd.prog (Instr.loadAt 9 t62) w fun t63 w =>
  C Tryd.prog N.files_FS_Sync #[t61, t63] w fun t64 w =>
  mv t64 fun t9_2 =>
  o1 Tryd.prog (Instr.loadAt 42 t4) w fun t66 w =>
  o1 Tryd.prog (Instr.fieldAt 46 t5 2) w fun t67 w =>
  o1 Tryd.prog (Instr.loadAt 9 t67) w fun t68 w =>
  C Tryd.prog N.isthmusref04_Change #[t66, .int .i64 0, t68, .string ⟨#[]⟩, .int .i64 0] w fun t69 w =>
  mv t69 fun t65 =>
  o1 Tryd.prog (Instr.extract t65 0) w fun t70 w =>
  o1 Tryd.prog (Instr.extract t65 1) w fun t71 w =>
  o0 Tryd.prog (Instr.storeAt 42 t4 t70) w fun _ w =>
  mv t71 fun t10_2 =>
  k3 [t9_2, t10_2, undef, undef, undef, undef, undef, undef, undef] w) (fun _ =>
  o1 Tryd.prog (bin .eql 3 (.tmp 21) (.const (.int .i64 3)) t21 (.int .i64 3)) w fun t73 w =>
  mv t73 fun t72 =>
  jn (fun x5 => [x5 9, x5 10, x5 12, x5 89, x5 102, x5 119, x5 129, x5 133]) (fun k4 =>
  br t72 (fun _ =>
  mv a0 fun t74 =>
  o1 Tryd.prog (Instr.fieldAt 46 t5 2) w fun t75 w =>
  o1 Tryd.prog (Instr.loadAt 9 t75) w fun t76 w =>
  o1 Tryd.prog (Instr.fieldAt 46 t5 3) w fun t77 w =>
  o1 Tryd.prog (Instr.loadAt 9 t77) w fun t78 w =>
  C Tryd.prog N.files_FS_Rename #[t74, t76, t78] w fun t79 w =>
  mv t79 fun t9_3 =>
  o1 Tryd.prog (Instr.loadAt 42 t4) w fun t81 w =>
  o1 Tryd.prog (Instr.fieldAt 46 t5 2) w fun t82 w =>
  o1 Tryd.prog (Instr.loadAt 9 t82) w fun t83 w =>
  o1 Tryd.prog (Instr.fieldAt 46 t5 3) w fun t84 w =>
  o1 Tryd.prog (Instr.loadAt 9 t84) w fun t85 w =>
  C Tryd.prog N.isthmusref04_Change #[t81, .int .i64 1, t83, t85, .int .i64 0] w fun t86 w =>
  mv t86 fun t80 =>
  o1 Tryd.prog (Instr.extract t80 0) w fun t87 w =>
  o1 Tryd.prog (Instr.extract t80 1) w fun t88 w =>
  o0 Tryd.prog (Instr.storeAt 42 t4 t87) w fun _ w =>
  mv t88 fun t10_3 =>
  k4 [t9_3, t10_3, undef, undef, undef, undef, undef, undef] w) (fun _ =>
  o1 Tryd.prog (bin .eql 3 (.tmp 21) (.const (.int .i64 4)) t21 (.int .i64 4)) w fun t90 w =>
  mv t90 fun t89 =>
  jn (fun x6 => [x6 9, x6 10, x6 12, x6 102, x6 119, x6 129, x6 133]) (fun k5 =>
  br t89 (fun _ =>
  mv a0 fun t91 =>
  o1 Tryd.prog (Instr.fieldAt 46 t5 2) w fun t92 w =>
  o1 Tryd.prog (Instr.loadAt 9 t92) w fun t93 w =>
  C Tryd.prog N.files_FS_Remove #[t91, t93] w fun t94 w =>
  mv t94 fun t9_4 =>
  o1 Tryd.prog (Instr.loadAt 42 t4) w fun t96 w =>
  o1 Tryd.prog (Instr.fieldAt 46 t5 2) w fun t97 w =>
  o1 Tryd.prog (Instr.loadAt 9 t97) w fun t98 w =>
  C Tryd.prog N.isthmusref04_Change #[t96, .int .i64 2, t98, .string ⟨#[]⟩, .int .i64 0] w fun t99 w =>
  mv t99 fun t95 =>
  o1 Tryd.prog (Instr.extract t95 0) w fun t100 w =>
  o1 Tryd.prog (Instr.extract t95 1) w fun t101 w =>
  o0 Tryd.prog (Instr.storeAt 42 t4 t100) w fun _ w =>
  mv t101 fun t10_4 =>
  k5 [t9_4, t10_4, undef, undef, undef, undef, undef] w) (fun _ =>
  o1 Tryd.prog (bin .eql 3 (.tmp 21) (.const (.int .i64 5)) t21 (.int .i64 5)) w fun t103 w =>
  mv t103 fun t102 =>
  jn (fun x7 => [x7 9, x7 10, x7 12, x7 119, x7 129, x7 133]) (fun k6 =>
  br t102 (fun _ =>
  mv a0 fun t104 =>
  o1 Tryd.prog (Instr.fieldAt 46 t5 2) w fun t105 w =>
  o1 Tryd.prog (Instr.loadAt 9 t105) w fun t106 w =>
  o1 Tryd.prog (Instr.fieldAt 46 t5 1) w fun t107 w =>
  o1 Tryd.prog (Instr.loadAt 3 t107) w fun t108 w =>
  C Tryd.prog N.files_FS_Cut #[t104, t106, t108] w fun t109 w =>
  mv t109 fun t9_5 =>
  o1 Tryd.prog (Instr.loadAt 42 t4) w fun t111 w =>
  o1 Tryd.prog (Instr.fieldAt 46 t5 2) w fun t112 w =>
  o1 Tryd.prog (Instr.loadAt 9 t112) w fun t113 w =>
  o1 Tryd.prog (Instr.fieldAt 46 t5 1) w fun t114 w =>
  o1 Tryd.prog (Instr.loadAt 3 t114) w fun t115 w =>
  C Tryd.prog N.isthmusref04_Change #[t111, .int .i64 3, t113, .string ⟨#[]⟩, t115] w fun t116 w =>
  mv t116 fun t110 =>
  o1 Tryd.prog (Instr.extract t110 0) w fun t117 w =>
  o1 Tryd.prog (Instr.extract t110 1) w fun t118 w =>
  o0 Tryd.prog (Instr.storeAt 42 t4 t117) w fun _ w =>
  mv t118 fun t10_5 =>
  k6 [t9_5, t10_5, undef, undef, undef, undef] w) (fun _ =>
  o1 Tryd.prog (bin .eql 3 (.tmp 21) (.const (.int .i64 6)) t21 (.int .i64 6)) w fun t120 w =>
  mv t120 fun t119 =>
  jn (fun x8 => [x8 9, x8 10, x8 12, x8 129, x8 133]) (fun k7 =>
  br t119 (fun _ =>
  mv a0 fun t121 =>
  o1 Tryd.prog (Instr.fieldAt 46 t5 1) w fun t122 w =>
  o1 Tryd.prog (Instr.loadAt 3 t122) w fun t123 w =>
  C Tryd.prog N.files_FS_Arm #[t121, t123] w fun t124 w =>
  mv t124 fun t9_6 =>
  o1 Tryd.prog (Instr.fieldAt 46 t5 1) w fun t130 w =>
  o1 Tryd.prog (Instr.loadAt 3 t130) w fun t131 w =>
  o1 Tryd.prog (bin .lss 3 (.tmp 131) (.const (.int .i64 0)) t131 (.int .i64 0)) w fun t132 w =>
  mv t132 fun t129 =>
  jn (fun x9 => [x9 10, x9 133]) (fun k8 =>
  br t129 (fun _ =>
  mv (.int .i64 1) fun t10_6 =>
  k8 [t10_6, undef] w) (fun _ =>
  o1 Tryd.prog (Instr.fieldAt 42 t4 4) w fun t134 w =>
  o1 Tryd.prog (Instr.loadAt 4 t134) w fun t135 w =>
  mv t135 fun t133 =>
  jn (fun x10 => [x10 10]) (fun k9 =>
  br t133 (fun _ =>
  mv (.int .i64 13) fun t10_7 =>
  k9 [t10_7] w) (fun _ =>
  dr w.drew fun S1 =>
  tk Tryd.prog S1 (Instr.fieldAt 46 t5 1) fun t125 =>
  tk Tryd.prog S1 (Instr.loadAt 3 t125) fun t126 =>
  tk Tryd.prog S1 (Instr.fieldAt 42 t4 2) fun t127 =>
  o0 Tryd.prog (Instr.storeAt 4 t127 (.bool true)) w.drew fun _ w =>
  S1 w ∧
  tk Tryd.prog S1 (Instr.fieldAt 42 t4 3) fun t128 =>
  o0 Tryd.prog (Instr.storeAt 3 t128 t126) w fun _ w =>
  k9 [t10] w)) fun x10 w =>
  k8 [(x10 10), t133] w)) fun x9 w =>
  k7 [t9_6, (x9 10), undef, t129, (x9 133)] w) (fun _ =>
  mv (.slice none 0 0) fun t12 =>
  mv a0 fun t22 =>
  mv t12 fun t23 =>
  o1 Tryd.prog (Instr.fieldAt 46 t5 5) w fun t24 w =>
  o1 Tryd.prog (Instr.loadAt 37 t24) w fun t25 w =>
  ob Tryd.prog (fun _ => Builtin.append_ #[37, 37] 37 #[t23, t25]) w fun t26 w =>
  C Tryd.prog N.files_FS_Start #[t22, t26] w fun t27 w =>
  o1 Tryd.prog (Instr.loadAt 42 t4) w fun t28 w =>
  o1 Tryd.prog (Instr.fieldAt 46 t5 5) w fun t29 w =>
  o1 Tryd.prog (Instr.loadAt 37 t29) w fun t30 w =>
  C Tryd.prog N.isthmusref04_Start #[t28, t30] w fun t31 w =>
  o0 Tryd.prog (Instr.storeAt 42 t4 t31) w fun _ w =>
  k7 [t9, t10, t12, undef, undef] w)) fun x8 w =>
  k6 [(x8 9), (x8 10), (x8 12), t119, (x8 129), (x8 133)] w)) fun x7 w =>
  k5 [(x7 9), (x7 10), (x7 12), t102, (x7 119), (x7 129), (x7 133)] w)) fun x6 w =>
  k4 [(x6 9), (x6 10), (x6 12), t89, (x6 102), (x6 119), (x6 129), (x6 133)] w)) fun x5 w =>
  k3 [(x5 9), (x5 10), (x5 12), t72, (x5 89), (x5 102), (x5 119), (x5 129), (x5 133)] w)) fun x4 w =>
  k2 [(x4 9), (x4 10), undef, (x4 12), t59, (x4 72), (x4 89), (x4 102), (x4 119), (x4 129), (x4 133)] w)) fun x2 w =>
  dr w.drew fun S2 =>
  tk Tryd.prog S2 (Instr.loadAt 42 t4) fun t136 =>
  mv (x2 9) fun t137 =>
  mv (x2 10) fun t139 =>
  C Tryd.prog N.isthmuslaw04_num #[t137] w.drew fun t138 w =>
  S2 w ∧
  tk Tryd.prog S2 (bin .eql 3 (.tmp 138) (.tmp 139) t138 t139) fun t140 =>
  o0 Tryd.prog (Instr.storeAt 42 t6 t136) w fun _ w =>
  S2 w ∧
  mv t140 fun t7_1 =>
  rc Tryd.prog 42 t6 w fun r0 =>
  k (.tuple #[r0, t7_1]) w
theorem C.isthmuslaw04_step {k : Value → World → Prop} {a0 a1 a2 : Value} {w : World} (h : F.isthmuslaw04_step k a0 a1 a2 w) : C Tryd.prog N.isthmuslaw04_step #[a0, a1, a2] w k :=
  den_calls (H := { moves := [(31, (.take 0 (.take 1 (.take 2 (.force 3 (.take 4 (.last 5))))))), (36, (.take 0 (.take 1 (.take 3 (.force 2 (.take 4 (.force 5 (.take 6 .fin))))))))], vars := [7, 8, 9, 10, 11, 12, 32, 59, 72, 89, 102, 119, 129, 133] }) (args := [a0, a1, a2]) mixed Tryd.func16 (by kernel_rfl) (by kernel_rfl) (by kernel_rfl) h

end Go.Proofs.YtiaiglgfangedaaDoor
