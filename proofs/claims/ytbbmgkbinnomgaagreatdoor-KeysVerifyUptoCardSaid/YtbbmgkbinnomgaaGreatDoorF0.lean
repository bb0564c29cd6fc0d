/- What each function asks: printed by hoas.py off the loaded program; each is held against the program by the kernel. -/
import Derived.Test.YtbbmgkbinnomgaaGreatDoorN
set_option linter.unusedVariables false
set_option linter.unusedSimpArgs false
set_option linter.unusedSectionVars false
namespace Go.Proofs.YtbbmgkbinnomgaaGreatDoor
open Go Go.Isk
set_option maxRecDepth 100000
-- gosem.cut.init
-- isthmus/isthmuslaw06.KeysVerify
def F.isthmuslaw06_KeysVerify (k : Value → World → Prop) (a0 a1 a2 : Value) (w : World) : Prop :=
  o1 Tryz.prog (Instr.box 23 a0) w fun t3 w =>
  o1 Tryz.prog (Instr.box 25 a1) w fun t4 w =>
  o1 Tryz.prog (Instr.box 27 a2) w fun t5 w =>
  mv (.bool false) fun t6 =>
  o1 Tryz.prog (Instr.loadAt 25 t4) w fun t15 w =>
  C Tryz.prog N.isthmuslaw06_cut #[t15] w fun t16 w =>
  o0 Tryz.prog (Instr.storeAt 25 t4 t16) w fun _ w =>
  o1 Tryz.prog (Instr.loadAt 23 t3) w fun t18 w =>
  o1 Tryz.prog (Instr.loadAt 25 t4) w fun t19 w =>
  C Tryz.prog N.keys_Root #[t18, t19] w fun t20 w =>
  mv t20 fun t17 =>
  o1 Tryz.prog (Instr.extract t17 0) w fun t21 w =>
  o1 Tryz.prog (Instr.extract t17 1) w fun t22 w =>
  o1 Tryz.prog (Instr.alloc 23 true (.tuple #[])) w fun t7 w =>
  o0 Tryz.prog (Instr.storeAt 23 t7 t21) w fun _ w =>
  mv t22 fun t8 =>
  o1 Tryz.prog (Instr.loadAt 23 t3) w fun t24 w =>
  o1 Tryz.prog (Instr.loadAt 25 t4) w fun t25 w =>
  C Tryz.prog N.isthmusref06_Root #[t24, t25] w fun t26 w =>
  mv t26 fun t23 =>
  o1 Tryz.prog (Instr.extract t23 0) w fun t27 w =>
  o1 Tryz.prog (Instr.extract t23 1) w fun t28 w =>
  o1 Tryz.prog (Instr.alloc 23 true (.tuple #[])) w fun t9 w =>
  o0 Tryz.prog (Instr.storeAt 23 t9 t27) w fun _ w =>
  mv t28 fun t10 =>
  o1 Tryz.prog (Instr.indexAt 27 t5 (.int .i64 1)) w fun t30 w =>
  o1 Tryz.prog (Instr.loadAt 26 t30) w fun t31 w =>
  C Tryz.prog N.keys_Leaf #[t31] w fun t32 w =>
  mv t32 fun t29 =>
  o1 Tryz.prog (Instr.extract t29 0) w fun t33 w =>
  o1 Tryz.prog (Instr.extract t29 1) w fun t34 w =>
  mv t33 fun t11 =>
  mv t34 fun t12 =>
  o1 Tryz.prog (Instr.indexAt 27 t5 (.int .i64 1)) w fun t36 w =>
  o1 Tryz.prog (Instr.loadAt 26 t36) w fun t37 w =>
  C Tryz.prog N.isthmusref06_Parts #[t37] w fun t38 w =>
  mv t38 fun t35 =>
  o1 Tryz.prog (Instr.extract t35 0) w fun t39 w =>
  o1 Tryz.prog (Instr.extract t35 1) w fun t40 w =>
  o1 Tryz.prog (Instr.alloc 39 true (.tuple #[])) w fun t13 w =>
  o0 Tryz.prog (Instr.storeAt 39 t13 t39) w fun _ w =>
  mv t40 fun t14 =>
  dr w.drew fun S1 =>
  tk Tryz.prog S1 (Instr.loadAt 23 t7) fun t41 =>
  tk Tryz.prog S1 (Instr.loadAt 23 t9) fun t42 =>
  tk Tryz.prog S1 (bin .eql 23 (.tmp 41) (.tmp 42) t41 t42) fun t43 =>
  mv t43 fun t44 =>
  gdT t44 true (fun k1 => mv t8 k1) fun t45 =>
  gdT t44 true (fun k2 => mv t10 k2) fun t47 =>
  gd t44 true (fun k3 => C Tryz.prog N.isthmuslaw06_num #[t45] w.drew k3) w.drew fun t46 w =>
  S1 w ∧
  gdT t44 true (fun k4 => tk Tryz.prog S1 (bin .eql 3 (.tmp 46) (.tmp 47) t46 t47) k4) fun t48 =>
  pk t44 t48 (.bool false) fun t49 =>
  mv t49 fun t50 =>
  nS S1 w fun S2 =>
  gdT t50 true (fun k5 => tk Tryz.prog S2 (Instr.loadAt 25 t4) k5) fun t51 =>
  gdT t50 true (fun k6 => tk Tryz.prog S2 (Instr.loadAt 25 t4) k6) fun t54 =>
  gd t50 true (fun k7 => C Tryz.prog N.keys_Check #[t51] w k7) w fun t52 w =>
  S2 w ∧
  gd t50 true (fun k8 => C Tryz.prog N.isthmuslaw06_num #[t52] w k8) w fun t53 w =>
  S2 w ∧
  gd t50 true (fun k9 => C Tryz.prog N.isthmusref06_Check #[t54] w k9) w fun t55 w =>
  S2 w ∧
  gdT t50 true (fun k10 => tk Tryz.prog S2 (bin .eql 3 (.tmp 53) (.tmp 55) t53 t55) k10) fun t56 =>
  pk t50 t56 (.bool false) fun t57 =>
  mv t57 fun t58 =>
  gdT t58 true (fun k11 => mv t11 k11) fun t59 =>
  gdT t58 true (fun k12 => tk Tryz.prog S2 (Instr.fieldAt 39 t13 0) k12) fun t60 =>
  nS S2 w fun S3 =>
  gdT t58 true (fun k13 => tk Tryz.prog S3 (Instr.loadAt 3 t60) k13) fun t61 =>
  gdT t58 true (fun k14 => tk Tryz.prog S3 (bin .eql 3 (.tmp 59) (.tmp 61) t59 t61) k14) fun t62 =>
  pk t58 t62 (.bool false) fun t63 =>
  mv t63 fun t64 =>
  gdT t64 true (fun k15 => mv t12 k15) fun t65 =>
  gdT t64 true (fun k16 => mv t14 k16) fun t67 =>
  gd t64 true (fun k17 => C Tryz.prog N.isthmuslaw06_num #[t65] w k17) w fun t66 w =>
  S3 w ∧
  gdT t64 true (fun k18 => tk Tryz.prog S3 (bin .eql 3 (.tmp 66) (.tmp 67) t66 t67) k18) fun t68 =>
  pk t64 t68 (.bool false) fun t69 =>
  mv t69 fun t70 =>
  nS S3 w fun S4 =>
  gdT t70 true (fun k19 => tk Tryz.prog S4 (Instr.loadAt 23 t9) k19) fun t71 =>
  gdT t70 true (fun k20 => tk Tryz.prog S4 (Instr.loadAt 25 t4) k20) fun t72 =>
  gdT t70 true (fun k21 => tk Tryz.prog S4 (Instr.indexAt 27 t5 (.int .i64 0)) k21) fun t73 =>
  gdT t70 true (fun k22 => tk Tryz.prog S4 (Instr.loadAt 26 t73) k22) fun t74 =>
  gdT t70 true (fun k23 => tk Tryz.prog S4 (Instr.indexAt 27 t5 (.int .i64 1)) k23) fun t75 =>
  gdT t70 true (fun k24 => tk Tryz.prog S4 (Instr.loadAt 26 t75) k24) fun t76 =>
  gdT t70 true (fun k25 => tk Tryz.prog S4 (Instr.loadAt 23 t9) k25) fun t79 =>
  gdT t70 true (fun k26 => tk Tryz.prog S4 (Instr.loadAt 25 t4) k26) fun t80 =>
  gdT t70 true (fun k27 => tk Tryz.prog S4 (Instr.indexAt 27 t5 (.int .i64 0)) k27) fun t81 =>
  gdT t70 true (fun k28 => tk Tryz.prog S4 (Instr.loadAt 26 t81) k28) fun t82 =>
  gdT t70 true (fun k29 => tk Tryz.prog S4 (Instr.indexAt 27 t5 (.int .i64 1)) k29) fun t83 =>
  gdT t70 true (fun k30 => tk Tryz.prog S4 (Instr.loadAt 26 t83) k30) fun t84 =>
  gd t70 true (fun k31 => C Tryz.prog N.keys_Verify #[t71, t72, t74, t76] w k31) w fun t77 w =>
  S4 w ∧
  gd t70 true (fun k32 => C Tryz.prog N.isthmuslaw06_num #[t77] w k32) w fun t78 w =>
  S4 w ∧
  gd t70 true (fun k33 => C Tryz.prog N.isthmusref06_Verify #[t79, t80, t82, t84] w k33) w fun t85 w =>
  S4 w ∧
  gdT t70 true (fun k34 => tk Tryz.prog S4 (bin .eql 3 (.tmp 78) (.tmp 85) t78 t85) k34) fun t86 =>
  pk t70 t86 (.bool false) fun t87 =>
  mv t87 fun t88 =>
  gd t88 true (fun k35 => C Tryz.prog N.isthmuslaw06_sure #[] w k35) w fun t89 w =>
  S4 w ∧
  pk t88 t89 (.bool false) fun t90 =>
  mv t90 fun t6_1 =>
  k t6_1 w
theorem C.isthmuslaw06_KeysVerify {k : Value → World → Prop} {a0 a1 a2 : Value} {w : World} (h : F.isthmuslaw06_KeysVerify k a0 a1 a2 w) : C Tryz.prog N.isthmuslaw06_KeysVerify #[a0, a1, a2] w k :=
  den_calls (H := { moves := [(6, (.take 0 (.take 1 (.take 2 (.take 3 (.take 4 (.take 6 (.force 5 (.take 7 (.take 8 (.take 9 (.renew (.take 10 (.take 13 (.force 11 (.force 12 (.force 14 (.take 15 (.take 16 (.take 17 (.take 18 (.take 19 (.renew (.take 20 (.take 21 (.take 22 (.take 23 (.take 24 (.take 26 (.force 25 (.take 27 (.take 28 (.take 29 (.renew (.take 30 (.take 31 (.take 32 (.take 33 (.take 34 (.take 35 (.take 38 (.take 39 (.take 40 (.take 41 (.take 42 (.take 43 (.force 36 (.force 37 (.force 44 (.take 45 (.take 46 (.take 47 (.force 48 (.take 49 (.take 50 .fin)))))))))))))))))))))))))))))))))))))))))))))))))))))))], vars := [6, 8, 10, 11, 12, 14] }) (args := [a0, a1, a2]) mixed Tryz.func3 (by kernel_rfl) (by kernel_rfl) (by kernel_rfl) h

-- isthmus/isthmuslaw06.KeysLeft
-- isthmus/isthmuslaw06.KeysOnce
-- isthmus/isthmuslaw06.cut
def F.isthmuslaw06_cut (k : Value → World → Prop) (a0 : Value) (w : World) : Prop :=
  o1 Tryz.prog (Instr.box 25 a0) w fun t1 w =>
  o1 Tryz.prog (Instr.alloc 25 true (.tuple #[])) w fun t2 w =>
  o1 Tryz.prog (Instr.fieldAt 25 t1 1) w fun t3 w =>
  o1 Tryz.prog (Instr.loadAt 3 t3) w fun t4 w =>
  o1 Tryz.prog (bin .gtr 3 (.tmp 4) (.const (.int .i64 4)) t4 (.int .i64 4)) w fun t5 w =>
  mv t5 fun t6 =>
  gd t6 true (fun k1 => o1 Tryz.prog (Instr.fieldAt 25 t1 1) w k1) w fun t7 w =>
  gd t6 true (fun k2 => o1 Tryz.prog (Instr.loadAt 3 t7) w k2) w fun t8 w =>
  gd t6 true (fun k3 => o1 Tryz.prog (bin .leq 3 (.tmp 8) (.const (.int .i64 10)) t8 (.int .i64 10)) w k3) w fun t9 w =>
  pk t6 t9 (.bool false) fun t10 =>
  jn (fun x1 => []) (fun k4 =>
  br t10 (fun _ =>
  o1 Tryz.prog (Instr.fieldAt 25 t1 1) w fun t11 w =>
  o1 Tryz.prog (Instr.loadAt 3 t11) w fun t12 w =>
  o1 Tryz.prog (bin .rem 3 (.tmp 12) (.const (.int .i64 5)) t12 (.int .i64 5)) w fun t13 w =>
  o1 Tryz.prog (Instr.fieldAt 25 t1 1) w fun t14 w =>
  o0 Tryz.prog (Instr.storeAt 3 t14 t13) w fun _ w =>
  k4 [] w) (fun _ =>
  k4 [] w)) fun x1 w =>
  o1 Tryz.prog (Instr.loadAt 25 t1) w fun t15 w =>
  o0 Tryz.prog (Instr.storeAt 25 t2 t15) w fun _ w =>
  rc Tryz.prog 25 t2 w fun r0 =>
  k r0 w
theorem C.isthmuslaw06_cut {k : Value → World → Prop} {a0 : Value} {w : World} (h : F.isthmuslaw06_cut k a0 w) : C Tryz.prog N.isthmuslaw06_cut #[a0] w k :=
  den_calls (H := { moves := [], vars := [] }) (args := [a0]) mixed Tryz.func6 (by kernel_rfl) (by kernel_rfl) (by kernel_rfl) h

-- isthmus/keys.Root
def F.keys_Root (k : Value → World → Prop) (a0 a1 : Value) (w : World) : Prop :=
  o1 Tryz.prog (Instr.box 23 a0) w fun t2 w =>
  o1 Tryz.prog (Instr.box 25 a1) w fun t3 w =>
  o1 Tryz.prog (Instr.alloc 23 true (.tuple #[])) w fun t4 w =>
  mv .nilIface fun t5 =>
  o1 Tryz.prog (Instr.loadAt 23 t2) w fun t9 w =>
  o1 Tryz.prog (Instr.loadAt 25 t3) w fun t10 w =>
  C Tryz.prog N.keys_leaves #[t9, t10] w fun t11 w =>
  mv t11 fun t8 =>
  o1 Tryz.prog (Instr.extract t8 0) w fun t12 w =>
  o1 Tryz.prog (Instr.extract t8 1) w fun t13 w =>
  mv t12 fun t6 =>
  mv t13 fun t7 =>
  mv t7 fun t14 =>
  o1 Tryz.prog (bin .neq 30 (.tmp 14) (.const .nilIface) t14 .nilIface) w fun t15 w =>
  br t15 (fun _ =>
  o1 Tryz.prog (Instr.build 23 #[]) w fun t16 w =>
  mv t7 fun t17 =>
  o0 Tryz.prog (Instr.storeAt 23 t4 t16) w fun _ w =>
  mv t17 fun t5_1 =>
  rc Tryz.prog 23 t4 w fun r0 =>
  k (.tuple #[r0, t5_1]) w) (fun _ =>
  mv t6 fun t18 =>
  C Tryz.prog N.sha_Root #[t18] w fun t19 w =>
  o0 Tryz.prog (Instr.storeAt 23 t4 t19) w fun _ w =>
  mv .nilIface fun t5_2 =>
  rc Tryz.prog 23 t4 w fun r0 =>
  k (.tuple #[r0, t5_2]) w)
theorem C.keys_Root {k : Value → World → Prop} {a0 a1 : Value} {w : World} (h : F.keys_Root k a0 a1 w) : C Tryz.prog N.keys_Root #[a0, a1] w k :=
  den_calls (H := { moves := [], vars := [5, 6, 7] }) (args := [a0, a1]) mixed Tryz.func7 (by kernel_rfl) (by kernel_rfl) (by kernel_rfl) h

-- isthmus/isthmusref06.Root
def F.isthmusref06_Root (k : Value → World → Prop) (a0 a1 : Value) (w : World) : Prop :=
  o1 Tryz.prog (Instr.box 23 a0) w fun t2 w =>
  o1 Tryz.prog (Instr.box 25 a1) w fun t3 w =>
  o1 Tryz.prog (Instr.alloc 23 true (.tuple #[])) w fun t4 w =>
  mv (.int .i64 0) fun t5 =>
  o1 Tryz.prog (Instr.loadAt 25 t3) w fun t7 w =>
  C Tryz.prog N.isthmusref06_Check #[t7] w fun t8 w =>
  mv t8 fun t6 =>
  mv t6 fun t9 =>
  o1 Tryz.prog (bin .neq 3 (.tmp 9) (.const (.int .i64 0)) t9 (.int .i64 0)) w fun t10 w =>
  br t10 (fun _ =>
  o1 Tryz.prog (Instr.build 23 #[]) w fun t11 w =>
  mv t6 fun t12 =>
  o0 Tryz.prog (Instr.storeAt 23 t4 t11) w fun _ w =>
  mv t12 fun t5_1 =>
  rc Tryz.prog 23 t4 w fun r0 =>
  k (.tuple #[r0, t5_1]) w) (fun _ =>
  o1 Tryz.prog (Instr.loadAt 23 t2) w fun t13 w =>
  o1 Tryz.prog (Instr.loadAt 25 t3) w fun t14 w =>
  C Tryz.prog N.isthmusref06_Leaves #[t13, t14] w fun t15 w =>
  C Tryz.prog N.isthmusref01_Root #[t15] w fun t16 w =>
  o0 Tryz.prog (Instr.storeAt 23 t4 t16) w fun _ w =>
  mv (.int .i64 0) fun t5_2 =>
  rc Tryz.prog 23 t4 w fun r0 =>
  k (.tuple #[r0, t5_2]) w)
theorem C.isthmusref06_Root {k : Value → World → Prop} {a0 a1 : Value} {w : World} (h : F.isthmusref06_Root k a0 a1 w) : C Tryz.prog N.isthmusref06_Root #[a0, a1] w k :=
  den_calls (H := { moves := [], vars := [5, 6] }) (args := [a0, a1]) mixed Tryz.func8 (by kernel_rfl) (by kernel_rfl) (by kernel_rfl) h

-- isthmus/keys.Leaf
def F.keys_Leaf (k : Value → World → Prop) (a0 : Value) (w : World) : Prop :=
  mv (.int .i64 0) fun t2 =>
  mv .nilIface fun t3 =>
  mv a0 fun t7 =>
  C Tryz.prog N.keys_read #[t7] w fun t8 w =>
  mv t8 fun t6 =>
  o1 Tryz.prog (Instr.extract t6 0) w fun t9 w =>
  o1 Tryz.prog (Instr.extract t6 1) w fun t10 w =>
  o1 Tryz.prog (Instr.alloc 74 true (.tuple #[])) w fun t4 w =>
  o0 Tryz.prog (Instr.storeAt 74 t4 t9) w fun _ w =>
  mv t10 fun t5 =>
  o1 Tryz.prog (Instr.fieldAt 74 t4 0) w fun t11 w =>
  o1 Tryz.prog (Instr.loadAt 3 t11) w fun t12 w =>
  mv t5 fun t13 =>
  mv t12 fun t2_1 =>
  mv t13 fun t3_1 =>
  k (.tuple #[t2_1, t3_1]) w
theorem C.keys_Leaf {k : Value → World → Prop} {a0 : Value} {w : World} (h : F.keys_Leaf k a0 w) : C Tryz.prog N.keys_Leaf #[a0] w k :=
  den_calls (H := { moves := [], vars := [2, 3, 5] }) (args := [a0]) mixed Tryz.func9 (by kernel_rfl) (by kernel_rfl) (by kernel_rfl) h

-- isthmus/isthmusref06.Parts
def F.isthmusref06_Parts (k : Value → World → Prop) (a0 : Value) (w : World) : Prop :=
  o1 Tryz.prog (Instr.alloc 39 true (.tuple #[])) w fun t2 w =>
  mv (.int .i64 0) fun t3 =>
  o1 Tryz.prog (Instr.build 39 #[]) w fun t10 w =>
  o1 Tryz.prog (Instr.alloc 39 true (.tuple #[])) w fun t4 w =>
  o0 Tryz.prog (Instr.storeAt 39 t4 t10) w fun _ w =>
  mv a0 fun t12 =>
  o1 Tryz.prog (Instr.build 78 #[(0, t12)]) w fun t13 w =>
  C Tryz.prog N.isthmusref02_ReadUint #[t13, .int .u64 1023] w fun t14 w =>
  mv t14 fun t11 =>
  o1 Tryz.prog (Instr.extract t11 0) w fun t15 w =>
  o1 Tryz.prog (Instr.extract t11 1) w fun t16 w =>
  o1 Tryz.prog (Instr.alloc 78 true (.tuple #[])) w fun t5 w =>
  o0 Tryz.prog (Instr.storeAt 78 t5 t15) w fun _ w =>
  mv t16 fun t6 =>
  o1 Tryz.prog (Instr.loadAt 78 t5) w fun t18 w =>
  C Tryz.prog N.isthmusref02_ReadBytes #[t18, .int .i64 4096] w fun t19 w =>
  mv t19 fun t17 =>
  o1 Tryz.prog (Instr.extract t17 0) w fun t20 w =>
  o1 Tryz.prog (Instr.extract t17 1) w fun t21 w =>
  o0 Tryz.prog (Instr.storeAt 78 t5 t20) w fun _ w =>
  o1 Tryz.prog (Instr.fieldAt 39 t4 1) w fun t22 w =>
  o0 Tryz.prog (Instr.storeAt 26 t22 t21) w fun _ w =>
  o1 Tryz.prog (Instr.loadAt 78 t5) w fun t24 w =>
  C Tryz.prog N.isthmusref02_ReadUint #[t24, .int .u64 10] w fun t25 w =>
  mv t25 fun t23 =>
  o1 Tryz.prog (Instr.extract t23 0) w fun t26 w =>
  o1 Tryz.prog (Instr.extract t23 1) w fun t27 w =>
  o0 Tryz.prog (Instr.storeAt 78 t5 t26) w fun _ w =>
  mv t27 fun t7 =>
  mv t6 fun t28 =>
  o1 Tryz.prog (convert 79 3 t28) w fun t29 w =>
  o1 Tryz.prog (Instr.fieldAt 39 t4 0) w fun t30 w =>
  o0 Tryz.prog (Instr.storeAt 3 t30 t29) w fun _ w =>
  mv (.int .u64 0) fun t8 =>
  lp [t8] w fun I1 μ1 => ∀ (x1 : Env) (w1 : World), I1 [x1 8] w1 →
  mv (x1 8) fun t31 =>
  mv t7 fun t32 =>
  o1 Tryz.prog (bin .lss 79 (.tmp 31) (.tmp 32) t31 t32) w1 fun t33 w =>
  br t33 (fun _ =>
  o1 Tryz.prog (Instr.alloc 23 true (.tuple #[])) w fun t9 w =>
  o1 Tryz.prog (Instr.loadAt 78 t5) w fun t37 w =>
  C Tryz.prog N.isthmusref02_ReadHash #[t37] w fun t38 w =>
  mv t38 fun t36 =>
  o1 Tryz.prog (Instr.extract t36 0) w fun t39 w =>
  o1 Tryz.prog (Instr.extract t36 1) w fun t40 w =>
  o0 Tryz.prog (Instr.storeAt 78 t5 t39) w fun _ w =>
  o0 Tryz.prog (Instr.storeAt 23 t9 t40) w fun _ w =>
  o1 Tryz.prog (Instr.fieldAt 39 t4 2) w fun t41 w =>
  o1 Tryz.prog (Instr.loadAt 37 t41) w fun t42 w =>
  o1 Tryz.prog (Instr.loadAt 23 t9) w fun t43 w =>
  o1 Tryz.prog (Instr.buildSlice 37 1 #[(0, t43)]) w fun t44 w =>
  ob Tryz.prog (fun _ => Builtin.append_ #[37, 37] 37 #[t42, t44]) w fun t45 w =>
  o1 Tryz.prog (Instr.fieldAt 39 t4 2) w fun t46 w =>
  o0 Tryz.prog (Instr.storeAt 37 t46 t45) w fun _ w =>
  mv (x1 8) fun t34 =>
  o1 Tryz.prog (bin .add 79 (.tmp 34) (.const (.int .u64 1)) t34 (.int .u64 1)) w fun t35 w =>
  mv t35 fun t8_1 =>
  I1 [t8_1] w ∧ μ1 [t8_1] w < μ1 [x1 8] w1) (fun _ =>
  o1 Tryz.prog (Instr.loadAt 78 t5) w fun t47 w =>
  C Tryz.prog N.isthmusref02_Done #[t47] w fun t48 w =>
  o1 Tryz.prog (bin .neq 3 (.tmp 48) (.const (.int .i64 0)) t48 (.int .i64 0)) w fun t49 w =>
  br t49 (fun _ =>
  o1 Tryz.prog (Instr.build 39 #[]) w fun t50 w =>
  o0 Tryz.prog (Instr.storeAt 39 t2 t50) w fun _ w =>
  mv (.int .i64 3) fun t3_1 =>
  rc Tryz.prog 39 t2 w fun r0 =>
  k (.tuple #[r0, t3_1]) w) (fun _ =>
  o1 Tryz.prog (Instr.loadAt 39 t4) w fun t51 w =>
  o0 Tryz.prog (Instr.storeAt 39 t2 t51) w fun _ w =>
  mv (.int .i64 0) fun t3_2 =>
  rc Tryz.prog 39 t2 w fun r0 =>
  k (.tuple #[r0, t3_2]) w))
theorem C.isthmusref06_Parts {k : Value → World → Prop} {a0 : Value} {w : World} (h : F.isthmusref06_Parts k a0 w) : C Tryz.prog N.isthmusref06_Parts #[a0] w k :=
  den_calls (H := { moves := [], vars := [3, 6, 7, 8] }) (args := [a0]) mixed Tryz.func10 (by kernel_rfl) (by kernel_rfl) (by kernel_rfl) h

-- isthmus/isthmuslaw06.num
def F.isthmuslaw06_num (k : Value → World → Prop) (a0 : Value) (w : World) : Prop :=
  mv (.int .i64 0) fun t2 =>
  o1 Tryz.prog (Instr.alloc 87 true (.tuple #[])) w fun t3 w =>
  mv a0 fun t4 =>
  o1 Tryz.prog (bin .eql 30 (.tmp 4) (.const .nilIface) t4 .nilIface) w fun t5 w =>
  br t5 (fun _ =>
  mv (.int .i64 0) fun t2_1 =>
  k t2_1 w) (fun _ =>
  mv a0 fun t6 =>
  o1 Tryz.prog (Instr.makeInterface 89 t3) w fun t7 w =>
  C Tryz.prog N.errors_As #[t6, t7] w fun t8 w =>
  br t8 (fun _ =>
  o1 Tryz.prog (Instr.loadAt 87 t3) w fun t9 w =>
  mv t9 fun t2_2 =>
  k t2_2 w) (fun _ =>
  mv (.int .i64 (-1)) fun t2_3 =>
  k t2_3 w))
theorem C.isthmuslaw06_num {k : Value → World → Prop} {a0 : Value} {w : World} (h : F.isthmuslaw06_num k a0 w) : C Tryz.prog N.isthmuslaw06_num #[a0] w k :=
  den_calls (H := { moves := [], vars := [2] }) (args := [a0]) mixed Tryz.func11 (by kernel_rfl) (by kernel_rfl) (by kernel_rfl) h

-- isthmus/keys.Check
def F.keys_Check (k : Value → World → Prop) (a0 : Value) (w : World) : Prop :=
  o1 Tryz.prog (Instr.box 25 a0) w fun t1 w =>
  mv .nilIface fun t2 =>
  o1 Tryz.prog (Instr.fieldAt 25 t1 0) w fun t3 w =>
  o1 Tryz.prog (Instr.loadAt 3 t3) w fun t4 w =>
  o1 Tryz.prog (bin .lss 3 (.tmp 4) (.const (.int .i64 1)) t4 (.int .i64 1)) w fun t5 w =>
  mv t5 fun t6 =>
  gd t6 false (fun k1 => o1 Tryz.prog (Instr.fieldAt 25 t1 0) w k1) w fun t7 w =>
  gd t6 false (fun k2 => o1 Tryz.prog (Instr.loadAt 3 t7) w k2) w fun t8 w =>
  gd t6 false (fun k3 => o1 Tryz.prog (bin .gtr 3 (.tmp 8) (.const (.int .i64 32)) t8 (.int .i64 32)) w k3) w fun t9 w =>
  pk t6 (.bool true) t9 fun t10 =>
  mv t10 fun t11 =>
  gd t11 false (fun k4 => o1 Tryz.prog (Instr.fieldAt 25 t1 1) w k4) w fun t12 w =>
  gd t11 false (fun k5 => o1 Tryz.prog (Instr.loadAt 3 t12) w k5) w fun t13 w =>
  gd t11 false (fun k6 => o1 Tryz.prog (bin .lss 3 (.tmp 13) (.const (.int .i64 0)) t13 (.int .i64 0)) w k6) w fun t14 w =>
  pk t11 (.bool true) t14 fun t15 =>
  mv t15 fun t16 =>
  gd t16 false (fun k7 => o1 Tryz.prog (Instr.fieldAt 25 t1 1) w k7) w fun t17 w =>
  gd t16 false (fun k8 => o1 Tryz.prog (Instr.loadAt 3 t17) w k8) w fun t18 w =>
  gd t16 false (fun k9 => o1 Tryz.prog (bin .gtr 3 (.tmp 18) (.const (.int .i64 10)) t18 (.int .i64 10)) w k9) w fun t19 w =>
  pk t16 (.bool true) t19 fun t20 =>
  br t20 (fun _ =>
  o1 Tryz.prog (Instr.makeInterface 87 (.int .i64 20)) w fun t21 w =>
  C Tryz.prog N.keys_fault #[.string ⟨#[112, 97, 114, 97, 109, 115]⟩, t21] w fun t22 w =>
  mv t22 fun t2_1 =>
  k t2_1 w) (fun _ =>
  mv .nilIface fun t2_2 =>
  k t2_2 w)
theorem C.keys_Check {k : Value → World → Prop} {a0 : Value} {w : World} (h : F.keys_Check k a0 w) : C Tryz.prog N.keys_Check #[a0] w k :=
  den_calls (H := { moves := [], vars := [2] }) (args := [a0]) mixed Tryz.func12 (by kernel_rfl) (by kernel_rfl) (by kernel_rfl) h

-- isthmus/isthmusref06.Check
def F.isthmusref06_Check (k : Value → World → Prop) (a0 : Value) (w : World) : Prop :=
  o1 Tryz.prog (Instr.box 25 a0) w fun t1 w =>
  mv (.int .i64 0) fun t2 =>
  o1 Tryz.prog (Instr.fieldAt 25 t1 0) w fun t3 w =>
  o1 Tryz.prog (Instr.loadAt 3 t3) w fun t4 w =>
  o1 Tryz.prog (bin .lss 3 (.tmp 4) (.const (.int .i64 1)) t4 (.int .i64 1)) w fun t5 w =>
  mv t5 fun t6 =>
  gd t6 false (fun k1 => o1 Tryz.prog (Instr.fieldAt 25 t1 0) w k1) w fun t7 w =>
  gd t6 false (fun k2 => o1 Tryz.prog (Instr.loadAt 3 t7) w k2) w fun t8 w =>
  gd t6 false (fun k3 => o1 Tryz.prog (bin .gtr 3 (.tmp 8) (.const (.int .i64 32)) t8 (.int .i64 32)) w k3) w fun t9 w =>
  pk t6 (.bool true) t9 fun t10 =>
  mv t10 fun t11 =>
  gd t11 false (fun k4 => o1 Tryz.prog (Instr.fieldAt 25 t1 1) w k4) w fun t12 w =>
  gd t11 false (fun k5 => o1 Tryz.prog (Instr.loadAt 3 t12) w k5) w fun t13 w =>
  gd t11 false (fun k6 => o1 Tryz.prog (bin .lss 3 (.tmp 13) (.const (.int .i64 0)) t13 (.int .i64 0)) w k6) w fun t14 w =>
  pk t11 (.bool true) t14 fun t15 =>
  mv t15 fun t16 =>
  gd t16 false (fun k7 => o1 Tryz.prog (Instr.fieldAt 25 t1 1) w k7) w fun t17 w =>
  gd t16 false (fun k8 => o1 Tryz.prog (Instr.loadAt 3 t17) w k8) w fun t18 w =>
  gd t16 false (fun k9 => o1 Tryz.prog (bin .gtr 3 (.tmp 18) (.const (.int .i64 10)) t18 (.int .i64 10)) w k9) w fun t19 w =>
  pk t16 (.bool true) t19 fun t20 =>
  br t20 (fun _ =>
  mv (.int .i64 20) fun t2_1 =>
  k t2_1 w) (fun _ =>
  mv (.int .i64 0) fun t2_2 =>
  k t2_2 w)
theorem C.isthmusref06_Check {k : Value → World → Prop} {a0 : Value} {w : World} (h : F.isthmusref06_Check k a0 w) : C Tryz.prog N.isthmusref06_Check #[a0] w k :=
  den_calls (H := { moves := [], vars := [2] }) (args := [a0]) mixed Tryz.func13 (by kernel_rfl) (by kernel_rfl) (by kernel_rfl) h

-- isthmus/keys.Verify
def F.keys_Verify (k : Value → World → Prop) (a0 a1 a2 a3 : Value) (w : World) : Prop :=
  o1 Tryz.prog (Instr.box 23 a0) w fun t4 w =>
  o1 Tryz.prog (Instr.box 25 a1) w fun t5 w =>
  mv .nilIface fun t8 =>
  o1 Tryz.prog (Instr.loadAt 25 t5) w fun t14 w =>
  C Tryz.prog N.keys_Check #[t14] w fun t15 w =>
  mv t15 fun t9 =>
  mv t9 fun t16 =>
  o1 Tryz.prog (bin .neq 30 (.tmp 16) (.const .nilIface) t16 .nilIface) w fun t17 w =>
  br t17 (fun _ =>
  mv t9 fun t18 =>
  mv t18 fun t8_1 =>
  k t8_1 w) (fun _ =>
  mv a3 fun t20 =>
  C Tryz.prog N.keys_read #[t20] w fun t21 w =>
  mv t21 fun t19 =>
  o1 Tryz.prog (Instr.extract t19 0) w fun t22 w =>
  o1 Tryz.prog (Instr.extract t19 1) w fun t23 w =>
  o1 Tryz.prog (Instr.alloc 74 true (.tuple #[])) w fun t10 w =>
  o0 Tryz.prog (Instr.storeAt 74 t10 t22) w fun _ w =>
  mv t23 fun t11 =>
  mv t11 fun t24 =>
  o1 Tryz.prog (bin .neq 30 (.tmp 24) (.const .nilIface) t24 .nilIface) w fun t25 w =>
  br t25 (fun _ =>
  mv t11 fun t26 =>
  mv t26 fun t8_2 =>
  k t8_2 w) (fun _ =>
  mv a2 fun t28 =>
  o1 Tryz.prog (Instr.fieldAt 25 t5 0) w fun t29 w =>
  o1 Tryz.prog (Instr.loadAt 3 t29) w fun t30 w =>
  C Tryz.prog N.wots_Digest #[t28, t30] w fun t31 w =>
  mv t31 fun t27 =>
  o1 Tryz.prog (Instr.extract t27 0) w fun t32 w =>
  o1 Tryz.prog (Instr.extract t27 1) w fun t33 w =>
  mv t32 fun t12 =>
  mv t33 fun t11_1 =>
  mv t11_1 fun t34 =>
  o1 Tryz.prog (bin .neq 30 (.tmp 34) (.const .nilIface) t34 .nilIface) w fun t35 w =>
  br t35 (fun _ =>
  mv t11_1 fun t36 =>
  mv t36 fun t8_3 =>
  k t8_3 w) (fun _ =>
  o1 Tryz.prog (Instr.fieldAt 74 t10 1) w fun t38 w =>
  o1 Tryz.prog (Instr.loadAt 26 t38) w fun t39 w =>
  o1 Tryz.prog (Instr.fieldAt 74 t10 0) w fun t40 w =>
  o1 Tryz.prog (Instr.loadAt 3 t40) w fun t41 w =>
  mv t12 fun t42 =>
  C Tryz.prog N.wots_From #[t39, t41, t42] w fun t43 w =>
  mv t43 fun t37 =>
  o1 Tryz.prog (Instr.extract t37 0) w fun t44 w =>
  o1 Tryz.prog (Instr.extract t37 1) w fun t45 w =>
  o1 Tryz.prog (Instr.alloc 23 true (.tuple #[])) w fun t13 w =>
  o0 Tryz.prog (Instr.storeAt 23 t13 t44) w fun _ w =>
  mv t45 fun t11_2 =>
  mv t11_2 fun t46 =>
  o1 Tryz.prog (bin .neq 30 (.tmp 46) (.const .nilIface) t46 .nilIface) w fun t47 w =>
  br t47 (fun _ =>
  o1 Tryz.prog (Instr.makeInterface 87 (.int .i64 21)) w fun t48 w =>
  C Tryz.prog N.keys_fault #[.string ⟨#[99, 104, 97, 105, 110, 115]⟩, t48] w fun t49 w =>
  mv t49 fun t8_4 =>
  k t8_4 w) (fun _ =>
  dr w.drew fun S1 =>
  tk Tryz.prog S1 (Instr.loadAt 23 t13) fun t51 =>
  tk Tryz.prog S1 (Instr.fieldAt 74 t10 0) fun t52 =>
  tk Tryz.prog S1 (Instr.loadAt 3 t52) fun t53 =>
  tk Tryz.prog S1 (Instr.fieldAt 25 t5 1) fun t54 =>
  tk Tryz.prog S1 (Instr.loadAt 3 t54) fun t55 =>
  tk Tryz.prog S1 (bin .shl 3 (.const (.int .i64 1)) (.tmp 55) (.int .i64 1) t55) fun t56 =>
  tk Tryz.prog S1 (Instr.fieldAt 74 t10 2) fun t57 =>
  tk Tryz.prog S1 (Instr.loadAt 37 t57) fun t58 =>
  C Tryz.prog N.sha_Fold #[t51, t53, t56, t58] w.drew fun t59 w =>
  S1 w ∧
  mv t59 fun t50 =>
  tk Tryz.prog S1 (Instr.extract t50 0) fun t60 =>
  tk Tryz.prog (fun _ => True) (Instr.extract t50 1) fun t61 =>
  o0 Tryz.prog (Instr.storeAt 23 t13 t60) w fun _ w =>
  mv t61 fun t11_3 =>
  mv t11_3 fun t62 =>
  o1 Tryz.prog (bin .neq 30 (.tmp 62) (.const .nilIface) t62 .nilIface) w fun t63 w =>
  mv t63 fun t64 =>
  gd t64 false (fun k1 => o1 Tryz.prog (Instr.loadAt 23 t13) w k1) w fun t65 w =>
  gd t64 false (fun k2 => o1 Tryz.prog (Instr.loadAt 23 t4) w k2) w fun t66 w =>
  gd t64 false (fun k3 => o1 Tryz.prog (bin .neq 23 (.tmp 65) (.tmp 66) t65 t66) w k3) w fun t67 w =>
  pk t64 (.bool true) t67 fun t68 =>
  br t68 (fun _ =>
  o1 Tryz.prog (Instr.makeInterface 87 (.int .i64 21)) w fun t69 w =>
  C Tryz.prog N.keys_fault #[.string ⟨#[114, 111, 111, 116]⟩, t69] w fun t70 w =>
  mv t70 fun t8_5 =>
  k t8_5 w) (fun _ =>
  mv .nilIface fun t8_6 =>
  k t8_6 w)))))
theorem C.keys_Verify {k : Value → World → Prop} {a0 a1 a2 a3 : Value} {w : World} (h : F.keys_Verify k a0 a1 a2 a3 w) : C Tryz.prog N.keys_Verify #[a0, a1, a2, a3] w k :=
  den_calls (H := { moves := [(13, (.take 0 (.take 1 (.take 2 (.take 3 (.take 4 (.take 5 (.take 6 (.take 7 (.force 8 (.take 9 (.take 10 (.pure 11 (.late 12 (.pure 13 .fin)))))))))))))))], vars := [8, 9, 11, 12] }) (args := [a0, a1, a2, a3]) mixed Tryz.func14 (by kernel_rfl) (by kernel_rfl) (by kernel_rfl) h

-- isthmus/isthmusref06.Verify
def F.isthmusref06_Verify (k : Value → World → Prop) (a0 a1 a2 a3 : Value) (w : World) : Prop :=
  o1 Tryz.prog (Instr.box 23 a0) w fun t4 w =>
  o1 Tryz.prog (Instr.box 25 a1) w fun t5 w =>
  mv (.int .i64 0) fun t8 =>
  o1 Tryz.prog (Instr.loadAt 25 t5) w fun t17 w =>
  C Tryz.prog N.isthmusref06_Check #[t17] w fun t18 w =>
  o1 Tryz.prog (bin .neq 3 (.tmp 18) (.const (.int .i64 0)) t18 (.int .i64 0)) w fun t19 w =>
  br t19 (fun _ =>
  mv (.int .i64 20) fun t8_1 =>
  k t8_1 w) (fun _ =>
  mv a3 fun t21 =>
  C Tryz.prog N.isthmusref06_Parts #[t21] w fun t22 w =>
  mv t22 fun t20 =>
  o1 Tryz.prog (Instr.extract t20 0) w fun t23 w =>
  o1 Tryz.prog (Instr.extract t20 1) w fun t24 w =>
  o1 Tryz.prog (Instr.alloc 39 true (.tuple #[])) w fun t9 w =>
  o0 Tryz.prog (Instr.storeAt 39 t9 t23) w fun _ w =>
  mv t24 fun t10 =>
  mv t10 fun t25 =>
  o1 Tryz.prog (bin .neq 3 (.tmp 25) (.const (.int .i64 0)) t25 (.int .i64 0)) w fun t26 w =>
  br t26 (fun _ =>
  mv t10 fun t27 =>
  mv t27 fun t8_2 =>
  k t8_2 w) (fun _ =>
  mv a2 fun t29 =>
  o1 Tryz.prog (Instr.fieldAt 25 t5 0) w fun t30 w =>
  o1 Tryz.prog (Instr.loadAt 3 t30) w fun t31 w =>
  C Tryz.prog N.isthmusref05_Digest #[t29, t31] w fun t32 w =>
  mv t32 fun t28 =>
  o1 Tryz.prog (Instr.extract t28 0) w fun t33 w =>
  o1 Tryz.prog (Instr.extract t28 1) w fun t34 w =>
  mv t33 fun t11 =>
  mv t34 fun t12 =>
  o1 Tryz.prog (Instr.fieldAt 39 t9 1) w fun t36 w =>
  o1 Tryz.prog (Instr.loadAt 26 t36) w fun t37 w =>
  o1 Tryz.prog (Instr.fieldAt 39 t9 0) w fun t38 w =>
  o1 Tryz.prog (Instr.loadAt 3 t38) w fun t39 w =>
  mv t11 fun t40 =>
  C Tryz.prog N.isthmusref05_From #[t37, t39, t40] w fun t41 w =>
  mv t41 fun t35 =>
  o1 Tryz.prog (Instr.extract t35 0) w fun t42 w =>
  o1 Tryz.prog (Instr.extract t35 1) w fun t43 w =>
  o1 Tryz.prog (Instr.alloc 23 true (.tuple #[])) w fun t13 w =>
  o0 Tryz.prog (Instr.storeAt 23 t13 t42) w fun _ w =>
  mv t43 fun t14 =>
  o1 Tryz.prog (Instr.loadAt 23 t13) w fun t45 w =>
  o1 Tryz.prog (Instr.fieldAt 39 t9 0) w fun t46 w =>
  o1 Tryz.prog (Instr.loadAt 3 t46) w fun t47 w =>
  o1 Tryz.prog (Instr.fieldAt 25 t5 1) w fun t48 w =>
  o1 Tryz.prog (Instr.loadAt 3 t48) w fun t49 w =>
  o1 Tryz.prog (convert 3 49 t49) w fun t50 w =>
  o1 Tryz.prog (bin .shl 3 (.const (.int .i64 1)) (.tmp 50) (.int .i64 1) t50) w fun t51 w =>
  o1 Tryz.prog (Instr.fieldAt 39 t9 2) w fun t52 w =>
  o1 Tryz.prog (Instr.loadAt 37 t52) w fun t53 w =>
  C Tryz.prog N.isthmusref01_Fold #[t45, t47, t51, t53] w fun t54 w =>
  mv t54 fun t44 =>
  o1 Tryz.prog (Instr.extract t44 0) w fun t55 w =>
  o1 Tryz.prog (Instr.extract t44 1) w fun t56 w =>
  o1 Tryz.prog (Instr.alloc 23 true (.tuple #[])) w fun t15 w =>
  o0 Tryz.prog (Instr.storeAt 23 t15 t55) w fun _ w =>
  mv t56 fun t16 =>
  mv t14 fun t57 =>
  o1 Tryz.prog (bin .neq 3 (.tmp 57) (.const (.int .i64 0)) t57 (.int .i64 0)) w fun t58 w =>
  mv t58 fun t59 =>
  gd t59 false (fun k1 => mv t16 fun v => k1 v w) w fun t60 w =>
  gd t59 false (fun k2 => o1 Tryz.prog (bin .neq 3 (.tmp 60) (.const (.int .i64 0)) t60 (.int .i64 0)) w k2) w fun t61 w =>
  pk t59 (.bool true) t61 fun t62 =>
  mv t62 fun t63 =>
  gd t63 false (fun k3 => o1 Tryz.prog (Instr.loadAt 23 t15) w k3) w fun t64 w =>
  gd t63 false (fun k4 => o1 Tryz.prog (Instr.loadAt 23 t4) w k4) w fun t65 w =>
  gd t63 false (fun k5 => o1 Tryz.prog (bin .neq 23 (.tmp 64) (.tmp 65) t64 t65) w k5) w fun t66 w =>
  pk t63 (.bool true) t66 fun t67 =>
  br t67 (fun _ =>
  mv (.int .i64 21) fun t8_3 =>
  k t8_3 w) (fun _ =>
  mv (.int .i64 0) fun t8_4 =>
  k t8_4 w)))
theorem C.isthmusref06_Verify {k : Value → World → Prop} {a0 a1 a2 a3 : Value} {w : World} (h : F.isthmusref06_Verify k a0 a1 a2 a3 w) : C Tryz.prog N.isthmusref06_Verify #[a0, a1, a2, a3] w k :=
  den_calls (H := { moves := [], vars := [8, 10, 11, 12, 14, 16] }) (args := [a0, a1, a2, a3]) mixed Tryz.func15 (by kernel_rfl) (by kernel_rfl) (by kernel_rfl) h

-- isthmus/isthmuslaw06.sure
def F.isthmuslaw06_sure (k : Value → World → Prop) (w : World) : Prop :=
  mv (.bool false) fun t0 =>
  C Tryz.prog N.files_New #[] w fun t12 w =>
  o1 Tryz.prog (Instr.build 23 #[]) w fun t13 w =>
  C Tryz.prog N.isthmuslaw06_small #[] w fun t14 w =>
  C Tryz.prog N.keys_Open #[t12, .string ⟨#[107]⟩, t13, t14] w fun t15 w =>
  mv t15 fun t11 =>
  o1 Tryz.prog (Instr.extract t11 0) w fun t16 w =>
  o1 Tryz.prog (Instr.extract t11 1) w fun t17 w =>
  mv t16 fun t1 =>
  mv t17 fun t2 =>
  mv t2 fun t18 =>
  o1 Tryz.prog (bin .neq 30 (.tmp 18) (.const .nilIface) t18 .nilIface) w fun t19 w =>
  mv t19 fun t20 =>
  gd t20 false (fun k1 => mv t1 fun v => k1 v w) w fun t21 w =>
  gd t20 false (fun k2 => o1 Tryz.prog (bin .eql 50 (.tmp 21) (.const (.pointer none)) t21 (.pointer none)) w k2) w fun t22 w =>
  pk t20 (.bool true) t22 fun t23 =>
  br t23 (fun _ =>
  mv (.bool false) fun t0_1 =>
  k t0_1 w) (fun _ =>
  mv t1 fun t25 =>
  o1 Tryz.prog (Instr.buildSlice 26 1 #[(0, .int .u8 97)]) w fun t26 w =>
  o1 Tryz.prog (convert 26 26 t26) w fun t27 w =>
  C Tryz.prog N.keys_Signer_Sign #[t25, t27] w fun t28 w =>
  mv t28 fun t24 =>
  o1 Tryz.prog (Instr.extract t24 0) w fun t29 w =>
  o1 Tryz.prog (Instr.extract t24 1) w fun t30 w =>
  mv t29 fun t3 =>
  mv t30 fun t4 =>
  mv t1 fun t32 =>
  o1 Tryz.prog (Instr.buildSlice 26 1 #[(0, .int .u8 98)]) w fun t33 w =>
  o1 Tryz.prog (convert 26 26 t33) w fun t34 w =>
  C Tryz.prog N.keys_Signer_Sign #[t32, t34] w fun t35 w =>
  mv t35 fun t31 =>
  o1 Tryz.prog (Instr.extract t31 0) w fun t36 w =>
  o1 Tryz.prog (Instr.extract t31 1) w fun t37 w =>
  mv t36 fun t5 =>
  mv t37 fun t6 =>
  mv t1 fun t39 =>
  o1 Tryz.prog (Instr.buildSlice 26 1 #[(0, .int .u8 99)]) w fun t40 w =>
  o1 Tryz.prog (convert 26 26 t40) w fun t41 w =>
  C Tryz.prog N.keys_Signer_Sign #[t39, t41] w fun t42 w =>
  mv t42 fun t38 =>
  o1 Tryz.prog (Instr.extract t38 0) w fun t43 w =>
  o1 Tryz.prog (Instr.extract t38 1) w fun t44 w =>
  mv t43 fun t7 =>
  mv t44 fun t8 =>
  mv t5 fun t46 =>
  C Tryz.prog N.keys_Leaf #[t46] w fun t47 w =>
  mv t47 fun t45 =>
  o1 Tryz.prog (Instr.extract t45 0) w fun t48 w =>
  o1 Tryz.prog (Instr.extract t45 1) w fun t49 w =>
  mv t48 fun t9 =>
  mv t49 fun t10 =>
  mv t4 fun t50 =>
  o1 Tryz.prog (bin .eql 30 (.tmp 50) (.const .nilIface) t50 .nilIface) w fun t51 w =>
  mv t51 fun t52 =>
  gd t52 true (fun k3 => mv t6 fun v => k3 v w) w fun t53 w =>
  gd t52 true (fun k4 => o1 Tryz.prog (bin .eql 30 (.tmp 53) (.const .nilIface) t53 .nilIface) w k4) w fun t54 w =>
  pk t52 t54 (.bool false) fun t55 =>
  mv t55 fun t56 =>
  gd t56 true (fun k5 => mv t8 fun v => k5 v w) w fun t57 w =>
  gd t56 true (fun k6 => C Tryz.prog N.isthmuslaw06_num #[t57] w k6) w fun t58 w =>
  gd t56 true (fun k7 => o1 Tryz.prog (bin .eql 3 (.tmp 58) (.const (.int .i64 22)) t58 (.int .i64 22)) w k7) w fun t59 w =>
  pk t56 t59 (.bool false) fun t60 =>
  mv t60 fun t61 =>
  gd t61 true (fun k8 => mv t1 fun v => k8 v w) w fun t62 w =>
  gd t61 true (fun k9 => C Tryz.prog N.keys_Signer_Root #[t62] w k9) w fun t63 w =>
  gd t61 true (fun k10 => C Tryz.prog N.isthmuslaw06_small #[] w k10) w fun t64 w =>
  gd t61 true (fun k11 => o1 Tryz.prog (Instr.buildSlice 26 1 #[(0, .int .u8 97)]) w k11) w fun t65 w =>
  gd t61 true (fun k12 => o1 Tryz.prog (convert 26 26 t65) w k12) w fun t66 w =>
  gd t61 true (fun k13 => mv t3 fun v => k13 v w) w fun t67 w =>
  gd t61 true (fun k14 => C Tryz.prog N.keys_Verify #[t63, t64, t66, t67] w k14) w fun t68 w =>
  gd t61 true (fun k15 => o1 Tryz.prog (bin .eql 30 (.tmp 68) (.const .nilIface) t68 .nilIface) w k15) w fun t69 w =>
  pk t61 t69 (.bool false) fun t70 =>
  mv t70 fun t71 =>
  gd t71 true (fun k16 => mv t9 fun v => k16 v w) w fun t72 w =>
  gd t71 true (fun k17 => o1 Tryz.prog (bin .eql 3 (.tmp 72) (.const (.int .i64 1)) t72 (.int .i64 1)) w k17) w fun t73 w =>
  pk t71 t73 (.bool false) fun t74 =>
  mv t74 fun t75 =>
  gd t75 true (fun k18 => mv t10 fun v => k18 v w) w fun t76 w =>
  gd t75 true (fun k19 => o1 Tryz.prog (bin .eql 30 (.tmp 76) (.const .nilIface) t76 .nilIface) w k19) w fun t77 w =>
  pk t75 t77 (.bool false) fun t78 =>
  mv t78 fun t79 =>
  gd t79 true (fun k20 => mv t1 fun v => k20 v w) w fun t80 w =>
  gd t79 true (fun k21 => C Tryz.prog N.keys_Signer_Left #[t80] w k21) w fun t81 w =>
  gd t79 true (fun k22 => o1 Tryz.prog (bin .eql 3 (.tmp 81) (.const (.int .i64 0)) t81 (.int .i64 0)) w k22) w fun t82 w =>
  pk t79 t82 (.bool false) fun t83 =>
  mv t83 fun t0_2 =>
  k t0_2 w)
theorem C.isthmuslaw06_sure {k : Value → World → Prop} {w : World} (h : F.isthmuslaw06_sure k  w) : C Tryz.prog N.isthmuslaw06_sure #[] w k :=
  den_calls (H := { moves := [], vars := [0, 1, 2, 3, 4, 5, 6, 7, 8, 9, 10] }) (args := []) mixed Tryz.func16 (by kernel_rfl) (by kernel_rfl) (by kernel_rfl) h

-- isthmus/keys.Open
def F.keys_Open (k : Value → World → Prop) (a0 a1 a2 a3 : Value) (w : World) : Prop :=
  o1 Tryz.prog (Instr.box 23 a2) w fun t6 w =>
  o1 Tryz.prog (Instr.box 25 a3) w fun t7 w =>
  mv (.pointer none) fun t8 =>
  mv .nilIface fun t9 =>
  o1 Tryz.prog (Instr.loadAt 23 t6) w fun t15 w =>
  o1 Tryz.prog (Instr.loadAt 25 t7) w fun t16 w =>
  C Tryz.prog N.keys_leaves #[t15, t16] w fun t17 w =>
  mv t17 fun t14 =>
  o1 Tryz.prog (Instr.extract t14 0) w fun t18 w =>
  o1 Tryz.prog (Instr.extract t14 1) w fun t19 w =>
  mv t18 fun t10 =>
  mv t19 fun t11 =>
  mv t11 fun t20 =>
  o1 Tryz.prog (bin .neq 30 (.tmp 20) (.const .nilIface) t20 .nilIface) w fun t21 w =>
  br t21 (fun _ =>
  mv t11 fun t22 =>
  mv (.pointer none) fun t8_1 =>
  mv t22 fun t9_1 =>
  k (.tuple #[t8_1, t9_1]) w) (fun _ =>
  mv a0 fun t23 =>
  mv a1 fun t24 =>
  o1 Tryz.prog (Instr.loadAt 23 t6) w fun t25 w =>
  o1 Tryz.prog (Instr.loadAt 25 t7) w fun t26 w =>
  mv t10 fun t27 =>
  o1 Tryz.prog (Instr.build 100 #[(0, t23), (1, t24), (2, t25), (3, t26), (4, t27)]) w fun t28 w =>
  o1 Tryz.prog (Instr.box 100 t28) w fun t29 w =>
  mv t29 fun t12 =>
  mv t12 fun t30 =>
  C Tryz.prog N.keys_Signer_count #[t30] w fun t31 w =>
  mv t31 fun t13 =>
  mv t13 fun t32 =>
  o1 Tryz.prog (bin .neq 30 (.tmp 32) (.const .nilIface) t32 .nilIface) w fun t33 w =>
  br t33 (fun _ =>
  mv t13 fun t34 =>
  mv (.pointer none) fun t8_2 =>
  mv t34 fun t9_2 =>
  k (.tuple #[t8_2, t9_2]) w) (fun _ =>
  mv t12 fun t35 =>
  mv t35 fun t8_3 =>
  mv .nilIface fun t9_3 =>
  k (.tuple #[t8_3, t9_3]) w))
theorem C.keys_Open {k : Value → World → Prop} {a0 a1 a2 a3 : Value} {w : World} (h : F.keys_Open k a0 a1 a2 a3 w) : C Tryz.prog N.keys_Open #[a0, a1, a2, a3] w k :=
  den_calls (H := { moves := [], vars := [8, 9, 10, 11, 12, 13] }) (args := [a0, a1, a2, a3]) mixed Tryz.func17 (by kernel_rfl) (by kernel_rfl) (by kernel_rfl) h

-- isthmus/files.New
def F.files_New (k : Value → World → Prop) (w : World) : Prop :=
  mv (.pointer none) fun t0 =>
  o1 Tryz.prog (Instr.makeMap 102 none) w fun t1 w =>
  o1 Tryz.prog (Instr.build 104 #[(0, t1)]) w fun t2 w =>
  o1 Tryz.prog (Instr.box 104 t2) w fun t3 w =>
  mv t3 fun t0_1 =>
  k t0_1 w
theorem C.files_New {k : Value → World → Prop} {w : World} (h : F.files_New k  w) : C Tryz.prog N.files_New #[] w k :=
  den_calls (H := { moves := [], vars := [0] }) (args := []) mixed Tryz.func18 (by kernel_rfl) (by kernel_rfl) (by kernel_rfl) h

-- isthmus/keys.Seed
-- (*isthmus/keys.Signer).Sign
def F.keys_Signer_Sign (k : Value → World → Prop) (a0 a1 : Value) (w : World) : Prop :=
  mv (.slice none 0 0) fun t4 =>
  mv .nilIface fun t5 =>
  mv a0 fun t12 =>
  o1 Tryz.prog (bin .eql 50 (.tmp 12) (.const (.pointer none)) t12 (.pointer none)) w fun t13 w =>
  mv t13 fun t11 =>
  br t11 (fun _ =>
  o1 Tryz.prog (Instr.makeInterface 87 (.int .i64 20)) w fun t14 w =>
  C Tryz.prog N.keys_fault #[.string ⟨#[115, 105, 103, 110, 101, 114]⟩, t14] w fun t15 w =>
  mv (.slice none 0 0) fun t4_1 =>
  mv t15 fun t5_1 =>
  k (.tuple #[t4_1, t5_1]) w) (fun _ =>
  mv a0 fun t17 =>
  nilOk t17 = true ∧ mv t17 fun t18 =>
  o1 Tryz.prog (Instr.fieldAt 100 t18 6) w fun t19 w =>
  o1 Tryz.prog (Instr.loadAt 30 t19) w fun t20 w =>
  o1 Tryz.prog (bin .neq 30 (.tmp 20) (.const .nilIface) t20 .nilIface) w fun t21 w =>
  mv t21 fun t16 =>
  br t16 (fun _ =>
  mv a0 fun t22 =>
  nilOk t22 = true ∧ mv t22 fun t23 =>
  tk Tryz.prog (fun w' => w' = w.drew) (Instr.fieldAt 100 t23 6) fun t24 =>
  tk Tryz.prog (fun w' => w' = w.drew) (Instr.loadAt 30 t24) fun t25 =>
  mv (.slice none 0 0) fun t4_2 =>
  mv t25 fun t5_2 =>
  k (.tuple #[t4_2, t5_2]) w.drew) (fun _ =>
  mv a0 fun t27 =>
  C Tryz.prog N.keys_Signer_Left #[t27] w fun t28 w =>
  o1 Tryz.prog (bin .eql 3 (.tmp 28) (.const (.int .i64 0)) t28 (.int .i64 0)) w fun t29 w =>
  mv t29 fun t26 =>
  br t26 (fun _ =>
  o1 Tryz.prog (Instr.makeInterface 87 (.int .i64 22)) w fun t30 w =>
  C Tryz.prog N.keys_fault #[.string ⟨#[108, 101, 97, 118, 101, 115]⟩, t30] w fun t31 w =>
  mv (.slice none 0 0) fun t4_3 =>
  mv t31 fun t5_3 =>
  k (.tuple #[t4_3, t5_3]) w) (fun _ =>
  mv a0 fun t32 =>
  mv a0 fun t33 =>
  C Tryz.prog N.keys_Signer_reserve #[t33] w fun t34 w =>
  nilOk t32 = true ∧ mv t32 fun t35 =>
  o1 Tryz.prog (Instr.fieldAt 100 t35 6) w fun t36 w =>
  o0 Tryz.prog (Instr.storeAt 30 t36 t34) w fun _ w =>
  mv a0 fun t37 =>
  nilOk t37 = true ∧ mv t37 fun t38 =>
  o1 Tryz.prog (Instr.fieldAt 100 t38 6) w fun t39 w =>
  o1 Tryz.prog (Instr.loadAt 30 t39) w fun t40 w =>
  o1 Tryz.prog (bin .neq 30 (.tmp 40) (.const .nilIface) t40 .nilIface) w fun t41 w =>
  br t41 (fun _ =>
  mv a0 fun t42 =>
  nilOk t42 = true ∧ mv t42 fun t43 =>
  tk Tryz.prog (fun w' => w' = w.drew) (Instr.fieldAt 100 t43 6) fun t44 =>
  tk Tryz.prog (fun w' => w' = w.drew) (Instr.loadAt 30 t44) fun t45 =>
  mv (.slice none 0 0) fun t4_4 =>
  mv t45 fun t5_4 =>
  k (.tuple #[t4_4, t5_4]) w.drew) (fun _ =>
  mv a0 fun t46 =>
  nilOk t46 = true ∧ mv t46 fun t47 =>
  o1 Tryz.prog (Instr.fieldAt 100 t47 5) w fun t48 w =>
  o1 Tryz.prog (Instr.loadAt 3 t48) w fun t49 w =>
  mv t49 fun t6 =>
  mv a0 fun t50 =>
  nilOk t50 = true ∧ mv t50 fun t51 =>
  o1 Tryz.prog (Instr.fieldAt 100 t51 5) w fun t52 w =>
  o1 Tryz.prog (Instr.loadAt 3 t52) w fun t53 w =>
  o1 Tryz.prog (bin .add 3 (.tmp 53) (.const (.int .i64 1)) t53 (.int .i64 1)) w fun t54 w =>
  nilOk t50 = true ∧ mv t50 fun t55 =>
  o1 Tryz.prog (Instr.fieldAt 100 t55 5) w fun t56 w =>
  o0 Tryz.prog (Instr.storeAt 3 t56 t54) w fun _ w =>
  mv a1 fun t58 =>
  mv a0 fun t59 =>
  nilOk t59 = true ∧ mv t59 fun t60 =>
  o1 Tryz.prog (Instr.fieldAt 100 t60 3) w fun t61 w =>
  o1 Tryz.prog (Instr.fieldAt 25 t61 0) w fun t62 w =>
  o1 Tryz.prog (Instr.loadAt 3 t62) w fun t63 w =>
  C Tryz.prog N.wots_Digest #[t58, t63] w fun t64 w =>
  mv t64 fun t57 =>
  o1 Tryz.prog (Instr.extract t57 0) w fun t65 w =>
  o1 Tryz.prog (Instr.extract t57 1) w fun t66 w =>
  mv t65 fun t7 =>
  mv t66 fun t8 =>
  mv t8 fun t67 =>
  o1 Tryz.prog (bin .neq 30 (.tmp 67) (.const .nilIface) t67 .nilIface) w fun t68 w =>
  br t68 (fun _ =>
  mv t8 fun t69 =>
  mv (.slice none 0 0) fun t4_5 =>
  mv t69 fun t5_5 =>
  k (.tuple #[t4_5, t5_5]) w) (fun _ =>
  mv a0 fun t71 =>
  nilOk t71 = true ∧ mv t71 fun t72 =>
  o1 Tryz.prog (Instr.fieldAt 100 t72 2) w fun t73 w =>
  o1 Tryz.prog (Instr.loadAt 23 t73) w fun t74 w =>
  mv t6 fun t75 =>
  mv t7 fun t76 =>
  C Tryz.prog N.wots_Sign #[t74, t75, t76] w fun t77 w =>
  mv t77 fun t70 =>
  o1 Tryz.prog (Instr.extract t70 0) w fun t78 w =>
  o1 Tryz.prog (Instr.extract t70 1) w fun t79 w =>
  mv t78 fun t9 =>
  mv t79 fun t8_1 =>
  mv t8_1 fun t80 =>
  o1 Tryz.prog (bin .neq 30 (.tmp 80) (.const .nilIface) t80 .nilIface) w fun t81 w =>
  br t81 (fun _ =>
  mv t8_1 fun t82 =>
  mv (.slice none 0 0) fun t4_6 =>
  mv t82 fun t5_6 =>
  k (.tuple #[t4_6, t5_6]) w) (fun _ =>
  mv a0 fun t84 =>
  nilOk t84 = true ∧ mv t84 fun t85 =>
  o1 Tryz.prog (Instr.fieldAt 100 t85 4) w fun t86 w =>
  o1 Tryz.prog (Instr.loadAt 37 t86) w fun t87 w =>
  mv t6 fun t88 =>
  C Tryz.prog N.sha_Path #[t87, t88] w fun t89 w =>
  mv t89 fun t83 =>
  o1 Tryz.prog (Instr.extract t83 0) w fun t90 w =>
  o1 Tryz.prog (Instr.extract t83 1) w fun t91 w =>
  mv t90 fun t10 =>
  mv t91 fun t8_2 =>
  mv t8_2 fun t92 =>
  o1 Tryz.prog (bin .neq 30 (.tmp 92) (.const .nilIface) t92 .nilIface) w fun t93 w =>
  br t93 (fun _ =>
  mv t8_2 fun t94 =>
  mv (.slice none 0 0) fun t4_7 =>
  mv t94 fun t5_7 =>
  k (.tuple #[t4_7, t5_7]) w) (fun _ =>
  mv t6 fun t95 =>
  mv t9 fun t96 =>
  mv t10 fun t97 =>
  o1 Tryz.prog (Instr.build 74 #[(0, t95), (1, t96), (2, t97)]) w fun t98 w =>
  C Tryz.prog N.keys_signature_bytes #[t98] w fun t99 w =>
  mv t99 fun t4_8 =>
  mv .nilIface fun t5_8 =>
  k (.tuple #[t4_8, t5_8]) w)))))))
theorem C.keys_Signer_Sign {k : Value → World → Prop} {a0 a1 : Value} {w : World} (h : F.keys_Signer_Sign k a0 a1 w) : C Tryz.prog N.keys_Signer_Sign #[a0, a1] w k :=
  den_calls (H := { moves := [(4, (.take 0 (.take 1 (.take 2 (.take 3 (.take 4 (.take 5 .fin))))))), (9, (.take 0 (.take 1 (.take 2 (.take 3 (.take 4 (.take 5 .fin)))))))], vars := [4, 5, 6, 7, 8, 9, 10, 11, 16, 26] }) (args := [a0, a1]) mixed Tryz.func20 (by kernel_rfl) (by kernel_rfl) (by kernel_rfl) h

-- (*isthmus/keys.Signer).Left
def F.keys_Signer_Left (k : Value → World → Prop) (a0 : Value) (w : World) : Prop :=
  mv (.int .i64 0) fun t2 =>
  mv a0 fun t3 =>
  o1 Tryz.prog (bin .eql 50 (.tmp 3) (.const (.pointer none)) t3 (.pointer none)) w fun t4 w =>
  br t4 (fun _ =>
  mv (.int .i64 0) fun t2_1 =>
  k t2_1 w) (fun _ =>
  mv a0 fun t5 =>
  nilOk t5 = true ∧ mv t5 fun t6 =>
  tk Tryz.prog (fun w' => w' = w.drew) (Instr.fieldAt 100 t6 4) fun t7 =>
  tk Tryz.prog (fun w' => w' = w.drew) (Instr.loadAt 37 t7) fun t8 =>
  tk Tryz.prog (fun w' => w' = w.drew) (Builtin.len_ #[37] 3 #[t8]) fun t9 =>
  mv a0 fun t10 =>
  nilOk t10 = true ∧ mv t10 fun t11 =>
  tk Tryz.prog (fun w' => w' = w.drew) (Instr.fieldAt 100 t11 5) fun t12 =>
  tk Tryz.prog (fun w' => w' = w.drew) (Instr.loadAt 3 t12) fun t13 =>
  tk Tryz.prog (fun w' => w' = w.drew) (bin .sub 3 (.tmp 9) (.tmp 13) t9 t13) fun t14 =>
  mv t14 fun t2_2 =>
  k t2_2 w.drew)
theorem C.keys_Signer_Left {k : Value → World → Prop} {a0 : Value} {w : World} (h : F.keys_Signer_Left k a0 w) : C Tryz.prog N.keys_Signer_Left #[a0] w k :=
  den_calls (H := { moves := [(3, (.take 0 (.take 1 (.take 2 (.take 3 (.take 4 (.take 5 (.take 6 (.take 7 (.take 8 (.take 9 (.take 10 .fin))))))))))))], vars := [2] }) (args := [a0]) mixed Tryz.func21 (by kernel_rfl) (by kernel_rfl) (by kernel_rfl) h

-- (*isthmus/keys.Signer).Root
def F.keys_Signer_Root (k : Value → World → Prop) (a0 : Value) (w : World) : Prop :=
  o1 Tryz.prog (Instr.alloc 23 true (.tuple #[])) w fun t2 w =>
  mv a0 fun t3 =>
  o1 Tryz.prog (bin .eql 50 (.tmp 3) (.const (.pointer none)) t3 (.pointer none)) w fun t4 w =>
  br t4 (fun _ =>
  o1 Tryz.prog (Instr.build 23 #[]) w fun t5 w =>
  o0 Tryz.prog (Instr.storeAt 23 t2 t5) w fun _ w =>
  rc Tryz.prog 23 t2 w fun r0 =>
  k r0 w) (fun _ =>
  mv a0 fun t6 =>
  nilOk t6 = true ∧ mv t6 fun t7 =>
  o1 Tryz.prog (Instr.fieldAt 100 t7 4) w fun t8 w =>
  o1 Tryz.prog (Instr.loadAt 37 t8) w fun t9 w =>
  C Tryz.prog N.sha_Root #[t9] w fun t10 w =>
  o0 Tryz.prog (Instr.storeAt 23 t2 t10) w fun _ w =>
  rc Tryz.prog 23 t2 w fun r0 =>
  k r0 w)
theorem C.keys_Signer_Root {k : Value → World → Prop} {a0 : Value} {w : World} (h : F.keys_Signer_Root k a0 w) : C Tryz.prog N.keys_Signer_Root #[a0] w k :=
  den_calls (H := { moves := [], vars := [] }) (args := [a0]) mixed Tryz.func22 (by kernel_rfl) (by kernel_rfl) (by kernel_rfl) h

-- (*isthmus/files.FS).Arm
-- (*isthmus/files.FS).Down
-- (*isthmus/files.FS).Start
-- isthmus/keys.leaves
def F.keys_leaves (k : Value → World → Prop) (a0 a1 : Value) (w : World) : Prop :=
  o1 Tryz.prog (Instr.box 23 a0) w fun t2 w =>
  o1 Tryz.prog (Instr.box 25 a1) w fun t3 w =>
  mv (.slice none 0 0) fun t4 =>
  mv .nilIface fun t5 =>
  o1 Tryz.prog (Instr.loadAt 25 t3) w fun t11 w =>
  C Tryz.prog N.keys_Check #[t11] w fun t12 w =>
  mv t12 fun t6 =>
  mv t6 fun t13 =>
  o1 Tryz.prog (bin .neq 30 (.tmp 13) (.const .nilIface) t13 .nilIface) w fun t14 w =>
  br t14 (fun _ =>
  mv t6 fun t15 =>
  mv (.slice none 0 0) fun t4_1 =>
  mv t15 fun t5_1 =>
  k (.tuple #[t4_1, t5_1]) w) (fun _ =>
  mv (.slice none 0 0) fun t7 =>
  o1 Tryz.prog (Instr.fieldAt 25 t3 1) w fun t16 w =>
  o1 Tryz.prog (Instr.loadAt 3 t16) w fun t17 w =>
  o1 Tryz.prog (bin .shl 3 (.const (.int .i64 1)) (.tmp 17) (.int .i64 1) t17) w fun t18 w =>
  mv (.int .i64 0) fun t19 =>
  lp [t4, t5, t7, undef, undef, t19] w fun I1 μ1 => ∀ (x1 : Env) (w1 : World), I1 [x1 4, x1 5, x1 7, x1 8, x1 10, x1 19] w1 →
  o1 Tryz.prog (bin .lss 3 (.tmp 19) (.tmp 18) (x1 19) t18) w1 fun t20 w =>
  br t20 (fun _ =>
  mv (x1 19) fun t21 =>
  mv t21 fun t8 =>
  o1 Tryz.prog (Instr.loadAt 23 t2) w fun t23 w =>
  mv t8 fun t24 =>
  o1 Tryz.prog (Instr.fieldAt 25 t3 0) w fun t25 w =>
  o1 Tryz.prog (Instr.loadAt 3 t25) w fun t26 w =>
  C Tryz.prog N.wots_Public #[t23, t24, t26] w fun t27 w =>
  mv t27 fun t22 =>
  o1 Tryz.prog (Instr.extract t22 0) w fun t28 w =>
  o1 Tryz.prog (Instr.extract t22 1) w fun t29 w =>
  o1 Tryz.prog (Instr.alloc 23 true (.tuple #[])) w fun t9 w =>
  o0 Tryz.prog (Instr.storeAt 23 t9 t28) w fun _ w =>
  mv t29 fun t10 =>
  mv t10 fun t30 =>
  o1 Tryz.prog (bin .neq 30 (.tmp 30) (.const .nilIface) t30 .nilIface) w fun t31 w =>
  br t31 (fun _ =>
  mv t10 fun t32 =>
  mv (.slice none 0 0) fun t4_2 =>
  mv t32 fun t5_2 =>
  k (.tuple #[t4_2, t5_2]) w) (fun _ =>
  mv (x1 7) fun t33 =>
  o1 Tryz.prog (Instr.loadAt 23 t9) w fun t34 w =>
  o1 Tryz.prog (Instr.buildSlice 37 1 #[(0, t34)]) w fun t35 w =>
  ob Tryz.prog (fun _ => Builtin.append_ #[37, 37] 37 #[t33, t35]) w fun t36 w =>
  mv t36 fun t7_1 =>
  o1 Tryz.prog (bin .add 3 (.tmp 19) (.const (.int .i64 1)) (x1 19) (.int .i64 1)) w fun t37 w =>
  mv t37 fun t19_1 =>
  I1 [(x1 4), (x1 5), t7_1, t8, t10, t19_1] w ∧ μ1 [(x1 4), (x1 5), t7_1, t8, t10, t19_1] w < μ1 [x1 4, x1 5, x1 7, x1 8, x1 10, x1 19] w1)) (fun _ =>
  mv (x1 7) fun t38 =>
  mv t38 fun t4_3 =>
  mv .nilIface fun t5_3 =>
  k (.tuple #[t4_3, t5_3]) w))
theorem C.keys_leaves {k : Value → World → Prop} {a0 a1 : Value} {w : World} (h : F.keys_leaves k a0 a1 w) : C Tryz.prog N.keys_leaves #[a0, a1] w k :=
  den_calls (H := { moves := [], vars := [4, 5, 6, 7, 8, 10, 19] }) (args := [a0, a1]) mixed Tryz.func26 (by kernel_rfl) (by kernel_rfl) (by kernel_rfl) h

-- isthmus/sha.Root
def F.sha_Root (k : Value → World → Prop) (a0 : Value) (w : World) : Prop :=
  o1 Tryz.prog (Instr.alloc 23 true (.tuple #[])) w fun t2 w =>
  mv a0 fun t4 =>
  o1 Tryz.prog (Builtin.len_ #[37] 3 #[t4]) w fun t5 w =>
  o1 Tryz.prog (bin .eql 3 (.tmp 5) (.const (.int .i64 0)) t5 (.int .i64 0)) w fun t7 w =>
  mv t7 fun t6 =>
  br t6 (fun _ =>
  C Tryz.prog N.sha_Sum #[.slice none 0 0] w fun t8 w =>
  o0 Tryz.prog (Instr.storeAt 23 t2 t8) w fun _ w =>
  rc Tryz.prog 23 t2 w fun r0 =>
  k r0 w) (fun _ =>
  o1 Tryz.prog (bin .eql 3 (.tmp 5) (.const (.int .i64 1)) t5 (.int .i64 1)) w fun t10 w =>
  mv t10 fun t9 =>
  br t9 (fun _ =>
  mv a0 fun t11 =>
  o1 Tryz.prog (Instr.indexAt 37 t11 (.int .i64 0)) w fun t12 w =>
  o1 Tryz.prog (Instr.loadAt 23 t12) w fun t13 w =>
  o0 Tryz.prog (Instr.storeAt 23 t2 t13) w fun _ w =>
  rc Tryz.prog 23 t2 w fun r0 =>
  k r0 w) (fun _ =>
  mv a0 fun t14 =>
  o1 Tryz.prog (Builtin.len_ #[37] 3 #[t14]) w fun t15 w =>
  C Tryz.prog N.sha_half #[t15] w fun t16 w =>
  mv t16 fun t3 =>
  dr w.drew fun S1 =>
  mv a0 fun t17 =>
  mv t3 fun t18 =>
  tk Tryz.prog S1 (Instr.sliceAt 37 t17 none (some t18) none) fun t19 =>
  mv a0 fun t21 =>
  mv t3 fun t22 =>
  tk Tryz.prog S1 (Instr.sliceAt 37 t21 (some t22) none none) fun t23 =>
  C Tryz.prog N.sha_Root #[t19] w.drew fun t20 w =>
  S1 w ∧
  C Tryz.prog N.sha_Root #[t23] w fun t24 w =>
  S1 w ∧
  C Tryz.prog N.sha_Node #[t20, t24] w fun t25 w =>
  S1 w ∧
  o0 Tryz.prog (Instr.storeAt 23 t2 t25) w fun _ w =>
  rc Tryz.prog 23 t2 w fun r0 =>
  k r0 w))
theorem C.sha_Root {k : Value → World → Prop} {a0 : Value} {w : World} (h : F.sha_Root k a0 w) : C Tryz.prog N.sha_Root #[a0] w k :=
  den_calls (H := { moves := [(7, (.take 0 (.take 1 (.take 2 (.take 4 (.take 5 (.take 6 (.force 3 (.force 7 (.force 8 (.last 9)))))))))))], vars := [3, 6, 9] }) (args := [a0]) mixed Tryz.func27 (by kernel_rfl) (by kernel_rfl) (by kernel_rfl) h

-- isthmus/isthmusref01.Root
def F.isthmusref01_Root (k : Value → World → Prop) (a0 : Value) (w : World) : Prop :=
  o1 Tryz.prog (Instr.alloc 23 true (.tuple #[])) w fun t2 w =>
  mv a0 fun t4 =>
  o1 Tryz.prog (Builtin.len_ #[37] 3 #[t4]) w fun t5 w =>
  o1 Tryz.prog (bin .eql 3 (.tmp 5) (.const (.int .i64 0)) t5 (.int .i64 0)) w fun t6 w =>
  br t6 (fun _ =>
  C Tryz.prog N.isthmusref01_Sum #[.slice none 0 0] w fun t7 w =>
  o0 Tryz.prog (Instr.storeAt 23 t2 t7) w fun _ w =>
  rc Tryz.prog 23 t2 w fun r0 =>
  k r0 w) (fun _ =>
  mv a0 fun t8 =>
  o1 Tryz.prog (Builtin.len_ #[37] 3 #[t8]) w fun t9 w =>
  o1 Tryz.prog (bin .eql 3 (.tmp 9) (.const (.int .i64 1)) t9 (.int .i64 1)) w fun t10 w =>
  br t10 (fun _ =>
  mv a0 fun t11 =>
  o1 Tryz.prog (Instr.indexAt 37 t11 (.int .i64 0)) w fun t12 w =>
  o1 Tryz.prog (Instr.loadAt 23 t12) w fun t13 w =>
  o0 Tryz.prog (Instr.storeAt 23 t2 t13) w fun _ w =>
  rc Tryz.prog 23 t2 w fun r0 =>
  k r0 w) (fun _ =>
  mv a0 fun t14 =>
  o1 Tryz.prog (Builtin.len_ #[37] 3 #[t14]) w fun t15 w =>
  C Tryz.prog N.isthmusref01_split #[t15] w fun t16 w =>
  mv t16 fun t3 =>
  dr w.drew fun S1 =>
  mv a0 fun t17 =>
  mv t3 fun t18 =>
  tk Tryz.prog S1 (Instr.sliceAt 37 t17 none (some t18) none) fun t19 =>
  mv a0 fun t21 =>
  mv t3 fun t22 =>
  tk Tryz.prog S1 (Instr.sliceAt 37 t21 (some t22) none none) fun t23 =>
  C Tryz.prog N.isthmusref01_Root #[t19] w.drew fun t20 w =>
  S1 w ∧
  C Tryz.prog N.isthmusref01_Root #[t23] w fun t24 w =>
  S1 w ∧
  C Tryz.prog N.isthmusref01_Node #[t20, t24] w fun t25 w =>
  S1 w ∧
  o0 Tryz.prog (Instr.storeAt 23 t2 t25) w fun _ w =>
  rc Tryz.prog 23 t2 w fun r0 =>
  k r0 w))
theorem C.isthmusref01_Root {k : Value → World → Prop} {a0 : Value} {w : World} (h : F.isthmusref01_Root k a0 w) : C Tryz.prog N.isthmusref01_Root #[a0] w k :=
  den_calls (H := { moves := [(6, (.take 0 (.take 1 (.take 2 (.take 4 (.take 5 (.take 6 (.force 3 (.force 7 (.force 8 (.last 9)))))))))))], vars := [3] }) (args := [a0]) mixed Tryz.func28 (by kernel_rfl) (by kernel_rfl) (by kernel_rfl) h

-- isthmus/isthmusref06.Leaves
def F.isthmusref06_Leaves (k : Value → World → Prop) (a0 a1 : Value) (w : World) : Prop :=
  o1 Tryz.prog (Instr.box 23 a0) w fun t2 w =>
  o1 Tryz.prog (Instr.box 25 a1) w fun t3 w =>
  mv (.slice none 0 0) fun t4 =>
  mv (.slice none 0 0) fun t5 =>
  mv (.int .i64 0) fun t6 =>
  lp [t5, t6, undef] w fun I1 μ1 => ∀ (x1 : Env) (w1 : World), I1 [x1 5, x1 6, x1 8] w1 →
  mv (x1 6) fun t9 =>
  o1 Tryz.prog (Instr.fieldAt 25 t3 1) w1 fun t10 w =>
  o1 Tryz.prog (Instr.loadAt 3 t10) w fun t11 w =>
  o1 Tryz.prog (convert 3 49 t11) w fun t12 w =>
  o1 Tryz.prog (bin .shl 3 (.const (.int .i64 1)) (.tmp 12) (.int .i64 1) t12) w fun t13 w =>
  o1 Tryz.prog (bin .lss 3 (.tmp 9) (.tmp 13) t9 t13) w fun t14 w =>
  br t14 (fun _ =>
  o1 Tryz.prog (Instr.loadAt 23 t2) w fun t18 w =>
  mv (x1 6) fun t19 =>
  o1 Tryz.prog (Instr.fieldAt 25 t3 0) w fun t20 w =>
  o1 Tryz.prog (Instr.loadAt 3 t20) w fun t21 w =>
  C Tryz.prog N.isthmusref05_Public #[t18, t19, t21] w fun t22 w =>
  mv t22 fun t17 =>
  o1 Tryz.prog (Instr.extract t17 0) w fun t23 w =>
  o1 Tryz.prog (Instr.extract t17 1) w fun t24 w =>
  o1 Tryz.prog (Instr.alloc 23 true (.tuple #[])) w fun t7 w =>
  o0 Tryz.prog (Instr.storeAt 23 t7 t23) w fun _ w =>
  mv t24 fun t8 =>
  mv (x1 5) fun t25 =>
  o1 Tryz.prog (Instr.loadAt 23 t7) w fun t26 w =>
  o1 Tryz.prog (Instr.buildSlice 37 1 #[(0, t26)]) w fun t27 w =>
  ob Tryz.prog (fun _ => Builtin.append_ #[37, 37] 37 #[t25, t27]) w fun t28 w =>
  mv t28 fun t5_1 =>
  mv (x1 6) fun t15 =>
  o1 Tryz.prog (bin .add 3 (.tmp 15) (.const (.int .i64 1)) t15 (.int .i64 1)) w fun t16 w =>
  mv t16 fun t6_1 =>
  I1 [t5_1, t6_1, t8] w ∧ μ1 [t5_1, t6_1, t8] w < μ1 [x1 5, x1 6, x1 8] w1) (fun _ =>
  mv (x1 5) fun t29 =>
  mv t29 fun t4_1 =>
  k t4_1 w)
theorem C.isthmusref06_Leaves {k : Value → World → Prop} {a0 a1 : Value} {w : World} (h : F.isthmusref06_Leaves k a0 a1 w) : C Tryz.prog N.isthmusref06_Leaves #[a0, a1] w k :=
  den_calls (H := { moves := [], vars := [4, 5, 6, 8] }) (args := [a0, a1]) mixed Tryz.func29 (by kernel_rfl) (by kernel_rfl) (by kernel_rfl) h

end Go.Proofs.YtbbmgkbinnomgaaGreatDoor
