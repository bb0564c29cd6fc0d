/- What each function asks: printed by hoas.py off the loaded program; each is held against the program by the kernel. -/
import Derived.Test.YtiaiglgfangedaaN
set_option linter.unusedVariables false
set_option linter.unusedSimpArgs false
set_option linter.unusedSectionVars false
namespace Go.Proofs.Ytiaiglgfangedaa
open Go Go.Isk
set_option maxRecDepth 100000
-- gosem.cut.init
-- isthmus/isthmuslaw04.FilesSafe
def F.isthmuslaw04_FilesSafe (k : Value → World → Prop) (a0 a1 a2 : Value) (w : World) : Prop :=
  o1 Try.prog (Instr.box 25 a2) w fun t5 w =>
  mv (.bool false) fun t6 =>
  C Try.prog N.files_New #[] w fun t14 w =>
  mv t14 fun t7 =>
  mv t7 fun t15 =>
  o1 Try.prog (bin .eql 26 (.tmp 15) (.const (.pointer none)) t15 (.pointer none)) w fun t16 w =>
  mv t16 fun t17 =>
  gd t17 false (fun k1 => mv a0 fun v => k1 v w) w fun t18 w =>
  gd t17 false (fun k2 => o1 Try.prog (Builtin.len_ #[22] 3 #[t18]) w k2) w fun t19 w =>
  gd t17 false (fun k3 => o1 Try.prog (bin .gtr 3 (.tmp 19) (.const (.int .i64 1048576)) t19 (.int .i64 1048576)) w k3) w fun t20 w =>
  pk t17 (.bool true) t20 fun t21 =>
  mv t21 fun t22 =>
  gd t22 false (fun k4 => mv a1 fun v => k4 v w) w fun t23 w =>
  gd t22 false (fun k5 => o1 Try.prog (Builtin.len_ #[22] 3 #[t23]) w k5) w fun t24 w =>
  gd t22 false (fun k6 => o1 Try.prog (bin .gtr 3 (.tmp 24) (.const (.int .i64 1048576)) t24 (.int .i64 1048576)) w k6) w fun t25 w =>
  pk t22 (.bool true) t25 fun t26 =>
  br t26 (fun _ =>
  mv t7 fun t27 =>
  o1 Try.prog (bin .neq 26 (.tmp 27) (.const (.pointer none)) t27 (.pointer none)) w fun t28 w =>
  mv t28 fun t29 =>
  gd t29 true (fun k7 => C Try.prog N.isthmuslaw04_sure #[] w k7) w fun t30 w =>
  pk t29 t30 (.bool false) fun t31 =>
  mv t31 fun t6_1 =>
  k t6_1 w) (fun _ =>
  mv t7 fun t32 =>
  mv a0 fun t33 =>
  C Try.prog N.files_FS_Append #[t32, .string ⟨#[108, 111, 103]⟩, t33] w fun t34 w =>
  o1 Try.prog (bin .neq 30 (.tmp 34) (.const .nilIface) t34 .nilIface) w fun t35 w =>
  mv t35 fun t36 =>
  gd t36 false (fun k8 => mv t7 fun v => k8 v w) w fun t37 w =>
  gd t36 false (fun k9 => C Try.prog N.files_FS_Sync #[t37, .string ⟨#[108, 111, 103]⟩] w k9) w fun t38 w =>
  gd t36 false (fun k10 => o1 Try.prog (bin .neq 30 (.tmp 38) (.const .nilIface) t38 .nilIface) w k10) w fun t39 w =>
  pk t36 (.bool true) t39 fun t40 =>
  mv t40 fun t41 =>
  gd t41 false (fun k11 => mv t7 fun v => k11 v w) w fun t42 w =>
  gd t41 false (fun k12 => o1 Try.prog (Instr.fieldAt 25 t5 1) w k12) w fun t43 w =>
  gd t41 false (fun k13 => o1 Try.prog (Instr.loadAt 3 t43) w k13) w fun t44 w =>
  gd t41 false (fun k14 => o1 Try.prog (convert 3 34 t44) w k14) w fun t45 w =>
  gd t41 false (fun k15 => o1 Try.prog (bin .rem 34 (.tmp 45) (.const (.int .u64 4)) t45 (.int .u64 4)) w k15) w fun t46 w =>
  gd t41 false (fun k16 => o1 Try.prog (convert 34 3 t46) w k16) w fun t47 w =>
  gd t41 false (fun k17 => C Try.prog N.files_FS_Arm #[t42, t47] w k17) w fun t48 w =>
  gd t41 false (fun k18 => o1 Try.prog (bin .neq 30 (.tmp 48) (.const .nilIface) t48 .nilIface) w k18) w fun t49 w =>
  pk t41 (.bool true) t49 fun t50 =>
  br t50 (fun _ =>
  mv (.bool false) fun t6_2 =>
  k t6_2 w) (fun _ =>
  mv (.int .i64 0) fun t8 =>
  lp [t8] w fun I1 μ1 => ∀ (x1 : Env) (w1 : World), I1 [x1 8] w1 →
  mv (x1 8) fun t51 =>
  o1 Try.prog (bin .lss 3 (.tmp 51) (.const (.int .i64 3)) t51 (.int .i64 3)) w1 fun t52 w =>
  br t52 (fun _ =>
  mv t7 fun t55 =>
  mv a1 fun t56 =>
  C Try.prog N.files_FS_Append #[t55, .string ⟨#[108, 111, 103]⟩, t56] w fun t57 w =>
  mv t7 fun t58 =>
  mv a1 fun t59 =>
  C Try.prog N.files_FS_Append #[t58, .string ⟨#[122]⟩, t59] w fun t60 w =>
  mv (x1 8) fun t53 =>
  o1 Try.prog (bin .add 3 (.tmp 53) (.const (.int .i64 1)) t53 (.int .i64 1)) w fun t54 w =>
  mv t54 fun t8_1 =>
  I1 [t8_1] w ∧ μ1 [t8_1] w < μ1 [x1 8] w1) (fun _ =>
  mv t7 fun t61 =>
  o1 Try.prog (Instr.fieldAt 25 t5 5) w fun t62 w =>
  o1 Try.prog (Instr.loadAt 23 t62) w fun t63 w =>
  C Try.prog N.files_FS_Start #[t61, t63] w fun t64 w =>
  mv t7 fun t66 =>
  C Try.prog N.files_FS_Read #[t66, .string ⟨#[108, 111, 103]⟩] w fun t67 w =>
  mv t67 fun t65 =>
  o1 Try.prog (Instr.extract t65 0) w fun t68 w =>
  o1 Try.prog (Instr.extract t65 1) w fun t69 w =>
  mv t68 fun t9 =>
  mv t69 fun t10 =>
  mv t7 fun t71 =>
  C Try.prog N.files_FS_Safe #[t71, .string ⟨#[108, 111, 103]⟩] w fun t72 w =>
  mv t72 fun t70 =>
  o1 Try.prog (Instr.extract t70 0) w fun t73 w =>
  o1 Try.prog (Instr.extract t70 1) w fun t74 w =>
  mv t73 fun t11 =>
  mv t74 fun t12 =>
  mv a0 fun t75 =>
  o1 Try.prog (convert 22 9 t75) w fun t76 w =>
  mv a1 fun t77 =>
  o1 Try.prog (convert 22 9 t77) w fun t78 w =>
  o1 Try.prog (bin .add 9 (.tmp 76) (.tmp 78) t76 t78) w fun t79 w =>
  mv a1 fun t80 =>
  o1 Try.prog (convert 22 9 t80) w fun t81 w =>
  o1 Try.prog (bin .add 9 (.tmp 79) (.tmp 81) t79 t81) w fun t82 w =>
  mv a1 fun t83 =>
  o1 Try.prog (convert 22 9 t83) w fun t84 w =>
  o1 Try.prog (bin .add 9 (.tmp 82) (.tmp 84) t82 t84) w fun t85 w =>
  mv t85 fun t13 =>
  dr w.drew fun S1 =>
  mv t10 fun t86 =>
  tk Try.prog S1 (bin .eql 30 (.tmp 86) (.const .nilIface) t86 .nilIface) fun t87 =>
  mv t87 fun t88 =>
  gdT t88 true (fun k19 => mv t12 k19) fun t89 =>
  gdT t88 true (fun k20 => tk Try.prog S1 (bin .eql 30 (.tmp 89) (.const .nilIface) t89 .nilIface) k20) fun t90 =>
  pk t88 t90 (.bool false) fun t91 =>
  mv t91 fun t92 =>
  gdT t92 true (fun k21 => mv t9 k21) fun t93 =>
  gdT t92 true (fun k22 => tk Try.prog S1 (Builtin.len_ #[22] 3 #[t93]) k22) fun t94 =>
  gdT t92 true (fun k23 => mv a0 k23) fun t95 =>
  gdT t92 true (fun k24 => tk Try.prog S1 (Builtin.len_ #[22] 3 #[t95]) k24) fun t96 =>
  gdT t92 true (fun k25 => tk Try.prog S1 (bin .geq 3 (.tmp 94) (.tmp 96) t94 t96) k25) fun t97 =>
  pk t92 t97 (.bool false) fun t98 =>
  mv t98 fun t99 =>
  gdT t99 true (fun k26 => mv t9 k26) fun t100 =>
  gdT t99 true (fun k27 => tk Try.prog S1 (Builtin.len_ #[22] 3 #[t100]) k27) fun t101 =>
  gdT t99 true (fun k28 => mv t13 k28) fun t102 =>
  gdT t99 true (fun k29 => tk Try.prog S1 (Builtin.len_ #[9] 3 #[t102]) k29) fun t103 =>
  gdT t99 true (fun k30 => tk Try.prog S1 (bin .leq 3 (.tmp 101) (.tmp 103) t101 t103) k30) fun t104 =>
  pk t99 t104 (.bool false) fun t105 =>
  mv t105 fun t106 =>
  gdT t106 true (fun k31 => mv t9 k31) fun t107 =>
  gdT t106 true (fun k32 => tk Try.prog S1 (convert 22 9 t107) k32) fun t108 =>
  gdT t106 true (fun k33 => mv t13 k33) fun t109 =>
  gdT t106 true (fun k34 => mv t9 k34) fun t110 =>
  gdT t106 true (fun k35 => tk Try.prog S1 (Builtin.len_ #[22] 3 #[t110]) k35) fun t111 =>
  gdT t106 true (fun k36 => tk Try.prog S1 (Instr.sliceAt 9 t109 none (some t111) none) k36) fun t112 =>
  gdT t106 true (fun k37 => tk Try.prog S1 (bin .eql 9 (.tmp 108) (.tmp 112) t108 t112) k37) fun t113 =>
  pk t106 t113 (.bool false) fun t114 =>
  mv t114 fun t115 =>
  gdT t115 true (fun k38 => mv t11 k38) fun t116 =>
  gdT t115 true (fun k39 => mv t9 k39) fun t117 =>
  gdT t115 true (fun k40 => tk Try.prog S1 (Builtin.len_ #[22] 3 #[t117]) k40) fun t118 =>
  gdT t115 true (fun k41 => tk Try.prog S1 (bin .eql 3 (.tmp 116) (.tmp 118) t116 t118) k41) fun t119 =>
  pk t115 t119 (.bool false) fun t120 =>
  mv t120 fun t121 =>
  gdT t121 true (fun k42 => mv t7 k42) fun t122 =>
  gd t121 true (fun k43 => C Try.prog N.files_FS_Down #[t122] w.drew k43) w.drew fun t123 w =>
  S1 w ∧
  gdT t121 true (fun k44 => tk Try.prog S1 (Op.unary .not t123) k44) fun t124 =>
  pk t121 t124 (.bool false) fun t125 =>
  mv t125 fun t126 =>
  gd t126 true (fun k45 => C Try.prog N.isthmuslaw04_sure #[] w k45) w fun t127 w =>
  S1 w ∧
  pk t126 t127 (.bool false) fun t128 =>
  mv t128 fun t6_3 =>
  k t6_3 w)))
theorem C.isthmuslaw04_FilesSafe {k : Value → World → Prop} {a0 a1 a2 : Value} {w : World} (h : F.isthmuslaw04_FilesSafe k a0 a1 a2 w) : C Try.prog N.isthmuslaw04_FilesSafe #[a0, a1, a2] w k :=
  den_calls (H := { moves := [(15, (.take 0 (.take 1 (.take 2 (.take 3 (.take 4 (.take 5 (.take 6 (.take 7 (.take 8 (.take 9 (.take 10 (.take 11 (.take 12 (.take 13 (.take 14 (.take 15 (.take 16 (.take 17 (.take 18 (.take 19 (.take 20 (.take 21 (.take 22 (.take 23 (.take 24 (.take 25 (.take 26 (.take 27 (.take 28 (.take 29 (.take 30 (.take 31 (.take 32 (.take 33 (.take 34 (.take 35 (.take 36 (.force 37 (.take 38 (.take 39 (.take 40 (.force 41 (.take 42 (.take 43 .fin)))))))))))))))))))))))))))))))))))))))))))))], vars := [6, 7, 8, 9, 10, 11, 12, 13] }) (args := [a0, a1, a2]) mixed Try.func3 (by kernel_rfl) (by kernel_rfl) (by kernel_rfl) h

-- isthmus/files.New
def F.files_New (k : Value → World → Prop) (w : World) : Prop :=
  mv (.pointer none) fun t0 =>
  o1 Try.prog (Instr.makeMap 41 none) w fun t1 w =>
  o1 Try.prog (Instr.build 43 #[(0, t1)]) w fun t2 w =>
  o1 Try.prog (Instr.box 43 t2) w fun t3 w =>
  mv t3 fun t0_1 =>
  k t0_1 w
theorem C.files_New {k : Value → World → Prop} {w : World} (h : F.files_New k  w) : C Try.prog N.files_New #[] w k :=
  den_calls (H := { moves := [], vars := [0] }) (args := []) mixed Try.func4 (by kernel_rfl) (by kernel_rfl) (by kernel_rfl) h

-- isthmus/isthmuslaw04.sure
def F.isthmuslaw04_sure (k : Value → World → Prop) (w : World) : Prop :=
  mv (.bool false) fun t0 =>
  C Try.prog N.files_New #[] w fun t7 w =>
  mv t7 fun t1 =>
  mv t1 fun t8 =>
  o1 Try.prog (bin .eql 26 (.tmp 8) (.const (.pointer none)) t8 (.pointer none)) w fun t9 w =>
  br t9 (fun _ =>
  mv (.bool false) fun t0_1 =>
  k t0_1 w) (fun _ =>
  mv t1 fun t10 =>
  o1 Try.prog (Instr.buildSlice 22 3 #[(0, .int .u8 97), (1, .int .u8 98), (2, .int .u8 99)]) w fun t11 w =>
  o1 Try.prog (convert 22 22 t11) w fun t12 w =>
  C Try.prog N.files_FS_Append #[t10, .string ⟨#[102]⟩, t12] w fun t13 w =>
  mv t1 fun t14 =>
  C Try.prog N.files_FS_Sync #[t14, .string ⟨#[102]⟩] w fun t15 w =>
  mv t1 fun t16 =>
  o1 Try.prog (Instr.buildSlice 22 3 #[(0, .int .u8 100), (1, .int .u8 101), (2, .int .u8 102)]) w fun t17 w =>
  o1 Try.prog (convert 22 22 t17) w fun t18 w =>
  C Try.prog N.files_FS_Append #[t16, .string ⟨#[102]⟩, t18] w fun t19 w =>
  mv t13 fun t2 =>
  mv t15 fun t3 =>
  mv t19 fun t4 =>
  mv t1 fun t20 =>
  o1 Try.prog (Instr.buildSlice 23 1 #[(0, .int .i64 1)]) w fun t21 w =>
  C Try.prog N.files_FS_Start #[t20, t21] w fun t22 w =>
  mv t1 fun t24 =>
  C Try.prog N.files_FS_Read #[t24, .string ⟨#[102]⟩] w fun t25 w =>
  mv t25 fun t23 =>
  o1 Try.prog (Instr.extract t23 0) w fun t26 w =>
  o1 Try.prog (Instr.extract t23 1) w fun t27 w =>
  mv t26 fun t5 =>
  mv t27 fun t6 =>
  mv t2 fun t28 =>
  o1 Try.prog (bin .eql 30 (.tmp 28) (.const .nilIface) t28 .nilIface) w fun t29 w =>
  mv t29 fun t30 =>
  gd t30 true (fun k1 => mv t3 fun v => k1 v w) w fun t31 w =>
  gd t30 true (fun k2 => o1 Try.prog (bin .eql 30 (.tmp 31) (.const .nilIface) t31 .nilIface) w k2) w fun t32 w =>
  pk t30 t32 (.bool false) fun t33 =>
  mv t33 fun t34 =>
  gd t34 true (fun k3 => mv t4 fun v => k3 v w) w fun t35 w =>
  gd t34 true (fun k4 => o1 Try.prog (bin .eql 30 (.tmp 35) (.const .nilIface) t35 .nilIface) w k4) w fun t36 w =>
  pk t34 t36 (.bool false) fun t37 =>
  mv t37 fun t38 =>
  gd t38 true (fun k5 => mv t6 fun v => k5 v w) w fun t39 w =>
  gd t38 true (fun k6 => o1 Try.prog (bin .eql 30 (.tmp 39) (.const .nilIface) t39 .nilIface) w k6) w fun t40 w =>
  pk t38 t40 (.bool false) fun t41 =>
  mv t41 fun t42 =>
  gd t42 true (fun k7 => mv t5 fun v => k7 v w) w fun t43 w =>
  gd t42 true (fun k8 => o1 Try.prog (convert 22 9 t43) w k8) w fun t44 w =>
  gd t42 true (fun k9 => o1 Try.prog (bin .eql 9 (.tmp 44) (.const (.string ⟨#[97, 98, 99, 100]⟩)) t44 (.string ⟨#[97, 98, 99, 100]⟩)) w k9) w fun t45 w =>
  pk t42 t45 (.bool false) fun t46 =>
  mv t46 fun t0_2 =>
  k t0_2 w)
theorem C.isthmuslaw04_sure {k : Value → World → Prop} {w : World} (h : F.isthmuslaw04_sure k  w) : C Try.prog N.isthmuslaw04_sure #[] w k :=
  den_calls (H := { moves := [], vars := [0, 1, 2, 3, 4, 5, 6] }) (args := []) mixed Try.func5 (by kernel_rfl) (by kernel_rfl) (by kernel_rfl) h

-- (*isthmus/files.FS).Append
def F.files_FS_Append (k : Value → World → Prop) (a0 a1 a2 : Value) (w : World) : Prop :=
  mv .nilIface fun t6 =>
  mv a0 fun t10 =>
  mv a1 fun t11 =>
  o1 Try.prog (Instr.buildSlice 53 1 #[(0, t11)]) w fun t12 w =>
  C Try.prog N.files_FS_ready #[t10, t12] w fun t13 w =>
  mv t13 fun t7 =>
  mv t7 fun t14 =>
  o1 Try.prog (bin .neq 30 (.tmp 14) (.const .nilIface) t14 .nilIface) w fun t15 w =>
  br t15 (fun _ =>
  mv t7 fun t16 =>
  mv t16 fun t6_1 =>
  k t6_1 w) (fun _ =>
  mv a0 fun t18 =>
  nilOk t18 = true ∧ mv t18 fun t19 =>
  o1 Try.prog (Instr.fieldAt 43 t19 0) w fun t20 w =>
  o1 Try.prog (Instr.loadAt 41 t20) w fun t21 w =>
  mv a1 fun t22 =>
  o1 Try.prog (Instr.lookup 41 t21 t22 true) w fun t23 w =>
  mv t23 fun t17 =>
  o1 Try.prog (Instr.extract t17 0) w fun t24 w =>
  o1 Try.prog (Instr.extract t17 1) w fun t25 w =>
  o1 Try.prog (Instr.alloc 46 true (.tuple #[])) w fun t8 w =>
  o0 Try.prog (Instr.storeAt 46 t8 t24) w fun _ w =>
  mv t25 fun t9 =>
  mv t9 fun t27 =>
  o1 Try.prog (Op.unary .not t27) w fun t28 w =>
  mv t28 fun t29 =>
  gd t29 true (fun k1 => mv a0 fun v => k1 v w) w fun t30 w =>
  gd t29 true (fun k2 => nilOk t30 = true ∧ mv t30 fun v => k2 v w) w fun t31 w =>
  gd t29 true (fun k3 => o1 Try.prog (Instr.fieldAt 43 t31 0) w k3) w fun t32 w =>
  gd t29 true (fun k4 => o1 Try.prog (Instr.loadAt 41 t32) w k4) w fun t33 w =>
  gd t29 true (fun k5 => o1 Try.prog (Builtin.len_ #[41] 3 #[t33]) w k5) w fun t34 w =>
  gd t29 true (fun k6 => o1 Try.prog (bin .geq 3 (.tmp 34) (.const (.int .i64 64)) t34 (.int .i64 64)) w k6) w fun t35 w =>
  pk t29 t35 (.bool false) fun t36 =>
  mv t36 fun t26 =>
  br t26 (fun _ =>
  mv a1 fun t37 =>
  C Try.prog N.files_fault #[t37, .int .i64 10] w fun t38 w =>
  mv t38 fun t6_2 =>
  k t6_2 w) (fun _ =>
  mv a2 fun t40 =>
  o1 Try.prog (Builtin.len_ #[22] 3 #[t40]) w fun t41 w =>
  o1 Try.prog (Instr.fieldAt 46 t8 0) w fun t42 w =>
  o1 Try.prog (Instr.loadAt 22 t42) w fun t43 w =>
  o1 Try.prog (Builtin.len_ #[22] 3 #[t43]) w fun t44 w =>
  o1 Try.prog (bin .sub 3 (.const (.int .i64 16777216)) (.tmp 44) (.int .i64 16777216) t44) w fun t45 w =>
  o1 Try.prog (bin .gtr 3 (.tmp 41) (.tmp 45) t41 t45) w fun t46 w =>
  mv t46 fun t39 =>
  br t39 (fun _ =>
  mv a1 fun t47 =>
  C Try.prog N.files_fault #[t47, .int .i64 2] w fun t48 w =>
  mv t48 fun t6_3 =>
  k t6_3 w) (fun _ =>
  o1 Try.prog (Instr.fieldAt 46 t8 0) w fun t49 w =>
  o1 Try.prog (Instr.loadAt 22 t49) w fun t50 w =>
  o1 Try.prog (Instr.fieldAt 46 t8 0) w fun t51 w =>
  o1 Try.prog (Instr.loadAt 22 t51) w fun t52 w =>
  o1 Try.prog (Builtin.len_ #[22] 3 #[t52]) w fun t53 w =>
  o1 Try.prog (Instr.fieldAt 46 t8 0) w fun t54 w =>
  o1 Try.prog (Instr.loadAt 22 t54) w fun t55 w =>
  o1 Try.prog (Builtin.len_ #[22] 3 #[t55]) w fun t56 w =>
  o1 Try.prog (Instr.sliceAt 22 t50 none (some t53) (some t56)) w fun t57 w =>
  mv a2 fun t58 =>
  ob Try.prog (fun _ => Builtin.append_ #[22, 22] 22 #[t57, t58]) w fun t59 w =>
  o1 Try.prog (Instr.fieldAt 46 t8 0) w fun t60 w =>
  o0 Try.prog (Instr.storeAt 22 t60 t59) w fun _ w =>
  dr w.drew fun S1 =>
  mv a0 fun t61 =>
  nilOk t61 = true ∧ mv t61 fun t62 =>
  tk Try.prog S1 (Instr.fieldAt 43 t62 0) fun t63 =>
  tk Try.prog S1 (Instr.loadAt 41 t63) fun t64 =>
  mv a1 fun t65 =>
  tk Try.prog S1 (Instr.loadAt 46 t8) fun t66 =>
  o0 Try.prog (Instr.mapUpdate 41 t64 t65 t66) w.drew fun _ w =>
  mv a0 fun t67 =>
  C Try.prog N.files_FS_step #[t67] w fun t68 w =>
  mv t68 fun t6_4 =>
  k t6_4 w)))
theorem C.files_FS_Append {k : Value → World → Prop} {a0 a1 a2 : Value} {w : World} (h : F.files_FS_Append k a0 a1 a2 w) : C Try.prog N.files_FS_Append #[a0, a1, a2] w k :=
  den_calls (H := { moves := [(10, (.take 0 (.take 1 (.take 2 (.take 3 (.take 4 (.take 5 (.last 6))))))))], vars := [6, 7, 9, 26, 39] }) (args := [a0, a1, a2]) mixed Try.func6 (by kernel_rfl) (by kernel_rfl) (by kernel_rfl) h

-- (*isthmus/files.FS).Sync
def F.files_FS_Sync (k : Value → World → Prop) (a0 a1 : Value) (w : World) : Prop :=
  o1 Try.prog (Instr.box 26 a0) w fun t2 w =>
  o1 Try.prog (Instr.box 9 a1) w fun t3 w =>
  mv .nilIface fun t4 =>
  o1 Try.prog (Instr.loadAt 26 t2) w fun t5 w =>
  o1 Try.prog (Instr.loadAt 9 t3) w fun t6 w =>
  o1 Try.prog (Instr.makeFunc (.func 17) #[] #[t2, t3]) w fun t7 w =>
  C Try.prog N.files_FS_change #[t5, t6, t7] w fun t8 w =>
  mv t8 fun t4_1 =>
  k t4_1 w
theorem C.files_FS_Sync {k : Value → World → Prop} {a0 a1 : Value} {w : World} (h : F.files_FS_Sync k a0 a1 w) : C Try.prog N.files_FS_Sync #[a0, a1] w k :=
  den_calls (H := { moves := [], vars := [4] }) (args := [a0, a1]) mixed Try.func7 (by kernel_rfl) (by kernel_rfl) (by kernel_rfl) h

-- (*isthmus/files.FS).Arm
def F.files_FS_Arm (k : Value → World → Prop) (a0 a1 : Value) (w : World) : Prop :=
  mv .nilIface fun t4 =>
  mv a0 fun t6 =>
  o1 Try.prog (bin .eql 26 (.tmp 6) (.const (.pointer none)) t6 (.pointer none)) w fun t7 w =>
  mv t7 fun t8 =>
  gd t8 false (fun k1 => mv a1 fun v => k1 v w) w fun t9 w =>
  gd t8 false (fun k2 => o1 Try.prog (bin .lss 3 (.tmp 9) (.const (.int .i64 0)) t9 (.int .i64 0)) w k2) w fun t10 w =>
  pk t8 (.bool true) t10 fun t11 =>
  br t11 (fun _ =>
  C Try.prog N.files_fault #[.string ⟨#[]⟩, .int .i64 1] w fun t12 w =>
  mv t12 fun t4_1 =>
  k t4_1 w) (fun _ =>
  mv a0 fun t13 =>
  C Try.prog N.files_FS_ready #[t13, .slice none 0 0] w fun t14 w =>
  mv t14 fun t5 =>
  mv t5 fun t15 =>
  o1 Try.prog (bin .neq 30 (.tmp 15) (.const .nilIface) t15 .nilIface) w fun t16 w =>
  br t16 (fun _ =>
  mv t5 fun t17 =>
  mv t17 fun t4_2 =>
  k t4_2 w) (fun _ =>
  mv a0 fun t18 =>
  mv a0 fun t19 =>
  mv a1 fun t20 =>
  nilOk t18 = true ∧ mv t18 fun t21 =>
  o1 Try.prog (Instr.fieldAt 43 t21 2) w fun t22 w =>
  o0 Try.prog (Instr.storeAt 4 t22 (.bool true)) w fun _ w =>
  nilOk t19 = true ∧ mv t19 fun t23 =>
  o1 Try.prog (Instr.fieldAt 43 t23 3) w fun t24 w =>
  o0 Try.prog (Instr.storeAt 3 t24 t20) w fun _ w =>
  mv .nilIface fun t4_3 =>
  k t4_3 w))
theorem C.files_FS_Arm {k : Value → World → Prop} {a0 a1 : Value} {w : World} (h : F.files_FS_Arm k a0 a1 w) : C Try.prog N.files_FS_Arm #[a0, a1] w k :=
  den_calls (H := { moves := [], vars := [4, 5] }) (args := [a0, a1]) mixed Try.func8 (by kernel_rfl) (by kernel_rfl) (by kernel_rfl) h

-- (*isthmus/files.FS).Start
def F.files_FS_Start (k : Value → World → Prop) (a0 a1 : Value) (w : World) : Prop :=
  mv a0 fun t10 =>
  o1 Try.prog (bin .eql 26 (.tmp 10) (.const (.pointer none)) t10 (.pointer none)) w fun t11 w =>
  br t11 (fun _ =>
  k (.tuple #[]) w) (fun _ =>
  mv a0 fun t12 =>
  C Try.prog N.files_FS_List #[t12] w fun t13 w =>
  o1 Try.prog (Builtin.len_ #[53] 3 #[t13]) w fun t14 w =>
  mv (.int .i64 0) fun t15 =>
  lp [a1, undef, undef, undef, undef, t15] w fun I1 μ1 => ∀ (x1 : Env) (w1 : World), I1 [x1 1, x1 5, x1 7, x1 8, x1 9, x1 15] w1 →
  o1 Try.prog (bin .lss 3 (.tmp 15) (.tmp 14) (x1 15) t14) w1 fun t16 w =>
  br t16 (fun _ =>
  jn (fun x2 => [x2 1, x2 5, x2 7, x2 8, x2 9]) (fun k1 =>
  o1 Try.prog (Instr.indexAt 53 t13 (x1 15)) w fun t17 w =>
  o1 Try.prog (Instr.loadAt 9 t17) w fun t18 w =>
  mv t18 fun t5 =>
  mv a0 fun t19 =>
  nilOk t19 = true ∧ mv t19 fun t20 =>
  o1 Try.prog (Instr.fieldAt 43 t20 0) w fun t21 w =>
  o1 Try.prog (Instr.loadAt 41 t21) w fun t22 w =>
  mv t5 fun t23 =>
  o1 Try.prog (Instr.lookup 41 t22 t23 false) w fun t24 w =>
  o1 Try.prog (Instr.alloc 46 true (.tuple #[])) w fun t6 w =>
  o0 Try.prog (Instr.storeAt 46 t6 t24) w fun _ w =>
  o1 Try.prog (Instr.fieldAt 46 t6 0) w fun t25 w =>
  o1 Try.prog (Instr.loadAt 22 t25) w fun t26 w =>
  o1 Try.prog (Builtin.len_ #[22] 3 #[t26]) w fun t27 w =>
  o1 Try.prog (Instr.fieldAt 46 t6 1) w fun t28 w =>
  o1 Try.prog (Instr.loadAt 3 t28) w fun t29 w =>
  o1 Try.prog (bin .sub 3 (.tmp 27) (.tmp 29) t27 t29) w fun t30 w =>
  mv t30 fun t7 =>
  mv t7 fun t31 =>
  o1 Try.prog (bin .eql 3 (.tmp 31) (.const (.int .i64 0)) t31 (.int .i64 0)) w fun t32 w =>
  br t32 (fun _ =>
  k1 [(x1 1), t5, t7, (x1 8), (x1 9)] w) (fun _ =>
  mv (.int .i64 0) fun t8 =>
  mv (x1 1) fun t33 =>
  o1 Try.prog (Builtin.len_ #[23] 3 #[t33]) w fun t34 w =>
  o1 Try.prog (bin .gtr 3 (.tmp 34) (.const (.int .i64 0)) t34 (.int .i64 0)) w fun t35 w =>
  jn (fun x3 => [x3 1, x3 8]) (fun k2 =>
  br t35 (fun _ =>
  mv (x1 1) fun t36 =>
  tk Try.prog (fun w' => w' = w.drew) (Instr.indexAt 23 t36 (.int .i64 0)) fun t37 =>
  tk Try.prog (fun w' => w' = w.drew) (Instr.loadAt 3 t37) fun t38 =>
  mv t7 fun t39 =>
  tk Try.prog (fun w' => w' = w.drew) (Builtin.min_ #[3, 3] 3 #[t38, t39]) fun t40 =>
  tk Try.prog (fun w' => w' = w.drew) (Builtin.max_ #[3, 3] 3 #[t40, .int .i64 0]) fun t41 =>
  mv (x1 1) fun t42 =>
  tk Try.prog (fun w' => w' = w.drew) (Instr.sliceAt 23 t42 (some (.int .i64 1)) none none) fun t43 =>
  mv t41 fun t8_1 =>
  mv t43 fun t1 =>
  k2 [t1, t8_1] w.drew) (fun _ =>
  k2 [(x1 1), t8] w)) fun x3 w =>
  o1 Try.prog (Instr.fieldAt 46 t6 1) w fun t44 w =>
  o1 Try.prog (Instr.loadAt 3 t44) w fun t45 w =>
  mv (x3 8) fun t46 =>
  o1 Try.prog (bin .add 3 (.tmp 45) (.tmp 46) t45 t46) w fun t47 w =>
  mv t47 fun t9 =>
  dr w.drew fun S1 =>
  mv a0 fun t48 =>
  nilOk t48 = true ∧ mv t48 fun t49 =>
  tk Try.prog S1 (Instr.fieldAt 43 t49 0) fun t50 =>
  tk Try.prog S1 (Instr.loadAt 41 t50) fun t51 =>
  mv t5 fun t52 =>
  tk Try.prog S1 (Instr.fieldAt 46 t6 0) fun t53 =>
  tk Try.prog S1 (Instr.loadAt 22 t53) fun t54 =>
  mv t9 fun t55 =>
  mv t9 fun t56 =>
  tk Try.prog S1 (Instr.sliceAt 22 t54 none (some t55) (some t56)) fun t57 =>
  mv t9 fun t58 =>
  tk Try.prog S1 (Instr.build 46 #[(0, t57), (1, t58)]) fun t59 =>
  o0 Try.prog (Instr.mapUpdate 41 t51 t52 t59) w.drew fun _ w =>
  k1 [(x3 1), t5, t7, (x3 8), t9] w)) fun x2 w =>
  o1 Try.prog (bin .add 3 (.tmp 15) (.const (.int .i64 1)) (x1 15) (.int .i64 1)) w fun t60 w =>
  mv t60 fun t15_1 =>
  I1 [(x2 1), (x2 5), (x2 7), (x2 8), (x2 9), t15_1] w ∧ μ1 [(x2 1), (x2 5), (x2 7), (x2 8), (x2 9), t15_1] w < μ1 [x1 1, x1 5, x1 7, x1 8, x1 9, x1 15] w1) (fun _ =>
  mv a0 fun t61 =>
  mv a0 fun t62 =>
  nilOk t61 = true ∧ mv t61 fun t63 =>
  o1 Try.prog (Instr.fieldAt 43 t63 4) w fun t64 w =>
  o0 Try.prog (Instr.storeAt 4 t64 (.bool false)) w fun _ w =>
  nilOk t62 = true ∧ mv t62 fun t65 =>
  o1 Try.prog (Instr.fieldAt 43 t65 2) w fun t66 w =>
  o0 Try.prog (Instr.storeAt 4 t66 (.bool false)) w fun _ w =>
  k (.tuple #[]) w))
theorem C.files_FS_Start {k : Value → World → Prop} {a0 a1 : Value} {w : World} (h : F.files_FS_Start k a0 a1 w) : C Try.prog N.files_FS_Start #[a0, a1] w k :=
  den_calls (H := { moves := [(9, (.take 0 (.take 1 (.take 2 (.take 3 (.take 4 (.take 5 (.take 6 (.take 7 (.take 8 (.take 9 .fin))))))))))), (11, (.take 0 (.take 1 (.take 2 (.take 3 (.take 4 (.take 5 (.take 6 (.take 7 (.take 8 (.take 9 (.take 10 (.take 11 (.last 12))))))))))))))], vars := [1, 5, 7, 8, 9, 15] }) (args := [a0, a1]) mixed Try.func9 (by kernel_rfl) (by kernel_rfl) (by kernel_rfl) h

-- (*isthmus/files.FS).Read
def F.files_FS_Read (k : Value → World → Prop) (a0 a1 : Value) (w : World) : Prop :=
  mv (.slice none 0 0) fun t4 =>
  mv .nilIface fun t5 =>
  mv a0 fun t9 =>
  mv a1 fun t10 =>
  C Try.prog N.files_FS_find #[t9, t10] w fun t11 w =>
  mv t11 fun t8 =>
  o1 Try.prog (Instr.extract t8 0) w fun t12 w =>
  o1 Try.prog (Instr.extract t8 1) w fun t13 w =>
  o1 Try.prog (Instr.alloc 46 true (.tuple #[])) w fun t6 w =>
  o0 Try.prog (Instr.storeAt 46 t6 t12) w fun _ w =>
  mv t13 fun t7 =>
  o1 Try.prog (Instr.fieldAt 46 t6 0) w fun t14 w =>
  o1 Try.prog (Instr.loadAt 22 t14) w fun t15 w =>
  C Try.prog N.slices_Clone_bytes #[t15] w fun t16 w =>
  mv t7 fun t17 =>
  mv t16 fun t4_1 =>
  mv t17 fun t5_1 =>
  k (.tuple #[t4_1, t5_1]) w
theorem C.files_FS_Read {k : Value → World → Prop} {a0 a1 : Value} {w : World} (h : F.files_FS_Read k a0 a1 w) : C Try.prog N.files_FS_Read #[a0, a1] w k :=
  den_calls (H := { moves := [], vars := [4, 5, 7] }) (args := [a0, a1]) mixed Try.func10 (by kernel_rfl) (by kernel_rfl) (by kernel_rfl) h

-- (*isthmus/files.FS).Safe
def F.files_FS_Safe (k : Value → World → Prop) (a0 a1 : Value) (w : World) : Prop :=
  mv (.int .i64 0) fun t4 =>
  mv .nilIface fun t5 =>
  mv a0 fun t9 =>
  mv a1 fun t10 =>
  C Try.prog N.files_FS_find #[t9, t10] w fun t11 w =>
  mv t11 fun t8 =>
  o1 Try.prog (Instr.extract t8 0) w fun t12 w =>
  o1 Try.prog (Instr.extract t8 1) w fun t13 w =>
  o1 Try.prog (Instr.alloc 46 true (.tuple #[])) w fun t6 w =>
  o0 Try.prog (Instr.storeAt 46 t6 t12) w fun _ w =>
  mv t13 fun t7 =>
  o1 Try.prog (Instr.fieldAt 46 t6 1) w fun t14 w =>
  o1 Try.prog (Instr.loadAt 3 t14) w fun t15 w =>
  mv t7 fun t16 =>
  mv t15 fun t4_1 =>
  mv t16 fun t5_1 =>
  k (.tuple #[t4_1, t5_1]) w
theorem C.files_FS_Safe {k : Value → World → Prop} {a0 a1 : Value} {w : World} (h : F.files_FS_Safe k a0 a1 w) : C Try.prog N.files_FS_Safe #[a0, a1] w k :=
  den_calls (H := { moves := [], vars := [4, 5, 7] }) (args := [a0, a1]) mixed Try.func11 (by kernel_rfl) (by kernel_rfl) (by kernel_rfl) h

-- (*isthmus/files.FS).Down
def F.files_FS_Down (k : Value → World → Prop) (a0 : Value) (w : World) : Prop :=
  mv (.bool false) fun t2 =>
  mv a0 fun t3 =>
  o1 Try.prog (bin .neq 26 (.tmp 3) (.const (.pointer none)) t3 (.pointer none)) w fun t4 w =>
  mv t4 fun t5 =>
  gd t5 true (fun k1 => mv a0 fun v => k1 v w) w fun t6 w =>
  gd t5 true (fun k2 => nilOk t6 = true ∧ mv t6 fun v => k2 v w) w fun t7 w =>
  gd t5 true (fun k3 => o1 Try.prog (Instr.fieldAt 43 t7 4) w k3) w fun t8 w =>
  gd t5 true (fun k4 => o1 Try.prog (Instr.loadAt 4 t8) w k4) w fun t9 w =>
  pk t5 t9 (.bool false) fun t10 =>
  mv t10 fun t2_1 =>
  k t2_1 w
theorem C.files_FS_Down {k : Value → World → Prop} {a0 : Value} {w : World} (h : F.files_FS_Down k a0 w) : C Try.prog N.files_FS_Down #[a0] w k :=
  den_calls (H := { moves := [], vars := [2] }) (args := [a0]) mixed Try.func12 (by kernel_rfl) (by kernel_rfl) (by kernel_rfl) h

-- (*isthmus/files.FS).ready
def F.files_FS_ready (k : Value → World → Prop) (a0 a1 : Value) (w : World) : Prop :=
  mv .nilIface fun t4 =>
  mv a1 fun t7 =>
  o1 Try.prog (Builtin.len_ #[53] 3 #[t7]) w fun t8 w =>
  mv (.int .i64 0) fun t9 =>
  lp [t4, undef, t9] w fun I1 μ1 => ∀ (x1 : Env) (w1 : World), I1 [x1 4, x1 6, x1 9] w1 →
  o1 Try.prog (bin .lss 3 (.tmp 9) (.tmp 8) (x1 9) t8) w1 fun t10 w =>
  br t10 (fun _ =>
  o1 Try.prog (Instr.indexAt 53 t7 (x1 9)) w fun t11 w =>
  o1 Try.prog (Instr.loadAt 9 t11) w fun t12 w =>
  mv t12 fun t6 =>
  mv a0 fun t13 =>
  o1 Try.prog (bin .eql 26 (.tmp 13) (.const (.pointer none)) t13 (.pointer none)) w fun t14 w =>
  mv t14 fun t15 =>
  gd t15 false (fun k1 => mv t6 fun v => k1 v w) w fun t16 w =>
  gd t15 false (fun k2 => C Try.prog N.files_named #[t16] w k2) w fun t17 w =>
  gd t15 false (fun k3 => o1 Try.prog (Op.unary .not t17) w k3) w fun t18 w =>
  pk t15 (.bool true) t18 fun t19 =>
  br t19 (fun _ =>
  mv t6 fun t20 =>
  C Try.prog N.files_fault #[t20, .int .i64 1] w fun t21 w =>
  mv t21 fun t4_1 =>
  k t4_1 w) (fun _ =>
  o1 Try.prog (bin .add 3 (.tmp 9) (.const (.int .i64 1)) (x1 9) (.int .i64 1)) w fun t22 w =>
  mv t22 fun t9_1 =>
  I1 [(x1 4), t6, t9_1] w ∧ μ1 [(x1 4), t6, t9_1] w < μ1 [x1 4, x1 6, x1 9] w1)) (fun _ =>
  mv a0 fun t24 =>
  o1 Try.prog (bin .eql 26 (.tmp 24) (.const (.pointer none)) t24 (.pointer none)) w fun t25 w =>
  mv t25 fun t23 =>
  br t23 (fun _ =>
  C Try.prog N.files_fault #[.string ⟨#[]⟩, .int .i64 1] w fun t26 w =>
  mv t26 fun t4_2 =>
  k t4_2 w) (fun _ =>
  mv a0 fun t28 =>
  nilOk t28 = true ∧ mv t28 fun t29 =>
  o1 Try.prog (Instr.fieldAt 43 t29 4) w fun t30 w =>
  o1 Try.prog (Instr.loadAt 4 t30) w fun t31 w =>
  mv t31 fun t27 =>
  br t27 (fun _ =>
  C Try.prog N.files_fault #[.string ⟨#[]⟩, .int .i64 13] w fun t32 w =>
  mv t32 fun t4_3 =>
  k t4_3 w) (fun _ =>
  mv .nilIface fun t4_4 =>
  k t4_4 w)))
theorem C.files_FS_ready {k : Value → World → Prop} {a0 a1 : Value} {w : World} (h : F.files_FS_ready k a0 a1 w) : C Try.prog N.files_FS_ready #[a0, a1] w k :=
  den_calls (H := { moves := [], vars := [4, 6, 9, 23, 27] }) (args := [a0, a1]) mixed Try.func13 (by kernel_rfl) (by kernel_rfl) (by kernel_rfl) h

-- isthmus/files.fault
def F.files_fault (k : Value → World → Prop) (a0 a1 : Value) (w : World) : Prop :=
  mv .nilIface fun t4 =>
  mv a0 fun t5 =>
  o1 Try.prog (bin .add 9 (.const (.string ⟨#[102, 105, 108, 101, 32]⟩)) (.tmp 5) (.string ⟨#[102, 105, 108, 101, 32]⟩) t5) w fun t6 w =>
  mv a1 fun t7 =>
  o1 Try.prog (Instr.makeInterface 49 t7) w fun t8 w =>
  o1 Try.prog (Instr.build 61 #[(0, t6), (1, t8)]) w fun t9 w =>
  o1 Try.prog (Instr.box 61 t9) w fun t10 w =>
  o1 Try.prog (Instr.makeInterface 59 t10) w fun t11 w =>
  mv t11 fun t4_1 =>
  k t4_1 w
theorem C.files_fault {k : Value → World → Prop} {a0 a1 : Value} {w : World} (h : F.files_fault k a0 a1 w) : C Try.prog N.files_fault #[a0, a1] w k :=
  den_calls (H := { moves := [], vars := [4] }) (args := [a0, a1]) mixed Try.func14 (by kernel_rfl) (by kernel_rfl) (by kernel_rfl) h

-- (*isthmus/files.FS).step
def F.files_FS_step (k : Value → World → Prop) (a0 : Value) (w : World) : Prop :=
  mv .nilIface fun t2 =>
  mv a0 fun t3 =>
  nilOk t3 = true ∧ mv t3 fun t4 =>
  o1 Try.prog (Instr.fieldAt 43 t4 2) w fun t5 w =>
  o1 Try.prog (Instr.loadAt 4 t5) w fun t6 w =>
  mv t6 fun t7 =>
  gd t7 true (fun k1 => mv a0 fun v => k1 v w) w fun t8 w =>
  gd t7 true (fun k2 => nilOk t8 = true ∧ mv t8 fun v => k2 v w) w fun t9 w =>
  gd t7 true (fun k3 => o1 Try.prog (Instr.fieldAt 43 t9 3) w k3) w fun t10 w =>
  gd t7 true (fun k4 => o1 Try.prog (Instr.loadAt 3 t10) w k4) w fun t11 w =>
  gd t7 true (fun k5 => o1 Try.prog (bin .eql 3 (.tmp 11) (.const (.int .i64 0)) t11 (.int .i64 0)) w k5) w fun t12 w =>
  pk t7 t12 (.bool false) fun t13 =>
  br t13 (fun _ =>
  mv a0 fun t14 =>
  nilOk t14 = true ∧ mv t14 fun t15 =>
  o1 Try.prog (Instr.fieldAt 43 t15 4) w fun t16 w =>
  o0 Try.prog (Instr.storeAt 4 t16 (.bool true)) w fun _ w =>
  C Try.prog N.files_fault #[.string ⟨#[]⟩, .int .i64 13] w fun t17 w =>
  mv t17 fun t2_1 =>
  k t2_1 w) (fun _ =>
  mv a0 fun t18 =>
  nilOk t18 = true ∧ mv t18 fun t19 =>
  o1 Try.prog (Instr.fieldAt 43 t19 3) w fun t20 w =>
  o1 Try.prog (Instr.loadAt 3 t20) w fun t21 w =>
  o1 Try.prog (bin .sub 3 (.tmp 21) (.const (.int .i64 1)) t21 (.int .i64 1)) w fun t22 w =>
  nilOk t18 = true ∧ mv t18 fun t23 =>
  o1 Try.prog (Instr.fieldAt 43 t23 3) w fun t24 w =>
  o0 Try.prog (Instr.storeAt 3 t24 t22) w fun _ w =>
  mv a0 fun t25 =>
  nilOk t25 = true ∧ mv t25 fun t26 =>
  o1 Try.prog (Instr.fieldAt 43 t26 1) w fun t27 w =>
  o1 Try.prog (Instr.loadAt 3 t27) w fun t28 w =>
  o1 Try.prog (bin .add 3 (.tmp 28) (.const (.int .i64 1)) t28 (.int .i64 1)) w fun t29 w =>
  nilOk t25 = true ∧ mv t25 fun t30 =>
  o1 Try.prog (Instr.fieldAt 43 t30 1) w fun t31 w =>
  o0 Try.prog (Instr.storeAt 3 t31 t29) w fun _ w =>
  mv .nilIface fun t2_2 =>
  k t2_2 w)
theorem C.files_FS_step {k : Value → World → Prop} {a0 : Value} {w : World} (h : F.files_FS_step k a0 w) : C Try.prog N.files_FS_step #[a0] w k :=
  den_calls (H := { moves := [], vars := [2] }) (args := [a0]) mixed Try.func15 (by kernel_rfl) (by kernel_rfl) (by kernel_rfl) h

end Go.Proofs.Ytiaiglgfangedaa
