/- What each function asks: printed by hoas.py off the loaded program; each is held against the program by the kernel. -/
import Derived.Test.YtbbmgkbinnomgaaGreatDoorN
set_option linter.unusedVariables false
set_option linter.unusedSimpArgs false
set_option linter.unusedSectionVars false
namespace Go.Proofs.YtbbmgkbinnomgaaGreatDoor
open Go Go.Isk
set_option maxRecDepth 100000
-- gosem.cut.init
-- isthmus/isthmuslaw06.KeysVerify
-- isthmus/isthmuslaw06.KeysLeft
def F.isthmuslaw06_KeysLeft (k : Value → World → Prop) (a0 a1 a2 : Value) (w : World) : Prop :=
  mv (.bool false) fun t6 =>
  mv a2 fun t20 =>
  o1 Tryz.prog (convert 3 49 t20) w fun t21 w =>
  o1 Tryz.prog (bin .rem 49 (.tmp 21) (.const (.int .u64 4)) t21 (.int .u64 4)) w fun t22 w =>
  o1 Tryz.prog (convert 49 3 t22) w fun t23 w =>
  o1 Tryz.prog (Instr.build 25 #[(0, .int .i64 4), (1, t23)]) w fun t24 w =>
  o1 Tryz.prog (Instr.alloc 25 true (.tuple #[])) w fun t7 w =>
  o0 Tryz.prog (Instr.storeAt 25 t7 t24) w fun _ w =>
  dr w.drew fun S1 =>
  mv a0 fun t27 =>
  tk Tryz.prog S1 (Instr.loadAt 25 t7) fun t29 =>
  C Tryz.prog N.files_New #[] w.drew fun t26 w =>
  S1 w ∧
  C Tryz.prog N.keys_Seed #[t27] w fun t28 w =>
  S1 w ∧
  C Tryz.prog N.keys_Open #[t26, .string ⟨#[107]⟩, t28, t29] w fun t30 w =>
  S1 w ∧
  mv t30 fun t25 =>
  tk Tryz.prog S1 (Instr.extract t25 0) fun t31 =>
  tk Tryz.prog S1 (Instr.extract t25 1) fun t32 =>
  mv t31 fun t8 =>
  mv t32 fun t9 =>
  dr w.drew fun S2 =>
  mv a1 fun t34 =>
  tk Tryz.prog S2 (Instr.loadAt 25 t7) fun t36 =>
  (C Tryz.prog N.keys_Seed #[t34] w.drew fun t35 w =>
  S2 w ∧
  (C Tryz.prog N.keys_Root #[t35, t36] w fun t37 w =>
  S2 w ∧
  mv t37 fun t33 =>
  tk Tryz.prog S2 (Instr.extract t33 0) fun t38 =>
  tk Tryz.prog S2 (Instr.extract t33 1) fun t39 =>
  o1 Tryz.prog (Instr.alloc 23 true (.tuple #[])) w fun t10 w =>
  S2 w ∧
  o0 Tryz.prog (Instr.storeAt 23 t10 t38) w fun _ w =>
  S2 w ∧
  mv t39 fun t11 =>
  mv t9 fun t40 =>
  o1 Tryz.prog (bin .neq 30 (.tmp 40) (.const .nilIface) t40 .nilIface) w fun t41 w =>
  mv t41 fun t42 =>
  gd t42 false (fun k1 => mv t11 fun v => k1 v w) w fun t43 w =>
  gd t42 false (fun k2 => o1 Tryz.prog (bin .neq 30 (.tmp 43) (.const .nilIface) t43 .nilIface) w k2) w fun t44 w =>
  pk t42 (.bool true) t44 fun t45 =>
  mv t45 fun t46 =>
  gd t46 false (fun k3 => mv t8 fun v => k3 v w) w fun t47 w =>
  gd t46 false (fun k4 => o1 Tryz.prog (bin .eql 50 (.tmp 47) (.const (.pointer none)) t47 (.pointer none)) w k4) w fun t48 w =>
  pk t46 (.bool true) t48 fun t49 =>
  br t49 (fun _ =>
  mv (.bool false) fun t6_1 =>
  k t6_1 w) (fun _ =>
  o1 Tryz.prog (Instr.fieldAt 25 t7 1) w fun t50 w =>
  o1 Tryz.prog (Instr.loadAt 3 t50) w fun t51 w =>
  o1 Tryz.prog (convert 3 49 t51) w fun t52 w =>
  o1 Tryz.prog (bin .shl 3 (.const (.int .i64 1)) (.tmp 52) (.int .i64 1) t52) w fun t53 w =>
  mv t53 fun t12 =>
  mv (.int .i64 0) fun t13 =>
  lp [t6, t13, undef, undef, undef, undef] w fun I1 μ1 => ∀ (x1 : Env) (w1 : World), I1 [x1 6, x1 13, x1 14, x1 15, x1 16, x1 17] w1 →
  mv (x1 13) fun t54 =>
  mv t12 fun t55 =>
  o1 Tryz.prog (bin .lss 3 (.tmp 54) (.tmp 55) t54 t55) w1 fun t56 w =>
  br t56 (fun _ =>
  mv t8 fun t60 =>
  mv a0 fun t61 =>
  o1 Tryz.prog (convert 9 26 t61) w fun t62 w =>
  C Tryz.prog N.keys_Signer_Sign #[t60, t62] w fun t63 w =>
  mv t63 fun t59 =>
  o1 Tryz.prog (Instr.extract t59 0) w fun t64 w =>
  o1 Tryz.prog (Instr.extract t59 1) w fun t65 w =>
  mv t64 fun t14 =>
  mv t65 fun t15 =>
  mv t14 fun t67 =>
  C Tryz.prog N.keys_Leaf #[t67] w fun t68 w =>
  mv t68 fun t66 =>
  o1 Tryz.prog (Instr.extract t66 0) w fun t69 w =>
  o1 Tryz.prog (Instr.extract t66 1) w fun t70 w =>
  mv t69 fun t16 =>
  mv t70 fun t17 =>
  dr w.drew fun S3 =>
  mv t15 fun t71 =>
  tk Tryz.prog S3 (bin .neq 30 (.tmp 71) (.const .nilIface) t71 .nilIface) fun t72 =>
  mv t72 fun t73 =>
  gdT t73 false (fun k5 => mv t17 k5) fun t74 =>
  gdT t73 false (fun k6 => tk Tryz.prog S3 (bin .neq 30 (.tmp 74) (.const .nilIface) t74 .nilIface) k6) fun t75 =>
  pk t73 (.bool true) t75 fun t76 =>
  mv t76 fun t77 =>
  gdT t77 false (fun k7 => mv t16 k7) fun t78 =>
  gdT t77 false (fun k8 => mv (x1 13) k8) fun t79 =>
  gdT t77 false (fun k9 => tk Tryz.prog S3 (bin .neq 3 (.tmp 78) (.tmp 79) t78 t79) k9) fun t80 =>
  pk t77 (.bool true) t80 fun t81 =>
  mv t81 fun t82 =>
  gdT t82 false (fun k10 => mv t8 k10) fun t83 =>
  gdT t82 false (fun k11 => mv t12 k11) fun t85 =>
  gdT t82 false (fun k12 => tk Tryz.prog S3 (bin .sub 3 (.tmp 85) (.const (.int .i64 1)) t85 (.int .i64 1)) k12) fun t86 =>
  gdT t82 false (fun k13 => mv (x1 13) k13) fun t87 =>
  gdT t82 false (fun k14 => tk Tryz.prog S3 (bin .sub 3 (.tmp 86) (.tmp 87) t86 t87) k14) fun t88 =>
  gd t82 false (fun k15 => C Tryz.prog N.keys_Signer_Left #[t83] w.drew k15) w.drew fun t84 w =>
  S3 w ∧
  gdT t82 false (fun k16 => tk Tryz.prog S3 (bin .neq 3 (.tmp 84) (.tmp 88) t84 t88) k16) fun t89 =>
  pk t82 (.bool true) t89 fun t90 =>
  mv t90 fun t91 =>
  gdT t91 false (fun k17 => mv t8 k17) fun t92 =>
  nS S3 w fun S4 =>
  gdT t91 false (fun k18 => tk Tryz.prog S4 (Instr.loadAt 25 t7) k18) fun t94 =>
  gdT t91 false (fun k19 => mv a0 k19) fun t95 =>
  gdT t91 false (fun k20 => mv t14 k20) fun t97 =>
  (gd t91 false (fun k21 => C Tryz.prog N.keys_Signer_Root #[t92] w k21) w fun t93 w =>
  S4 w ∧
  gd t91 false (fun k22 => o1 Tryz.prog (convert 9 26 t95) w k22) w fun t96 w =>
  S4 w ∧
  gd t91 false (fun k23 => C Tryz.prog N.keys_Verify #[t93, t94, t96, t97] w k23) w fun t98 w =>
  S4 w ∧
  gdT t91 false (fun k24 => tk Tryz.prog S4 (bin .neq 30 (.tmp 98) (.const .nilIface) t98 .nilIface) k24) fun t99 =>
  pk t91 (.bool true) t99 fun t100 =>
  br t100 (fun _ =>
  mv (.bool false) fun t6_2 =>
  k t6_2 w) (fun _ =>
  dr w.drew fun S5 =>
  tk Tryz.prog S5 (Instr.loadAt 23 t10) fun t101 =>
  mv t8 fun t102 =>
  C Tryz.prog N.keys_Signer_Root #[t102] w.drew fun t103 w =>
  S5 w ∧
  tk Tryz.prog S5 (bin .neq 23 (.tmp 101) (.tmp 103) t101 t103) fun t104 =>
  mv t104 fun t105 =>
  nS S5 w fun S6 =>
  gdT t105 true (fun k25 => tk Tryz.prog S6 (Instr.loadAt 23 t10) k25) fun t106 =>
  gdT t105 true (fun k26 => tk Tryz.prog S6 (Instr.loadAt 25 t7) k26) fun t107 =>
  gdT t105 true (fun k27 => mv a0 k27) fun t108 =>
  gdT t105 true (fun k28 => mv t14 k28) fun t110 =>
  gd t105 true (fun k29 => o1 Tryz.prog (convert 9 26 t108) w k29) w fun t109 w =>
  S6 w ∧
  gd t105 true (fun k30 => C Tryz.prog N.keys_Verify #[t106, t107, t109, t110] w k30) w fun t111 w =>
  S6 w ∧
  gdT t105 true (fun k31 => tk Tryz.prog S6 (bin .eql 30 (.tmp 111) (.const .nilIface) t111 .nilIface) k31) fun t112 =>
  pk t105 t112 (.bool false) fun t113 =>
  br t113 (fun _ =>
  mv (.bool false) fun t6_3 =>
  k t6_3 w) (fun _ =>
  mv (x1 13) fun t57 =>
  o1 Tryz.prog (bin .add 3 (.tmp 57) (.const (.int .i64 1)) t57 (.int .i64 1)) w fun t58 w =>
  mv t58 fun t13_1 =>
  I1 [(x1 6), t13_1, t14, t15, t16, t17] w ∧ μ1 [(x1 6), t13_1, t14, t15, t16, t17] w < μ1 [x1 6, x1 13, x1 14, x1 15, x1 16, x1 17] w1))) ∧ (
  gd t91 false (fun k32 => o1 Tryz.prog (convert 9 26 t95) w k32) w fun t96_1 w =>
  S4 w ∧
  gd t91 false (fun k33 => C Tryz.prog N.keys_Signer_Root #[t92] w k33) w fun t93_1 w =>
  S4 w ∧
  gd t91 false (fun k34 => C Tryz.prog N.keys_Verify #[t93_1, t94, t96_1, t97] w k34) w fun t98_1 w =>
  S4 w ∧
  gdT t91 false (fun k35 => tk Tryz.prog S4 (bin .neq 30 (.tmp 98) (.const .nilIface) t98_1 .nilIface) k35) fun t99_1 =>
  pk t91 (.bool true) t99_1 fun t100_1 =>
  br t100_1 (fun _ =>
  mv (.bool false) fun t6_4 =>
  k t6_4 w) (fun _ =>
  dr w.drew fun S7 =>
  tk Tryz.prog S7 (Instr.loadAt 23 t10) fun t101_1 =>
  mv t8 fun t102_1 =>
  C Tryz.prog N.keys_Signer_Root #[t102_1] w.drew fun t103_1 w =>
  S7 w ∧
  tk Tryz.prog S7 (bin .neq 23 (.tmp 101) (.tmp 103) t101_1 t103_1) fun t104_1 =>
  mv t104_1 fun t105_1 =>
  nS S7 w fun S8 =>
  gdT t105_1 true (fun k36 => tk Tryz.prog S8 (Instr.loadAt 23 t10) k36) fun t106_1 =>
  gdT t105_1 true (fun k37 => tk Tryz.prog S8 (Instr.loadAt 25 t7) k37) fun t107_1 =>
  gdT t105_1 true (fun k38 => mv a0 k38) fun t108_1 =>
  gdT t105_1 true (fun k39 => mv t14 k39) fun t110_1 =>
  gd t105_1 true (fun k40 => o1 Tryz.prog (convert 9 26 t108_1) w k40) w fun t109_1 w =>
  S8 w ∧
  gd t105_1 true (fun k41 => C Tryz.prog N.keys_Verify #[t106_1, t107_1, t109_1, t110_1] w k41) w fun t111_1 w =>
  S8 w ∧
  gdT t105_1 true (fun k42 => tk Tryz.prog S8 (bin .eql 30 (.tmp 111) (.const .nilIface) t111_1 .nilIface) k42) fun t112_1 =>
  pk t105_1 t112_1 (.bool false) fun t113_1 =>
  br t113_1 (fun _ =>
  mv (.bool false) fun t6_5 =>
  k t6_5 w) (fun _ =>
  mv (x1 13) fun t57_1 =>
  o1 Tryz.prog (bin .add 3 (.tmp 57) (.const (.int .i64 1)) t57_1 (.int .i64 1)) w fun t58_1 w =>
  mv t58_1 fun t13_2 =>
  I1 [(x1 6), t13_2, t14, t15, t16, t17] w ∧ μ1 [(x1 6), t13_2, t14, t15, t16, t17] w < μ1 [x1 6, x1 13, x1 14, x1 15, x1 16, x1 17] w1)))) (fun _ =>
  mv t8 fun t115 =>
  mv a0 fun t116 =>
  o1 Tryz.prog (convert 9 26 t116) w fun t117 w =>
  C Tryz.prog N.keys_Signer_Sign #[t115, t117] w fun t118 w =>
  mv t118 fun t114 =>
  o1 Tryz.prog (Instr.extract t114 0) w fun t119 w =>
  o1 Tryz.prog (Instr.extract t114 1) w fun t120 w =>
  mv t119 fun t18 =>
  mv t120 fun t19 =>
  mv t19 fun t121 =>
  C Tryz.prog N.isthmuslaw06_num #[t121] w fun t122 w =>
  o1 Tryz.prog (bin .eql 3 (.tmp 122) (.const (.int .i64 22)) t122 (.int .i64 22)) w fun t123 w =>
  mv t123 fun t124 =>
  gd t124 true (fun k43 => C Tryz.prog N.isthmuslaw06_sure #[] w k43) w fun t125 w =>
  pk t124 t125 (.bool false) fun t126 =>
  mv t126 fun t6_6 =>
  k t6_6 w))) ∧ (
  o1 Tryz.prog (Instr.alloc 23 true (.tuple #[])) w fun t10_1 w =>
  S2 w ∧
  C Tryz.prog N.keys_Root #[t35, t36] w fun t37_1 w =>
  S2 w ∧
  mv t37_1 fun t33_1 =>
  tk Tryz.prog S2 (Instr.extract t33_1 0) fun t38_1 =>
  tk Tryz.prog S2 (Instr.extract t33_1 1) fun t39_1 =>
  o0 Tryz.prog (Instr.storeAt 23 t10_1 t38_1) w fun _ w =>
  S2 w ∧
  mv t39_1 fun t11_1 =>
  mv t9 fun t40_1 =>
  o1 Tryz.prog (bin .neq 30 (.tmp 40) (.const .nilIface) t40_1 .nilIface) w fun t41_1 w =>
  mv t41_1 fun t42_1 =>
  gd t42_1 false (fun k44 => mv t11_1 fun v => k44 v w) w fun t43_1 w =>
  gd t42_1 false (fun k45 => o1 Tryz.prog (bin .neq 30 (.tmp 43) (.const .nilIface) t43_1 .nilIface) w k45) w fun t44_1 w =>
  pk t42_1 (.bool true) t44_1 fun t45_1 =>
  mv t45_1 fun t46_1 =>
  gd t46_1 false (fun k46 => mv t8 fun v => k46 v w) w fun t47_1 w =>
  gd t46_1 false (fun k47 => o1 Tryz.prog (bin .eql 50 (.tmp 47) (.const (.pointer none)) t47_1 (.pointer none)) w k47) w fun t48_1 w =>
  pk t46_1 (.bool true) t48_1 fun t49_1 =>
  br t49_1 (fun _ =>
  mv (.bool false) fun t6_7 =>
  k t6_7 w) (fun _ =>
  o1 Tryz.prog (Instr.fieldAt 25 t7 1) w fun t50_1 w =>
  o1 Tryz.prog (Instr.loadAt 3 t50_1) w fun t51_1 w =>
  o1 Tryz.prog (convert 3 49 t51_1) w fun t52_1 w =>
  o1 Tryz.prog (bin .shl 3 (.const (.int .i64 1)) (.tmp 52) (.int .i64 1) t52_1) w fun t53_1 w =>
  mv t53_1 fun t12_1 =>
  mv (.int .i64 0) fun t13_3 =>
  lp [t6, t13_3, undef, undef, undef, undef] w fun I2 μ2 => ∀ (x2 : Env) (w2 : World), I2 [x2 6, x2 13, x2 14, x2 15, x2 16, x2 17] w2 →
  mv (x2 13) fun t54_1 =>
  mv t12_1 fun t55_1 =>
  o1 Tryz.prog (bin .lss 3 (.tmp 54) (.tmp 55) t54_1 t55_1) w2 fun t56_1 w =>
  br t56_1 (fun _ =>
  mv t8 fun t60_1 =>
  mv a0 fun t61_1 =>
  o1 Tryz.prog (convert 9 26 t61_1) w fun t62_1 w =>
  C Tryz.prog N.keys_Signer_Sign #[t60_1, t62_1] w fun t63_1 w =>
  mv t63_1 fun t59_1 =>
  o1 Tryz.prog (Instr.extract t59_1 0) w fun t64_1 w =>
  o1 Tryz.prog (Instr.extract t59_1 1) w fun t65_1 w =>
  mv t64_1 fun t14_1 =>
  mv t65_1 fun t15_1 =>
  mv t14_1 fun t67_1 =>
  C Tryz.prog N.keys_Leaf #[t67_1] w fun t68_1 w =>
  mv t68_1 fun t66_1 =>
  o1 Tryz.prog (Instr.extract t66_1 0) w fun t69_1 w =>
  o1 Tryz.prog (Instr.extract t66_1 1) w fun t70_1 w =>
  mv t69_1 fun t16_1 =>
  mv t70_1 fun t17_1 =>
  dr w.drew fun S9 =>
  mv t15_1 fun t71_1 =>
  tk Tryz.prog S9 (bin .neq 30 (.tmp 71) (.const .nilIface) t71_1 .nilIface) fun t72_1 =>
  mv t72_1 fun t73_1 =>
  gdT t73_1 false (fun k48 => mv t17_1 k48) fun t74_1 =>
  gdT t73_1 false (fun k49 => tk Tryz.prog S9 (bin .neq 30 (.tmp 74) (.const .nilIface) t74_1 .nilIface) k49) fun t75_1 =>
  pk t73_1 (.bool true) t75_1 fun t76_1 =>
  mv t76_1 fun t77_1 =>
  gdT t77_1 false (fun k50 => mv t16_1 k50) fun t78_1 =>
  gdT t77_1 false (fun k51 => mv (x2 13) k51) fun t79_1 =>
  gdT t77_1 false (fun k52 => tk Tryz.prog S9 (bin .neq 3 (.tmp 78) (.tmp 79) t78_1 t79_1) k52) fun t80_1 =>
  pk t77_1 (.bool true) t80_1 fun t81_1 =>
  mv t81_1 fun t82_1 =>
  gdT t82_1 false (fun k53 => mv t8 k53) fun t83_1 =>
  gdT t82_1 false (fun k54 => mv t12_1 k54) fun t85_1 =>
  gdT t82_1 false (fun k55 => tk Tryz.prog S9 (bin .sub 3 (.tmp 85) (.const (.int .i64 1)) t85_1 (.int .i64 1)) k55) fun t86_1 =>
  gdT t82_1 false (fun k56 => mv (x2 13) k56) fun t87_1 =>
  gdT t82_1 false (fun k57 => tk Tryz.prog S9 (bin .sub 3 (.tmp 86) (.tmp 87) t86_1 t87_1) k57) fun t88_1 =>
  gd t82_1 false (fun k58 => C Tryz.prog N.keys_Signer_Left #[t83_1] w.drew k58) w.drew fun t84_1 w =>
  S9 w ∧
  gdT t82_1 false (fun k59 => tk Tryz.prog S9 (bin .neq 3 (.tmp 84) (.tmp 88) t84_1 t88_1) k59) fun t89_1 =>
  pk t82_1 (.bool true) t89_1 fun t90_1 =>
  mv t90_1 fun t91_1 =>
  gdT t91_1 false (fun k60 => mv t8 k60) fun t92_1 =>
  nS S9 w fun S10 =>
  gdT t91_1 false (fun k61 => tk Tryz.prog S10 (Instr.loadAt 25 t7) k61) fun t94_1 =>
  gdT t91_1 false (fun k62 => mv a0 k62) fun t95_1 =>
  gdT t91_1 false (fun k63 => mv t14_1 k63) fun t97_1 =>
  (gd t91_1 false (fun k64 => C Tryz.prog N.keys_Signer_Root #[t92_1] w k64) w fun t93_2 w =>
  S10 w ∧
  gd t91_1 false (fun k65 => o1 Tryz.prog (convert 9 26 t95_1) w k65) w fun t96_2 w =>
  S10 w ∧
  gd t91_1 false (fun k66 => C Tryz.prog N.keys_Verify #[t93_2, t94_1, t96_2, t97_1] w k66) w fun t98_2 w =>
  S10 w ∧
  gdT t91_1 false (fun k67 => tk Tryz.prog S10 (bin .neq 30 (.tmp 98) (.const .nilIface) t98_2 .nilIface) k67) fun t99_2 =>
  pk t91_1 (.bool true) t99_2 fun t100_2 =>
  br t100_2 (fun _ =>
  mv (.bool false) fun t6_8 =>
  k t6_8 w) (fun _ =>
  dr w.drew fun S11 =>
  tk Tryz.prog S11 (Instr.loadAt 23 t10_1) fun t101_2 =>
  mv t8 fun t102_2 =>
  C Tryz.prog N.keys_Signer_Root #[t102_2] w.drew fun t103_2 w =>
  S11 w ∧
  tk Tryz.prog S11 (bin .neq 23 (.tmp 101) (.tmp 103) t101_2 t103_2) fun t104_2 =>
  mv t104_2 fun t105_2 =>
  nS S11 w fun S12 =>
  gdT t105_2 true (fun k68 => tk Tryz.prog S12 (Instr.loadAt 23 t10_1) k68) fun t106_2 =>
  gdT t105_2 true (fun k69 => tk Tryz.prog S12 (Instr.loadAt 25 t7) k69) fun t107_2 =>
  gdT t105_2 true (fun k70 => mv a0 k70) fun t108_2 =>
  gdT t105_2 true (fun k71 => mv t14_1 k71) fun t110_2 =>
  gd t105_2 true (fun k72 => o1 Tryz.prog (convert 9 26 t108_2) w k72) w fun t109_2 w =>
  S12 w ∧
  gd t105_2 true (fun k73 => C Tryz.prog N.keys_Verify #[t106_2, t107_2, t109_2, t110_2] w k73) w fun t111_2 w =>
  S12 w ∧
  gdT t105_2 true (fun k74 => tk Tryz.prog S12 (bin .eql 30 (.tmp 111) (.const .nilIface) t111_2 .nilIface) k74) fun t112_2 =>
  pk t105_2 t112_2 (.bool false) fun t113_2 =>
  br t113_2 (fun _ =>
  mv (.bool false) fun t6_9 =>
  k t6_9 w) (fun _ =>
  mv (x2 13) fun t57_2 =>
  o1 Tryz.prog (bin .add 3 (.tmp 57) (.const (.int .i64 1)) t57_2 (.int .i64 1)) w fun t58_2 w =>
  mv t58_2 fun t13_4 =>
  I2 [(x2 6), t13_4, t14_1, t15_1, t16_1, t17_1] w ∧ μ2 [(x2 6), t13_4, t14_1, t15_1, t16_1, t17_1] w < μ2 [x2 6, x2 13, x2 14, x2 15, x2 16, x2 17] w2))) ∧ (
  gd t91_1 false (fun k75 => o1 Tryz.prog (convert 9 26 t95_1) w k75) w fun t96_3 w =>
  S10 w ∧
  gd t91_1 false (fun k76 => C Tryz.prog N.keys_Signer_Root #[t92_1] w k76) w fun t93_3 w =>
  S10 w ∧
  gd t91_1 false (fun k77 => C Tryz.prog N.keys_Verify #[t93_3, t94_1, t96_3, t97_1] w k77) w fun t98_3 w =>
  S10 w ∧
  gdT t91_1 false (fun k78 => tk Tryz.prog S10 (bin .neq 30 (.tmp 98) (.const .nilIface) t98_3 .nilIface) k78) fun t99_3 =>
  pk t91_1 (.bool true) t99_3 fun t100_3 =>
  br t100_3 (fun _ =>
  mv (.bool false) fun t6_10 =>
  k t6_10 w) (fun _ =>
  dr w.drew fun S13 =>
  tk Tryz.prog S13 (Instr.loadAt 23 t10_1) fun t101_3 =>
  mv t8 fun t102_3 =>
  C Tryz.prog N.keys_Signer_Root #[t102_3] w.drew fun t103_3 w =>
  S13 w ∧
  tk Tryz.prog S13 (bin .neq 23 (.tmp 101) (.tmp 103) t101_3 t103_3) fun t104_3 =>
  mv t104_3 fun t105_3 =>
  nS S13 w fun S14 =>
  gdT t105_3 true (fun k79 => tk Tryz.prog S14 (Instr.loadAt 23 t10_1) k79) fun t106_3 =>
  gdT t105_3 true (fun k80 => tk Tryz.prog S14 (Instr.loadAt 25 t7) k80) fun t107_3 =>
  gdT t105_3 true (fun k81 => mv a0 k81) fun t108_3 =>
  gdT t105_3 true (fun k82 => mv t14_1 k82) fun t110_3 =>
  gd t105_3 true (fun k83 => o1 Tryz.prog (convert 9 26 t108_3) w k83) w fun t109_3 w =>
  S14 w ∧
  gd t105_3 true (fun k84 => C Tryz.prog N.keys_Verify #[t106_3, t107_3, t109_3, t110_3] w k84) w fun t111_3 w =>
  S14 w ∧
  gdT t105_3 true (fun k85 => tk Tryz.prog S14 (bin .eql 30 (.tmp 111) (.const .nilIface) t111_3 .nilIface) k85) fun t112_3 =>
  pk t105_3 t112_3 (.bool false) fun t113_3 =>
  br t113_3 (fun _ =>
  mv (.bool false) fun t6_11 =>
  k t6_11 w) (fun _ =>
  mv (x2 13) fun t57_3 =>
  o1 Tryz.prog (bin .add 3 (.tmp 57) (.const (.int .i64 1)) t57_3 (.int .i64 1)) w fun t58_3 w =>
  mv t58_3 fun t13_5 =>
  I2 [(x2 6), t13_5, t14_1, t15_1, t16_1, t17_1] w ∧ μ2 [(x2 6), t13_5, t14_1, t15_1, t16_1, t17_1] w < μ2 [x2 6, x2 13, x2 14, x2 15, x2 16, x2 17] w2)))) (fun _ =>
  mv t8 fun t115_1 =>
  mv a0 fun t116_1 =>
  o1 Tryz.prog (convert 9 26 t116_1) w fun t117_1 w =>
  C Tryz.prog N.keys_Signer_Sign #[t115_1, t117_1] w fun t118_1 w =>
  mv t118_1 fun t114_1 =>
  o1 Tryz.prog (Instr.extract t114_1 0) w fun t119_1 w =>
  o1 Tryz.prog (Instr.extract t114_1 1) w fun t120_1 w =>
  mv t119_1 fun t18_1 =>
  mv t120_1 fun t19_1 =>
  mv t19_1 fun t121_1 =>
  C Tryz.prog N.isthmuslaw06_num #[t121_1] w fun t122_1 w =>
  o1 Tryz.prog (bin .eql 3 (.tmp 122) (.const (.int .i64 22)) t122_1 (.int .i64 22)) w fun t123_1 w =>
  mv t123_1 fun t124_1 =>
  gd t124_1 true (fun k86 => C Tryz.prog N.isthmuslaw06_sure #[] w k86) w fun t125_1 w =>
  pk t124_1 t125_1 (.bool false) fun t126_1 =>
  mv t126_1 fun t6_12 =>
  k t6_12 w)))) ∧ (
  o1 Tryz.prog (Instr.alloc 23 true (.tuple #[])) w.drew fun t10_2 w =>
  S2 w ∧
  C Tryz.prog N.keys_Seed #[t34] w fun t35_1 w =>
  S2 w ∧
  C Tryz.prog N.keys_Root #[t35_1, t36] w fun t37_2 w =>
  S2 w ∧
  mv t37_2 fun t33_2 =>
  tk Tryz.prog S2 (Instr.extract t33_2 0) fun t38_2 =>
  tk Tryz.prog S2 (Instr.extract t33_2 1) fun t39_2 =>
  o0 Tryz.prog (Instr.storeAt 23 t10_2 t38_2) w fun _ w =>
  S2 w ∧
  mv t39_2 fun t11_2 =>
  mv t9 fun t40_2 =>
  o1 Tryz.prog (bin .neq 30 (.tmp 40) (.const .nilIface) t40_2 .nilIface) w fun t41_2 w =>
  mv t41_2 fun t42_2 =>
  gd t42_2 false (fun k87 => mv t11_2 fun v => k87 v w) w fun t43_2 w =>
  gd t42_2 false (fun k88 => o1 Tryz.prog (bin .neq 30 (.tmp 43) (.const .nilIface) t43_2 .nilIface) w k88) w fun t44_2 w =>
  pk t42_2 (.bool true) t44_2 fun t45_2 =>
  mv t45_2 fun t46_2 =>
  gd t46_2 false (fun k89 => mv t8 fun v => k89 v w) w fun t47_2 w =>
  gd t46_2 false (fun k90 => o1 Tryz.prog (bin .eql 50 (.tmp 47) (.const (.pointer none)) t47_2 (.pointer none)) w k90) w fun t48_2 w =>
  pk t46_2 (.bool true) t48_2 fun t49_2 =>
  br t49_2 (fun _ =>
  mv (.bool false) fun t6_13 =>
  k t6_13 w) (fun _ =>
  o1 Tryz.prog (Instr.fieldAt 25 t7 1) w fun t50_2 w =>
  o1 Tryz.prog (Instr.loadAt 3 t50_2) w fun t51_2 w =>
  o1 Tryz.prog (convert 3 49 t51_2) w fun t52_2 w =>
  o1 Tryz.prog (bin .shl 3 (.const (.int .i64 1)) (.tmp 52) (.int .i64 1) t52_2) w fun t53_2 w =>
  mv t53_2 fun t12_2 =>
  mv (.int .i64 0) fun t13_6 =>
  lp [t6, t13_6, undef, undef, undef, undef] w fun I3 μ3 => ∀ (x3 : Env) (w3 : World), I3 [x3 6, x3 13, x3 14, x3 15, x3 16, x3 17] w3 →
  mv (x3 13) fun t54_2 =>
  mv t12_2 fun t55_2 =>
  o1 Tryz.prog (bin .lss 3 (.tmp 54) (.tmp 55) t54_2 t55_2) w3 fun t56_2 w =>
  br t56_2 (fun _ =>
  mv t8 fun t60_2 =>
  mv a0 fun t61_2 =>
  o1 Tryz.prog (convert 9 26 t61_2) w fun t62_2 w =>
  C Tryz.prog N.keys_Signer_Sign #[t60_2, t62_2] w fun t63_2 w =>
  mv t63_2 fun t59_2 =>
  o1 Tryz.prog (Instr.extract t59_2 0) w fun t64_2 w =>
  o1 Tryz.prog (Instr.extract t59_2 1) w fun t65_2 w =>
  mv t64_2 fun t14_2 =>
  mv t65_2 fun t15_2 =>
  mv t14_2 fun t67_2 =>
  C Tryz.prog N.keys_Leaf #[t67_2] w fun t68_2 w =>
  mv t68_2 fun t66_2 =>
  o1 Tryz.prog (Instr.extract t66_2 0) w fun t69_2 w =>
  o1 Tryz.prog (Instr.extract t66_2 1) w fun t70_2 w =>
  mv t69_2 fun t16_2 =>
  mv t70_2 fun t17_2 =>
  dr w.drew fun S15 =>
  mv t15_2 fun t71_2 =>
  tk Tryz.prog S15 (bin .neq 30 (.tmp 71) (.const .nilIface) t71_2 .nilIface) fun t72_2 =>
  mv t72_2 fun t73_2 =>
  gdT t73_2 false (fun k91 => mv t17_2 k91) fun t74_2 =>
  gdT t73_2 false (fun k92 => tk Tryz.prog S15 (bin .neq 30 (.tmp 74) (.const .nilIface) t74_2 .nilIface) k92) fun t75_2 =>
  pk t73_2 (.bool true) t75_2 fun t76_2 =>
  mv t76_2 fun t77_2 =>
  gdT t77_2 false (fun k93 => mv t16_2 k93) fun t78_2 =>
  gdT t77_2 false (fun k94 => mv (x3 13) k94) fun t79_2 =>
  gdT t77_2 false (fun k95 => tk Tryz.prog S15 (bin .neq 3 (.tmp 78) (.tmp 79) t78_2 t79_2) k95) fun t80_2 =>
  pk t77_2 (.bool true) t80_2 fun t81_2 =>
  mv t81_2 fun t82_2 =>
  gdT t82_2 false (fun k96 => mv t8 k96) fun t83_2 =>
  gdT t82_2 false (fun k97 => mv t12_2 k97) fun t85_2 =>
  gdT t82_2 false (fun k98 => tk Tryz.prog S15 (bin .sub 3 (.tmp 85) (.const (.int .i64 1)) t85_2 (.int .i64 1)) k98) fun t86_2 =>
  gdT t82_2 false (fun k99 => mv (x3 13) k99) fun t87_2 =>
  gdT t82_2 false (fun k100 => tk Tryz.prog S15 (bin .sub 3 (.tmp 86) (.tmp 87) t86_2 t87_2) k100) fun t88_2 =>
  gd t82_2 false (fun k101 => C Tryz.prog N.keys_Signer_Left #[t83_2] w.drew k101) w.drew fun t84_2 w =>
  S15 w ∧
  gdT t82_2 false (fun k102 => tk Tryz.prog S15 (bin .neq 3 (.tmp 84) (.tmp 88) t84_2 t88_2) k102) fun t89_2 =>
  pk t82_2 (.bool true) t89_2 fun t90_2 =>
  mv t90_2 fun t91_2 =>
  gdT t91_2 false (fun k103 => mv t8 k103) fun t92_2 =>
  nS S15 w fun S16 =>
  gdT t91_2 false (fun k104 => tk Tryz.prog S16 (Instr.loadAt 25 t7) k104) fun t94_2 =>
  gdT t91_2 false (fun k105 => mv a0 k105) fun t95_2 =>
  gdT t91_2 false (fun k106 => mv t14_2 k106) fun t97_2 =>
  (gd t91_2 false (fun k107 => C Tryz.prog N.keys_Signer_Root #[t92_2] w k107) w fun t93_4 w =>
  S16 w ∧
  gd t91_2 false (fun k108 => o1 Tryz.prog (convert 9 26 t95_2) w k108) w fun t96_4 w =>
  S16 w ∧
  gd t91_2 false (fun k109 => C Tryz.prog N.keys_Verify #[t93_4, t94_2, t96_4, t97_2] w k109) w fun t98_4 w =>
  S16 w ∧
  gdT t91_2 false (fun k110 => tk Tryz.prog S16 (bin .neq 30 (.tmp 98) (.const .nilIface) t98_4 .nilIface) k110) fun t99_4 =>
  pk t91_2 (.bool true) t99_4 fun t100_4 =>
  br t100_4 (fun _ =>
  mv (.bool false) fun t6_14 =>
  k t6_14 w) (fun _ =>
  dr w.drew fun S17 =>
  tk Tryz.prog S17 (Instr.loadAt 23 t10_2) fun t101_4 =>
  mv t8 fun t102_4 =>
  C Tryz.prog N.keys_Signer_Root #[t102_4] w.drew fun t103_4 w =>
  S17 w ∧
  tk Tryz.prog S17 (bin .neq 23 (.tmp 101) (.tmp 103) t101_4 t103_4) fun t104_4 =>
  mv t104_4 fun t105_4 =>
  nS S17 w fun S18 =>
  gdT t105_4 true (fun k111 => tk Tryz.prog S18 (Instr.loadAt 23 t10_2) k111) fun t106_4 =>
  gdT t105_4 true (fun k112 => tk Tryz.prog S18 (Instr.loadAt 25 t7) k112) fun t107_4 =>
  gdT t105_4 true (fun k113 => mv a0 k113) fun t108_4 =>
  gdT t105_4 true (fun k114 => mv t14_2 k114) fun t110_4 =>
  gd t105_4 true (fun k115 => o1 Tryz.prog (convert 9 26 t108_4) w k115) w fun t109_4 w =>
  S18 w ∧
  gd t105_4 true (fun k116 => C Tryz.prog N.keys_Verify #[t106_4, t107_4, t109_4, t110_4] w k116) w fun t111_4 w =>
  S18 w ∧
  gdT t105_4 true (fun k117 => tk Tryz.prog S18 (bin .eql 30 (.tmp 111) (.const .nilIface) t111_4 .nilIface) k117) fun t112_4 =>
  pk t105_4 t112_4 (.bool false) fun t113_4 =>
  br t113_4 (fun _ =>
  mv (.bool false) fun t6_15 =>
  k t6_15 w) (fun _ =>
  mv (x3 13) fun t57_4 =>
  o1 Tryz.prog (bin .add 3 (.tmp 57) (.const (.int .i64 1)) t57_4 (.int .i64 1)) w fun t58_4 w =>
  mv t58_4 fun t13_7 =>
  I3 [(x3 6), t13_7, t14_2, t15_2, t16_2, t17_2] w ∧ μ3 [(x3 6), t13_7, t14_2, t15_2, t16_2, t17_2] w < μ3 [x3 6, x3 13, x3 14, x3 15, x3 16, x3 17] w3))) ∧ (
  gd t91_2 false (fun k118 => o1 Tryz.prog (convert 9 26 t95_2) w k118) w fun t96_5 w =>
  S16 w ∧
  gd t91_2 false (fun k119 => C Tryz.prog N.keys_Signer_Root #[t92_2] w k119) w fun t93_5 w =>
  S16 w ∧
  gd t91_2 false (fun k120 => C Tryz.prog N.keys_Verify #[t93_5, t94_2, t96_5, t97_2] w k120) w fun t98_5 w =>
  S16 w ∧
  gdT t91_2 false (fun k121 => tk Tryz.prog S16 (bin .neq 30 (.tmp 98) (.const .nilIface) t98_5 .nilIface) k121) fun t99_5 =>
  pk t91_2 (.bool true) t99_5 fun t100_5 =>
  br t100_5 (fun _ =>
  mv (.bool false) fun t6_16 =>
  k t6_16 w) (fun _ =>
  dr w.drew fun S19 =>
  tk Tryz.prog S19 (Instr.loadAt 23 t10_2) fun t101_5 =>
  mv t8 fun t102_5 =>
  C Tryz.prog N.keys_Signer_Root #[t102_5] w.drew fun t103_5 w =>
  S19 w ∧
  tk Tryz.prog S19 (bin .neq 23 (.tmp 101) (.tmp 103) t101_5 t103_5) fun t104_5 =>
  mv t104_5 fun t105_5 =>
  nS S19 w fun S20 =>
  gdT t105_5 true (fun k122 => tk Tryz.prog S20 (Instr.loadAt 23 t10_2) k122) fun t106_5 =>
  gdT t105_5 true (fun k123 => tk Tryz.prog S20 (Instr.loadAt 25 t7) k123) fun t107_5 =>
  gdT t105_5 true (fun k124 => mv a0 k124) fun t108_5 =>
  gdT t105_5 true (fun k125 => mv t14_2 k125) fun t110_5 =>
  gd t105_5 true (fun k126 => o1 Tryz.prog (convert 9 26 t108_5) w k126) w fun t109_5 w =>
  S20 w ∧
  gd t105_5 true (fun k127 => C Tryz.prog N.keys_Verify #[t106_5, t107_5, t109_5, t110_5] w k127) w fun t111_5 w =>
  S20 w ∧
  gdT t105_5 true (fun k128 => tk Tryz.prog S20 (bin .eql 30 (.tmp 111) (.const .nilIface) t111_5 .nilIface) k128) fun t112_5 =>
  pk t105_5 t112_5 (.bool false) fun t113_5 =>
  br t113_5 (fun _ =>
  mv (.bool false) fun t6_17 =>
  k t6_17 w) (fun _ =>
  mv (x3 13) fun t57_5 =>
  o1 Tryz.prog (bin .add 3 (.tmp 57) (.const (.int .i64 1)) t57_5 (.int .i64 1)) w fun t58_5 w =>
  mv t58_5 fun t13_8 =>
  I3 [(x3 6), t13_8, t14_2, t15_2, t16_2, t17_2] w ∧ μ3 [(x3 6), t13_8, t14_2, t15_2, t16_2, t17_2] w < μ3 [x3 6, x3 13, x3 14, x3 15, x3 16, x3 17] w3)))) (fun _ =>
  mv t8 fun t115_2 =>
  mv a0 fun t116_2 =>
  o1 Tryz.prog (convert 9 26 t116_2) w fun t117_2 w =>
  C Tryz.prog N.keys_Signer_Sign #[t115_2, t117_2] w fun t118_2 w =>
  mv t118_2 fun t114_2 =>
  o1 Tryz.prog (Instr.extract t114_2 0) w fun t119_2 w =>
  o1 Tryz.prog (Instr.extract t114_2 1) w fun t120_2 w =>
  mv t119_2 fun t18_2 =>
  mv t120_2 fun t19_2 =>
  mv t19_2 fun t121_2 =>
  C Tryz.prog N.isthmuslaw06_num #[t121_2] w fun t122_2 w =>
  o1 Tryz.prog (bin .eql 3 (.tmp 122) (.const (.int .i64 22)) t122_2 (.int .i64 22)) w fun t123_2 w =>
  mv t123_2 fun t124_2 =>
  gd t124_2 true (fun k129 => C Tryz.prog N.isthmuslaw06_sure #[] w k129) w fun t125_2 w =>
  pk t124_2 t125_2 (.bool false) fun t126_2 =>
  mv t126_2 fun t6_18 =>
  k t6_18 w)))
theorem C.isthmuslaw06_KeysLeft {k : Value → World → Prop} {a0 a1 a2 : Value} {w : World} (h : F.isthmuslaw06_KeysLeft k a0 a1 a2 w) : C Tryz.prog N.isthmuslaw06_KeysLeft #[a0, a1, a2] w k :=
  den_calls (H := { moves := [(2, (.take 1 (.take 3 (.force 0 (.force 2 (.force 4 (.take 5 (.take 6 (.take 7 (.take 8 (.take 9 .fin))))))))))), (3, (.take 0 (.take 2 (.two 1 7 (.two 3 7 (.take 4 (.take 5 (.take 6 (.force 7 (.force 8 (.take 9 .fin)))))) (.force 3 (.take 4 (.take 5 (.take 6 (.force 8 (.take 9 .fin))))))) (.force 1 (.force 3 (.take 4 (.take 5 (.take 6 (.force 8 (.take 9 .fin))))))))))), (12, (.take 0 (.take 1 (.take 2 (.take 3 (.take 4 (.take 5 (.take 6 (.take 7 (.take 8 (.take 9 (.take 10 (.take 11 (.take 12 (.take 14 (.take 15 (.take 16 (.take 17 (.force 13 (.take 18 (.take 19 (.take 20 (.take 21 (.renew (.take 23 (.take 24 (.take 26 (.two 22 25 (.force 25 (.force 27 (.take 28 (.take 29 .fin)))) (.force 22 (.force 27 (.take 28 (.take 29 .fin)))))))))))))))))))))))))))))))), (14, (.take 0 (.take 1 (.force 2 (.take 3 (.take 4 (.renew (.take 5 (.take 6 (.take 7 (.take 9 (.force 8 (.force 10 (.take 11 (.take 12 .fin)))))))))))))))], vars := [6, 8, 9, 11, 12, 13, 14, 15, 16, 17, 18, 19] }) (args := [a0, a1, a2]) mixed Tryz.func4 (by kernel_rfl) (by kernel_rfl) (by kernel_rfl) h

-- isthmus/isthmuslaw06.KeysOnce
-- isthmus/isthmuslaw06.cut
-- isthmus/keys.Root
def F.keys_Root (k : Value → World → Prop) (a0 a1 : Value) (w : World) : Prop :=
  o1 Tryz.prog (Instr.box 23 a0) w fun t2 w =>
  o1 Tryz.prog (Instr.box 25 a1) w fun t3 w =>
  o1 Tryz.prog (Instr.alloc 23 true (.tuple #[])) w fun t4 w =>
  mv .nilIface fun t5 =>
  o1 Tryz.prog (Instr.loadAt 23 t2) w fun t9 w =>
  o1 Tryz.prog (Instr.loadAt 25 t3) w fun t10 w =>
  C Tryz.prog N.keys_leaves #[t9, t10] w fun t11 w =>
  mv t11 fun t8 =>
  o1 Tryz.prog (Instr.extract t8 0) w fun t12 w =>
  o1 Tryz.prog (Instr.extract t8 1) w fun t13 w =>
  mv t12 fun t6 =>
  mv t13 fun t7 =>
  mv t7 fun t14 =>
  o1 Tryz.prog (bin .neq 30 (.tmp 14) (.const .nilIface) t14 .nilIface) w fun t15 w =>
  br t15 (fun _ =>
  o1 Tryz.prog (Instr.build 23 #[]) w fun t16 w =>
  mv t7 fun t17 =>
  o0 Tryz.prog (Instr.storeAt 23 t4 t16) w fun _ w =>
  mv t17 fun t5_1 =>
  rc Tryz.prog 23 t4 w fun r0 =>
  k (.tuple #[r0, t5_1]) w) (fun _ =>
  mv t6 fun t18 =>
  C Tryz.prog N.sha_Root #[t18] w fun t19 w =>
  o0 Tryz.prog (Instr.storeAt 23 t4 t19) w fun _ w =>
  mv .nilIface fun t5_2 =>
  rc Tryz.prog 23 t4 w fun r0 =>
  k (.tuple #[r0, t5_2]) w)
theorem C.keys_Root {k : Value → World → Prop} {a0 a1 : Value} {w : World} (h : F.keys_Root k a0 a1 w) : C Tryz.prog N.keys_Root #[a0, a1] w k :=
  den_calls (H := { moves := [], vars := [5, 6, 7] }) (args := [a0, a1]) mixed Tryz.func7 (by kernel_rfl) (by kernel_rfl) (by kernel_rfl) h

-- isthmus/isthmusref06.Root
-- isthmus/keys.Leaf
def F.keys_Leaf (k : Value → World → Prop) (a0 : Value) (w : World) : Prop :=
  mv (.int .i64 0) fun t2 =>
  mv .nilIface fun t3 =>
  mv a0 fun t7 =>
  C Tryz.prog N.keys_read #[t7] w fun t8 w =>
  mv t8 fun t6 =>
  o1 Tryz.prog (Instr.extract t6 0) w fun t9 w =>
  o1 Tryz.prog (Instr.extract t6 1) w fun t10 w =>
  o1 Tryz.prog (Instr.alloc 74 true (.tuple #[])) w fun t4 w =>
  o0 Tryz.prog (Instr.storeAt 74 t4 t9) w fun _ w =>
  mv t10 fun t5 =>
  o1 Tryz.prog (Instr.fieldAt 74 t4 0) w fun t11 w =>
  o1 Tryz.prog (Instr.loadAt 3 t11) w fun t12 w =>
  mv t5 fun t13 =>
  mv t12 fun t2_1 =>
  mv t13 fun t3_1 =>
  k (.tuple #[t2_1, t3_1]) w
theorem C.keys_Leaf {k : Value → World → Prop} {a0 : Value} {w : World} (h : F.keys_Leaf k a0 w) : C Tryz.prog N.keys_Leaf #[a0] w k :=
  den_calls (H := { moves := [], vars := [2, 3, 5] }) (args := [a0]) mixed Tryz.func9 (by kernel_rfl) (by kernel_rfl) (by kernel_rfl) h

-- isthmus/isthmusref06.Parts
-- isthmus/isthmuslaw06.num
def F.isthmuslaw06_num (k : Value → World → Prop) (a0 : Value) (w : World) : Prop :=
  mv (.int .i64 0) fun t2 =>
  o1 Tryz.prog (Instr.alloc 87 true (.tuple #[])) w fun t3 w =>
  mv a0 fun t4 =>
  o1 Tryz.prog (bin .eql 30 (.tmp 4) (.const .nilIface) t4 .nilIface) w fun t5 w =>
  br t5 (fun _ =>
  mv (.int .i64 0) fun t2_1 =>
  k t2_1 w) (fun _ =>
  mv a0 fun t6 =>
  o1 Tryz.prog (Instr.makeInterface 89 t3) w fun t7 w =>
  C Tryz.prog N.errors_As #[t6, t7] w fun t8 w =>
  br t8 (fun _ =>
  o1 Tryz.prog (Instr.loadAt 87 t3) w fun t9 w =>
  mv t9 fun t2_2 =>
  k t2_2 w) (fun _ =>
  mv (.int .i64 (-1)) fun t2_3 =>
  k t2_3 w))
theorem C.isthmuslaw06_num {k : Value → World → Prop} {a0 : Value} {w : World} (h : F.isthmuslaw06_num k a0 w) : C Tryz.prog N.isthmuslaw06_num #[a0] w k :=
  den_calls (H := { moves := [], vars := [2] }) (args := [a0]) mixed Tryz.func11 (by kernel_rfl) (by kernel_rfl) (by kernel_rfl) h

-- isthmus/keys.Check
def F.keys_Check (k : Value → World → Prop) (a0 : Value) (w : World) : Prop :=
  o1 Tryz.prog (Instr.box 25 a0) w fun t1 w =>
  mv .nilIface fun t2 =>
  o1 Tryz.prog (Instr.fieldAt 25 t1 0) w fun t3 w =>
  o1 Tryz.prog (Instr.loadAt 3 t3) w fun t4 w =>
  o1 Tryz.prog (bin .lss 3 (.tmp 4) (.const (.int .i64 1)) t4 (.int .i64 1)) w fun t5 w =>
  mv t5 fun t6 =>
  gd t6 false (fun k1 => o1 Tryz.prog (Instr.fieldAt 25 t1 0) w k1) w fun t7 w =>
  gd t6 false (fun k2 => o1 Tryz.prog (Instr.loadAt 3 t7) w k2) w fun t8 w =>
  gd t6 false (fun k3 => o1 Tryz.prog (bin .gtr 3 (.tmp 8) (.const (.int .i64 32)) t8 (.int .i64 32)) w k3) w fun t9 w =>
  pk t6 (.bool true) t9 fun t10 =>
  mv t10 fun t11 =>
  gd t11 false (fun k4 => o1 Tryz.prog (Instr.fieldAt 25 t1 1) w k4) w fun t12 w =>
  gd t11 false (fun k5 => o1 Tryz.prog (Instr.loadAt 3 t12) w k5) w fun t13 w =>
  gd t11 false (fun k6 => o1 Tryz.prog (bin .lss 3 (.tmp 13) (.const (.int .i64 0)) t13 (.int .i64 0)) w k6) w fun t14 w =>
  pk t11 (.bool true) t14 fun t15 =>
  mv t15 fun t16 =>
  gd t16 false (fun k7 => o1 Tryz.prog (Instr.fieldAt 25 t1 1) w k7) w fun t17 w =>
  gd t16 false (fun k8 => o1 Tryz.prog (Instr.loadAt 3 t17) w k8) w fun t18 w =>
  gd t16 false (fun k9 => o1 Tryz.prog (bin .gtr 3 (.tmp 18) (.const (.int .i64 10)) t18 (.int .i64 10)) w k9) w fun t19 w =>
  pk t16 (.bool true) t19 fun t20 =>
  br t20 (fun _ =>
  o1 Tryz.prog (Instr.makeInterface 87 (.int .i64 20)) w fun t21 w =>
  C Tryz.prog N.keys_fault #[.string ⟨#[112, 97, 114, 97, 109, 115]⟩, t21] w fun t22 w =>
  mv t22 fun t2_1 =>
  k t2_1 w) (fun _ =>
  mv .nilIface fun t2_2 =>
  k t2_2 w)
theorem C.keys_Check {k : Value → World → Prop} {a0 : Value} {w : World} (h : F.keys_Check k a0 w) : C Tryz.prog N.keys_Check #[a0] w k :=
  den_calls (H := { moves := [], vars := [2] }) (args := [a0]) mixed Tryz.func12 (by kernel_rfl) (by kernel_rfl) (by kernel_rfl) h

-- isthmus/isthmusref06.Check
-- isthmus/keys.Verify
def F.keys_Verify (k : Value → World → Prop) (a0 a1 a2 a3 : Value) (w : World) : Prop :=
  o1 Tryz.prog (Instr.box 23 a0) w fun t4 w =>
  o1 Tryz.prog (Instr.box 25 a1) w fun t5 w =>
  mv .nilIface fun t8 =>
  o1 Tryz.prog (Instr.loadAt 25 t5) w fun t14 w =>
  C Tryz.prog N.keys_Check #[t14] w fun t15 w =>
  mv t15 fun t9 =>
  mv t9 fun t16 =>
  o1 Tryz.prog (bin .neq 30 (.tmp 16) (.const .nilIface) t16 .nilIface) w fun t17 w =>
  br t17 (fun _ =>
  mv t9 fun t18 =>
  mv t18 fun t8_1 =>
  k t8_1 w) (fun _ =>
  mv a3 fun t20 =>
  C Tryz.prog N.keys_read #[t20] w fun t21 w =>
  mv t21 fun t19 =>
  o1 Tryz.prog (Instr.extract t19 0) w fun t22 w =>
  o1 Tryz.prog (Instr.extract t19 1) w fun t23 w =>
  o1 Tryz.prog (Instr.alloc 74 true (.tuple #[])) w fun t10 w =>
  o0 Tryz.prog (Instr.storeAt 74 t10 t22) w fun _ w =>
  mv t23 fun t11 =>
  mv t11 fun t24 =>
  o1 Tryz.prog (bin .neq 30 (.tmp 24) (.const .nilIface) t24 .nilIface) w fun t25 w =>
  br t25 (fun _ =>
  mv t11 fun t26 =>
  mv t26 fun t8_2 =>
  k t8_2 w) (fun _ =>
  mv a2 fun t28 =>
  o1 Tryz.prog (Instr.fieldAt 25 t5 0) w fun t29 w =>
  o1 Tryz.prog (Instr.loadAt 3 t29) w fun t30 w =>
  C Tryz.prog N.wots_Digest #[t28, t30] w fun t31 w =>
  mv t31 fun t27 =>
  o1 Tryz.prog (Instr.extract t27 0) w fun t32 w =>
  o1 Tryz.prog (Instr.extract t27 1) w fun t33 w =>
  mv t32 fun t12 =>
  mv t33 fun t11_1 =>
  mv t11_1 fun t34 =>
  o1 Tryz.prog (bin .neq 30 (.tmp 34) (.const .nilIface) t34 .nilIface) w fun t35 w =>
  br t35 (fun _ =>
  mv t11_1 fun t36 =>
  mv t36 fun t8_3 =>
  k t8_3 w) (fun _ =>
  o1 Tryz.prog (Instr.fieldAt 74 t10 1) w fun t38 w =>
  o1 Tryz.prog (Instr.loadAt 26 t38) w fun t39 w =>
  o1 Tryz.prog (Instr.fieldAt 74 t10 0) w fun t40 w =>
  o1 Tryz.prog (Instr.loadAt 3 t40) w fun t41 w =>
  mv t12 fun t42 =>
  C Tryz.prog N.wots_From #[t39, t41, t42] w fun t43 w =>
  mv t43 fun t37 =>
  o1 Tryz.prog (Instr.extract t37 0) w fun t44 w =>
  o1 Tryz.prog (Instr.extract t37 1) w fun t45 w =>
  o1 Tryz.prog (Instr.alloc 23 true (.tuple #[])) w fun t13 w =>
  o0 Tryz.prog (Instr.storeAt 23 t13 t44) w fun _ w =>
  mv t45 fun t11_2 =>
  mv t11_2 fun t46 =>
  o1 Tryz.prog (bin .neq 30 (.tmp 46) (.const .nilIface) t46 .nilIface) w fun t47 w =>
  br t47 (fun _ =>
  o1 Tryz.prog (Instr.makeInterface 87 (.int .i64 21)) w fun t48 w =>
  C Tryz.prog N.keys_fault #[.string ⟨#[99, 104, 97, 105, 110, 115]⟩, t48] w fun t49 w =>
  mv t49 fun t8_4 =>
  k t8_4 w) (fun _ =>
  dr w.drew fun S1 =>
  tk Tryz.prog S1 (Instr.loadAt 23 t13) fun t51 =>
  tk Tryz.prog S1 (Instr.fieldAt 74 t10 0) fun t52 =>
  tk Tryz.prog S1 (Instr.loadAt 3 t52) fun t53 =>
  tk Tryz.prog S1 (Instr.fieldAt 25 t5 1) fun t54 =>
  tk Tryz.prog S1 (Instr.loadAt 3 t54) fun t55 =>
  tk Tryz.prog S1 (bin .shl 3 (.const (.int .i64 1)) (.tmp 55) (.int .i64 1) t55) fun t56 =>
  tk Tryz.prog S1 (Instr.fieldAt 74 t10 2) fun t57 =>
  tk Tryz.prog S1 (Instr.loadAt 37 t57) fun t58 =>
  C Tryz.prog N.sha_Fold #[t51, t53, t56, t58] w.drew fun t59 w =>
  S1 w ∧
  mv t59 fun t50 =>
  tk Tryz.prog S1 (Instr.extract t50 0) fun t60 =>
  tk Tryz.prog (fun _ => True) (Instr.extract t50 1) fun t61 =>
  o0 Tryz.prog (Instr.storeAt 23 t13 t60) w fun _ w =>
  mv t61 fun t11_3 =>
  mv t11_3 fun t62 =>
  o1 Tryz.prog (bin .neq 30 (.tmp 62) (.const .nilIface) t62 .nilIface) w fun t63 w =>
  mv t63 fun t64 =>
  gd t64 false (fun k1 => o1 Tryz.prog (Instr.loadAt 23 t13) w k1) w fun t65 w =>
  gd t64 false (fun k2 => o1 Tryz.prog (Instr.loadAt 23 t4) w k2) w fun t66 w =>
  gd t64 false (fun k3 => o1 Tryz.prog (bin .neq 23 (.tmp 65) (.tmp 66) t65 t66) w k3) w fun t67 w =>
  pk t64 (.bool true) t67 fun t68 =>
  br t68 (fun _ =>
  o1 Tryz.prog (Instr.makeInterface 87 (.int .i64 21)) w fun t69 w =>
  C Tryz.prog N.keys_fault #[.string ⟨#[114, 111, 111, 116]⟩, t69] w fun t70 w =>
  mv t70 fun t8_5 =>
  k t8_5 w) (fun _ =>
  mv .nilIface fun t8_6 =>
  k t8_6 w)))))
theorem C.keys_Verify {k : Value → World → Prop} {a0 a1 a2 a3 : Value} {w : World} (h : F.keys_Verify k a0 a1 a2 a3 w) : C Tryz.prog N.keys_Verify #[a0, a1, a2, a3] w k :=
  den_calls (H := { moves := [(13, (.take 0 (.take 1 (.take 2 (.take 3 (.take 4 (.take 5 (.take 6 (.take 7 (.force 8 (.take 9 (.take 10 (.pure 11 (.late 12 (.pure 13 .fin)))))))))))))))], vars := [8, 9, 11, 12] }) (args := [a0, a1, a2, a3]) mixed Tryz.func14 (by kernel_rfl) (by kernel_rfl) (by kernel_rfl) h

-- isthmus/isthmusref06.Verify
-- isthmus/isthmuslaw06.sure
def F.isthmuslaw06_sure (k : Value → World → Prop) (w : World) : Prop :=
  mv (.bool false) fun t0 =>
  C Tryz.prog N.files_New #[] w fun t12 w =>
  o1 Tryz.prog (Instr.build 23 #[]) w fun t13 w =>
  C Tryz.prog N.isthmuslaw06_small #[] w fun t14 w =>
  C Tryz.prog N.keys_Open #[t12, .string ⟨#[107]⟩, t13, t14] w fun t15 w =>
  mv t15 fun t11 =>
  o1 Tryz.prog (Instr.extract t11 0) w fun t16 w =>
  o1 Tryz.prog (Instr.extract t11 1) w fun t17 w =>
  mv t16 fun t1 =>
  mv t17 fun t2 =>
  mv t2 fun t18 =>
  o1 Tryz.prog (bin .neq 30 (.tmp 18) (.const .nilIface) t18 .nilIface) w fun t19 w =>
  mv t19 fun t20 =>
  gd t20 false (fun k1 => mv t1 fun v => k1 v w) w fun t21 w =>
  gd t20 false (fun k2 => o1 Tryz.prog (bin .eql 50 (.tmp 21) (.const (.pointer none)) t21 (.pointer none)) w k2) w fun t22 w =>
  pk t20 (.bool true) t22 fun t23 =>
  br t23 (fun _ =>
  mv (.bool false) fun t0_1 =>
  k t0_1 w) (fun _ =>
  mv t1 fun t25 =>
  o1 Tryz.prog (Instr.buildSlice 26 1 #[(0, .int .u8 97)]) w fun t26 w =>
  o1 Tryz.prog (convert 26 26 t26) w fun t27 w =>
  C Tryz.prog N.keys_Signer_Sign #[t25, t27] w fun t28 w =>
  mv t28 fun t24 =>
  o1 Tryz.prog (Instr.extract t24 0) w fun t29 w =>
  o1 Tryz.prog (Instr.extract t24 1) w fun t30 w =>
  mv t29 fun t3 =>
  mv t30 fun t4 =>
  mv t1 fun t32 =>
  o1 Tryz.prog (Instr.buildSlice 26 1 #[(0, .int .u8 98)]) w fun t33 w =>
  o1 Tryz.prog (convert 26 26 t33) w fun t34 w =>
  C Tryz.prog N.keys_Signer_Sign #[t32, t34] w fun t35 w =>
  mv t35 fun t31 =>
  o1 Tryz.prog (Instr.extract t31 0) w fun t36 w =>
  o1 Tryz.prog (Instr.extract t31 1) w fun t37 w =>
  mv t36 fun t5 =>
  mv t37 fun t6 =>
  mv t1 fun t39 =>
  o1 Tryz.prog (Instr.buildSlice 26 1 #[(0, .int .u8 99)]) w fun t40 w =>
  o1 Tryz.prog (convert 26 26 t40) w fun t41 w =>
  C Tryz.prog N.keys_Signer_Sign #[t39, t41] w fun t42 w =>
  mv t42 fun t38 =>
  o1 Tryz.prog (Instr.extract t38 0) w fun t43 w =>
  o1 Tryz.prog (Instr.extract t38 1) w fun t44 w =>
  mv t43 fun t7 =>
  mv t44 fun t8 =>
  mv t5 fun t46 =>
  C Tryz.prog N.keys_Leaf #[t46] w fun t47 w =>
  mv t47 fun t45 =>
  o1 Tryz.prog (Instr.extract t45 0) w fun t48 w =>
  o1 Tryz.prog (Instr.extract t45 1) w fun t49 w =>
  mv t48 fun t9 =>
  mv t49 fun t10 =>
  mv t4 fun t50 =>
  o1 Tryz.prog (bin .eql 30 (.tmp 50) (.const .nilIface) t50 .nilIface) w fun t51 w =>
  mv t51 fun t52 =>
  gd t52 true (fun k3 => mv t6 fun v => k3 v w) w fun t53 w =>
  gd t52 true (fun k4 => o1 Tryz.prog (bin .eql 30 (.tmp 53) (.const .nilIface) t53 .nilIface) w k4) w fun t54 w =>
  pk t52 t54 (.bool false) fun t55 =>
  mv t55 fun t56 =>
  gd t56 true (fun k5 => mv t8 fun v => k5 v w) w fun t57 w =>
  gd t56 true (fun k6 => C Tryz.prog N.isthmuslaw06_num #[t57] w k6) w fun t58 w =>
  gd t56 true (fun k7 => o1 Tryz.prog (bin .eql 3 (.tmp 58) (.const (.int .i64 22)) t58 (.int .i64 22)) w k7) w fun t59 w =>
  pk t56 t59 (.bool false) fun t60 =>
  mv t60 fun t61 =>
  gd t61 true (fun k8 => mv t1 fun v => k8 v w) w fun t62 w =>
  gd t61 true (fun k9 => C Tryz.prog N.keys_Signer_Root #[t62] w k9) w fun t63 w =>
  gd t61 true (fun k10 => C Tryz.prog N.isthmuslaw06_small #[] w k10) w fun t64 w =>
  gd t61 true (fun k11 => o1 Tryz.prog (Instr.buildSlice 26 1 #[(0, .int .u8 97)]) w k11) w fun t65 w =>
  gd t61 true (fun k12 => o1 Tryz.prog (convert 26 26 t65) w k12) w fun t66 w =>
  gd t61 true (fun k13 => mv t3 fun v => k13 v w) w fun t67 w =>
  gd t61 true (fun k14 => C Tryz.prog N.keys_Verify #[t63, t64, t66, t67] w k14) w fun t68 w =>
  gd t61 true (fun k15 => o1 Tryz.prog (bin .eql 30 (.tmp 68) (.const .nilIface) t68 .nilIface) w k15) w fun t69 w =>
  pk t61 t69 (.bool false) fun t70 =>
  mv t70 fun t71 =>
  gd t71 true (fun k16 => mv t9 fun v => k16 v w) w fun t72 w =>
  gd t71 true (fun k17 => o1 Tryz.prog (bin .eql 3 (.tmp 72) (.const (.int .i64 1)) t72 (.int .i64 1)) w k17) w fun t73 w =>
  pk t71 t73 (.bool false) fun t74 =>
  mv t74 fun t75 =>
  gd t75 true (fun k18 => mv t10 fun v => k18 v w) w fun t76 w =>
  gd t75 true (fun k19 => o1 Tryz.prog (bin .eql 30 (.tmp 76) (.const .nilIface) t76 .nilIface) w k19) w fun t77 w =>
  pk t75 t77 (.bool false) fun t78 =>
  mv t78 fun t79 =>
  gd t79 true (fun k20 => mv t1 fun v => k20 v w) w fun t80 w =>
  gd t79 true (fun k21 => C Tryz.prog N.keys_Signer_Left #[t80] w k21) w fun t81 w =>
  gd t79 true (fun k22 => o1 Tryz.prog (bin .eql 3 (.tmp 81) (.const (.int .i64 0)) t81 (.int .i64 0)) w k22) w fun t82 w =>
  pk t79 t82 (.bool false) fun t83 =>
  mv t83 fun t0_2 =>
  k t0_2 w)
theorem C.isthmuslaw06_sure {k : Value → World → Prop} {w : World} (h : F.isthmuslaw06_sure k  w) : C Tryz.prog N.isthmuslaw06_sure #[] w k :=
  den_calls (H := { moves := [], vars := [0, 1, 2, 3, 4, 5, 6, 7, 8, 9, 10] }) (args := []) mixed Tryz.func16 (by kernel_rfl) (by kernel_rfl) (by kernel_rfl) h

-- isthmus/keys.Open
def F.keys_Open (k : Value → World → Prop) (a0 a1 a2 a3 : Value) (w : World) : Prop :=
  o1 Tryz.prog (Instr.box 23 a2) w fun t6 w =>
  o1 Tryz.prog (Instr.box 25 a3) w fun t7 w =>
  mv (.pointer none) fun t8 =>
  mv .nilIface fun t9 =>
  o1 Tryz.prog (Instr.loadAt 23 t6) w fun t15 w =>
  o1 Tryz.prog (Instr.loadAt 25 t7) w fun t16 w =>
  C Tryz.prog N.keys_leaves #[t15, t16] w fun t17 w =>
  mv t17 fun t14 =>
  o1 Tryz.prog (Instr.extract t14 0) w fun t18 w =>
  o1 Tryz.prog (Instr.extract t14 1) w fun t19 w =>
  mv t18 fun t10 =>
  mv t19 fun t11 =>
  mv t11 fun t20 =>
  o1 Tryz.prog (bin .neq 30 (.tmp 20) (.const .nilIface) t20 .nilIface) w fun t21 w =>
  br t21 (fun _ =>
  mv t11 fun t22 =>
  mv (.pointer none) fun t8_1 =>
  mv t22 fun t9_1 =>
  k (.tuple #[t8_1, t9_1]) w) (fun _ =>
  mv a0 fun t23 =>
  mv a1 fun t24 =>
  o1 Tryz.prog (Instr.loadAt 23 t6) w fun t25 w =>
  o1 Tryz.prog (Instr.loadAt 25 t7) w fun t26 w =>
  mv t10 fun t27 =>
  o1 Tryz.prog (Instr.build 100 #[(0, t23), (1, t24), (2, t25), (3, t26), (4, t27)]) w fun t28 w =>
  o1 Tryz.prog (Instr.box 100 t28) w fun t29 w =>
  mv t29 fun t12 =>
  mv t12 fun t30 =>
  C Tryz.prog N.keys_Signer_count #[t30] w fun t31 w =>
  mv t31 fun t13 =>
  mv t13 fun t32 =>
  o1 Tryz.prog (bin .neq 30 (.tmp 32) (.const .nilIface) t32 .nilIface) w fun t33 w =>
  br t33 (fun _ =>
  mv t13 fun t34 =>
  mv (.pointer none) fun t8_2 =>
  mv t34 fun t9_2 =>
  k (.tuple #[t8_2, t9_2]) w) (fun _ =>
  mv t12 fun t35 =>
  mv t35 fun t8_3 =>
  mv .nilIface fun t9_3 =>
  k (.tuple #[t8_3, t9_3]) w))
theorem C.keys_Open {k : Value → World → Prop} {a0 a1 a2 a3 : Value} {w : World} (h : F.keys_Open k a0 a1 a2 a3 w) : C Tryz.prog N.keys_Open #[a0, a1, a2, a3] w k :=
  den_calls (H := { moves := [], vars := [8, 9, 10, 11, 12, 13] }) (args := [a0, a1, a2, a3]) mixed Tryz.func17 (by kernel_rfl) (by kernel_rfl) (by kernel_rfl) h

-- isthmus/files.New
def F.files_New (k : Value → World → Prop) (w : World) : Prop :=
  mv (.pointer none) fun t0 =>
  o1 Tryz.prog (Instr.makeMap 102 none) w fun t1 w =>
  o1 Tryz.prog (Instr.build 104 #[(0, t1)]) w fun t2 w =>
  o1 Tryz.prog (Instr.box 104 t2) w fun t3 w =>
  mv t3 fun t0_1 =>
  k t0_1 w
theorem C.files_New {k : Value → World → Prop} {w : World} (h : F.files_New k  w) : C Tryz.prog N.files_New #[] w k :=
  den_calls (H := { moves := [], vars := [0] }) (args := []) mixed Tryz.func18 (by kernel_rfl) (by kernel_rfl) (by kernel_rfl) h

-- isthmus/keys.Seed
def F.keys_Seed (k : Value → World → Prop) (a0 : Value) (w : World) : Prop :=
  o1 Tryz.prog (Instr.alloc 23 true (.tuple #[])) w fun t2 w =>
  o1 Tryz.prog (Instr.buildSlice 26 1 #[(0, .int .u8 5)]) w fun t3 w =>
  mv a0 fun t4 =>
  ob Tryz.prog (fun _ => Builtin.append_ #[26, 9] 26 #[t3, t4]) w fun t5 w =>
  C Tryz.prog N.sha_Sum #[t5] w fun t6 w =>
  o0 Tryz.prog (Instr.storeAt 23 t2 t6) w fun _ w =>
  rc Tryz.prog 23 t2 w fun r0 =>
  k r0 w
theorem C.keys_Seed {k : Value → World → Prop} {a0 : Value} {w : World} (h : F.keys_Seed k a0 w) : C Tryz.prog N.keys_Seed #[a0] w k :=
  den_calls (H := { moves := [], vars := [] }) (args := [a0]) mixed Tryz.func19 (by kernel_rfl) (by kernel_rfl) (by kernel_rfl) h

-- (*isthmus/keys.Signer).Sign
def F.keys_Signer_Sign (k : Value → World → Prop) (a0 a1 : Value) (w : World) : Prop :=
  mv (.slice none 0 0) fun t4 =>
  mv .nilIface fun t5 =>
  mv a0 fun t12 =>
  o1 Tryz.prog (bin .eql 50 (.tmp 12) (.const (.pointer none)) t12 (.pointer none)) w fun t13 w =>
  mv t13 fun t11 =>
  br t11 (fun _ =>
  o1 Tryz.prog (Instr.makeInterface 87 (.int .i64 20)) w fun t14 w =>
  C Tryz.prog N.keys_fault #[.string ⟨#[115, 105, 103, 110, 101, 114]⟩, t14] w fun t15 w =>
  mv (.slice none 0 0) fun t4_1 =>
  mv t15 fun t5_1 =>
  k (.tuple #[t4_1, t5_1]) w) (fun _ =>
  mv a0 fun t17 =>
  nilOk t17 = true ∧ mv t17 fun t18 =>
  o1 Tryz.prog (Instr.fieldAt 100 t18 6) w fun t19 w =>
  o1 Tryz.prog (Instr.loadAt 30 t19) w fun t20 w =>
  o1 Tryz.prog (bin .neq 30 (.tmp 20) (.const .nilIface) t20 .nilIface) w fun t21 w =>
  mv t21 fun t16 =>
  br t16 (fun _ =>
  mv a0 fun t22 =>
  nilOk t22 = true ∧ mv t22 fun t23 =>
  tk Tryz.prog (fun w' => w' = w.drew) (Instr.fieldAt 100 t23 6) fun t24 =>
  tk Tryz.prog (fun w' => w' = w.drew) (Instr.loadAt 30 t24) fun t25 =>
  mv (.slice none 0 0) fun t4_2 =>
  mv t25 fun t5_2 =>
  k (.tuple #[t4_2, t5_2]) w.drew) (fun _ =>
  mv a0 fun t27 =>
  C Tryz.prog N.keys_Signer_Left #[t27] w fun t28 w =>
  o1 Tryz.prog (bin .eql 3 (.tmp 28) (.const (.int .i64 0)) t28 (.int .i64 0)) w fun t29 w =>
  mv t29 fun t26 =>
  br t26 (fun _ =>
  o1 Tryz.prog (Instr.makeInterface 87 (.int .i64 22)) w fun t30 w =>
  C Tryz.prog N.keys_fault #[.string ⟨#[108, 101, 97, 118, 101, 115]⟩, t30] w fun t31 w =>
  mv (.slice none 0 0) fun t4_3 =>
  mv t31 fun t5_3 =>
  k (.tuple #[t4_3, t5_3]) w) (fun _ =>
  mv a0 fun t32 =>
  mv a0 fun t33 =>
  C Tryz.prog N.keys_Signer_reserve #[t33] w fun t34 w =>
  nilOk t32 = true ∧ mv t32 fun t35 =>
  o1 Tryz.prog (Instr.fieldAt 100 t35 6) w fun t36 w =>
  o0 Tryz.prog (Instr.storeAt 30 t36 t34) w fun _ w =>
  mv a0 fun t37 =>
  nilOk t37 = true ∧ mv t37 fun t38 =>
  o1 Tryz.prog (Instr.fieldAt 100 t38 6) w fun t39 w =>
  o1 Tryz.prog (Instr.loadAt 30 t39) w fun t40 w =>
  o1 Tryz.prog (bin .neq 30 (.tmp 40) (.const .nilIface) t40 .nilIface) w fun t41 w =>
  br t41 (fun _ =>
  mv a0 fun t42 =>
  nilOk t42 = true ∧ mv t42 fun t43 =>
  tk Tryz.prog (fun w' => w' = w.drew) (Instr.fieldAt 100 t43 6) fun t44 =>
  tk Tryz.prog (fun w' => w' = w.drew) (Instr.loadAt 30 t44) fun t45 =>
  mv (.slice none 0 0) fun t4_4 =>
  mv t45 fun t5_4 =>
  k (.tuple #[t4_4, t5_4]) w.drew) (fun _ =>
  mv a0 fun t46 =>
  nilOk t46 = true ∧ mv t46 fun t47 =>
  o1 Tryz.prog (Instr.fieldAt 100 t47 5) w fun t48 w =>
  o1 Tryz.prog (Instr.loadAt 3 t48) w fun t49 w =>
  mv t49 fun t6 =>
  mv a0 fun t50 =>
  nilOk t50 = true ∧ mv t50 fun t51 =>
  o1 Tryz.prog (Instr.fieldAt 100 t51 5) w fun t52 w =>
  o1 Tryz.prog (Instr.loadAt 3 t52) w fun t53 w =>
  o1 Tryz.prog (bin .add 3 (.tmp 53) (.const (.int .i64 1)) t53 (.int .i64 1)) w fun t54 w =>
  nilOk t50 = true ∧ mv t50 fun t55 =>
  o1 Tryz.prog (Instr.fieldAt 100 t55 5) w fun t56 w =>
  o0 Tryz.prog (Instr.storeAt 3 t56 t54) w fun _ w =>
  mv a1 fun t58 =>
  mv a0 fun t59 =>
  nilOk t59 = true ∧ mv t59 fun t60 =>
  o1 Tryz.prog (Instr.fieldAt 100 t60 3) w fun t61 w =>
  o1 Tryz.prog (Instr.fieldAt 25 t61 0) w fun t62 w =>
  o1 Tryz.prog (Instr.loadAt 3 t62) w fun t63 w =>
  C Tryz.prog N.wots_Digest #[t58, t63] w fun t64 w =>
  mv t64 fun t57 =>
  o1 Tryz.prog (Instr.extract t57 0) w fun t65 w =>
  o1 Tryz.prog (Instr.extract t57 1) w fun t66 w =>
  mv t65 fun t7 =>
  mv t66 fun t8 =>
  mv t8 fun t67 =>
  o1 Tryz.prog (bin .neq 30 (.tmp 67) (.const .nilIface) t67 .nilIface) w fun t68 w =>
  br t68 (fun _ =>
  mv t8 fun t69 =>
  mv (.slice none 0 0) fun t4_5 =>
  mv t69 fun t5_5 =>
  k (.tuple #[t4_5, t5_5]) w) (fun _ =>
  mv a0 fun t71 =>
  nilOk t71 = true ∧ mv t71 fun t72 =>
  o1 Tryz.prog (Instr.fieldAt 100 t72 2) w fun t73 w =>
  o1 Tryz.prog (Instr.loadAt 23 t73) w fun t74 w =>
  mv t6 fun t75 =>
  mv t7 fun t76 =>
  C Tryz.prog N.wots_Sign #[t74, t75, t76] w fun t77 w =>
  mv t77 fun t70 =>
  o1 Tryz.prog (Instr.extract t70 0) w fun t78 w =>
  o1 Tryz.prog (Instr.extract t70 1) w fun t79 w =>
  mv t78 fun t9 =>
  mv t79 fun t8_1 =>
  mv t8_1 fun t80 =>
  o1 Tryz.prog (bin .neq 30 (.tmp 80) (.const .nilIface) t80 .nilIface) w fun t81 w =>
  br t81 (fun _ =>
  mv t8_1 fun t82 =>
  mv (.slice none 0 0) fun t4_6 =>
  mv t82 fun t5_6 =>
  k (.tuple #[t4_6, t5_6]) w) (fun _ =>
  mv a0 fun t84 =>
  nilOk t84 = true ∧ mv t84 fun t85 =>
  o1 Tryz.prog (Instr.fieldAt 100 t85 4) w fun t86 w =>
  o1 Tryz.prog (Instr.loadAt 37 t86) w fun t87 w =>
  mv t6 fun t88 =>
  C Tryz.prog N.sha_Path #[t87, t88] w fun t89 w =>
  mv t89 fun t83 =>
  o1 Tryz.prog (Instr.extract t83 0) w fun t90 w =>
  o1 Tryz.prog (Instr.extract t83 1) w fun t91 w =>
  mv t90 fun t10 =>
  mv t91 fun t8_2 =>
  mv t8_2 fun t92 =>
  o1 Tryz.prog (bin .neq 30 (.tmp 92) (.const .nilIface) t92 .nilIface) w fun t93 w =>
  br t93 (fun _ =>
  mv t8_2 fun t94 =>
  mv (.slice none 0 0) fun t4_7 =>
  mv t94 fun t5_7 =>
  k (.tuple #[t4_7, t5_7]) w) (fun _ =>
  mv t6 fun t95 =>
  mv t9 fun t96 =>
  mv t10 fun t97 =>
  o1 Tryz.prog (Instr.build 74 #[(0, t95), (1, t96), (2, t97)]) w fun t98 w =>
  C Tryz.prog N.keys_signature_bytes #[t98] w fun t99 w =>
  mv t99 fun t4_8 =>
  mv .nilIface fun t5_8 =>
  k (.tuple #[t4_8, t5_8]) w)))))))
theorem C.keys_Signer_Sign {k : Value → World → Prop} {a0 a1 : Value} {w : World} (h : F.keys_Signer_Sign k a0 a1 w) : C Tryz.prog N.keys_Signer_Sign #[a0, a1] w k :=
  den_calls (H := { moves := [(4, (.take 0 (.take 1 (.take 2 (.take 3 (.take 4 (.take 5 .fin))))))), (9, (.take 0 (.take 1 (.take 2 (.take 3 (.take 4 (.take 5 .fin)))))))], vars := [4, 5, 6, 7, 8, 9, 10, 11, 16, 26] }) (args := [a0, a1]) mixed Tryz.func20 (by kernel_rfl) (by kernel_rfl) (by kernel_rfl) h

-- (*isthmus/keys.Signer).Left
def F.keys_Signer_Left (k : Value → World → Prop) (a0 : Value) (w : World) : Prop :=
  mv (.int .i64 0) fun t2 =>
  mv a0 fun t3 =>
  o1 Tryz.prog (bin .eql 50 (.tmp 3) (.const (.pointer none)) t3 (.pointer none)) w fun t4 w =>
  br t4 (fun _ =>
  mv (.int .i64 0) fun t2_1 =>
  k t2_1 w) (fun _ =>
  mv a0 fun t5 =>
  nilOk t5 = true ∧ mv t5 fun t6 =>
  tk Tryz.prog (fun w' => w' = w.drew) (Instr.fieldAt 100 t6 4) fun t7 =>
  tk Tryz.prog (fun w' => w' = w.drew) (Instr.loadAt 37 t7) fun t8 =>
  tk Tryz.prog (fun w' => w' = w.drew) (Builtin.len_ #[37] 3 #[t8]) fun t9 =>
  mv a0 fun t10 =>
  nilOk t10 = true ∧ mv t10 fun t11 =>
  tk Tryz.prog (fun w' => w' = w.drew) (Instr.fieldAt 100 t11 5) fun t12 =>
  tk Tryz.prog (fun w' => w' = w.drew) (Instr.loadAt 3 t12) fun t13 =>
  tk Tryz.prog (fun w' => w' = w.drew) (bin .sub 3 (.tmp 9) (.tmp 13) t9 t13) fun t14 =>
  mv t14 fun t2_2 =>
  k t2_2 w.drew)
theorem C.keys_Signer_Left {k : Value → World → Prop} {a0 : Value} {w : World} (h : F.keys_Signer_Left k a0 w) : C Tryz.prog N.keys_Signer_Left #[a0] w k :=
  den_calls (H := { moves := [(3, (.take 0 (.take 1 (.take 2 (.take 3 (.take 4 (.take 5 (.take 6 (.take 7 (.take 8 (.take 9 (.take 10 .fin))))))))))))], vars := [2] }) (args := [a0]) mixed Tryz.func21 (by kernel_rfl) (by kernel_rfl) (by kernel_rfl) h

-- (*isthmus/keys.Signer).Root
def F.keys_Signer_Root (k : Value → World → Prop) (a0 : Value) (w : World) : Prop :=
  o1 Tryz.prog (Instr.alloc 23 true (.tuple #[])) w fun t2 w =>
  mv a0 fun t3 =>
  o1 Tryz.prog (bin .eql 50 (.tmp 3) (.const (.pointer none)) t3 (.pointer none)) w fun t4 w =>
  br t4 (fun _ =>
  o1 Tryz.prog (Instr.build 23 #[]) w fun t5 w =>
  o0 Tryz.prog (Instr.storeAt 23 t2 t5) w fun _ w =>
  rc Tryz.prog 23 t2 w fun r0 =>
  k r0 w) (fun _ =>
  mv a0 fun t6 =>
  nilOk t6 = true ∧ mv t6 fun t7 =>
  o1 Tryz.prog (Instr.fieldAt 100 t7 4) w fun t8 w =>
  o1 Tryz.prog (Instr.loadAt 37 t8) w fun t9 w =>
  C Tryz.prog N.sha_Root #[t9] w fun t10 w =>
  o0 Tryz.prog (Instr.storeAt 23 t2 t10) w fun _ w =>
  rc Tryz.prog 23 t2 w fun r0 =>
  k r0 w)
theorem C.keys_Signer_Root {k : Value → World → Prop} {a0 : Value} {w : World} (h : F.keys_Signer_Root k a0 w) : C Tryz.prog N.keys_Signer_Root #[a0] w k :=
  den_calls (H := { moves := [], vars := [] }) (args := [a0]) mixed Tryz.func22 (by kernel_rfl) (by kernel_rfl) (by kernel_rfl) h

-- (*isthmus/files.FS).Arm
-- (*isthmus/files.FS).Down
-- (*isthmus/files.FS).Start
-- isthmus/keys.leaves
def F.keys_leaves (k : Value → World → Prop) (a0 a1 : Value) (w : World) : Prop :=
  o1 Tryz.prog (Instr.box 23 a0) w fun t2 w =>
  o1 Tryz.prog (Instr.box 25 a1) w fun t3 w =>
  mv (.slice none 0 0) fun t4 =>
  mv .nilIface fun t5 =>
  o1 Tryz.prog (Instr.loadAt 25 t3) w fun t11 w =>
  C Tryz.prog N.keys_Check #[t11] w fun t12 w =>
  mv t12 fun t6 =>
  mv t6 fun t13 =>
  o1 Tryz.prog (bin .neq 30 (.tmp 13) (.const .nilIface) t13 .nilIface) w fun t14 w =>
  br t14 (fun _ =>
  mv t6 fun t15 =>
  mv (.slice none 0 0) fun t4_1 =>
  mv t15 fun t5_1 =>
  k (.tuple #[t4_1, t5_1]) w) (fun _ =>
  mv (.slice none 0 0) fun t7 =>
  o1 Tryz.prog (Instr.fieldAt 25 t3 1) w fun t16 w =>
  o1 Tryz.prog (Instr.loadAt 3 t16) w fun t17 w =>
  o1 Tryz.prog (bin .shl 3 (.const (.int .i64 1)) (.tmp 17) (.int .i64 1) t17) w fun t18 w =>
  mv (.int .i64 0) fun t19 =>
  lp [t4, t5, t7, undef, undef, t19] w fun I1 μ1 => ∀ (x1 : Env) (w1 : World), I1 [x1 4, x1 5, x1 7, x1 8, x1 10, x1 19] w1 →
  o1 Tryz.prog (bin .lss 3 (.tmp 19) (.tmp 18) (x1 19) t18) w1 fun t20 w =>
  br t20 (fun _ =>
  mv (x1 19) fun t21 =>
  mv t21 fun t8 =>
  o1 Tryz.prog (Instr.loadAt 23 t2) w fun t23 w =>
  mv t8 fun t24 =>
  o1 Tryz.prog (Instr.fieldAt 25 t3 0) w fun t25 w =>
  o1 Tryz.prog (Instr.loadAt 3 t25) w fun t26 w =>
  C Tryz.prog N.wots_Public #[t23, t24, t26] w fun t27 w =>
  mv t27 fun t22 =>
  o1 Tryz.prog (Instr.extract t22 0) w fun t28 w =>
  o1 Tryz.prog (Instr.extract t22 1) w fun t29 w =>
  o1 Tryz.prog (Instr.alloc 23 true (.tuple #[])) w fun t9 w =>
  o0 Tryz.prog (Instr.storeAt 23 t9 t28) w fun _ w =>
  mv t29 fun t10 =>
  mv t10 fun t30 =>
  o1 Tryz.prog (bin .neq 30 (.tmp 30) (.const .nilIface) t30 .nilIface) w fun t31 w =>
  br t31 (fun _ =>
  mv t10 fun t32 =>
  mv (.slice none 0 0) fun t4_2 =>
  mv t32 fun t5_2 =>
  k (.tuple #[t4_2, t5_2]) w) (fun _ =>
  mv (x1 7) fun t33 =>
  o1 Tryz.prog (Instr.loadAt 23 t9) w fun t34 w =>
  o1 Tryz.prog (Instr.buildSlice 37 1 #[(0, t34)]) w fun t35 w =>
  ob Tryz.prog (fun _ => Builtin.append_ #[37, 37] 37 #[t33, t35]) w fun t36 w =>
  mv t36 fun t7_1 =>
  o1 Tryz.prog (bin .add 3 (.tmp 19) (.const (.int .i64 1)) (x1 19) (.int .i64 1)) w fun t37 w =>
  mv t37 fun t19_1 =>
  I1 [(x1 4), (x1 5), t7_1, t8, t10, t19_1] w ∧ μ1 [(x1 4), (x1 5), t7_1, t8, t10, t19_1] w < μ1 [x1 4, x1 5, x1 7, x1 8, x1 10, x1 19] w1)) (fun _ =>
  mv (x1 7) fun t38 =>
  mv t38 fun t4_3 =>
  mv .nilIface fun t5_3 =>
  k (.tuple #[t4_3, t5_3]) w))
theorem C.keys_leaves {k : Value → World → Prop} {a0 a1 : Value} {w : World} (h : F.keys_leaves k a0 a1 w) : C Tryz.prog N.keys_leaves #[a0, a1] w k :=
  den_calls (H := { moves := [], vars := [4, 5, 6, 7, 8, 10, 19] }) (args := [a0, a1]) mixed Tryz.func26 (by kernel_rfl) (by kernel_rfl) (by kernel_rfl) h

-- isthmus/sha.Root
def F.sha_Root (k : Value → World → Prop) (a0 : Value) (w : World) : Prop :=
  o1 Tryz.prog (Instr.alloc 23 true (.tuple #[])) w fun t2 w =>
  mv a0 fun t4 =>
  o1 Tryz.prog (Builtin.len_ #[37] 3 #[t4]) w fun t5 w =>
  o1 Tryz.prog (bin .eql 3 (.tmp 5) (.const (.int .i64 0)) t5 (.int .i64 0)) w fun t7 w =>
  mv t7 fun t6 =>
  br t6 (fun _ =>
  C Tryz.prog N.sha_Sum #[.slice none 0 0] w fun t8 w =>
  o0 Tryz.prog (Instr.storeAt 23 t2 t8) w fun _ w =>
  rc Tryz.prog 23 t2 w fun r0 =>
  k r0 w) (fun _ =>
  o1 Tryz.prog (bin .eql 3 (.tmp 5) (.const (.int .i64 1)) t5 (.int .i64 1)) w fun t10 w =>
  mv t10 fun t9 =>
  br t9 (fun _ =>
  mv a0 fun t11 =>
  o1 Tryz.prog (Instr.indexAt 37 t11 (.int .i64 0)) w fun t12 w =>
  o1 Tryz.prog (Instr.loadAt 23 t12) w fun t13 w =>
  o0 Tryz.prog (Instr.storeAt 23 t2 t13) w fun _ w =>
  rc Tryz.prog 23 t2 w fun r0 =>
  k r0 w) (fun _ =>
  mv a0 fun t14 =>
  o1 Tryz.prog (Builtin.len_ #[37] 3 #[t14]) w fun t15 w =>
  C Tryz.prog N.sha_half #[t15] w fun t16 w =>
  mv t16 fun t3 =>
  dr w.drew fun S1 =>
  mv a0 fun t17 =>
  mv t3 fun t18 =>
  tk Tryz.prog S1 (Instr.sliceAt 37 t17 none (some t18) none) fun t19 =>
  mv a0 fun t21 =>
  mv t3 fun t22 =>
  tk Tryz.prog S1 (Instr.sliceAt 37 t21 (some t22) none none) fun t23 =>
  C Tryz.prog N.sha_Root #[t19] w.drew fun t20 w =>
  S1 w ∧
  C Tryz.prog N.sha_Root #[t23] w fun t24 w =>
  S1 w ∧
  C Tryz.prog N.sha_Node #[t20, t24] w fun t25 w =>
  S1 w ∧
  o0 Tryz.prog (Instr.storeAt 23 t2 t25) w fun _ w =>
  rc Tryz.prog 23 t2 w fun r0 =>
  k r0 w))
theorem C.sha_Root {k : Value → World → Prop} {a0 : Value} {w : World} (h : F.sha_Root k a0 w) : C Tryz.prog N.sha_Root #[a0] w k :=
  den_calls (H := { moves := [(7, (.take 0 (.take 1 (.take 2 (.take 4 (.take 5 (.take 6 (.force 3 (.force 7 (.force 8 (.last 9)))))))))))], vars := [3, 6, 9] }) (args := [a0]) mixed Tryz.func27 (by kernel_rfl) (by kernel_rfl) (by kernel_rfl) h

-- isthmus/isthmusref01.Root
-- isthmus/isthmusref06.Leaves
end Go.Proofs.YtbbmgkbinnomgaaGreatDoor
