/- What each function asks: printed by hoas.py off the loaded program; each is held against the program by the kernel. -/
import Derived.Test.YtgagekffmamldaaDoorN
set_option linter.unusedVariables false
set_option linter.unusedSimpArgs false
set_option linter.unusedSectionVars false
namespace Go.Proofs.YtgagekffmamldaaDoor
open Go Go.Isk
set_option maxRecDepth 100000
-- gosem.cut.init
-- isthmus/isthmuslaw18.PoolBounds
def F.isthmuslaw18_PoolBounds (k : Value → World → Prop) (a0 a1 : Value) (w : World) : Prop :=
  o1 Tryd.prog (Instr.box 23 a0) w fun t2 w =>
  mv (.bool false) fun t4 =>
  tk Tryd.prog (fun w' => w' = w.drew) (Instr.fieldAt 23 t2 0) fun t21 =>
  tk Tryd.prog (fun w' => w' = w.drew) (Instr.loadAt 3 t21) fun t22 =>
  tk Tryd.prog (fun w' => w' = w.drew) (convert 3 25 t22) fun t23 =>
  tk Tryd.prog (fun w' => w' = w.drew) (bin .rem 25 (.tmp 23) (.const (.int .u64 6)) t23 (.int .u64 6)) fun t24 =>
  tk Tryd.prog (fun w' => w' = w.drew) (convert 25 3 t24) fun t25 =>
  tk Tryd.prog (fun w' => w' = w.drew) (bin .add 3 (.const (.int .i64 1)) (.tmp 25) (.int .i64 1) t25) fun t26 =>
  tk Tryd.prog (fun w' => w' = w.drew) (Instr.fieldAt 23 t2 1) fun t27 =>
  tk Tryd.prog (fun w' => w' = w.drew) (Instr.loadAt 3 t27) fun t28 =>
  tk Tryd.prog (fun w' => w' = w.drew) (convert 3 25 t28) fun t29 =>
  tk Tryd.prog (fun w' => w' = w.drew) (bin .rem 25 (.tmp 29) (.const (.int .u64 40)) t29 (.int .u64 40)) fun t30 =>
  tk Tryd.prog (fun w' => w' = w.drew) (convert 25 3 t30) fun t31 =>
  tk Tryd.prog (fun w' => w' = w.drew) (bin .add 3 (.const (.int .i64 1)) (.tmp 31) (.int .i64 1) t31) fun t32 =>
  mv t26 fun t5 =>
  mv t32 fun t6 =>
  mv t5 fun t34 =>
  mv t6 fun t35 =>
  o1 Tryd.prog (Instr.fieldAt 23 t2 2) w.drew fun t36 w =>
  o1 Tryd.prog (Instr.loadAt 3 t36) w fun t37 w =>
  o1 Tryd.prog (convert 3 25 t37) w fun t38 w =>
  o1 Tryd.prog (bin .rem 25 (.tmp 38) (.const (.int .u64 6)) t38 (.int .u64 6)) w fun t39 w =>
  o1 Tryd.prog (convert 25 3 t39) w fun t40 w =>
  C Tryd.prog N.pool_New #[t34, t35, t40] w fun t41 w =>
  mv t41 fun t33 =>
  o1 Tryd.prog (Instr.extract t33 0) w fun t42 w =>
  o1 Tryd.prog (Instr.extract t33 1) w fun t43 w =>
  mv t42 fun t7 =>
  mv t43 fun t8 =>
  mv t8 fun t44 =>
  o1 Tryd.prog (bin .neq 28 (.tmp 44) (.const .nilIface) t44 .nilIface) w fun t45 w =>
  mv t45 fun t46 =>
  gd t46 false (fun k1 => mv t7 fun v => k1 v w) w fun t47 w =>
  gd t46 false (fun k2 => o1 Tryd.prog (bin .eql 26 (.tmp 47) (.const (.pointer none)) t47 (.pointer none)) w k2) w fun t48 w =>
  pk t46 (.bool true) t48 fun t49 =>
  br t49 (fun _ =>
  mv (.bool false) fun t4_1 =>
  k t4_1 w) (fun _ =>
  mv (.slice none 0 0) fun t9 =>
  mv (.slice none 0 0) fun t10 =>
  mv (.int .i64 0) fun t11 =>
  lp [t4, t9, t10, t11, undef, undef, undef, undef, undef, undef, undef] w fun I1 μ1 => ∀ (x1 : Env) (w1 : World), I1 [x1 4, x1 9, x1 10, x1 11, x1 13, x1 14, x1 15, x1 16, x1 18, x1 19, x1 20] w1 →
  mv (x1 11) fun t50 =>
  mv a1 fun t51 =>
  o1 Tryd.prog (Builtin.len_ #[24] 3 #[t51]) w1 fun t52 w =>
  o1 Tryd.prog (bin .lss 3 (.tmp 50) (.tmp 52) t50 t52) w fun t53 w =>
  mv t53 fun t54 =>
  gd t54 true (fun k3 => mv (x1 11) fun v => k3 v w) w fun t55 w =>
  gd t54 true (fun k4 => o1 Tryd.prog (bin .lss 3 (.tmp 55) (.const (.int .i64 60)) t55 (.int .i64 60)) w k4) w fun t56 w =>
  pk t54 t56 (.bool false) fun t57 =>
  br t57 (fun _ =>
  jn (fun x2 => [x2 4, x2 9, x2 10, x2 13, x2 14, x2 15, x2 16, x2 18, x2 19, x2 20]) (fun k5 =>
  mv a1 fun t60 =>
  mv (x1 11) fun t61 =>
  o1 Tryd.prog (Instr.indexAt 24 t60 t61) w fun t62 w =>
  o1 Tryd.prog (Instr.loadAt 36 t62) w fun t63 w =>
  o1 Tryd.prog (Instr.alloc 36 true (.tuple #[])) w fun t12 w =>
  o0 Tryd.prog (Instr.storeAt 36 t12 t63) w fun _ w =>
  mv t7 fun t65 =>
  o1 Tryd.prog (Instr.fieldAt 36 t12 3) w fun t66 w =>
  o1 Tryd.prog (Instr.loadAt 33 t66) w fun t67 w =>
  o1 Tryd.prog (Instr.fieldAt 36 t12 1) w fun t68 w =>
  o1 Tryd.prog (Instr.loadAt 3 t68) w fun t69 w =>
  C Tryd.prog N.pool_Pool_Add #[t65, t67, t69] w fun t70 w =>
  mv t70 fun t64 =>
  o1 Tryd.prog (Instr.extract t64 0) w fun t71 w =>
  o1 Tryd.prog (Instr.extract t64 1) w fun t72 w =>
  mv t71 fun t13 =>
  mv t72 fun t14 =>
  mv t14 fun t73 =>
  o1 Tryd.prog (bin .neq 28 (.tmp 73) (.const .nilIface) t73 .nilIface) w fun t74 w =>
  br t74 (fun _ =>
  mv t13 fun t75 =>
  o1 Tryd.prog (Builtin.len_ #[32] 3 #[t75]) w fun t76 w =>
  o1 Tryd.prog (bin .gtr 3 (.tmp 76) (.const (.int .i64 0)) t76 (.int .i64 0)) w fun t77 w =>
  br t77 (fun _ =>
  mv (.bool false) fun t4_2 =>
  k t4_2 w) (fun _ =>
  k5 [(x1 4), (x1 9), (x1 10), t13, t14, (x1 15), (x1 16), (x1 18), (x1 19), (x1 20)] w)) (fun _ =>
  mv (.int .i64 0) fun t15 =>
  lp [(x1 4), t15, (x1 16)] w fun I3 μ3 => ∀ (x3 : Env) (w2 : World), I3 [x3 4, x3 15, x3 16] w2 →
  mv (x3 15) fun t78 =>
  mv t13 fun t79 =>
  o1 Tryd.prog (Builtin.len_ #[32] 3 #[t79]) w2 fun t80 w =>
  o1 Tryd.prog (bin .lss 3 (.tmp 78) (.tmp 80) t78 t80) w fun t81 w =>
  br t81 (fun _ =>
  mv (.int .i64 0) fun t16 =>
  lp [(x3 4), t16] w fun I4 μ4 => ∀ (x4 : Env) (w3 : World), I4 [x4 4, x4 16] w3 →
  mv (x4 16) fun t84 =>
  mv (x1 10) fun t85 =>
  o1 Tryd.prog (Builtin.len_ #[32] 3 #[t85]) w3 fun t86 w =>
  o1 Tryd.prog (bin .lss 3 (.tmp 84) (.tmp 86) t84 t86) w fun t87 w =>
  br t87 (fun _ =>
  mv (x1 10) fun t90 =>
  mv (x4 16) fun t91 =>
  tk Tryd.prog (fun w' => w' = w.drew) (Instr.indexAt 32 t90 t91) fun t92 =>
  tk Tryd.prog (fun w' => w' = w.drew) (Instr.loadAt 40 t92) fun t93 =>
  mv t13 fun t94 =>
  mv (x3 15) fun t95 =>
  tk Tryd.prog (fun w' => w' = w.drew) (Instr.indexAt 32 t94 t95) fun t96 =>
  tk Tryd.prog (fun w' => w' = w.drew) (Instr.loadAt 40 t96) fun t97 =>
  tk Tryd.prog (fun w' => w' = w.drew) (bin .eql 40 (.tmp 93) (.tmp 97) t93 t97) fun t98 =>
  mv t98 fun t99 =>
  gdT t99 true (fun k6 => mv (x1 9) k6) fun t100 =>
  gdT t99 true (fun k7 => mv (x4 16) k7) fun t101 =>
  gdT t99 true (fun k8 => tk Tryd.prog (fun w' => w' = w.drew) (Instr.indexAt 31 t100 t101) k8) fun t102 =>
  gdT t99 true (fun k9 => tk Tryd.prog (fun w' => w' = w.drew) (Instr.loadAt 3 t102) k9) fun t103 =>
  gdT t99 true (fun k10 => tk Tryd.prog (fun w' => w' = w.drew) (Instr.fieldAt 36 t12 1) k10) fun t104 =>
  gdT t99 true (fun k11 => tk Tryd.prog (fun w' => w' = w.drew) (Instr.loadAt 3 t104) k11) fun t105 =>
  gdT t99 true (fun k12 => tk Tryd.prog (fun w' => w' = w.drew) (bin .geq 3 (.tmp 103) (.tmp 105) t103 t105) k12) fun t106 =>
  pk t99 t106 (.bool false) fun t107 =>
  br t107 (fun _ =>
  mv (.bool false) fun t4_3 =>
  k t4_3 w.drew) (fun _ =>
  mv (x4 16) fun t88 =>
  o1 Tryd.prog (bin .add 3 (.tmp 88) (.const (.int .i64 1)) t88 (.int .i64 1)) w.drew fun t89 w =>
  mv t89 fun t16_1 =>
  I4 [(x4 4), t16_1] w ∧ μ4 [(x4 4), t16_1] w < μ4 [x4 4, x4 16] w3)) (fun _ =>
  mv t7 fun t108 =>
  mv t13 fun t109 =>
  mv (x3 15) fun t110 =>
  o1 Tryd.prog (Instr.indexAt 32 t109 t110) w fun t111 w =>
  o1 Tryd.prog (Instr.loadAt 40 t111) w fun t112 w =>
  C Tryd.prog N.pool_Pool_Has #[t108, t112] w fun t113 w =>
  br t113 (fun _ =>
  mv (.bool false) fun t4_4 =>
  k t4_4 w) (fun _ =>
  mv (x3 15) fun t82 =>
  o1 Tryd.prog (bin .add 3 (.tmp 82) (.const (.int .i64 1)) t82 (.int .i64 1)) w fun t83 w =>
  mv t83 fun t15_1 =>
  I3 [(x4 4), t15_1, (x4 16)] w ∧ μ3 [(x4 4), t15_1, (x4 16)] w < μ3 [x3 4, x3 15, x3 16] w2))) (fun _ =>
  o1 Tryd.prog (Instr.fieldAt 36 t12 3) w fun t114 w =>
  o1 Tryd.prog (Instr.loadAt 33 t114) w fun t115 w =>
  C Tryd.prog N.txs_Hash #[t115] w fun t116 w =>
  o1 Tryd.prog (Instr.alloc 40 true (.tuple #[])) w fun t17 w =>
  o0 Tryd.prog (Instr.storeAt 40 t17 t116) w fun _ w =>
  mv (.slice none 0 0) fun t18 =>
  mv (.slice none 0 0) fun t19 =>
  mv (.int .i64 0) fun t20 =>
  lp [t18, t19, t20] w fun I5 μ5 => ∀ (x5 : Env) (w4 : World), I5 [x5 18, x5 19, x5 20] w4 →
  mv (x5 20) fun t117 =>
  mv (x1 10) fun t118 =>
  o1 Tryd.prog (Builtin.len_ #[32] 3 #[t118]) w4 fun t119 w =>
  o1 Tryd.prog (bin .lss 3 (.tmp 117) (.tmp 119) t117 t119) w fun t120 w =>
  br t120 (fun _ =>
  mv (x1 10) fun t123 =>
  mv (x5 20) fun t124 =>
  tk Tryd.prog (fun w' => w' = w.drew) (Instr.indexAt 32 t123 t124) fun t125 =>
  tk Tryd.prog (fun w' => w' = w.drew) (Instr.loadAt 40 t125) fun t126 =>
  tk Tryd.prog (fun w' => w' = w.drew) (Instr.loadAt 40 t17) fun t127 =>
  tk Tryd.prog (fun w' => w' = w.drew) (bin .neq 40 (.tmp 126) (.tmp 127) t126 t127) fun t128 =>
  jn (fun x6 => [x6 18, x6 19]) (fun k13 =>
  br t128 (fun _ =>
  mv (x5 18) fun t129 =>
  mv (x1 10) fun t130 =>
  mv (x5 20) fun t131 =>
  o1 Tryd.prog (Instr.indexAt 32 t130 t131) w.drew fun t132 w =>
  o1 Tryd.prog (Instr.loadAt 40 t132) w fun t133 w =>
  o1 Tryd.prog (Instr.buildSlice 32 1 #[(0, t133)]) w fun t134 w =>
  ob Tryd.prog (fun _ => Builtin.append_ #[32, 32] 32 #[t129, t134]) w fun t135 w =>
  mv t135 fun t18_1 =>
  mv (x5 19) fun t136 =>
  mv (x1 9) fun t137 =>
  mv (x5 20) fun t138 =>
  o1 Tryd.prog (Instr.indexAt 31 t137 t138) w fun t139 w =>
  o1 Tryd.prog (Instr.loadAt 3 t139) w fun t140 w =>
  o1 Tryd.prog (Instr.buildSlice 31 1 #[(0, t140)]) w fun t141 w =>
  ob Tryd.prog (fun _ => Builtin.append_ #[31, 31] 31 #[t136, t141]) w fun t142 w =>
  mv t142 fun t19_1 =>
  k13 [t18_1, t19_1] w) (fun _ =>
  k13 [(x5 18), (x5 19)] w.drew)) fun x6 w =>
  mv (x5 20) fun t121 =>
  o1 Tryd.prog (bin .add 3 (.tmp 121) (.const (.int .i64 1)) t121 (.int .i64 1)) w fun t122 w =>
  mv t122 fun t20_1 =>
  I5 [(x6 18), (x6 19), t20_1] w ∧ μ5 [(x6 18), (x6 19), t20_1] w < μ5 [x5 18, x5 19, x5 20] w4) (fun _ =>
  dr w.drew fun S1 =>
  mv (x5 18) fun t143 =>
  tk Tryd.prog S1 (Instr.loadAt 40 t17) fun t144 =>
  mv (x5 19) fun t147 =>
  tk Tryd.prog S1 (Instr.fieldAt 36 t12 1) fun t148 =>
  tk Tryd.prog S1 (Instr.loadAt 3 t148) fun t149 =>
  (o1 Tryd.prog (Instr.buildSlice 32 1 #[(0, t144)]) w.drew fun t145 w =>
  S1 w ∧
  (ob Tryd.prog (fun _ => Builtin.append_ #[32, 32] 32 #[t143, t145]) w fun t146 w =>
  S1 w ∧
  o1 Tryd.prog (Instr.buildSlice 31 1 #[(0, t149)]) w fun t150 w =>
  S1 w ∧
  ob Tryd.prog (fun _ => Builtin.append_ #[31, 31] 31 #[t147, t150]) w fun t151 w =>
  S1 w ∧
  mv t146 fun t10_1 =>
  mv t151 fun t9_1 =>
  mv t7 fun t152 =>
  C Tryd.prog N.pool_Pool_Len #[t152] w fun t153 w =>
  mv t5 fun t154 =>
  o1 Tryd.prog (bin .gtr 3 (.tmp 153) (.tmp 154) t153 t154) w fun t155 w =>
  mv t155 fun t156 =>
  gd t156 false (fun k14 => mv t7 fun v => k14 v w) w fun t157 w =>
  gd t156 false (fun k15 => C Tryd.prog N.pool_Pool_Bytes #[t157] w k15) w fun t158 w =>
  gd t156 false (fun k16 => mv t6 fun v => k16 v w) w fun t159 w =>
  gd t156 false (fun k17 => o1 Tryd.prog (bin .gtr 3 (.tmp 158) (.tmp 159) t158 t159) w k17) w fun t160 w =>
  pk t156 (.bool true) t160 fun t161 =>
  mv t161 fun t162 =>
  gd t162 false (fun k18 => mv t7 fun v => k18 v w) w fun t163 w =>
  gd t162 false (fun k19 => o1 Tryd.prog (Instr.loadAt 40 t17) w k19) w fun t164 w =>
  gd t162 false (fun k20 => C Tryd.prog N.pool_Pool_Has #[t163, t164] w k20) w fun t165 w =>
  gd t162 false (fun k21 => o1 Tryd.prog (Op.unary .not t165) w k21) w fun t166 w =>
  pk t162 (.bool true) t166 fun t167 =>
  br t167 (fun _ =>
  mv (.bool false) fun t4_5 =>
  k t4_5 w) (fun _ =>
  k5 [(x3 4), t9_1, t10_1, t13, t14, (x3 15), (x3 16), (x5 18), (x5 19), (x5 20)] w)) ∧ (
  o1 Tryd.prog (Instr.buildSlice 31 1 #[(0, t149)]) w fun t150_1 w =>
  S1 w ∧
  ob Tryd.prog (fun _ => Builtin.append_ #[32, 32] 32 #[t143, t145]) w fun t146_1 w =>
  S1 w ∧
  ob Tryd.prog (fun _ => Builtin.append_ #[31, 31] 31 #[t147, t150_1]) w fun t151_1 w =>
  S1 w ∧
  mv t146_1 fun t10_2 =>
  mv t151_1 fun t9_2 =>
  mv t7 fun t152_1 =>
  C Tryd.prog N.pool_Pool_Len #[t152_1] w fun t153_1 w =>
  mv t5 fun t154_1 =>
  o1 Tryd.prog (bin .gtr 3 (.tmp 153) (.tmp 154) t153_1 t154_1) w fun t155_1 w =>
  mv t155_1 fun t156_1 =>
  gd t156_1 false (fun k22 => mv t7 fun v => k22 v w) w fun t157_1 w =>
  gd t156_1 false (fun k23 => C Tryd.prog N.pool_Pool_Bytes #[t157_1] w k23) w fun t158_1 w =>
  gd t156_1 false (fun k24 => mv t6 fun v => k24 v w) w fun t159_1 w =>
  gd t156_1 false (fun k25 => o1 Tryd.prog (bin .gtr 3 (.tmp 158) (.tmp 159) t158_1 t159_1) w k25) w fun t160_1 w =>
  pk t156_1 (.bool true) t160_1 fun t161_1 =>
  mv t161_1 fun t162_1 =>
  gd t162_1 false (fun k26 => mv t7 fun v => k26 v w) w fun t163_1 w =>
  gd t162_1 false (fun k27 => o1 Tryd.prog (Instr.loadAt 40 t17) w k27) w fun t164_1 w =>
  gd t162_1 false (fun k28 => C Tryd.prog N.pool_Pool_Has #[t163_1, t164_1] w k28) w fun t165_1 w =>
  gd t162_1 false (fun k29 => o1 Tryd.prog (Op.unary .not t165_1) w k29) w fun t166_1 w =>
  pk t162_1 (.bool true) t166_1 fun t167_1 =>
  br t167_1 (fun _ =>
  mv (.bool false) fun t4_6 =>
  k t4_6 w) (fun _ =>
  k5 [(x3 4), t9_2, t10_2, t13, t14, (x3 15), (x3 16), (x5 18), (x5 19), (x5 20)] w))) ∧ (
  o1 Tryd.prog (Instr.buildSlice 31 1 #[(0, t149)]) w.drew fun t150_2 w =>
  S1 w ∧
  o1 Tryd.prog (Instr.buildSlice 32 1 #[(0, t144)]) w fun t145_1 w =>
  S1 w ∧
  ob Tryd.prog (fun _ => Builtin.append_ #[32, 32] 32 #[t143, t145_1]) w fun t146_2 w =>
  S1 w ∧
  ob Tryd.prog (fun _ => Builtin.append_ #[31, 31] 31 #[t147, t150_2]) w fun t151_2 w =>
  S1 w ∧
  mv t146_2 fun t10_3 =>
  mv t151_2 fun t9_3 =>
  mv t7 fun t152_2 =>
  C Tryd.prog N.pool_Pool_Len #[t152_2] w fun t153_2 w =>
  mv t5 fun t154_2 =>
  o1 Tryd.prog (bin .gtr 3 (.tmp 153) (.tmp 154) t153_2 t154_2) w fun t155_2 w =>
  mv t155_2 fun t156_2 =>
  gd t156_2 false (fun k30 => mv t7 fun v => k30 v w) w fun t157_2 w =>
  gd t156_2 false (fun k31 => C Tryd.prog N.pool_Pool_Bytes #[t157_2] w k31) w fun t158_2 w =>
  gd t156_2 false (fun k32 => mv t6 fun v => k32 v w) w fun t159_2 w =>
  gd t156_2 false (fun k33 => o1 Tryd.prog (bin .gtr 3 (.tmp 158) (.tmp 159) t158_2 t159_2) w k33) w fun t160_2 w =>
  pk t156_2 (.bool true) t160_2 fun t161_2 =>
  mv t161_2 fun t162_2 =>
  gd t162_2 false (fun k34 => mv t7 fun v => k34 v w) w fun t163_2 w =>
  gd t162_2 false (fun k35 => o1 Tryd.prog (Instr.loadAt 40 t17) w k35) w fun t164_2 w =>
  gd t162_2 false (fun k36 => C Tryd.prog N.pool_Pool_Has #[t163_2, t164_2] w k36) w fun t165_2 w =>
  gd t162_2 false (fun k37 => o1 Tryd.prog (Op.unary .not t165_2) w k37) w fun t166_2 w =>
  pk t162_2 (.bool true) t166_2 fun t167_2 =>
  br t167_2 (fun _ =>
  mv (.bool false) fun t4_7 =>
  k t4_7 w) (fun _ =>
  k5 [(x3 4), t9_3, t10_3, t13, t14, (x3 15), (x3 16), (x5 18), (x5 19), (x5 20)] w)))))) fun x2 w =>
  mv (x1 11) fun t58 =>
  o1 Tryd.prog (bin .add 3 (.tmp 58) (.const (.int .i64 1)) t58 (.int .i64 1)) w fun t59 w =>
  mv t59 fun t11_1 =>
  I1 [(x2 4), (x2 9), (x2 10), t11_1, (x2 13), (x2 14), (x2 15), (x2 16), (x2 18), (x2 19), (x2 20)] w ∧ μ1 [(x2 4), (x2 9), (x2 10), t11_1, (x2 13), (x2 14), (x2 15), (x2 16), (x2 18), (x2 19), (x2 20)] w < μ1 [x1 4, x1 9, x1 10, x1 11, x1 13, x1 14, x1 15, x1 16, x1 18, x1 19, x1 20] w1) (fun _ =>
  C Tryd.prog N.isthmuslaw18_sure #[] w fun t168 w =>
  mv t168 fun t4_8 =>
  k t4_8 w))
theorem C.isthmuslaw18_PoolBounds {k : Value → World → Prop} {a0 a1 : Value} {w : World} (h : F.isthmuslaw18_PoolBounds k a0 a1 w) : C Tryd.prog N.isthmuslaw18_PoolBounds #[a0, a1] w k :=
  den_calls (H := { moves := [(1, (.take 0 (.take 1 (.take 2 (.take 3 (.take 4 (.take 5 (.take 6 (.take 7 (.take 8 (.take 9 (.take 10 (.take 11 (.take 12 (.take 13 .fin))))))))))))))), (21, (.take 0 (.take 1 (.take 2 (.take 3 (.take 4 (.take 5 (.take 6 (.take 7 (.take 8 (.take 9 (.take 10 (.take 11 (.take 12 (.take 13 (.take 14 (.take 15 (.take 16 (.take 17 .fin))))))))))))))))))), (31, (.take 0 (.take 1 (.take 2 (.take 3 (.take 4 (.take 5 .fin))))))), (34, (.take 0 (.take 1 (.take 4 (.take 5 (.take 6 (.two 2 7 (.two 3 7 (.force 7 (.force 8 (.take 9 (.take 10 .fin)))) (.force 3 (.force 8 (.take 9 (.take 10 .fin))))) (.force 2 (.force 3 (.force 8 (.take 9 (.take 10 .fin))))))))))))], vars := [4, 5, 6, 7, 8, 9, 10, 11, 13, 14, 15, 16, 18, 19, 20] }) (args := [a0, a1]) mixed Tryd.func3 (by kernel_rfl) (by kernel_rfl) (by kernel_rfl) h

-- isthmus/isthmuslaw18.PoolOrder
-- isthmus/isthmuslaw18.PoolKnows
-- isthmus/pool.New
def F.pool_New (k : Value → World → Prop) (a0 a1 a2 : Value) (w : World) : Prop :=
  mv (.pointer none) fun t6 =>
  mv .nilIface fun t7 =>
  mv (.func (.func 18) #[] #[]) fun t8 =>
  mv t8 fun t9 =>
  mv a0 fun t10 =>
  cv Tryd.prog t9 #[t10] w fun t11 w =>
  mv t11 fun t12 =>
  gd t12 false (fun k1 => mv t8 fun v => k1 v w) w fun t13 w =>
  gd t12 false (fun k2 => mv a1 fun v => k2 v w) w fun t14 w =>
  gd t12 false (fun k3 => cv Tryd.prog t13 #[t14] w k3) w fun t15 w =>
  pk t12 (.bool true) t15 fun t16 =>
  mv t16 fun t17 =>
  gd t17 false (fun k4 => mv a2 fun v => k4 v w) w fun t18 w =>
  gd t17 false (fun k5 => o1 Tryd.prog (bin .lss 3 (.tmp 18) (.const (.int .i64 0)) t18 (.int .i64 0)) w k5) w fun t19 w =>
  pk t17 (.bool true) t19 fun t20 =>
  mv t20 fun t21 =>
  gd t21 false (fun k6 => mv a2 fun v => k6 v w) w fun t22 w =>
  gd t21 false (fun k7 => o1 Tryd.prog (bin .gtr 3 (.tmp 22) (.const (.int .i64 1048576)) t22 (.int .i64 1048576)) w k7) w fun t23 w =>
  pk t21 (.bool true) t23 fun t24 =>
  br t24 (fun _ =>
  C Tryd.prog N.pool_fault #[.string ⟨#[112, 111, 111, 108]⟩, .int .i64 1] w fun t25 w =>
  mv (.pointer none) fun t6_1 =>
  mv t25 fun t7_1 =>
  k (.tuple #[t6_1, t7_1]) w) (fun _ =>
  mv a0 fun t26 =>
  mv a1 fun t27 =>
  mv a2 fun t28 =>
  o1 Tryd.prog (Instr.build 58 #[(0, t26), (1, t27), (2, t28)]) w fun t29 w =>
  o1 Tryd.prog (Instr.box 58 t29) w fun t30 w =>
  mv t30 fun t6_2 =>
  mv .nilIface fun t7_2 =>
  k (.tuple #[t6_2, t7_2]) w)
theorem C.pool_New {k : Value → World → Prop} {a0 a1 a2 : Value} {w : World} (h : F.pool_New k a0 a1 a2 w) : C Tryd.prog N.pool_New #[a0, a1, a2] w k :=
  den_calls (H := { moves := [], vars := [6, 7, 8] }) (args := [a0, a1, a2]) mixed Tryd.func6 (by kernel_rfl) (by kernel_rfl) (by kernel_rfl) h

-- (*isthmus/pool.Pool).Add
def F.pool_Pool_Add (k : Value → World → Prop) (a0 a1 a2 : Value) (w : World) : Prop :=
  mv (.slice none 0 0) fun t6 =>
  mv .nilIface fun t7 =>
  mv a0 fun t12 =>
  o1 Tryd.prog (bin .eql 26 (.tmp 12) (.const (.pointer none)) t12 (.pointer none)) w fun t13 w =>
  mv t13 fun t14 =>
  gd t14 false (fun k1 => mv a1 fun v => k1 v w) w fun t15 w =>
  gd t14 false (fun k2 => o1 Tryd.prog (Builtin.len_ #[33] 3 #[t15]) w k2) w fun t16 w =>
  gd t14 false (fun k3 => o1 Tryd.prog (bin .eql 3 (.tmp 16) (.const (.int .i64 0)) t16 (.int .i64 0)) w k3) w fun t17 w =>
  pk t14 (.bool true) t17 fun t18 =>
  mv t18 fun t19 =>
  gd t19 false (fun k4 => mv a2 fun v => k4 v w) w fun t20 w =>
  gd t19 false (fun k5 => o1 Tryd.prog (bin .lss 3 (.tmp 20) (.const (.int .i64 0)) t20 (.int .i64 0)) w k5) w fun t21 w =>
  pk t19 (.bool true) t21 fun t22 =>
  br t22 (fun _ =>
  C Tryd.prog N.pool_fault #[.string ⟨#[116, 114, 97, 110, 115, 97, 99, 116, 105, 111, 110]⟩, .int .i64 1] w fun t23 w =>
  mv (.slice none 0 0) fun t6_1 =>
  mv t23 fun t7_1 =>
  k (.tuple #[t6_1, t7_1]) w) (fun _ =>
  dr w.drew fun S1 =>
  mv a1 fun t24 =>
  mv a1 fun t26 =>
  mv a2 fun t28 =>
  mv a0 fun t29 =>
  nilOk t29 = true ∧ mv t29 fun t30 =>
  tk Tryd.prog S1 (Instr.fieldAt 58 t30 5) fun t31 =>
  tk Tryd.prog S1 (Instr.loadAt 3 t31) fun t32 =>
  (C Tryd.prog N.slices_Clone_bytes #[t24] w.drew fun t25 w =>
  S1 w ∧
  (C Tryd.prog N.txs_Hash #[t26] w fun t27 w =>
  S1 w ∧
  tk Tryd.prog S1 (Instr.build 61 #[(0, t25), (1, t27), (2, t28), (3, t32)]) fun t33 =>
  o1 Tryd.prog (Instr.alloc 61 true (.tuple #[])) w fun t8 w =>
  S1 w ∧
  o0 Tryd.prog (Instr.storeAt 61 t8 t33) w fun _ w =>
  mv a0 fun t35 =>
  o1 Tryd.prog (Instr.fieldAt 61 t8 1) w fun t36 w =>
  o1 Tryd.prog (Instr.loadAt 40 t36) w fun t37 w =>
  C Tryd.prog N.pool_Pool_Knows #[t35, t37] w fun t38 w =>
  mv t38 fun t34 =>
  br t34 (fun _ =>
  C Tryd.prog N.pool_fault #[.string ⟨#[116, 114, 97, 110, 115, 97, 99, 116, 105, 111, 110]⟩, .int .i64 9] w fun t39 w =>
  mv (.slice none 0 0) fun t6_2 =>
  mv t39 fun t7_2 =>
  k (.tuple #[t6_2, t7_2]) w) (fun _ =>
  mv a1 fun t41 =>
  o1 Tryd.prog (Builtin.len_ #[33] 3 #[t41]) w fun t42 w =>
  mv a0 fun t43 =>
  nilOk t43 = true ∧ mv t43 fun t44 =>
  o1 Tryd.prog (Instr.fieldAt 58 t44 1) w fun t45 w =>
  o1 Tryd.prog (Instr.loadAt 3 t45) w fun t46 w =>
  o1 Tryd.prog (bin .gtr 3 (.tmp 42) (.tmp 46) t42 t46) w fun t47 w =>
  mv t47 fun t40 =>
  br t40 (fun _ =>
  C Tryd.prog N.pool_fault #[.string ⟨#[116, 114, 97, 110, 115, 97, 99, 116, 105, 111, 110]⟩, .int .i64 2] w fun t48 w =>
  mv (.slice none 0 0) fun t6_3 =>
  mv t48 fun t7_3 =>
  k (.tuple #[t6_3, t7_3]) w) (fun _ =>
  mv a0 fun t49 =>
  nilOk t49 = true ∧ mv t49 fun t50 =>
  o1 Tryd.prog (Instr.fieldAt 58 t50 3) w fun t51 w =>
  o1 Tryd.prog (Instr.loadAt 56 t51) w fun t52 w =>
  C Tryd.prog N.slices_Clone_pool_item_pool_item #[t52] w fun t53 w =>
  mv t53 fun t9 =>
  mv (.slice none 0 0) fun t10 =>
  lp [t6, t7, t9, t10] w fun I1 μ1 => ∀ (x1 : Env) (w1 : World), I1 [x1 6, x1 7, x1 9, x1 10] w1 →
  dr w1.drew fun S2 =>
  mv (x1 9) fun t54 =>
  tk Tryd.prog S2 (Builtin.len_ #[56] 3 #[t54]) fun t55 =>
  tk Tryd.prog S2 (bin .add 3 (.tmp 55) (.const (.int .i64 1)) t55 (.int .i64 1)) fun t56 =>
  mv a0 fun t57 =>
  nilOk t57 = true ∧ mv t57 fun t58 =>
  tk Tryd.prog S2 (Instr.fieldAt 58 t58 0) fun t59 =>
  tk Tryd.prog S2 (Instr.loadAt 3 t59) fun t60 =>
  tk Tryd.prog S2 (bin .gtr 3 (.tmp 56) (.tmp 60) t56 t60) fun t61 =>
  mv t61 fun t62 =>
  gdT t62 false (fun k6 => mv (x1 9) k6) fun t63 =>
  gdT t62 false (fun k7 => mv a1 k7) fun t65 =>
  gdT t62 false (fun k8 => tk Tryd.prog S2 (Builtin.len_ #[33] 3 #[t65]) k8) fun t66 =>
  gdT t62 false (fun k9 => mv a0 k9) fun t68 =>
  gdT t62 false (fun k10 => nilOk t68 = true ∧ mv t68 k10) fun t69 =>
  gdT t62 false (fun k11 => tk Tryd.prog S2 (Instr.fieldAt 58 t69 1) k11) fun t70 =>
  gdT t62 false (fun k12 => tk Tryd.prog S2 (Instr.loadAt 3 t70) k12) fun t71 =>
  gd t62 false (fun k13 => C Tryd.prog N.pool_size #[t63] w1.drew k13) w1.drew fun t64 w =>
  S2 w ∧
  gdT t62 false (fun k14 => tk Tryd.prog S2 (bin .add 3 (.tmp 64) (.tmp 66) t64 t66) k14) fun t67 =>
  gdT t62 false (fun k15 => tk Tryd.prog S2 (bin .gtr 3 (.tmp 67) (.tmp 71) t67 t71) k15) fun t72 =>
  pk t62 (.bool true) t72 fun t73 =>
  br t73 (fun _ =>
  mv (x1 9) fun t74 =>
  mv (x1 9) fun t75 =>
  o1 Tryd.prog (Builtin.len_ #[56] 3 #[t75]) w fun t76 w =>
  o1 Tryd.prog (bin .sub 3 (.tmp 76) (.const (.int .i64 1)) t76 (.int .i64 1)) w fun t77 w =>
  o1 Tryd.prog (Instr.indexAt 56 t74 t77) w fun t78 w =>
  o1 Tryd.prog (Instr.loadAt 61 t78) w fun t79 w =>
  o1 Tryd.prog (Instr.alloc 61 true (.tuple #[])) w fun t11 w =>
  o0 Tryd.prog (Instr.storeAt 61 t11 t79) w fun _ w =>
  o1 Tryd.prog (Instr.fieldAt 61 t11 2) w fun t80 w =>
  o1 Tryd.prog (Instr.loadAt 3 t80) w fun t81 w =>
  mv a2 fun t82 =>
  o1 Tryd.prog (bin .geq 3 (.tmp 81) (.tmp 82) t81 t82) w fun t83 w =>
  br t83 (fun _ =>
  C Tryd.prog N.pool_fault #[.string ⟨#[112, 111, 111, 108]⟩, .int .i64 10] w fun t84 w =>
  mv (.slice none 0 0) fun t6_4 =>
  mv t84 fun t7_4 =>
  k (.tuple #[t6_4, t7_4]) w) (fun _ =>
  mv (x1 10) fun t85 =>
  o1 Tryd.prog (Instr.fieldAt 61 t11 1) w fun t86 w =>
  o1 Tryd.prog (Instr.loadAt 40 t86) w fun t87 w =>
  o1 Tryd.prog (Instr.buildSlice 32 1 #[(0, t87)]) w fun t88 w =>
  ob Tryd.prog (fun _ => Builtin.append_ #[32, 32] 32 #[t85, t88]) w fun t89 w =>
  mv t89 fun t10_1 =>
  mv (x1 9) fun t90 =>
  mv (x1 9) fun t91 =>
  o1 Tryd.prog (Builtin.len_ #[56] 3 #[t91]) w fun t92 w =>
  o1 Tryd.prog (bin .sub 3 (.tmp 92) (.const (.int .i64 1)) t92 (.int .i64 1)) w fun t93 w =>
  o1 Tryd.prog (Instr.sliceAt 56 t90 none (some t93) none) w fun t94 w =>
  mv t94 fun t9_1 =>
  I1 [(x1 6), (x1 7), t9_1, t10_1] w ∧ μ1 [(x1 6), (x1 7), t9_1, t10_1] w < μ1 [x1 6, x1 7, x1 9, x1 10] w1)) (fun _ =>
  mv a0 fun t95 =>
  nilOk t95 = true ∧ mv t95 fun t96 =>
  o1 Tryd.prog (Instr.fieldAt 58 t96 5) w fun t97 w =>
  o1 Tryd.prog (Instr.loadAt 3 t97) w fun t98 w =>
  o1 Tryd.prog (bin .add 3 (.tmp 98) (.const (.int .i64 1)) t98 (.int .i64 1)) w fun t99 w =>
  nilOk t95 = true ∧ mv t95 fun t100 =>
  o1 Tryd.prog (Instr.fieldAt 58 t100 5) w fun t101 w =>
  o0 Tryd.prog (Instr.storeAt 3 t101 t99) w fun _ w =>
  mv a0 fun t102 =>
  mv (x1 9) fun t103 =>
  o1 Tryd.prog (Instr.loadAt 61 t8) w fun t104 w =>
  o1 Tryd.prog (Instr.buildSlice 56 1 #[(0, t104)]) w fun t105 w =>
  ob Tryd.prog (fun _ => Builtin.append_ #[56, 56] 56 #[t103, t105]) w fun t106 w =>
  nilOk t102 = true ∧ mv t102 fun t107 =>
  o1 Tryd.prog (Instr.fieldAt 58 t107 3) w fun t108 w =>
  o0 Tryd.prog (Instr.storeAt 56 t108 t106) w fun _ w =>
  mv a0 fun t109 =>
  nilOk t109 = true ∧ mv t109 fun t110 =>
  o1 Tryd.prog (Instr.fieldAt 58 t110 3) w fun t111 w =>
  o1 Tryd.prog (Instr.loadAt 56 t111) w fun t112 w =>
  C Tryd.prog N.slices_SortFunc_pool_item_pool_item #[t112, .func (.func 24) #[] #[]] w fun t113 w =>
  mv a0 fun t114 =>
  o1 Tryd.prog (Instr.fieldAt 61 t8 1) w fun t115 w =>
  o1 Tryd.prog (Instr.loadAt 40 t115) w fun t116 w =>
  C Tryd.prog N.pool_Pool_remember #[t114, t116] w fun t117 w =>
  mv (x1 10) fun t118 =>
  mv t118 fun t6_5 =>
  mv .nilIface fun t7_5 =>
  k (.tuple #[t6_5, t7_5]) w)))) ∧ (
  o1 Tryd.prog (Instr.alloc 61 true (.tuple #[])) w fun t8_1 w =>
  S1 w ∧
  C Tryd.prog N.txs_Hash #[t26] w fun t27_1 w =>
  S1 w ∧
  tk Tryd.prog S1 (Instr.build 61 #[(0, t25), (1, t27_1), (2, t28), (3, t32)]) fun t33_1 =>
  o0 Tryd.prog (Instr.storeAt 61 t8_1 t33_1) w fun _ w =>
  mv a0 fun t35_1 =>
  o1 Tryd.prog (Instr.fieldAt 61 t8_1 1) w fun t36_1 w =>
  o1 Tryd.prog (Instr.loadAt 40 t36_1) w fun t37_1 w =>
  C Tryd.prog N.pool_Pool_Knows #[t35_1, t37_1] w fun t38_1 w =>
  mv t38_1 fun t34_1 =>
  br t34_1 (fun _ =>
  C Tryd.prog N.pool_fault #[.string ⟨#[116, 114, 97, 110, 115, 97, 99, 116, 105, 111, 110]⟩, .int .i64 9] w fun t39_1 w =>
  mv (.slice none 0 0) fun t6_6 =>
  mv t39_1 fun t7_6 =>
  k (.tuple #[t6_6, t7_6]) w) (fun _ =>
  mv a1 fun t41_1 =>
  o1 Tryd.prog (Builtin.len_ #[33] 3 #[t41_1]) w fun t42_1 w =>
  mv a0 fun t43_1 =>
  nilOk t43_1 = true ∧ mv t43_1 fun t44_1 =>
  o1 Tryd.prog (Instr.fieldAt 58 t44_1 1) w fun t45_1 w =>
  o1 Tryd.prog (Instr.loadAt 3 t45_1) w fun t46_1 w =>
  o1 Tryd.prog (bin .gtr 3 (.tmp 42) (.tmp 46) t42_1 t46_1) w fun t47_1 w =>
  mv t47_1 fun t40_1 =>
  br t40_1 (fun _ =>
  C Tryd.prog N.pool_fault #[.string ⟨#[116, 114, 97, 110, 115, 97, 99, 116, 105, 111, 110]⟩, .int .i64 2] w fun t48_1 w =>
  mv (.slice none 0 0) fun t6_7 =>
  mv t48_1 fun t7_7 =>
  k (.tuple #[t6_7, t7_7]) w) (fun _ =>
  mv a0 fun t49_1 =>
  nilOk t49_1 = true ∧ mv t49_1 fun t50_1 =>
  o1 Tryd.prog (Instr.fieldAt 58 t50_1 3) w fun t51_1 w =>
  o1 Tryd.prog (Instr.loadAt 56 t51_1) w fun t52_1 w =>
  C Tryd.prog N.slices_Clone_pool_item_pool_item #[t52_1] w fun t53_1 w =>
  mv t53_1 fun t9_2 =>
  mv (.slice none 0 0) fun t10_2 =>
  lp [t6, t7, t9_2, t10_2] w fun I2 μ2 => ∀ (x2 : Env) (w2 : World), I2 [x2 6, x2 7, x2 9, x2 10] w2 →
  dr w2.drew fun S3 =>
  mv (x2 9) fun t54_1 =>
  tk Tryd.prog S3 (Builtin.len_ #[56] 3 #[t54_1]) fun t55_1 =>
  tk Tryd.prog S3 (bin .add 3 (.tmp 55) (.const (.int .i64 1)) t55_1 (.int .i64 1)) fun t56_1 =>
  mv a0 fun t57_1 =>
  nilOk t57_1 = true ∧ mv t57_1 fun t58_1 =>
  tk Tryd.prog S3 (Instr.fieldAt 58 t58_1 0) fun t59_1 =>
  tk Tryd.prog S3 (Instr.loadAt 3 t59_1) fun t60_1 =>
  tk Tryd.prog S3 (bin .gtr 3 (.tmp 56) (.tmp 60) t56_1 t60_1) fun t61_1 =>
  mv t61_1 fun t62_1 =>
  gdT t62_1 false (fun k16 => mv (x2 9) k16) fun t63_1 =>
  gdT t62_1 false (fun k17 => mv a1 k17) fun t65_1 =>
  gdT t62_1 false (fun k18 => tk Tryd.prog S3 (Builtin.len_ #[33] 3 #[t65_1]) k18) fun t66_1 =>
  gdT t62_1 false (fun k19 => mv a0 k19) fun t68_1 =>
  gdT t62_1 false (fun k20 => nilOk t68_1 = true ∧ mv t68_1 k20) fun t69_1 =>
  gdT t62_1 false (fun k21 => tk Tryd.prog S3 (Instr.fieldAt 58 t69_1 1) k21) fun t70_1 =>
  gdT t62_1 false (fun k22 => tk Tryd.prog S3 (Instr.loadAt 3 t70_1) k22) fun t71_1 =>
  gd t62_1 false (fun k23 => C Tryd.prog N.pool_size #[t63_1] w2.drew k23) w2.drew fun t64_1 w =>
  S3 w ∧
  gdT t62_1 false (fun k24 => tk Tryd.prog S3 (bin .add 3 (.tmp 64) (.tmp 66) t64_1 t66_1) k24) fun t67_1 =>
  gdT t62_1 false (fun k25 => tk Tryd.prog S3 (bin .gtr 3 (.tmp 67) (.tmp 71) t67_1 t71_1) k25) fun t72_1 =>
  pk t62_1 (.bool true) t72_1 fun t73_1 =>
  br t73_1 (fun _ =>
  mv (x2 9) fun t74_1 =>
  mv (x2 9) fun t75_1 =>
  o1 Tryd.prog (Builtin.len_ #[56] 3 #[t75_1]) w fun t76_1 w =>
  o1 Tryd.prog (bin .sub 3 (.tmp 76) (.const (.int .i64 1)) t76_1 (.int .i64 1)) w fun t77_1 w =>
  o1 Tryd.prog (Instr.indexAt 56 t74_1 t77_1) w fun t78_1 w =>
  o1 Tryd.prog (Instr.loadAt 61 t78_1) w fun t79_1 w =>
  o1 Tryd.prog (Instr.alloc 61 true (.tuple #[])) w fun t11_1 w =>
  o0 Tryd.prog (Instr.storeAt 61 t11_1 t79_1) w fun _ w =>
  o1 Tryd.prog (Instr.fieldAt 61 t11_1 2) w fun t80_1 w =>
  o1 Tryd.prog (Instr.loadAt 3 t80_1) w fun t81_1 w =>
  mv a2 fun t82_1 =>
  o1 Tryd.prog (bin .geq 3 (.tmp 81) (.tmp 82) t81_1 t82_1) w fun t83_1 w =>
  br t83_1 (fun _ =>
  C Tryd.prog N.pool_fault #[.string ⟨#[112, 111, 111, 108]⟩, .int .i64 10] w fun t84_1 w =>
  mv (.slice none 0 0) fun t6_8 =>
  mv t84_1 fun t7_8 =>
  k (.tuple #[t6_8, t7_8]) w) (fun _ =>
  mv (x2 10) fun t85_1 =>
  o1 Tryd.prog (Instr.fieldAt 61 t11_1 1) w fun t86_1 w =>
  o1 Tryd.prog (Instr.loadAt 40 t86_1) w fun t87_1 w =>
  o1 Tryd.prog (Instr.buildSlice 32 1 #[(0, t87_1)]) w fun t88_1 w =>
  ob Tryd.prog (fun _ => Builtin.append_ #[32, 32] 32 #[t85_1, t88_1]) w fun t89_1 w =>
  mv t89_1 fun t10_3 =>
  mv (x2 9) fun t90_1 =>
  mv (x2 9) fun t91_1 =>
  o1 Tryd.prog (Builtin.len_ #[56] 3 #[t91_1]) w fun t92_1 w =>
  o1 Tryd.prog (bin .sub 3 (.tmp 92) (.const (.int .i64 1)) t92_1 (.int .i64 1)) w fun t93_1 w =>
  o1 Tryd.prog (Instr.sliceAt 56 t90_1 none (some t93_1) none) w fun t94_1 w =>
  mv t94_1 fun t9_3 =>
  I2 [(x2 6), (x2 7), t9_3, t10_3] w ∧ μ2 [(x2 6), (x2 7), t9_3, t10_3] w < μ2 [x2 6, x2 7, x2 9, x2 10] w2)) (fun _ =>
  mv a0 fun t95_1 =>
  nilOk t95_1 = true ∧ mv t95_1 fun t96_1 =>
  o1 Tryd.prog (Instr.fieldAt 58 t96_1 5) w fun t97_1 w =>
  o1 Tryd.prog (Instr.loadAt 3 t97_1) w fun t98_1 w =>
  o1 Tryd.prog (bin .add 3 (.tmp 98) (.const (.int .i64 1)) t98_1 (.int .i64 1)) w fun t99_1 w =>
  nilOk t95_1 = true ∧ mv t95_1 fun t100_1 =>
  o1 Tryd.prog (Instr.fieldAt 58 t100_1 5) w fun t101_1 w =>
  o0 Tryd.prog (Instr.storeAt 3 t101_1 t99_1) w fun _ w =>
  mv a0 fun t102_1 =>
  mv (x2 9) fun t103_1 =>
  o1 Tryd.prog (Instr.loadAt 61 t8_1) w fun t104_1 w =>
  o1 Tryd.prog (Instr.buildSlice 56 1 #[(0, t104_1)]) w fun t105_1 w =>
  ob Tryd.prog (fun _ => Builtin.append_ #[56, 56] 56 #[t103_1, t105_1]) w fun t106_1 w =>
  nilOk t102_1 = true ∧ mv t102_1 fun t107_1 =>
  o1 Tryd.prog (Instr.fieldAt 58 t107_1 3) w fun t108_1 w =>
  o0 Tryd.prog (Instr.storeAt 56 t108_1 t106_1) w fun _ w =>
  mv a0 fun t109_1 =>
  nilOk t109_1 = true ∧ mv t109_1 fun t110_1 =>
  o1 Tryd.prog (Instr.fieldAt 58 t110_1 3) w fun t111_1 w =>
  o1 Tryd.prog (Instr.loadAt 56 t111_1) w fun t112_1 w =>
  C Tryd.prog N.slices_SortFunc_pool_item_pool_item #[t112_1, .func (.func 24) #[] #[]] w fun t113_1 w =>
  mv a0 fun t114_1 =>
  o1 Tryd.prog (Instr.fieldAt 61 t8_1 1) w fun t115_1 w =>
  o1 Tryd.prog (Instr.loadAt 40 t115_1) w fun t116_1 w =>
  C Tryd.prog N.pool_Pool_remember #[t114_1, t116_1] w fun t117_1 w =>
  mv (x2 10) fun t118_1 =>
  mv t118_1 fun t6_9 =>
  mv .nilIface fun t7_9 =>
  k (.tuple #[t6_9, t7_9]) w))))) ∧ (
  o1 Tryd.prog (Instr.alloc 61 true (.tuple #[])) w.drew fun t8_2 w =>
  S1 w ∧
  C Tryd.prog N.slices_Clone_bytes #[t24] w fun t25_1 w =>
  S1 w ∧
  C Tryd.prog N.txs_Hash #[t26] w fun t27_2 w =>
  S1 w ∧
  tk Tryd.prog S1 (Instr.build 61 #[(0, t25_1), (1, t27_2), (2, t28), (3, t32)]) fun t33_2 =>
  o0 Tryd.prog (Instr.storeAt 61 t8_2 t33_2) w fun _ w =>
  mv a0 fun t35_2 =>
  o1 Tryd.prog (Instr.fieldAt 61 t8_2 1) w fun t36_2 w =>
  o1 Tryd.prog (Instr.loadAt 40 t36_2) w fun t37_2 w =>
  C Tryd.prog N.pool_Pool_Knows #[t35_2, t37_2] w fun t38_2 w =>
  mv t38_2 fun t34_2 =>
  br t34_2 (fun _ =>
  C Tryd.prog N.pool_fault #[.string ⟨#[116, 114, 97, 110, 115, 97, 99, 116, 105, 111, 110]⟩, .int .i64 9] w fun t39_2 w =>
  mv (.slice none 0 0) fun t6_10 =>
  mv t39_2 fun t7_10 =>
  k (.tuple #[t6_10, t7_10]) w) (fun _ =>
  mv a1 fun t41_2 =>
  o1 Tryd.prog (Builtin.len_ #[33] 3 #[t41_2]) w fun t42_2 w =>
  mv a0 fun t43_2 =>
  nilOk t43_2 = true ∧ mv t43_2 fun t44_2 =>
  o1 Tryd.prog (Instr.fieldAt 58 t44_2 1) w fun t45_2 w =>
  o1 Tryd.prog (Instr.loadAt 3 t45_2) w fun t46_2 w =>
  o1 Tryd.prog (bin .gtr 3 (.tmp 42) (.tmp 46) t42_2 t46_2) w fun t47_2 w =>
  mv t47_2 fun t40_2 =>
  br t40_2 (fun _ =>
  C Tryd.prog N.pool_fault #[.string ⟨#[116, 114, 97, 110, 115, 97, 99, 116, 105, 111, 110]⟩, .int .i64 2] w fun t48_2 w =>
  mv (.slice none 0 0) fun t6_11 =>
  mv t48_2 fun t7_11 =>
  k (.tuple #[t6_11, t7_11]) w) (fun _ =>
  mv a0 fun t49_2 =>
  nilOk t49_2 = true ∧ mv t49_2 fun t50_2 =>
  o1 Tryd.prog (Instr.fieldAt 58 t50_2 3) w fun t51_2 w =>
  o1 Tryd.prog (Instr.loadAt 56 t51_2) w fun t52_2 w =>
  C Tryd.prog N.slices_Clone_pool_item_pool_item #[t52_2] w fun t53_2 w =>
  mv t53_2 fun t9_4 =>
  mv (.slice none 0 0) fun t10_4 =>
  lp [t6, t7, t9_4, t10_4] w fun I3 μ3 => ∀ (x3 : Env) (w3 : World), I3 [x3 6, x3 7, x3 9, x3 10] w3 →
  dr w3.drew fun S4 =>
  mv (x3 9) fun t54_2 =>
  tk Tryd.prog S4 (Builtin.len_ #[56] 3 #[t54_2]) fun t55_2 =>
  tk Tryd.prog S4 (bin .add 3 (.tmp 55) (.const (.int .i64 1)) t55_2 (.int .i64 1)) fun t56_2 =>
  mv a0 fun t57_2 =>
  nilOk t57_2 = true ∧ mv t57_2 fun t58_2 =>
  tk Tryd.prog S4 (Instr.fieldAt 58 t58_2 0) fun t59_2 =>
  tk Tryd.prog S4 (Instr.loadAt 3 t59_2) fun t60_2 =>
  tk Tryd.prog S4 (bin .gtr 3 (.tmp 56) (.tmp 60) t56_2 t60_2) fun t61_2 =>
  mv t61_2 fun t62_2 =>
  gdT t62_2 false (fun k26 => mv (x3 9) k26) fun t63_2 =>
  gdT t62_2 false (fun k27 => mv a1 k27) fun t65_2 =>
  gdT t62_2 false (fun k28 => tk Tryd.prog S4 (Builtin.len_ #[33] 3 #[t65_2]) k28) fun t66_2 =>
  gdT t62_2 false (fun k29 => mv a0 k29) fun t68_2 =>
  gdT t62_2 false (fun k30 => nilOk t68_2 = true ∧ mv t68_2 k30) fun t69_2 =>
  gdT t62_2 false (fun k31 => tk Tryd.prog S4 (Instr.fieldAt 58 t69_2 1) k31) fun t70_2 =>
  gdT t62_2 false (fun k32 => tk Tryd.prog S4 (Instr.loadAt 3 t70_2) k32) fun t71_2 =>
  gd t62_2 false (fun k33 => C Tryd.prog N.pool_size #[t63_2] w3.drew k33) w3.drew fun t64_2 w =>
  S4 w ∧
  gdT t62_2 false (fun k34 => tk Tryd.prog S4 (bin .add 3 (.tmp 64) (.tmp 66) t64_2 t66_2) k34) fun t67_2 =>
  gdT t62_2 false (fun k35 => tk Tryd.prog S4 (bin .gtr 3 (.tmp 67) (.tmp 71) t67_2 t71_2) k35) fun t72_2 =>
  pk t62_2 (.bool true) t72_2 fun t73_2 =>
  br t73_2 (fun _ =>
  mv (x3 9) fun t74_2 =>
  mv (x3 9) fun t75_2 =>
  o1 Tryd.prog (Builtin.len_ #[56] 3 #[t75_2]) w fun t76_2 w =>
  o1 Tryd.prog (bin .sub 3 (.tmp 76) (.const (.int .i64 1)) t76_2 (.int .i64 1)) w fun t77_2 w =>
  o1 Tryd.prog (Instr.indexAt 56 t74_2 t77_2) w fun t78_2 w =>
  o1 Tryd.prog (Instr.loadAt 61 t78_2) w fun t79_2 w =>
  o1 Tryd.prog (Instr.alloc 61 true (.tuple #[])) w fun t11_2 w =>
  o0 Tryd.prog (Instr.storeAt 61 t11_2 t79_2) w fun _ w =>
  o1 Tryd.prog (Instr.fieldAt 61 t11_2 2) w fun t80_2 w =>
  o1 Tryd.prog (Instr.loadAt 3 t80_2) w fun t81_2 w =>
  mv a2 fun t82_2 =>
  o1 Tryd.prog (bin .geq 3 (.tmp 81) (.tmp 82) t81_2 t82_2) w fun t83_2 w =>
  br t83_2 (fun _ =>
  C Tryd.prog N.pool_fault #[.string ⟨#[112, 111, 111, 108]⟩, .int .i64 10] w fun t84_2 w =>
  mv (.slice none 0 0) fun t6_12 =>
  mv t84_2 fun t7_12 =>
  k (.tuple #[t6_12, t7_12]) w) (fun _ =>
  mv (x3 10) fun t85_2 =>
  o1 Tryd.prog (Instr.fieldAt 61 t11_2 1) w fun t86_2 w =>
  o1 Tryd.prog (Instr.loadAt 40 t86_2) w fun t87_2 w =>
  o1 Tryd.prog (Instr.buildSlice 32 1 #[(0, t87_2)]) w fun t88_2 w =>
  ob Tryd.prog (fun _ => Builtin.append_ #[32, 32] 32 #[t85_2, t88_2]) w fun t89_2 w =>
  mv t89_2 fun t10_5 =>
  mv (x3 9) fun t90_2 =>
  mv (x3 9) fun t91_2 =>
  o1 Tryd.prog (Builtin.len_ #[56] 3 #[t91_2]) w fun t92_2 w =>
  o1 Tryd.prog (bin .sub 3 (.tmp 92) (.const (.int .i64 1)) t92_2 (.int .i64 1)) w fun t93_2 w =>
  o1 Tryd.prog (Instr.sliceAt 56 t90_2 none (some t93_2) none) w fun t94_2 w =>
  mv t94_2 fun t9_5 =>
  I3 [(x3 6), (x3 7), t9_5, t10_5] w ∧ μ3 [(x3 6), (x3 7), t9_5, t10_5] w < μ3 [x3 6, x3 7, x3 9, x3 10] w3)) (fun _ =>
  mv a0 fun t95_2 =>
  nilOk t95_2 = true ∧ mv t95_2 fun t96_2 =>
  o1 Tryd.prog (Instr.fieldAt 58 t96_2 5) w fun t97_2 w =>
  o1 Tryd.prog (Instr.loadAt 3 t97_2) w fun t98_2 w =>
  o1 Tryd.prog (bin .add 3 (.tmp 98) (.const (.int .i64 1)) t98_2 (.int .i64 1)) w fun t99_2 w =>
  nilOk t95_2 = true ∧ mv t95_2 fun t100_2 =>
  o1 Tryd.prog (Instr.fieldAt 58 t100_2 5) w fun t101_2 w =>
  o0 Tryd.prog (Instr.storeAt 3 t101_2 t99_2) w fun _ w =>
  mv a0 fun t102_2 =>
  mv (x3 9) fun t103_2 =>
  o1 Tryd.prog (Instr.loadAt 61 t8_2) w fun t104_2 w =>
  o1 Tryd.prog (Instr.buildSlice 56 1 #[(0, t104_2)]) w fun t105_2 w =>
  ob Tryd.prog (fun _ => Builtin.append_ #[56, 56] 56 #[t103_2, t105_2]) w fun t106_2 w =>
  nilOk t102_2 = true ∧ mv t102_2 fun t107_2 =>
  o1 Tryd.prog (Instr.fieldAt 58 t107_2 3) w fun t108_2 w =>
  o0 Tryd.prog (Instr.storeAt 56 t108_2 t106_2) w fun _ w =>
  mv a0 fun t109_2 =>
  nilOk t109_2 = true ∧ mv t109_2 fun t110_2 =>
  o1 Tryd.prog (Instr.fieldAt 58 t110_2 3) w fun t111_2 w =>
  o1 Tryd.prog (Instr.loadAt 56 t111_2) w fun t112_2 w =>
  C Tryd.prog N.slices_SortFunc_pool_item_pool_item #[t112_2, .func (.func 24) #[] #[]] w fun t113_2 w =>
  mv a0 fun t114_2 =>
  o1 Tryd.prog (Instr.fieldAt 61 t8_2 1) w fun t115_2 w =>
  o1 Tryd.prog (Instr.loadAt 40 t115_2) w fun t116_2 w =>
  C Tryd.prog N.pool_Pool_remember #[t114_2, t116_2] w fun t117_2 w =>
  mv (x3 10) fun t118_2 =>
  mv t118_2 fun t6_13 =>
  mv .nilIface fun t7_13 =>
  k (.tuple #[t6_13, t7_13]) w)))))
theorem C.pool_Pool_Add {k : Value → World → Prop} {a0 a1 a2 : Value} {w : World} (h : F.pool_Pool_Add k a0 a1 a2 w) : C Tryd.prog N.pool_Pool_Add #[a0, a1, a2] w k :=
  den_calls (H := { moves := [(3, (.take 0 (.take 2 (.take 4 (.take 5 (.take 6 (.take 7 (.take 8 (.two 1 10 (.two 3 10 (.take 9 (.force 10 (.last 11))) (.force 3 (.take 9 (.last 11)))) (.force 1 (.force 3 (.take 9 (.last 11))))))))))))), (10, (.take 0 (.take 1 (.take 2 (.take 3 (.take 4 (.take 5 (.take 6 (.take 7 (.take 8 (.take 9 (.take 11 (.take 12 (.take 14 (.take 15 (.take 16 (.take 17 (.force 10 (.take 13 (.take 18 (.take 19 .fin)))))))))))))))))))))], vars := [6, 7, 9, 10, 34, 40] }) (args := [a0, a1, a2]) mixed Tryd.func7 (by kernel_rfl) (by kernel_rfl) (by kernel_rfl) h

end Go.Proofs.YtgagekffmamldaaDoor
