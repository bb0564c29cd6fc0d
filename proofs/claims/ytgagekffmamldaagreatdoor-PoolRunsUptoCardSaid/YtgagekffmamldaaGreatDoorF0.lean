/- What each function asks: printed by hoas.py off the loaded program; each is held against the program by the kernel. -/
import Derived.Test.YtgagekffmamldaaGreatDoorN
set_option linter.unusedVariables false
set_option linter.unusedSimpArgs false
set_option linter.unusedSectionVars false
namespace Go.Proofs.YtgagekffmamldaaGreatDoor
open Go Go.Isk
set_option maxRecDepth 100000
-- gosem.cut.init
-- isthmus/isthmuslaw18.PoolRuns
def F.isthmuslaw18_PoolRuns (k : Value → World → Prop) (a0 a1 : Value) (w : World) : Prop :=
  o1 Tryz.prog (Instr.box 23 a0) w fun t2 w =>
  mv (.bool false) fun t4 =>
  o1 Tryz.prog (Instr.fieldAt 23 t2 0) w fun t26 w =>
  o1 Tryz.prog (Instr.loadAt 3 t26) w fun t27 w =>
  o1 Tryz.prog (Instr.fieldAt 23 t2 1) w fun t28 w =>
  o1 Tryz.prog (Instr.loadAt 3 t28) w fun t29 w =>
  o1 Tryz.prog (Instr.fieldAt 23 t2 2) w fun t30 w =>
  o1 Tryz.prog (Instr.loadAt 3 t30) w fun t31 w =>
  C Tryz.prog N.pool_New #[t27, t29, t31] w fun t32 w =>
  mv t32 fun t25 =>
  o1 Tryz.prog (Instr.extract t25 0) w fun t33 w =>
  o1 Tryz.prog (Instr.extract t25 1) w fun t34 w =>
  mv t33 fun t5 =>
  mv t34 fun t6 =>
  o1 Tryz.prog (Instr.fieldAt 23 t2 0) w fun t36 w =>
  o1 Tryz.prog (Instr.loadAt 3 t36) w fun t37 w =>
  o1 Tryz.prog (Instr.fieldAt 23 t2 1) w fun t38 w =>
  o1 Tryz.prog (Instr.loadAt 3 t38) w fun t39 w =>
  o1 Tryz.prog (Instr.fieldAt 23 t2 2) w fun t40 w =>
  o1 Tryz.prog (Instr.loadAt 3 t40) w fun t41 w =>
  C Tryz.prog N.isthmusref18_New #[t37, t39, t41] w fun t42 w =>
  mv t42 fun t35 =>
  o1 Tryz.prog (Instr.extract t35 0) w fun t43 w =>
  o1 Tryz.prog (Instr.extract t35 1) w fun t44 w =>
  o1 Tryz.prog (Instr.alloc 33 true (.tuple #[])) w fun t7 w =>
  o0 Tryz.prog (Instr.storeAt 33 t7 t43) w fun _ w =>
  mv t44 fun t8 =>
  mv t8 fun t45 =>
  o1 Tryz.prog (bin .neq 3 (.tmp 45) (.const (.int .i64 0)) t45 (.int .i64 0)) w fun t46 w =>
  mv t46 fun t47 =>
  gd t47 false (fun k1 => mv t6 fun v => k1 v w) w fun t48 w =>
  gd t47 false (fun k2 => o1 Tryz.prog (bin .neq 27 (.tmp 48) (.const .nilIface) t48 .nilIface) w k2) w fun t49 w =>
  pk t47 (.bool true) t49 fun t50 =>
  mv t50 fun t51 =>
  gd t51 false (fun k3 => mv t5 fun v => k3 v w) w fun t52 w =>
  gd t51 false (fun k4 => o1 Tryz.prog (bin .eql 25 (.tmp 52) (.const (.pointer none)) t52 (.pointer none)) w k4) w fun t53 w =>
  pk t51 (.bool true) t53 fun t54 =>
  br t54 (fun _ =>
  mv (.pointer none) fun t9 =>
  mv t9 fun t56 =>
  o1 Tryz.prog (Instr.buildSlice 38 1 #[(0, .int .u8 97)]) w fun t57 w =>
  o1 Tryz.prog (convert 38 38 t57) w fun t58 w =>
  C Tryz.prog N.pool_Pool_Add #[t56, t58, .int .i64 1] w fun t59 w =>
  mv t59 fun t55 =>
  o1 Tryz.prog (Instr.extract t55 0) w fun t60 w =>
  o1 Tryz.prog (Instr.extract t55 1) w fun t61 w =>
  mv t60 fun t10 =>
  mv t61 fun t11 =>
  mv t9 fun t62 =>
  C Tryz.prog N.pool_Pool_Done #[t62, .slice none 0 0] w fun t63 w =>
  mv t6 fun t64 =>
  C Tryz.prog N.isthmuslaw18_num #[t64] w fun t65 w =>
  mv t8 fun t66 =>
  o1 Tryz.prog (bin .eql 3 (.tmp 65) (.tmp 66) t65 t66) w fun t67 w =>
  mv t67 fun t68 =>
  gd t68 true (fun k5 => mv t5 fun v => k5 v w) w fun t69 w =>
  gd t68 true (fun k6 => o1 Tryz.prog (bin .eql 25 (.tmp 69) (.const (.pointer none)) t69 (.pointer none)) w k6) w fun t70 w =>
  pk t68 t70 (.bool false) fun t71 =>
  mv t71 fun t72 =>
  gd t72 true (fun k7 => mv t11 fun v => k7 v w) w fun t73 w =>
  gd t72 true (fun k8 => C Tryz.prog N.isthmuslaw18_num #[t73] w k8) w fun t74 w =>
  gd t72 true (fun k9 => o1 Tryz.prog (bin .eql 3 (.tmp 74) (.const (.int .i64 1)) t74 (.int .i64 1)) w k9) w fun t75 w =>
  pk t72 t75 (.bool false) fun t76 =>
  mv t76 fun t77 =>
  gd t77 true (fun k10 => mv t9 fun v => k10 v w) w fun t78 w =>
  gd t77 true (fun k11 => o1 Tryz.prog (Instr.build 43 #[]) w k11) w fun t79 w =>
  gd t77 true (fun k12 => C Tryz.prog N.pool_Pool_Drop #[t78, t79] w k12) w fun t80 w =>
  gd t77 true (fun k13 => C Tryz.prog N.isthmuslaw18_num #[t80] w k13) w fun t81 w =>
  gd t77 true (fun k14 => o1 Tryz.prog (bin .eql 3 (.tmp 81) (.const (.int .i64 1)) t81 (.int .i64 1)) w k14) w fun t82 w =>
  pk t77 t82 (.bool false) fun t83 =>
  mv t83 fun t84 =>
  gd t84 true (fun k15 => mv t9 fun v => k15 v w) w fun t85 w =>
  gd t84 true (fun k16 => C Tryz.prog N.pool_Pool_Len #[t85] w k16) w fun t86 w =>
  gd t84 true (fun k17 => o1 Tryz.prog (bin .eql 3 (.tmp 86) (.const (.int .i64 0)) t86 (.int .i64 0)) w k17) w fun t87 w =>
  pk t84 t87 (.bool false) fun t88 =>
  mv t88 fun t89 =>
  gd t89 true (fun k18 => mv t9 fun v => k18 v w) w fun t90 w =>
  gd t89 true (fun k19 => C Tryz.prog N.pool_Pool_Bytes #[t90] w k19) w fun t91 w =>
  gd t89 true (fun k20 => o1 Tryz.prog (bin .eql 3 (.tmp 91) (.const (.int .i64 0)) t91 (.int .i64 0)) w k20) w fun t92 w =>
  pk t89 t92 (.bool false) fun t93 =>
  mv t93 fun t94 =>
  gd t94 true (fun k21 => mv t9 fun v => k21 v w) w fun t95 w =>
  gd t94 true (fun k22 => o1 Tryz.prog (Instr.build 43 #[]) w k22) w fun t96 w =>
  gd t94 true (fun k23 => C Tryz.prog N.pool_Pool_Knows #[t95, t96] w k23) w fun t97 w =>
  gd t94 true (fun k24 => o1 Tryz.prog (Op.unary .not t97) w k24) w fun t98 w =>
  pk t94 t98 (.bool false) fun t99 =>
  mv t99 fun t100 =>
  gd t100 true (fun k25 => mv t9 fun v => k25 v w) w fun t101 w =>
  gd t100 true (fun k26 => o1 Tryz.prog (Instr.build 43 #[]) w k26) w fun t102 w =>
  gd t100 true (fun k27 => C Tryz.prog N.pool_Pool_Has #[t101, t102] w k27) w fun t103 w =>
  gd t100 true (fun k28 => o1 Tryz.prog (Op.unary .not t103) w k28) w fun t104 w =>
  pk t100 t104 (.bool false) fun t105 =>
  mv t105 fun t106 =>
  gd t106 true (fun k29 => mv t9 fun v => k29 v w) w fun t107 w =>
  gd t106 true (fun k30 => C Tryz.prog N.pool_Pool_Take #[t107, .int .i64 1, .int .i64 1] w k30) w fun t108 w =>
  gd t106 true (fun k31 => o1 Tryz.prog (Builtin.len_ #[46] 3 #[t108]) w k31) w fun t109 w =>
  gd t106 true (fun k32 => o1 Tryz.prog (bin .eql 3 (.tmp 109) (.const (.int .i64 0)) t109 (.int .i64 0)) w k32) w fun t110 w =>
  pk t106 t110 (.bool false) fun t111 =>
  mv t111 fun t112 =>
  gd t112 true (fun k33 => C Tryz.prog N.isthmuslaw18_sure #[] w k33) w fun t113 w =>
  pk t112 t113 (.bool false) fun t114 =>
  mv t114 fun t4_1 =>
  k t4_1 w) (fun _ =>
  mv (.int .i64 0) fun t12 =>
  lp [t4, t12, undef, undef, undef, undef, undef, undef, undef, undef, undef, undef] w fun I1 μ1 => ∀ (x1 : Env) (w1 : World), I1 [x1 4, x1 12, x1 15, x1 17, x1 18, x1 19, x1 20, x1 22, x1 23, x1 24, x1 180, x1 190] w1 →
  mv (x1 12) fun t115 =>
  mv a1 fun t116 =>
  o1 Tryz.prog (Builtin.len_ #[24] 3 #[t116]) w1 fun t117 w =>
  o1 Tryz.prog (bin .lss 3 (.tmp 115) (.tmp 117) t115 t117) w fun t118 w =>
  mv t118 fun t119 =>
  gd t119 true (fun k34 => mv (x1 12) fun v => k34 v w) w fun t120 w =>
  gd t119 true (fun k35 => o1 Tryz.prog (bin .lss 3 (.tmp 120) (.const (.int .i64 60)) t120 (.int .i64 60)) w k35) w fun t121 w =>
  pk t119 t121 (.bool false) fun t122 =>
  br t122 (fun _ =>
  mv a1 fun t125 =>
  mv (x1 12) fun t126 =>
  o1 Tryz.prog (Instr.indexAt 24 t125 t126) w fun t127 w =>
  o1 Tryz.prog (Instr.loadAt 50 t127) w fun t128 w =>
  o1 Tryz.prog (Instr.alloc 50 true (.tuple #[])) w fun t13 w =>
  o0 Tryz.prog (Instr.storeAt 50 t13 t128) w fun _ w =>
  o1 Tryz.prog (Instr.fieldAt 50 t13 3) w fun t129 w =>
  o1 Tryz.prog (Instr.loadAt 38 t129) w fun t130 w =>
  C Tryz.prog N.isthmusref15_Hash #[t130] w fun t131 w =>
  o1 Tryz.prog (Instr.alloc 43 true (.tuple #[])) w fun t14 w =>
  o0 Tryz.prog (Instr.storeAt 43 t14 t131) w fun _ w =>
  o1 Tryz.prog (Instr.fieldAt 50 t13 0) w fun t132 w =>
  o1 Tryz.prog (Instr.loadAt 3 t132) w fun t133 w =>
  o1 Tryz.prog (convert 3 52 t133) w fun t134 w =>
  o1 Tryz.prog (bin .rem 52 (.tmp 134) (.const (.int .u64 5)) t134 (.int .u64 5)) w fun t135 w =>
  o1 Tryz.prog (convert 52 3 t135) w fun t136 w =>
  o1 Tryz.prog (bin .eql 3 (.tmp 136) (.const (.int .i64 3)) t136 (.int .i64 3)) w fun t181 w =>
  mv t181 fun t180 =>
  jn (fun x2 => [x2 4, x2 15, x2 17, x2 18, x2 19, x2 20, x2 22, x2 23, x2 24, x2 190]) (fun k36 =>
  br t180 (fun _ =>
  mv t5 fun t182 =>
  o1 Tryz.prog (Instr.fieldAt 50 t13 4) w fun t183 w =>
  o1 Tryz.prog (Instr.loadAt 46 t183) w fun t184 w =>
  C Tryz.prog N.pool_Pool_Done #[t182, t184] w fun t185 w =>
  o1 Tryz.prog (Instr.loadAt 33 t7) w fun t186 w =>
  o1 Tryz.prog (Instr.fieldAt 50 t13 4) w fun t187 w =>
  o1 Tryz.prog (Instr.loadAt 46 t187) w fun t188 w =>
  C Tryz.prog N.isthmusref18_Done #[t186, t188] w fun t189 w =>
  o0 Tryz.prog (Instr.storeAt 33 t7 t189) w fun _ w =>
  k36 [(x1 4), (x1 15), (x1 17), (x1 18), (x1 19), (x1 20), (x1 22), (x1 23), (x1 24), (x1 190)] w) (fun _ =>
  o1 Tryz.prog (bin .eql 3 (.tmp 136) (.const (.int .i64 4)) t136 (.int .i64 4)) w fun t191 w =>
  mv t191 fun t190 =>
  jn (fun x3 => [x3 4, x3 15, x3 17, x3 18, x3 19, x3 20, x3 22, x3 23, x3 24]) (fun k37 =>
  br t190 (fun _ =>
  mv t5 fun t192 =>
  o1 Tryz.prog (Instr.loadAt 43 t14) w fun t193 w =>
  C Tryz.prog N.pool_Pool_Drop #[t192, t193] w fun t194 w =>
  mv t194 fun t15 =>
  o1 Tryz.prog (Instr.loadAt 33 t7) w fun t196 w =>
  o1 Tryz.prog (Instr.loadAt 43 t14) w fun t197 w =>
  C Tryz.prog N.isthmusref18_Drop #[t196, t197] w fun t198 w =>
  mv t198 fun t195 =>
  o1 Tryz.prog (Instr.extract t195 0) w fun t199 w =>
  o1 Tryz.prog (Instr.extract t195 1) w fun t200 w =>
  o1 Tryz.prog (Instr.alloc 33 true (.tuple #[])) w fun t16 w =>
  o0 Tryz.prog (Instr.storeAt 33 t16 t199) w fun _ w =>
  mv t200 fun t17 =>
  o1 Tryz.prog (Instr.loadAt 33 t16) w fun t201 w =>
  o0 Tryz.prog (Instr.storeAt 33 t7 t201) w fun _ w =>
  mv t15 fun t202 =>
  C Tryz.prog N.isthmuslaw18_num #[t202] w fun t203 w =>
  mv t17 fun t204 =>
  o1 Tryz.prog (bin .neq 3 (.tmp 203) (.tmp 204) t203 t204) w fun t205 w =>
  br t205 (fun _ =>
  mv (.bool false) fun t4_2 =>
  k t4_2 w) (fun _ =>
  k37 [(x1 4), t15, t17, (x1 18), (x1 19), (x1 20), (x1 22), (x1 23), (x1 24)] w)) (fun _ =>
  mv (.slice none 0 0) fun t18 =>
  mv t18 fun t137 =>
  o1 Tryz.prog (Instr.fieldAt 50 t13 3) w fun t138 w =>
  o1 Tryz.prog (Instr.loadAt 38 t138) w fun t139 w =>
  ob Tryz.prog (fun _ => Builtin.append_ #[38, 38] 38 #[t137, t139]) w fun t140 w =>
  mv t140 fun t18_1 =>
  mv t5 fun t142 =>
  mv t18_1 fun t143 =>
  o1 Tryz.prog (Instr.fieldAt 50 t13 1) w fun t144 w =>
  o1 Tryz.prog (Instr.loadAt 3 t144) w fun t145 w =>
  C Tryz.prog N.pool_Pool_Add #[t142, t143, t145] w fun t146 w =>
  mv t146 fun t141 =>
  o1 Tryz.prog (Instr.extract t141 0) w fun t147 w =>
  o1 Tryz.prog (Instr.extract t141 1) w fun t148 w =>
  mv t147 fun t19 =>
  mv t148 fun t20 =>
  o1 Tryz.prog (Instr.loadAt 33 t7) w fun t150 w =>
  o1 Tryz.prog (Instr.fieldAt 50 t13 3) w fun t151 w =>
  o1 Tryz.prog (Instr.loadAt 38 t151) w fun t152 w =>
  o1 Tryz.prog (convert 38 9 t152) w fun t153 w =>
  o1 Tryz.prog (Instr.fieldAt 50 t13 1) w fun t154 w =>
  o1 Tryz.prog (Instr.loadAt 3 t154) w fun t155 w =>
  C Tryz.prog N.isthmusref18_Add #[t150, t153, t155] w fun t156 w =>
  mv t156 fun t149 =>
  o1 Tryz.prog (Instr.extract t149 0) w fun t157 w =>
  o1 Tryz.prog (Instr.extract t149 1) w fun t158 w =>
  o1 Tryz.prog (Instr.extract t149 2) w fun t159 w =>
  o1 Tryz.prog (Instr.alloc 33 true (.tuple #[])) w fun t21 w =>
  o0 Tryz.prog (Instr.storeAt 33 t21 t157) w fun _ w =>
  mv t158 fun t22 =>
  mv t159 fun t23 =>
  o1 Tryz.prog (Instr.loadAt 33 t21) w fun t160 w =>
  o0 Tryz.prog (Instr.storeAt 33 t7 t160) w fun _ w =>
  mv (.int .i64 0) fun t24 =>
  lp [t24] w fun I4 μ4 => ∀ (x4 : Env) (w2 : World), I4 [x4 24] w2 →
  mv (x4 24) fun t161 =>
  mv t18_1 fun t162 =>
  o1 Tryz.prog (Builtin.len_ #[38] 3 #[t162]) w2 fun t163 w =>
  o1 Tryz.prog (bin .lss 3 (.tmp 161) (.tmp 163) t161 t163) w fun t164 w =>
  br t164 (fun _ =>
  mv t18_1 fun t167 =>
  mv (x4 24) fun t168 =>
  o1 Tryz.prog (Instr.indexAt 38 t167 t168) w fun t169 w =>
  o0 Tryz.prog (Instr.storeAt 5 t169 (.int .u8 33)) w fun _ w =>
  mv (x4 24) fun t165 =>
  o1 Tryz.prog (bin .add 3 (.tmp 165) (.const (.int .i64 1)) t165 (.int .i64 1)) w fun t166 w =>
  mv t166 fun t24_1 =>
  I4 [t24_1] w ∧ μ4 [t24_1] w < μ4 [x4 24] w2) (fun _ =>
  mv t19 fun t170 =>
  mv t22 fun t171 =>
  C Tryz.prog N.isthmuslaw18_hashes #[t170, t171] w fun t172 w =>
  o1 Tryz.prog (Op.unary .not t172) w fun t173 w =>
  mv t173 fun t174 =>
  gd t174 false (fun k38 => mv t20 fun v => k38 v w) w fun t175 w =>
  gd t174 false (fun k39 => C Tryz.prog N.isthmuslaw18_num #[t175] w k39) w fun t176 w =>
  gd t174 false (fun k40 => mv t23 fun v => k40 v w) w fun t177 w =>
  gd t174 false (fun k41 => o1 Tryz.prog (bin .neq 3 (.tmp 176) (.tmp 177) t176 t177) w k41) w fun t178 w =>
  pk t174 (.bool true) t178 fun t179 =>
  br t179 (fun _ =>
  mv (.bool false) fun t4_3 =>
  k t4_3 w) (fun _ =>
  k37 [(x1 4), (x1 15), (x1 17), t18_1, t19, t20, t22, t23, (x4 24)] w)))) fun x3 w =>
  k36 [(x3 4), (x3 15), (x3 17), (x3 18), (x3 19), (x3 20), (x3 22), (x3 23), (x3 24), t190] w)) fun x2 w =>
  dr w.drew fun S1 =>
  mv t5 fun t206 =>
  tk Tryz.prog S1 (Instr.loadAt 33 t7) fun t208 =>
  C Tryz.prog N.pool_Pool_Take #[t206, .int .i64 2097152, .int .i64 2097152] w.drew fun t207 w =>
  S1 w ∧
  C Tryz.prog N.isthmusref18_Take #[t208, .int .i64 2097152, .int .i64 2097152] w fun t209 w =>
  S1 w ∧
  C Tryz.prog N.isthmuslaw18_texts #[t207, t209] w fun t210 w =>
  S1 w ∧
  tk Tryz.prog S1 (Op.unary .not t210) fun t211 =>
  mv t211 fun t212 =>
  gdT t212 false (fun k42 => mv t5 k42) fun t213 =>
  gdT t212 false (fun k43 => tk Tryz.prog S1 (Instr.fieldAt 50 t13 2) k43) fun t214 =>
  nS S1 w fun S2 =>
  gdT t212 false (fun k44 => tk Tryz.prog S2 (Instr.loadAt 3 t214) k44) fun t215 =>
  gdT t212 false (fun k45 => tk Tryz.prog S2 (Instr.fieldAt 50 t13 1) k45) fun t216 =>
  gdT t212 false (fun k46 => tk Tryz.prog S2 (Instr.loadAt 3 t216) k46) fun t217 =>
  gdT t212 false (fun k47 => tk Tryz.prog S2 (Instr.loadAt 33 t7) k47) fun t219 =>
  gdT t212 false (fun k48 => tk Tryz.prog S2 (Instr.fieldAt 50 t13 2) k48) fun t220 =>
  gdT t212 false (fun k49 => tk Tryz.prog S2 (Instr.loadAt 3 t220) k49) fun t221 =>
  gdT t212 false (fun k50 => tk Tryz.prog S2 (Instr.fieldAt 50 t13 1) k50) fun t222 =>
  gdT t212 false (fun k51 => tk Tryz.prog S2 (Instr.loadAt 3 t222) k51) fun t223 =>
  gd t212 false (fun k52 => C Tryz.prog N.pool_Pool_Take #[t213, t215, t217] w k52) w fun t218 w =>
  S2 w ∧
  gd t212 false (fun k53 => C Tryz.prog N.isthmusref18_Take #[t219, t221, t223] w k53) w fun t224 w =>
  S2 w ∧
  gd t212 false (fun k54 => C Tryz.prog N.isthmuslaw18_texts #[t218, t224] w k54) w fun t225 w =>
  S2 w ∧
  gdT t212 false (fun k55 => tk Tryz.prog S2 (Op.unary .not t225) k55) fun t226 =>
  pk t212 (.bool true) t226 fun t227 =>
  mv t227 fun t228 =>
  gdT t228 false (fun k56 => mv t5 k56) fun t229 =>
  gdT t228 false (fun k57 => tk Tryz.prog S2 (Instr.fieldAt 33 t7 3) k57) fun t231 =>
  nS S2 w fun S3 =>
  gdT t228 false (fun k58 => tk Tryz.prog S3 (Instr.loadAt 30 t231) k58) fun t232 =>
  gdT t228 false (fun k59 => tk Tryz.prog S3 (Builtin.len_ #[30] 3 #[t232]) k59) fun t233 =>
  gd t228 false (fun k60 => C Tryz.prog N.pool_Pool_Len #[t229] w k60) w fun t230 w =>
  S3 w ∧
  gdT t228 false (fun k61 => tk Tryz.prog S3 (bin .neq 3 (.tmp 230) (.tmp 233) t230 t233) k61) fun t234 =>
  pk t228 (.bool true) t234 fun t235 =>
  mv t235 fun t236 =>
  gdT t236 false (fun k62 => mv t5 k62) fun t237 =>
  gdT t236 false (fun k63 => tk Tryz.prog S3 (Instr.fieldAt 33 t7 3) k63) fun t239 =>
  nS S3 w fun S4 =>
  gdT t236 false (fun k64 => tk Tryz.prog S4 (Instr.loadAt 30 t239) k64) fun t240 =>
  gd t236 false (fun k65 => C Tryz.prog N.pool_Pool_Bytes #[t237] w k65) w fun t238 w =>
  S4 w ∧
  gd t236 false (fun k66 => C Tryz.prog N.isthmusref18_Size #[t240] w k66) w fun t241 w =>
  S4 w ∧
  gdT t236 false (fun k67 => tk Tryz.prog S4 (bin .neq 3 (.tmp 238) (.tmp 241) t238 t241) k67) fun t242 =>
  pk t236 (.bool true) t242 fun t243 =>
  mv t243 fun t244 =>
  gdT t244 false (fun k68 => mv t5 k68) fun t245 =>
  nS S4 w fun S5 =>
  gdT t244 false (fun k69 => tk Tryz.prog S5 (Instr.loadAt 43 t14) k69) fun t246 =>
  gdT t244 false (fun k70 => tk Tryz.prog S5 (Instr.loadAt 33 t7) k70) fun t248 =>
  gdT t244 false (fun k71 => tk Tryz.prog S5 (Instr.loadAt 43 t14) k71) fun t249 =>
  gd t244 false (fun k72 => C Tryz.prog N.pool_Pool_Has #[t245, t246] w k72) w fun t247 w =>
  S5 w ∧
  gd t244 false (fun k73 => C Tryz.prog N.isthmusref18_Has #[t248, t249] w k73) w fun t250 w =>
  S5 w ∧
  gdT t244 false (fun k74 => tk Tryz.prog S5 (bin .neq 4 (.tmp 247) (.tmp 250) t247 t250) k74) fun t251 =>
  pk t244 (.bool true) t251 fun t252 =>
  mv t252 fun t253 =>
  gdT t253 false (fun k75 => mv t5 k75) fun t254 =>
  nS S5 w fun S6 =>
  gdT t253 false (fun k76 => tk Tryz.prog S6 (Instr.loadAt 43 t14) k76) fun t255 =>
  gdT t253 false (fun k77 => tk Tryz.prog S6 (Instr.loadAt 33 t7) k77) fun t257 =>
  gdT t253 false (fun k78 => tk Tryz.prog S6 (Instr.loadAt 43 t14) k78) fun t258 =>
  gd t253 false (fun k79 => C Tryz.prog N.pool_Pool_Knows #[t254, t255] w k79) w fun t256 w =>
  S6 w ∧
  gd t253 false (fun k80 => C Tryz.prog N.isthmusref18_Knows #[t257, t258] w k80) w fun t259 w =>
  S6 w ∧
  gdT t253 false (fun k81 => tk Tryz.prog S6 (bin .neq 4 (.tmp 256) (.tmp 259) t256 t259) k81) fun t260 =>
  pk t253 (.bool true) t260 fun t261 =>
  br t261 (fun _ =>
  mv (.bool false) fun t4_4 =>
  k t4_4 w) (fun _ =>
  mv (x1 12) fun t123 =>
  o1 Tryz.prog (bin .add 3 (.tmp 123) (.const (.int .i64 1)) t123 (.int .i64 1)) w fun t124 w =>
  mv t124 fun t12_1 =>
  I1 [(x2 4), t12_1, (x2 15), (x2 17), (x2 18), (x2 19), (x2 20), (x2 22), (x2 23), (x2 24), t180, (x2 190)] w ∧ μ1 [(x2 4), t12_1, (x2 15), (x2 17), (x2 18), (x2 19), (x2 20), (x2 22), (x2 23), (x2 24), t180, (x2 190)] w < μ1 [x1 4, x1 12, x1 15, x1 17, x1 18, x1 19, x1 20, x1 22, x1 23, x1 24, x1 180, x1 190] w1)) (fun _ =>
  C Tryz.prog N.isthmuslaw18_sure #[] w fun t262 w =>
  mv t262 fun t4_5 =>
  k t4_5 w))
theorem C.isthmuslaw18_PoolRuns {k : Value → World → Prop} {a0 a1 : Value} {w : World} (h : F.isthmuslaw18_PoolRuns k a0 a1 w) : C Tryz.prog N.isthmuslaw18_PoolRuns #[a0, a1] w k :=
  den_calls (H := { moves := [(34, (.take 0 (.take 2 (.force 1 (.force 3 (.force 4 (.take 5 (.take 6 (.take 7 (.take 8 (.renew (.take 9 (.take 10 (.take 11 (.take 13 (.take 14 (.take 15 (.take 16 (.take 17 (.force 12 (.force 18 (.force 19 (.take 20 (.take 21 (.take 22 (.take 23 (.take 25 (.renew (.take 26 (.take 27 (.force 24 (.take 28 (.take 29 (.take 30 (.take 31 (.take 33 (.renew (.take 34 (.force 32 (.force 35 (.take 36 (.take 37 (.take 38 (.take 39 (.renew (.take 40 (.take 42 (.take 43 (.force 41 (.force 44 (.take 45 (.take 46 (.take 47 (.take 48 (.renew (.take 49 (.take 51 (.take 52 (.force 50 (.force 53 (.take 54 (.take 55 .fin))))))))))))))))))))))))))))))))))))))))))))))))))))))))))))))], vars := [4, 5, 6, 8, 9, 10, 11, 12, 15, 17, 18, 19, 20, 22, 23, 24, 180, 190] }) (args := [a0, a1]) mixed Tryz.func3 (by kernel_rfl) (by kernel_rfl) (by kernel_rfl) h

-- isthmus/pool.New
def F.pool_New (k : Value → World → Prop) (a0 a1 a2 : Value) (w : World) : Prop :=
  mv (.pointer none) fun t6 =>
  mv .nilIface fun t7 =>
  mv (.func (.func 26) #[] #[]) fun t8 =>
  mv t8 fun t9 =>
  mv a0 fun t10 =>
  cv Tryz.prog t9 #[t10] w fun t11 w =>
  mv t11 fun t12 =>
  gd t12 false (fun k1 => mv t8 fun v => k1 v w) w fun t13 w =>
  gd t12 false (fun k2 => mv a1 fun v => k2 v w) w fun t14 w =>
  gd t12 false (fun k3 => cv Tryz.prog t13 #[t14] w k3) w fun t15 w =>
  pk t12 (.bool true) t15 fun t16 =>
  mv t16 fun t17 =>
  gd t17 false (fun k4 => mv a2 fun v => k4 v w) w fun t18 w =>
  gd t17 false (fun k5 => o1 Tryz.prog (bin .lss 3 (.tmp 18) (.const (.int .i64 0)) t18 (.int .i64 0)) w k5) w fun t19 w =>
  pk t17 (.bool true) t19 fun t20 =>
  mv t20 fun t21 =>
  gd t21 false (fun k6 => mv a2 fun v => k6 v w) w fun t22 w =>
  gd t21 false (fun k7 => o1 Tryz.prog (bin .gtr 3 (.tmp 22) (.const (.int .i64 1048576)) t22 (.int .i64 1048576)) w k7) w fun t23 w =>
  pk t21 (.bool true) t23 fun t24 =>
  br t24 (fun _ =>
  C Tryz.prog N.pool_fault #[.string ⟨#[112, 111, 111, 108]⟩, .int .i64 1] w fun t25 w =>
  mv (.pointer none) fun t6_1 =>
  mv t25 fun t7_1 =>
  k (.tuple #[t6_1, t7_1]) w) (fun _ =>
  mv a0 fun t26 =>
  mv a1 fun t27 =>
  mv a2 fun t28 =>
  o1 Tryz.prog (Instr.build 69 #[(0, t26), (1, t27), (2, t28)]) w fun t29 w =>
  o1 Tryz.prog (Instr.box 69 t29) w fun t30 w =>
  mv t30 fun t6_2 =>
  mv .nilIface fun t7_2 =>
  k (.tuple #[t6_2, t7_2]) w)
theorem C.pool_New {k : Value → World → Prop} {a0 a1 a2 : Value} {w : World} (h : F.pool_New k a0 a1 a2 w) : C Tryz.prog N.pool_New #[a0, a1, a2] w k :=
  den_calls (H := { moves := [], vars := [6, 7, 8] }) (args := [a0, a1, a2]) mixed Tryz.func4 (by kernel_rfl) (by kernel_rfl) (by kernel_rfl) h

-- isthmus/isthmusref18.New
def F.isthmusref18_New (k : Value → World → Prop) (a0 a1 a2 : Value) (w : World) : Prop :=
  o1 Tryz.prog (Instr.alloc 33 true (.tuple #[])) w fun t6 w =>
  mv (.int .i64 0) fun t7 =>
  mv a0 fun t8 =>
  o1 Tryz.prog (bin .lss 3 (.tmp 8) (.const (.int .i64 1)) t8 (.int .i64 1)) w fun t9 w =>
  mv t9 fun t10 =>
  gd t10 false (fun k1 => mv a0 fun v => k1 v w) w fun t11 w =>
  gd t10 false (fun k2 => o1 Tryz.prog (bin .gtr 3 (.tmp 11) (.const (.int .i64 1048576)) t11 (.int .i64 1048576)) w k2) w fun t12 w =>
  pk t10 (.bool true) t12 fun t13 =>
  mv t13 fun t14 =>
  gd t14 false (fun k3 => mv a1 fun v => k3 v w) w fun t15 w =>
  gd t14 false (fun k4 => o1 Tryz.prog (bin .lss 3 (.tmp 15) (.const (.int .i64 1)) t15 (.int .i64 1)) w k4) w fun t16 w =>
  pk t14 (.bool true) t16 fun t17 =>
  mv t17 fun t18 =>
  gd t18 false (fun k5 => mv a1 fun v => k5 v w) w fun t19 w =>
  gd t18 false (fun k6 => o1 Tryz.prog (bin .gtr 3 (.tmp 19) (.const (.int .i64 1048576)) t19 (.int .i64 1048576)) w k6) w fun t20 w =>
  pk t18 (.bool true) t20 fun t21 =>
  mv t21 fun t22 =>
  gd t22 false (fun k7 => mv a2 fun v => k7 v w) w fun t23 w =>
  gd t22 false (fun k8 => o1 Tryz.prog (bin .lss 3 (.tmp 23) (.const (.int .i64 0)) t23 (.int .i64 0)) w k8) w fun t24 w =>
  pk t22 (.bool true) t24 fun t25 =>
  mv t25 fun t26 =>
  gd t26 false (fun k9 => mv a2 fun v => k9 v w) w fun t27 w =>
  gd t26 false (fun k10 => o1 Tryz.prog (bin .gtr 3 (.tmp 27) (.const (.int .i64 1048576)) t27 (.int .i64 1048576)) w k10) w fun t28 w =>
  pk t26 (.bool true) t28 fun t29 =>
  br t29 (fun _ =>
  o1 Tryz.prog (Instr.build 33 #[]) w fun t30 w =>
  o0 Tryz.prog (Instr.storeAt 33 t6 t30) w fun _ w =>
  mv (.int .i64 1) fun t7_1 =>
  rc Tryz.prog 33 t6 w fun r0 =>
  k (.tuple #[r0, t7_1]) w) (fun _ =>
  mv a0 fun t31 =>
  mv a1 fun t32 =>
  mv a2 fun t33 =>
  o1 Tryz.prog (Instr.build 33 #[(0, t31), (1, t32), (2, t33)]) w fun t34 w =>
  o0 Tryz.prog (Instr.storeAt 33 t6 t34) w fun _ w =>
  mv (.int .i64 0) fun t7_2 =>
  rc Tryz.prog 33 t6 w fun r0 =>
  k (.tuple #[r0, t7_2]) w)
theorem C.isthmusref18_New {k : Value → World → Prop} {a0 a1 a2 : Value} {w : World} (h : F.isthmusref18_New k a0 a1 a2 w) : C Tryz.prog N.isthmusref18_New #[a0, a1, a2] w k :=
  den_calls (H := { moves := [], vars := [7] }) (args := [a0, a1, a2]) mixed Tryz.func5 (by kernel_rfl) (by kernel_rfl) (by kernel_rfl) h

-- (*isthmus/pool.Pool).Add
def F.pool_Pool_Add (k : Value → World → Prop) (a0 a1 a2 : Value) (w : World) : Prop :=
  mv (.slice none 0 0) fun t6 =>
  mv .nilIface fun t7 =>
  mv a0 fun t12 =>
  o1 Tryz.prog (bin .eql 25 (.tmp 12) (.const (.pointer none)) t12 (.pointer none)) w fun t13 w =>
  mv t13 fun t14 =>
  gd t14 false (fun k1 => mv a1 fun v => k1 v w) w fun t15 w =>
  gd t14 false (fun k2 => o1 Tryz.prog (Builtin.len_ #[38] 3 #[t15]) w k2) w fun t16 w =>
  gd t14 false (fun k3 => o1 Tryz.prog (bin .eql 3 (.tmp 16) (.const (.int .i64 0)) t16 (.int .i64 0)) w k3) w fun t17 w =>
  pk t14 (.bool true) t17 fun t18 =>
  mv t18 fun t19 =>
  gd t19 false (fun k4 => mv a2 fun v => k4 v w) w fun t20 w =>
  gd t19 false (fun k5 => o1 Tryz.prog (bin .lss 3 (.tmp 20) (.const (.int .i64 0)) t20 (.int .i64 0)) w k5) w fun t21 w =>
  pk t19 (.bool true) t21 fun t22 =>
  br t22 (fun _ =>
  C Tryz.prog N.pool_fault #[.string ⟨#[116, 114, 97, 110, 115, 97, 99, 116, 105, 111, 110]⟩, .int .i64 1] w fun t23 w =>
  mv (.slice none 0 0) fun t6_1 =>
  mv t23 fun t7_1 =>
  k (.tuple #[t6_1, t7_1]) w) (fun _ =>
  dr w.drew fun S1 =>
  mv a1 fun t24 =>
  mv a1 fun t26 =>
  mv a2 fun t28 =>
  mv a0 fun t29 =>
  nilOk t29 = true ∧ mv t29 fun t30 =>
  tk Tryz.prog S1 (Instr.fieldAt 69 t30 5) fun t31 =>
  tk Tryz.prog S1 (Instr.loadAt 3 t31) fun t32 =>
  (C Tryz.prog N.slices_Clone_bytes #[t24] w.drew fun t25 w =>
  S1 w ∧
  (C Tryz.prog N.txs_Hash #[t26] w fun t27 w =>
  S1 w ∧
  tk Tryz.prog S1 (Instr.build 72 #[(0, t25), (1, t27), (2, t28), (3, t32)]) fun t33 =>
  o1 Tryz.prog (Instr.alloc 72 true (.tuple #[])) w fun t8 w =>
  S1 w ∧
  o0 Tryz.prog (Instr.storeAt 72 t8 t33) w fun _ w =>
  mv a0 fun t35 =>
  o1 Tryz.prog (Instr.fieldAt 72 t8 1) w fun t36 w =>
  o1 Tryz.prog (Instr.loadAt 43 t36) w fun t37 w =>
  C Tryz.prog N.pool_Pool_Knows #[t35, t37] w fun t38 w =>
  mv t38 fun t34 =>
  br t34 (fun _ =>
  C Tryz.prog N.pool_fault #[.string ⟨#[116, 114, 97, 110, 115, 97, 99, 116, 105, 111, 110]⟩, .int .i64 9] w fun t39 w =>
  mv (.slice none 0 0) fun t6_2 =>
  mv t39 fun t7_2 =>
  k (.tuple #[t6_2, t7_2]) w) (fun _ =>
  mv a1 fun t41 =>
  o1 Tryz.prog (Builtin.len_ #[38] 3 #[t41]) w fun t42 w =>
  mv a0 fun t43 =>
  nilOk t43 = true ∧ mv t43 fun t44 =>
  o1 Tryz.prog (Instr.fieldAt 69 t44 1) w fun t45 w =>
  o1 Tryz.prog (Instr.loadAt 3 t45) w fun t46 w =>
  o1 Tryz.prog (bin .gtr 3 (.tmp 42) (.tmp 46) t42 t46) w fun t47 w =>
  mv t47 fun t40 =>
  br t40 (fun _ =>
  C Tryz.prog N.pool_fault #[.string ⟨#[116, 114, 97, 110, 115, 97, 99, 116, 105, 111, 110]⟩, .int .i64 2] w fun t48 w =>
  mv (.slice none 0 0) fun t6_3 =>
  mv t48 fun t7_3 =>
  k (.tuple #[t6_3, t7_3]) w) (fun _ =>
  mv a0 fun t49 =>
  nilOk t49 = true ∧ mv t49 fun t50 =>
  o1 Tryz.prog (Instr.fieldAt 69 t50 3) w fun t51 w =>
  o1 Tryz.prog (Instr.loadAt 67 t51) w fun t52 w =>
  C Tryz.prog N.slices_Clone_pool_item_pool_item #[t52] w fun t53 w =>
  mv t53 fun t9 =>
  mv (.slice none 0 0) fun t10 =>
  lp [t6, t7, t9, t10] w fun I1 μ1 => ∀ (x1 : Env) (w1 : World), I1 [x1 6, x1 7, x1 9, x1 10] w1 →
  dr w1.drew fun S2 =>
  mv (x1 9) fun t54 =>
  tk Tryz.prog S2 (Builtin.len_ #[67] 3 #[t54]) fun t55 =>
  tk Tryz.prog S2 (bin .add 3 (.tmp 55) (.const (.int .i64 1)) t55 (.int .i64 1)) fun t56 =>
  mv a0 fun t57 =>
  nilOk t57 = true ∧ mv t57 fun t58 =>
  tk Tryz.prog S2 (Instr.fieldAt 69 t58 0) fun t59 =>
  tk Tryz.prog S2 (Instr.loadAt 3 t59) fun t60 =>
  tk Tryz.prog S2 (bin .gtr 3 (.tmp 56) (.tmp 60) t56 t60) fun t61 =>
  mv t61 fun t62 =>
  gdT t62 false (fun k6 => mv (x1 9) k6) fun t63 =>
  gdT t62 false (fun k7 => mv a1 k7) fun t65 =>
  gdT t62 false (fun k8 => tk Tryz.prog S2 (Builtin.len_ #[38] 3 #[t65]) k8) fun t66 =>
  gdT t62 false (fun k9 => mv a0 k9) fun t68 =>
  gdT t62 false (fun k10 => nilOk t68 = true ∧ mv t68 k10) fun t69 =>
  gdT t62 false (fun k11 => tk Tryz.prog S2 (Instr.fieldAt 69 t69 1) k11) fun t70 =>
  gdT t62 false (fun k12 => tk Tryz.prog S2 (Instr.loadAt 3 t70) k12) fun t71 =>
  gd t62 false (fun k13 => C Tryz.prog N.pool_size #[t63] w1.drew k13) w1.drew fun t64 w =>
  S2 w ∧
  gdT t62 false (fun k14 => tk Tryz.prog S2 (bin .add 3 (.tmp 64) (.tmp 66) t64 t66) k14) fun t67 =>
  gdT t62 false (fun k15 => tk Tryz.prog S2 (bin .gtr 3 (.tmp 67) (.tmp 71) t67 t71) k15) fun t72 =>
  pk t62 (.bool true) t72 fun t73 =>
  br t73 (fun _ =>
  mv (x1 9) fun t74 =>
  mv (x1 9) fun t75 =>
  o1 Tryz.prog (Builtin.len_ #[67] 3 #[t75]) w fun t76 w =>
  o1 Tryz.prog (bin .sub 3 (.tmp 76) (.const (.int .i64 1)) t76 (.int .i64 1)) w fun t77 w =>
  o1 Tryz.prog (Instr.indexAt 67 t74 t77) w fun t78 w =>
  o1 Tryz.prog (Instr.loadAt 72 t78) w fun t79 w =>
  o1 Tryz.prog (Instr.alloc 72 true (.tuple #[])) w fun t11 w =>
  o0 Tryz.prog (Instr.storeAt 72 t11 t79) w fun _ w =>
  o1 Tryz.prog (Instr.fieldAt 72 t11 2) w fun t80 w =>
  o1 Tryz.prog (Instr.loadAt 3 t80) w fun t81 w =>
  mv a2 fun t82 =>
  o1 Tryz.prog (bin .geq 3 (.tmp 81) (.tmp 82) t81 t82) w fun t83 w =>
  br t83 (fun _ =>
  C Tryz.prog N.pool_fault #[.string ⟨#[112, 111, 111, 108]⟩, .int .i64 10] w fun t84 w =>
  mv (.slice none 0 0) fun t6_4 =>
  mv t84 fun t7_4 =>
  k (.tuple #[t6_4, t7_4]) w) (fun _ =>
  mv (x1 10) fun t85 =>
  o1 Tryz.prog (Instr.fieldAt 72 t11 1) w fun t86 w =>
  o1 Tryz.prog (Instr.loadAt 43 t86) w fun t87 w =>
  o1 Tryz.prog (Instr.buildSlice 31 1 #[(0, t87)]) w fun t88 w =>
  ob Tryz.prog (fun _ => Builtin.append_ #[31, 31] 31 #[t85, t88]) w fun t89 w =>
  mv t89 fun t10_1 =>
  mv (x1 9) fun t90 =>
  mv (x1 9) fun t91 =>
  o1 Tryz.prog (Builtin.len_ #[67] 3 #[t91]) w fun t92 w =>
  o1 Tryz.prog (bin .sub 3 (.tmp 92) (.const (.int .i64 1)) t92 (.int .i64 1)) w fun t93 w =>
  o1 Tryz.prog (Instr.sliceAt 67 t90 none (some t93) none) w fun t94 w =>
  mv t94 fun t9_1 =>
  I1 [(x1 6), (x1 7), t9_1, t10_1] w ∧ μ1 [(x1 6), (x1 7), t9_1, t10_1] w < μ1 [x1 6, x1 7, x1 9, x1 10] w1)) (fun _ =>
  mv a0 fun t95 =>
  nilOk t95 = true ∧ mv t95 fun t96 =>
  o1 Tryz.prog (Instr.fieldAt 69 t96 5) w fun t97 w =>
  o1 Tryz.prog (Instr.loadAt 3 t97) w fun t98 w =>
  o1 Tryz.prog (bin .add 3 (.tmp 98) (.const (.int .i64 1)) t98 (.int .i64 1)) w fun t99 w =>
  nilOk t95 = true ∧ mv t95 fun t100 =>
  o1 Tryz.prog (Instr.fieldAt 69 t100 5) w fun t101 w =>
  o0 Tryz.prog (Instr.storeAt 3 t101 t99) w fun _ w =>
  mv a0 fun t102 =>
  mv (x1 9) fun t103 =>
  o1 Tryz.prog (Instr.loadAt 72 t8) w fun t104 w =>
  o1 Tryz.prog (Instr.buildSlice 67 1 #[(0, t104)]) w fun t105 w =>
  ob Tryz.prog (fun _ => Builtin.append_ #[67, 67] 67 #[t103, t105]) w fun t106 w =>
  nilOk t102 = true ∧ mv t102 fun t107 =>
  o1 Tryz.prog (Instr.fieldAt 69 t107 3) w fun t108 w =>
  o0 Tryz.prog (Instr.storeAt 67 t108 t106) w fun _ w =>
  mv a0 fun t109 =>
  nilOk t109 = true ∧ mv t109 fun t110 =>
  o1 Tryz.prog (Instr.fieldAt 69 t110 3) w fun t111 w =>
  o1 Tryz.prog (Instr.loadAt 67 t111) w fun t112 w =>
  C Tryz.prog N.slices_SortFunc_pool_item_pool_item #[t112, .func (.func 33) #[] #[]] w fun t113 w =>
  mv a0 fun t114 =>
  o1 Tryz.prog (Instr.fieldAt 72 t8 1) w fun t115 w =>
  o1 Tryz.prog (Instr.loadAt 43 t115) w fun t116 w =>
  C Tryz.prog N.pool_Pool_remember #[t114, t116] w fun t117 w =>
  mv (x1 10) fun t118 =>
  mv t118 fun t6_5 =>
  mv .nilIface fun t7_5 =>
  k (.tuple #[t6_5, t7_5]) w)))) ∧ (
  o1 Tryz.prog (Instr.alloc 72 true (.tuple #[])) w fun t8_1 w =>
  S1 w ∧
  C Tryz.prog N.txs_Hash #[t26] w fun t27_1 w =>
  S1 w ∧
  tk Tryz.prog S1 (Instr.build 72 #[(0, t25), (1, t27_1), (2, t28), (3, t32)]) fun t33_1 =>
  o0 Tryz.prog (Instr.storeAt 72 t8_1 t33_1) w fun _ w =>
  mv a0 fun t35_1 =>
  o1 Tryz.prog (Instr.fieldAt 72 t8_1 1) w fun t36_1 w =>
  o1 Tryz.prog (Instr.loadAt 43 t36_1) w fun t37_1 w =>
  C Tryz.prog N.pool_Pool_Knows #[t35_1, t37_1] w fun t38_1 w =>
  mv t38_1 fun t34_1 =>
  br t34_1 (fun _ =>
  C Tryz.prog N.pool_fault #[.string ⟨#[116, 114, 97, 110, 115, 97, 99, 116, 105, 111, 110]⟩, .int .i64 9] w fun t39_1 w =>
  mv (.slice none 0 0) fun t6_6 =>
  mv t39_1 fun t7_6 =>
  k (.tuple #[t6_6, t7_6]) w) (fun _ =>
  mv a1 fun t41_1 =>
  o1 Tryz.prog (Builtin.len_ #[38] 3 #[t41_1]) w fun t42_1 w =>
  mv a0 fun t43_1 =>
  nilOk t43_1 = true ∧ mv t43_1 fun t44_1 =>
  o1 Tryz.prog (Instr.fieldAt 69 t44_1 1) w fun t45_1 w =>
  o1 Tryz.prog (Instr.loadAt 3 t45_1) w fun t46_1 w =>
  o1 Tryz.prog (bin .gtr 3 (.tmp 42) (.tmp 46) t42_1 t46_1) w fun t47_1 w =>
  mv t47_1 fun t40_1 =>
  br t40_1 (fun _ =>
  C Tryz.prog N.pool_fault #[.string ⟨#[116, 114, 97, 110, 115, 97, 99, 116, 105, 111, 110]⟩, .int .i64 2] w fun t48_1 w =>
  mv (.slice none 0 0) fun t6_7 =>
  mv t48_1 fun t7_7 =>
  k (.tuple #[t6_7, t7_7]) w) (fun _ =>
  mv a0 fun t49_1 =>
  nilOk t49_1 = true ∧ mv t49_1 fun t50_1 =>
  o1 Tryz.prog (Instr.fieldAt 69 t50_1 3) w fun t51_1 w =>
  o1 Tryz.prog (Instr.loadAt 67 t51_1) w fun t52_1 w =>
  C Tryz.prog N.slices_Clone_pool_item_pool_item #[t52_1] w fun t53_1 w =>
  mv t53_1 fun t9_2 =>
  mv (.slice none 0 0) fun t10_2 =>
  lp [t6, t7, t9_2, t10_2] w fun I2 μ2 => ∀ (x2 : Env) (w2 : World), I2 [x2 6, x2 7, x2 9, x2 10] w2 →
  dr w2.drew fun S3 =>
  mv (x2 9) fun t54_1 =>
  tk Tryz.prog S3 (Builtin.len_ #[67] 3 #[t54_1]) fun t55_1 =>
  tk Tryz.prog S3 (bin .add 3 (.tmp 55) (.const (.int .i64 1)) t55_1 (.int .i64 1)) fun t56_1 =>
  mv a0 fun t57_1 =>
  nilOk t57_1 = true ∧ mv t57_1 fun t58_1 =>
  tk Tryz.prog S3 (Instr.fieldAt 69 t58_1 0) fun t59_1 =>
  tk Tryz.prog S3 (Instr.loadAt 3 t59_1) fun t60_1 =>
  tk Tryz.prog S3 (bin .gtr 3 (.tmp 56) (.tmp 60) t56_1 t60_1) fun t61_1 =>
  mv t61_1 fun t62_1 =>
  gdT t62_1 false (fun k16 => mv (x2 9) k16) fun t63_1 =>
  gdT t62_1 false (fun k17 => mv a1 k17) fun t65_1 =>
  gdT t62_1 false (fun k18 => tk Tryz.prog S3 (Builtin.len_ #[38] 3 #[t65_1]) k18) fun t66_1 =>
  gdT t62_1 false (fun k19 => mv a0 k19) fun t68_1 =>
  gdT t62_1 false (fun k20 => nilOk t68_1 = true ∧ mv t68_1 k20) fun t69_1 =>
  gdT t62_1 false (fun k21 => tk Tryz.prog S3 (Instr.fieldAt 69 t69_1 1) k21) fun t70_1 =>
  gdT t62_1 false (fun k22 => tk Tryz.prog S3 (Instr.loadAt 3 t70_1) k22) fun t71_1 =>
  gd t62_1 false (fun k23 => C Tryz.prog N.pool_size #[t63_1] w2.drew k23) w2.drew fun t64_1 w =>
  S3 w ∧
  gdT t62_1 false (fun k24 => tk Tryz.prog S3 (bin .add 3 (.tmp 64) (.tmp 66) t64_1 t66_1) k24) fun t67_1 =>
  gdT t62_1 false (fun k25 => tk Tryz.prog S3 (bin .gtr 3 (.tmp 67) (.tmp 71) t67_1 t71_1) k25) fun t72_1 =>
  pk t62_1 (.bool true) t72_1 fun t73_1 =>
  br t73_1 (fun _ =>
  mv (x2 9) fun t74_1 =>
  mv (x2 9) fun t75_1 =>
  o1 Tryz.prog (Builtin.len_ #[67] 3 #[t75_1]) w fun t76_1 w =>
  o1 Tryz.prog (bin .sub 3 (.tmp 76) (.const (.int .i64 1)) t76_1 (.int .i64 1)) w fun t77_1 w =>
  o1 Tryz.prog (Instr.indexAt 67 t74_1 t77_1) w fun t78_1 w =>
  o1 Tryz.prog (Instr.loadAt 72 t78_1) w fun t79_1 w =>
  o1 Tryz.prog (Instr.alloc 72 true (.tuple #[])) w fun t11_1 w =>
  o0 Tryz.prog (Instr.storeAt 72 t11_1 t79_1) w fun _ w =>
  o1 Tryz.prog (Instr.fieldAt 72 t11_1 2) w fun t80_1 w =>
  o1 Tryz.prog (Instr.loadAt 3 t80_1) w fun t81_1 w =>
  mv a2 fun t82_1 =>
  o1 Tryz.prog (bin .geq 3 (.tmp 81) (.tmp 82) t81_1 t82_1) w fun t83_1 w =>
  br t83_1 (fun _ =>
  C Tryz.prog N.pool_fault #[.string ⟨#[112, 111, 111, 108]⟩, .int .i64 10] w fun t84_1 w =>
  mv (.slice none 0 0) fun t6_8 =>
  mv t84_1 fun t7_8 =>
  k (.tuple #[t6_8, t7_8]) w) (fun _ =>
  mv (x2 10) fun t85_1 =>
  o1 Tryz.prog (Instr.fieldAt 72 t11_1 1) w fun t86_1 w =>
  o1 Tryz.prog (Instr.loadAt 43 t86_1) w fun t87_1 w =>
  o1 Tryz.prog (Instr.buildSlice 31 1 #[(0, t87_1)]) w fun t88_1 w =>
  ob Tryz.prog (fun _ => Builtin.append_ #[31, 31] 31 #[t85_1, t88_1]) w fun t89_1 w =>
  mv t89_1 fun t10_3 =>
  mv (x2 9) fun t90_1 =>
  mv (x2 9) fun t91_1 =>
  o1 Tryz.prog (Builtin.len_ #[67] 3 #[t91_1]) w fun t92_1 w =>
  o1 Tryz.prog (bin .sub 3 (.tmp 92) (.const (.int .i64 1)) t92_1 (.int .i64 1)) w fun t93_1 w =>
  o1 Tryz.prog (Instr.sliceAt 67 t90_1 none (some t93_1) none) w fun t94_1 w =>
  mv t94_1 fun t9_3 =>
  I2 [(x2 6), (x2 7), t9_3, t10_3] w ∧ μ2 [(x2 6), (x2 7), t9_3, t10_3] w < μ2 [x2 6, x2 7, x2 9, x2 10] w2)) (fun _ =>
  mv a0 fun t95_1 =>
  nilOk t95_1 = true ∧ mv t95_1 fun t96_1 =>
  o1 Tryz.prog (Instr.fieldAt 69 t96_1 5) w fun t97_1 w =>
  o1 Tryz.prog (Instr.loadAt 3 t97_1) w fun t98_1 w =>
  o1 Tryz.prog (bin .add 3 (.tmp 98) (.const (.int .i64 1)) t98_1 (.int .i64 1)) w fun t99_1 w =>
  nilOk t95_1 = true ∧ mv t95_1 fun t100_1 =>
  o1 Tryz.prog (Instr.fieldAt 69 t100_1 5) w fun t101_1 w =>
  o0 Tryz.prog (Instr.storeAt 3 t101_1 t99_1) w fun _ w =>
  mv a0 fun t102_1 =>
  mv (x2 9) fun t103_1 =>
  o1 Tryz.prog (Instr.loadAt 72 t8_1) w fun t104_1 w =>
  o1 Tryz.prog (Instr.buildSlice 67 1 #[(0, t104_1)]) w fun t105_1 w =>
  ob Tryz.prog (fun _ => Builtin.append_ #[67, 67] 67 #[t103_1, t105_1]) w fun t106_1 w =>
  nilOk t102_1 = true ∧ mv t102_1 fun t107_1 =>
  o1 Tryz.prog (Instr.fieldAt 69 t107_1 3) w fun t108_1 w =>
  o0 Tryz.prog (Instr.storeAt 67 t108_1 t106_1) w fun _ w =>
  mv a0 fun t109_1 =>
  nilOk t109_1 = true ∧ mv t109_1 fun t110_1 =>
  o1 Tryz.prog (Instr.fieldAt 69 t110_1 3) w fun t111_1 w =>
  o1 Tryz.prog (Instr.loadAt 67 t111_1) w fun t112_1 w =>
  C Tryz.prog N.slices_SortFunc_pool_item_pool_item #[t112_1, .func (.func 33) #[] #[]] w fun t113_1 w =>
  mv a0 fun t114_1 =>
  o1 Tryz.prog (Instr.fieldAt 72 t8_1 1) w fun t115_1 w =>
  o1 Tryz.prog (Instr.loadAt 43 t115_1) w fun t116_1 w =>
  C Tryz.prog N.pool_Pool_remember #[t114_1, t116_1] w fun t117_1 w =>
  mv (x2 10) fun t118_1 =>
  mv t118_1 fun t6_9 =>
  mv .nilIface fun t7_9 =>
  k (.tuple #[t6_9, t7_9]) w))))) ∧ (
  o1 Tryz.prog (Instr.alloc 72 true (.tuple #[])) w.drew fun t8_2 w =>
  S1 w ∧
  C Tryz.prog N.slices_Clone_bytes #[t24] w fun t25_1 w =>
  S1 w ∧
  C Tryz.prog N.txs_Hash #[t26] w fun t27_2 w =>
  S1 w ∧
  tk Tryz.prog S1 (Instr.build 72 #[(0, t25_1), (1, t27_2), (2, t28), (3, t32)]) fun t33_2 =>
  o0 Tryz.prog (Instr.storeAt 72 t8_2 t33_2) w fun _ w =>
  mv a0 fun t35_2 =>
  o1 Tryz.prog (Instr.fieldAt 72 t8_2 1) w fun t36_2 w =>
  o1 Tryz.prog (Instr.loadAt 43 t36_2) w fun t37_2 w =>
  C Tryz.prog N.pool_Pool_Knows #[t35_2, t37_2] w fun t38_2 w =>
  mv t38_2 fun t34_2 =>
  br t34_2 (fun _ =>
  C Tryz.prog N.pool_fault #[.string ⟨#[116, 114, 97, 110, 115, 97, 99, 116, 105, 111, 110]⟩, .int .i64 9] w fun t39_2 w =>
  mv (.slice none 0 0) fun t6_10 =>
  mv t39_2 fun t7_10 =>
  k (.tuple #[t6_10, t7_10]) w) (fun _ =>
  mv a1 fun t41_2 =>
  o1 Tryz.prog (Builtin.len_ #[38] 3 #[t41_2]) w fun t42_2 w =>
  mv a0 fun t43_2 =>
  nilOk t43_2 = true ∧ mv t43_2 fun t44_2 =>
  o1 Tryz.prog (Instr.fieldAt 69 t44_2 1) w fun t45_2 w =>
  o1 Tryz.prog (Instr.loadAt 3 t45_2) w fun t46_2 w =>
  o1 Tryz.prog (bin .gtr 3 (.tmp 42) (.tmp 46) t42_2 t46_2) w fun t47_2 w =>
  mv t47_2 fun t40_2 =>
  br t40_2 (fun _ =>
  C Tryz.prog N.pool_fault #[.string ⟨#[116, 114, 97, 110, 115, 97, 99, 116, 105, 111, 110]⟩, .int .i64 2] w fun t48_2 w =>
  mv (.slice none 0 0) fun t6_11 =>
  mv t48_2 fun t7_11 =>
  k (.tuple #[t6_11, t7_11]) w) (fun _ =>
  mv a0 fun t49_2 =>
  nilOk t49_2 = true ∧ mv t49_2 fun t50_2 =>
  o1 Tryz.prog (Instr.fieldAt 69 t50_2 3) w fun t51_2 w =>
  o1 Tryz.prog (Instr.loadAt 67 t51_2) w fun t52_2 w =>
  C Tryz.prog N.slices_Clone_pool_item_pool_item #[t52_2] w fun t53_2 w =>
  mv t53_2 fun t9_4 =>
  mv (.slice none 0 0) fun t10_4 =>
  lp [t6, t7, t9_4, t10_4] w fun I3 μ3 => ∀ (x3 : Env) (w3 : World), I3 [x3 6, x3 7, x3 9, x3 10] w3 →
  dr w3.drew fun S4 =>
  mv (x3 9) fun t54_2 =>
  tk Tryz.prog S4 (Builtin.len_ #[67] 3 #[t54_2]) fun t55_2 =>
  tk Tryz.prog S4 (bin .add 3 (.tmp 55) (.const (.int .i64 1)) t55_2 (.int .i64 1)) fun t56_2 =>
  mv a0 fun t57_2 =>
  nilOk t57_2 = true ∧ mv t57_2 fun t58_2 =>
  tk Tryz.prog S4 (Instr.fieldAt 69 t58_2 0) fun t59_2 =>
  tk Tryz.prog S4 (Instr.loadAt 3 t59_2) fun t60_2 =>
  tk Tryz.prog S4 (bin .gtr 3 (.tmp 56) (.tmp 60) t56_2 t60_2) fun t61_2 =>
  mv t61_2 fun t62_2 =>
  gdT t62_2 false (fun k26 => mv (x3 9) k26) fun t63_2 =>
  gdT t62_2 false (fun k27 => mv a1 k27) fun t65_2 =>
  gdT t62_2 false (fun k28 => tk Tryz.prog S4 (Builtin.len_ #[38] 3 #[t65_2]) k28) fun t66_2 =>
  gdT t62_2 false (fun k29 => mv a0 k29) fun t68_2 =>
  gdT t62_2 false (fun k30 => nilOk t68_2 = true ∧ mv t68_2 k30) fun t69_2 =>
  gdT t62_2 false (fun k31 => tk Tryz.prog S4 (Instr.fieldAt 69 t69_2 1) k31) fun t70_2 =>
  gdT t62_2 false (fun k32 => tk Tryz.prog S4 (Instr.loadAt 3 t70_2) k32) fun t71_2 =>
  gd t62_2 false (fun k33 => C Tryz.prog N.pool_size #[t63_2] w3.drew k33) w3.drew fun t64_2 w =>
  S4 w ∧
  gdT t62_2 false (fun k34 => tk Tryz.prog S4 (bin .add 3 (.tmp 64) (.tmp 66) t64_2 t66_2) k34) fun t67_2 =>
  gdT t62_2 false (fun k35 => tk Tryz.prog S4 (bin .gtr 3 (.tmp 67) (.tmp 71) t67_2 t71_2) k35) fun t72_2 =>
  pk t62_2 (.bool true) t72_2 fun t73_2 =>
  br t73_2 (fun _ =>
  mv (x3 9) fun t74_2 =>
  mv (x3 9) fun t75_2 =>
  o1 Tryz.prog (Builtin.len_ #[67] 3 #[t75_2]) w fun t76_2 w =>
  o1 Tryz.prog (bin .sub 3 (.tmp 76) (.const (.int .i64 1)) t76_2 (.int .i64 1)) w fun t77_2 w =>
  o1 Tryz.prog (Instr.indexAt 67 t74_2 t77_2) w fun t78_2 w =>
  o1 Tryz.prog (Instr.loadAt 72 t78_2) w fun t79_2 w =>
  o1 Tryz.prog (Instr.alloc 72 true (.tuple #[])) w fun t11_2 w =>
  o0 Tryz.prog (Instr.storeAt 72 t11_2 t79_2) w fun _ w =>
  o1 Tryz.prog (Instr.fieldAt 72 t11_2 2) w fun t80_2 w =>
  o1 Tryz.prog (Instr.loadAt 3 t80_2) w fun t81_2 w =>
  mv a2 fun t82_2 =>
  o1 Tryz.prog (bin .geq 3 (.tmp 81) (.tmp 82) t81_2 t82_2) w fun t83_2 w =>
  br t83_2 (fun _ =>
  C Tryz.prog N.pool_fault #[.string ⟨#[112, 111, 111, 108]⟩, .int .i64 10] w fun t84_2 w =>
  mv (.slice none 0 0) fun t6_12 =>
  mv t84_2 fun t7_12 =>
  k (.tuple #[t6_12, t7_12]) w) (fun _ =>
  mv (x3 10) fun t85_2 =>
  o1 Tryz.prog (Instr.fieldAt 72 t11_2 1) w fun t86_2 w =>
  o1 Tryz.prog (Instr.loadAt 43 t86_2) w fun t87_2 w =>
  o1 Tryz.prog (Instr.buildSlice 31 1 #[(0, t87_2)]) w fun t88_2 w =>
  ob Tryz.prog (fun _ => Builtin.append_ #[31, 31] 31 #[t85_2, t88_2]) w fun t89_2 w =>
  mv t89_2 fun t10_5 =>
  mv (x3 9) fun t90_2 =>
  mv (x3 9) fun t91_2 =>
  o1 Tryz.prog (Builtin.len_ #[67] 3 #[t91_2]) w fun t92_2 w =>
  o1 Tryz.prog (bin .sub 3 (.tmp 92) (.const (.int .i64 1)) t92_2 (.int .i64 1)) w fun t93_2 w =>
  o1 Tryz.prog (Instr.sliceAt 67 t90_2 none (some t93_2) none) w fun t94_2 w =>
  mv t94_2 fun t9_5 =>
  I3 [(x3 6), (x3 7), t9_5, t10_5] w ∧ μ3 [(x3 6), (x3 7), t9_5, t10_5] w < μ3 [x3 6, x3 7, x3 9, x3 10] w3)) (fun _ =>
  mv a0 fun t95_2 =>
  nilOk t95_2 = true ∧ mv t95_2 fun t96_2 =>
  o1 Tryz.prog (Instr.fieldAt 69 t96_2 5) w fun t97_2 w =>
  o1 Tryz.prog (Instr.loadAt 3 t97_2) w fun t98_2 w =>
  o1 Tryz.prog (bin .add 3 (.tmp 98) (.const (.int .i64 1)) t98_2 (.int .i64 1)) w fun t99_2 w =>
  nilOk t95_2 = true ∧ mv t95_2 fun t100_2 =>
  o1 Tryz.prog (Instr.fieldAt 69 t100_2 5) w fun t101_2 w =>
  o0 Tryz.prog (Instr.storeAt 3 t101_2 t99_2) w fun _ w =>
  mv a0 fun t102_2 =>
  mv (x3 9) fun t103_2 =>
  o1 Tryz.prog (Instr.loadAt 72 t8_2) w fun t104_2 w =>
  o1 Tryz.prog (Instr.buildSlice 67 1 #[(0, t104_2)]) w fun t105_2 w =>
  ob Tryz.prog (fun _ => Builtin.append_ #[67, 67] 67 #[t103_2, t105_2]) w fun t106_2 w =>
  nilOk t102_2 = true ∧ mv t102_2 fun t107_2 =>
  o1 Tryz.prog (Instr.fieldAt 69 t107_2 3) w fun t108_2 w =>
  o0 Tryz.prog (Instr.storeAt 67 t108_2 t106_2) w fun _ w =>
  mv a0 fun t109_2 =>
  nilOk t109_2 = true ∧ mv t109_2 fun t110_2 =>
  o1 Tryz.prog (Instr.fieldAt 69 t110_2 3) w fun t111_2 w =>
  o1 Tryz.prog (Instr.loadAt 67 t111_2) w fun t112_2 w =>
  C Tryz.prog N.slices_SortFunc_pool_item_pool_item #[t112_2, .func (.func 33) #[] #[]] w fun t113_2 w =>
  mv a0 fun t114_2 =>
  o1 Tryz.prog (Instr.fieldAt 72 t8_2 1) w fun t115_2 w =>
  o1 Tryz.prog (Instr.loadAt 43 t115_2) w fun t116_2 w =>
  C Tryz.prog N.pool_Pool_remember #[t114_2, t116_2] w fun t117_2 w =>
  mv (x3 10) fun t118_2 =>
  mv t118_2 fun t6_13 =>
  mv .nilIface fun t7_13 =>
  k (.tuple #[t6_13, t7_13]) w)))))
theorem C.pool_Pool_Add {k : Value → World → Prop} {a0 a1 a2 : Value} {w : World} (h : F.pool_Pool_Add k a0 a1 a2 w) : C Tryz.prog N.pool_Pool_Add #[a0, a1, a2] w k :=
  den_calls (H := { moves := [(3, (.take 0 (.take 2 (.take 4 (.take 5 (.take 6 (.take 7 (.take 8 (.two 1 10 (.two 3 10 (.take 9 (.force 10 (.last 11))) (.force 3 (.take 9 (.last 11)))) (.force 1 (.force 3 (.take 9 (.last 11))))))))))))), (10, (.take 0 (.take 1 (.take 2 (.take 3 (.take 4 (.take 5 (.take 6 (.take 7 (.take 8 (.take 9 (.take 11 (.take 12 (.take 14 (.take 15 (.take 16 (.take 17 (.force 10 (.take 13 (.take 18 (.take 19 .fin)))))))))))))))))))))], vars := [6, 7, 9, 10, 34, 40] }) (args := [a0, a1, a2]) mixed Tryz.func6 (by kernel_rfl) (by kernel_rfl) (by kernel_rfl) h

-- (*isthmus/pool.Pool).Done
def F.pool_Pool_Done (k : Value → World → Prop) (a0 a1 : Value) (w : World) : Prop :=
  mv a0 fun t7 =>
  o1 Tryz.prog (bin .eql 25 (.tmp 7) (.const (.pointer none)) t7 (.pointer none)) w fun t8 w =>
  br t8 (fun _ =>
  k (.tuple #[]) w) (fun _ =>
  mv a1 fun t9 =>
  o1 Tryz.prog (Builtin.len_ #[46] 3 #[t9]) w fun t10 w =>
  mv (.int .i64 0) fun t11 =>
  lp [undef, t11] w fun I1 μ1 => ∀ (x1 : Env) (w1 : World), I1 [x1 5, x1 11] w1 →
  o1 Tryz.prog (bin .lss 3 (.tmp 11) (.tmp 10) (x1 11) t10) w1 fun t12 w =>
  br t12 (fun _ =>
  o1 Tryz.prog (Instr.indexAt 46 t9 (x1 11)) w fun t13 w =>
  o1 Tryz.prog (Instr.loadAt 38 t13) w fun t14 w =>
  mv t14 fun t5 =>
  mv t5 fun t15 =>
  C Tryz.prog N.txs_Hash #[t15] w fun t16 w =>
  o1 Tryz.prog (Instr.alloc 43 true (.tuple #[])) w fun t6 w =>
  o0 Tryz.prog (Instr.storeAt 43 t6 t16) w fun _ w =>
  mv a0 fun t17 =>
  o1 Tryz.prog (Instr.loadAt 43 t6) w fun t18 w =>
  C Tryz.prog N.pool_Pool_drop #[t17, t18] w fun t19 w =>
  mv a0 fun t20 =>
  o1 Tryz.prog (Instr.loadAt 43 t6) w fun t21 w =>
  C Tryz.prog N.pool_Pool_remember #[t20, t21] w fun t22 w =>
  o1 Tryz.prog (bin .add 3 (.tmp 11) (.const (.int .i64 1)) (x1 11) (.int .i64 1)) w fun t23 w =>
  mv t23 fun t11_1 =>
  I1 [t5, t11_1] w ∧ μ1 [t5, t11_1] w < μ1 [x1 5, x1 11] w1) (fun _ =>
  k (.tuple #[]) w))
theorem C.pool_Pool_Done {k : Value → World → Prop} {a0 a1 : Value} {w : World} (h : F.pool_Pool_Done k a0 a1 w) : C Tryz.prog N.pool_Pool_Done #[a0, a1] w k :=
  den_calls (H := { moves := [], vars := [5, 11] }) (args := [a0, a1]) mixed Tryz.func7 (by kernel_rfl) (by kernel_rfl) (by kernel_rfl) h

-- isthmus/isthmuslaw18.num
def F.isthmuslaw18_num (k : Value → World → Prop) (a0 : Value) (w : World) : Prop :=
  mv (.int .i64 0) fun t2 =>
  o1 Tryz.prog (Instr.alloc 66 true (.tuple #[])) w fun t3 w =>
  mv a0 fun t4 =>
  o1 Tryz.prog (bin .eql 27 (.tmp 4) (.const .nilIface) t4 .nilIface) w fun t5 w =>
  br t5 (fun _ =>
  mv (.int .i64 0) fun t2_1 =>
  k t2_1 w) (fun _ =>
  mv a0 fun t6 =>
  o1 Tryz.prog (Instr.makeInterface 80 t3) w fun t7 w =>
  C Tryz.prog N.errors_As #[t6, t7] w fun t8 w =>
  br t8 (fun _ =>
  o1 Tryz.prog (Instr.loadAt 66 t3) w fun t9 w =>
  mv t9 fun t2_2 =>
  k t2_2 w) (fun _ =>
  mv (.int .i64 (-1)) fun t2_3 =>
  k t2_3 w))
theorem C.isthmuslaw18_num {k : Value → World → Prop} {a0 : Value} {w : World} (h : F.isthmuslaw18_num k a0 w) : C Tryz.prog N.isthmuslaw18_num #[a0] w k :=
  den_calls (H := { moves := [], vars := [2] }) (args := [a0]) mixed Tryz.func8 (by kernel_rfl) (by kernel_rfl) (by kernel_rfl) h

-- (*isthmus/pool.Pool).Drop
def F.pool_Pool_Drop (k : Value → World → Prop) (a0 a1 : Value) (w : World) : Prop :=
  o1 Tryz.prog (Instr.box 43 a1) w fun t3 w =>
  mv .nilIface fun t4 =>
  mv a0 fun t6 =>
  o1 Tryz.prog (bin .eql 25 (.tmp 6) (.const (.pointer none)) t6 (.pointer none)) w fun t7 w =>
  mv t7 fun t5 =>
  br t5 (fun _ =>
  C Tryz.prog N.pool_fault #[.string ⟨#[112, 111, 111, 108]⟩, .int .i64 1] w fun t8 w =>
  mv t8 fun t4_1 =>
  k t4_1 w) (fun _ =>
  mv a0 fun t10 =>
  o1 Tryz.prog (Instr.loadAt 43 t3) w fun t11 w =>
  C Tryz.prog N.pool_Pool_drop #[t10, t11] w fun t12 w =>
  o1 Tryz.prog (Op.unary .not t12) w fun t13 w =>
  mv t13 fun t9 =>
  br t9 (fun _ =>
  C Tryz.prog N.pool_fault #[.string ⟨#[116, 114, 97, 110, 115, 97, 99, 116, 105, 111, 110]⟩, .int .i64 8] w fun t14 w =>
  mv t14 fun t4_2 =>
  k t4_2 w) (fun _ =>
  mv a0 fun t15 =>
  o1 Tryz.prog (Instr.loadAt 43 t3) w fun t16 w =>
  C Tryz.prog N.pool_Pool_forget #[t15, t16] w fun t17 w =>
  mv .nilIface fun t4_3 =>
  k t4_3 w))
theorem C.pool_Pool_Drop {k : Value → World → Prop} {a0 a1 : Value} {w : World} (h : F.pool_Pool_Drop k a0 a1 w) : C Tryz.prog N.pool_Pool_Drop #[a0, a1] w k :=
  den_calls (H := { moves := [], vars := [4, 5, 9] }) (args := [a0, a1]) mixed Tryz.func9 (by kernel_rfl) (by kernel_rfl) (by kernel_rfl) h

-- (*isthmus/pool.Pool).Len
def F.pool_Pool_Len (k : Value → World → Prop) (a0 : Value) (w : World) : Prop :=
  mv (.int .i64 0) fun t2 =>
  mv a0 fun t3 =>
  o1 Tryz.prog (bin .eql 25 (.tmp 3) (.const (.pointer none)) t3 (.pointer none)) w fun t4 w =>
  br t4 (fun _ =>
  mv (.int .i64 0) fun t2_1 =>
  k t2_1 w) (fun _ =>
  mv a0 fun t5 =>
  nilOk t5 = true ∧ mv t5 fun t6 =>
  o1 Tryz.prog (Instr.fieldAt 69 t6 3) w fun t7 w =>
  o1 Tryz.prog (Instr.loadAt 67 t7) w fun t8 w =>
  o1 Tryz.prog (Builtin.len_ #[67] 3 #[t8]) w fun t9 w =>
  mv t9 fun t2_2 =>
  k t2_2 w)
theorem C.pool_Pool_Len {k : Value → World → Prop} {a0 : Value} {w : World} (h : F.pool_Pool_Len k a0 w) : C Tryz.prog N.pool_Pool_Len #[a0] w k :=
  den_calls (H := { moves := [], vars := [2] }) (args := [a0]) mixed Tryz.func10 (by kernel_rfl) (by kernel_rfl) (by kernel_rfl) h

-- (*isthmus/pool.Pool).Bytes
def F.pool_Pool_Bytes (k : Value → World → Prop) (a0 : Value) (w : World) : Prop :=
  mv (.int .i64 0) fun t2 =>
  mv a0 fun t3 =>
  o1 Tryz.prog (bin .eql 25 (.tmp 3) (.const (.pointer none)) t3 (.pointer none)) w fun t4 w =>
  br t4 (fun _ =>
  mv (.int .i64 0) fun t2_1 =>
  k t2_1 w) (fun _ =>
  mv a0 fun t5 =>
  nilOk t5 = true ∧ mv t5 fun t6 =>
  o1 Tryz.prog (Instr.fieldAt 69 t6 3) w fun t7 w =>
  o1 Tryz.prog (Instr.loadAt 67 t7) w fun t8 w =>
  C Tryz.prog N.pool_size #[t8] w fun t9 w =>
  mv t9 fun t2_2 =>
  k t2_2 w)
theorem C.pool_Pool_Bytes {k : Value → World → Prop} {a0 : Value} {w : World} (h : F.pool_Pool_Bytes k a0 w) : C Tryz.prog N.pool_Pool_Bytes #[a0] w k :=
  den_calls (H := { moves := [], vars := [2] }) (args := [a0]) mixed Tryz.func11 (by kernel_rfl) (by kernel_rfl) (by kernel_rfl) h

-- (*isthmus/pool.Pool).Knows
def F.pool_Pool_Knows (k : Value → World → Prop) (a0 a1 : Value) (w : World) : Prop :=
  o1 Tryz.prog (Instr.box 43 a1) w fun t3 w =>
  mv (.bool false) fun t4 =>
  dr w.drew fun S1 =>
  mv a0 fun t5 =>
  tk Tryz.prog S1 (Instr.loadAt 43 t3) fun t6 =>
  C Tryz.prog N.pool_Pool_Has #[t5, t6] w.drew fun t7 w =>
  S1 w ∧
  mv t7 fun t8 =>
  gdT t8 false (fun k1 => mv a0 k1) fun t9 =>
  gdT t8 false (fun k2 => tk Tryz.prog S1 (bin .neq 25 (.tmp 9) (.const (.pointer none)) t9 (.pointer none)) k2) fun t10 =>
  gdT t8 false (fun k3 => mv t10 k3) fun t11 =>
  gdT t11 true (fun k4 => mv a0 k4) fun t12 =>
  gdT t11 true (fun k5 => nilOk t12 = true ∧ mv t12 k5) fun t13 =>
  gdT t11 true (fun k6 => tk Tryz.prog S1 (Instr.fieldAt 69 t13 4) k6) fun t14 =>
  nS S1 w fun S2 =>
  gdT t11 true (fun k7 => tk Tryz.prog S2 (Instr.loadAt 31 t14) k7) fun t15 =>
  gdT t11 true (fun k8 => tk Tryz.prog S2 (Instr.loadAt 43 t3) k8) fun t16 =>
  gd t11 true (fun k9 => C Tryz.prog N.slices_Contains_api_Hash_api_Hash #[t15, t16] w k9) w fun t17 w =>
  S2 w ∧
  gdT t8 false (fun k10 => pk t11 t17 (.bool false) k10) fun t18 =>
  pk t8 (.bool true) t18 fun t19 =>
  mv t19 fun t4_1 =>
  k t4_1 w
theorem C.pool_Pool_Knows {k : Value → World → Prop} {a0 a1 : Value} {w : World} (h : F.pool_Pool_Knows k a0 a1 w) : C Tryz.prog N.pool_Pool_Knows #[a0, a1] w k :=
  den_calls (H := { moves := [(1, (.take 0 (.take 1 (.force 2 (.take 3 (.take 4 (.take 5 (.take 6 (.take 7 (.take 8 (.take 9 (.renew (.take 10 (.take 11 (.force 12 (.take 13 (.take 14 (.take 15 .fin))))))))))))))))))], vars := [4] }) (args := [a0, a1]) mixed Tryz.func12 (by kernel_rfl) (by kernel_rfl) (by kernel_rfl) h

-- (*isthmus/pool.Pool).Has
def F.pool_Pool_Has (k : Value → World → Prop) (a0 a1 : Value) (w : World) : Prop :=
  o1 Tryz.prog (Instr.box 43 a1) w fun t3 w =>
  mv (.bool false) fun t4 =>
  mv a0 fun t5 =>
  o1 Tryz.prog (bin .neq 25 (.tmp 5) (.const (.pointer none)) t5 (.pointer none)) w fun t6 w =>
  mv t6 fun t7 =>
  gd t7 true (fun k1 => mv a0 fun v => k1 v w) w fun t8 w =>
  gd t7 true (fun k2 => nilOk t8 = true ∧ mv t8 fun v => k2 v w) w fun t9 w =>
  gd t7 true (fun k3 => o1 Tryz.prog (Instr.fieldAt 69 t9 3) w k3) w fun t10 w =>
  gd t7 true (fun k4 => o1 Tryz.prog (Instr.loadAt 67 t10) w k4) w fun t11 w =>
  gd t7 true (fun k5 => o1 Tryz.prog (Instr.makeFunc (.func 40) #[] #[t3]) w k5) w fun t12 w =>
  gd t7 true (fun k6 => C Tryz.prog N.slices_ContainsFunc_pool_item_pool_item #[t11, t12] w k6) w fun t13 w =>
  pk t7 t13 (.bool false) fun t14 =>
  mv t14 fun t4_1 =>
  k t4_1 w
theorem C.pool_Pool_Has {k : Value → World → Prop} {a0 a1 : Value} {w : World} (h : F.pool_Pool_Has k a0 a1 w) : C Tryz.prog N.pool_Pool_Has #[a0, a1] w k :=
  den_calls (H := { moves := [], vars := [4] }) (args := [a0, a1]) mixed Tryz.func13 (by kernel_rfl) (by kernel_rfl) (by kernel_rfl) h

-- (*isthmus/pool.Pool).Take
def F.pool_Pool_Take (k : Value → World → Prop) (a0 a1 a2 : Value) (w : World) : Prop :=
  mv (.slice none 0 0) fun t6 =>
  mv (.slice none 0 0) fun t7 =>
  mv a0 fun t10 =>
  o1 Tryz.prog (bin .eql 25 (.tmp 10) (.const (.pointer none)) t10 (.pointer none)) w fun t11 w =>
  br t11 (fun _ =>
  mv t7 fun t12 =>
  mv t12 fun t6_1 =>
  k t6_1 w) (fun _ =>
  mv a0 fun t13 =>
  nilOk t13 = true ∧ mv t13 fun t14 =>
  o1 Tryz.prog (Instr.fieldAt 69 t14 3) w fun t15 w =>
  o1 Tryz.prog (Instr.loadAt 67 t15) w fun t16 w =>
  o1 Tryz.prog (Builtin.len_ #[67] 3 #[t16]) w fun t17 w =>
  mv (.int .i64 0) fun t18 =>
  jn (fun x1 => [x1 2, x1 7, x1 18]) (fun k1 =>
  lp [a2, t7, t18] w fun I2 μ2 => ∀ (x2 : Env) (w1 : World), I2 [x2 2, x2 7, x2 18] w1 →
  o1 Tryz.prog (bin .lss 3 (.tmp 18) (.tmp 17) (x2 18) t17) w1 fun t19 w =>
  br t19 (fun _ =>
  o1 Tryz.prog (Instr.indexAt 67 t16 (x2 18)) w fun t20 w =>
  o1 Tryz.prog (Instr.loadAt 72 t20) w fun t21 w =>
  o1 Tryz.prog (Instr.alloc 72 true (.tuple #[])) w fun t9 w =>
  o0 Tryz.prog (Instr.storeAt 72 t9 t21) w fun _ w =>
  mv (x2 7) fun t22 =>
  o1 Tryz.prog (Builtin.len_ #[46] 3 #[t22]) w fun t23 w =>
  mv a1 fun t24 =>
  o1 Tryz.prog (bin .geq 3 (.tmp 23) (.tmp 24) t23 t24) w fun t25 w =>
  mv t25 fun t26 =>
  gd t26 false (fun k2 => o1 Tryz.prog (Instr.fieldAt 72 t9 0) w k2) w fun t27 w =>
  gd t26 false (fun k3 => o1 Tryz.prog (Instr.loadAt 38 t27) w k3) w fun t28 w =>
  gd t26 false (fun k4 => o1 Tryz.prog (Builtin.len_ #[38] 3 #[t28]) w k4) w fun t29 w =>
  gd t26 false (fun k5 => mv (x2 2) fun v => k5 v w) w fun t30 w =>
  gd t26 false (fun k6 => o1 Tryz.prog (bin .gtr 3 (.tmp 29) (.tmp 30) t29 t30) w k6) w fun t31 w =>
  pk t26 (.bool true) t31 fun t32 =>
  br t32 (fun _ =>
  k1 [(x2 2), (x2 7), (x2 18)] w) (fun _ =>
  mv (x2 2) fun t33 =>
  o1 Tryz.prog (Instr.fieldAt 72 t9 0) w fun t34 w =>
  o1 Tryz.prog (Instr.loadAt 38 t34) w fun t35 w =>
  o1 Tryz.prog (Builtin.len_ #[38] 3 #[t35]) w fun t36 w =>
  o1 Tryz.prog (bin .sub 3 (.tmp 33) (.tmp 36) t33 t36) w fun t37 w =>
  mv t37 fun t2 =>
  mv (x2 7) fun t38 =>
  o1 Tryz.prog (Instr.fieldAt 72 t9 0) w fun t39 w =>
  o1 Tryz.prog (Instr.loadAt 38 t39) w fun t40 w =>
  C Tryz.prog N.slices_Clone_bytes #[t40] w fun t41 w =>
  o1 Tryz.prog (Instr.buildSlice 46 1 #[(0, t41)]) w fun t42 w =>
  ob Tryz.prog (fun _ => Builtin.append_ #[46, 46] 46 #[t38, t42]) w fun t43 w =>
  mv t43 fun t7_1 =>
  o1 Tryz.prog (bin .add 3 (.tmp 18) (.const (.int .i64 1)) (x2 18) (.int .i64 1)) w fun t44 w =>
  mv t44 fun t18_1 =>
  I2 [t2, t7_1, t18_1] w ∧ μ2 [t2, t7_1, t18_1] w < μ2 [x2 2, x2 7, x2 18] w1)) (fun _ =>
  k1 [(x2 2), (x2 7), (x2 18)] w)) fun x1 w =>
  mv (x1 7) fun t45 =>
  mv t45 fun t6_2 =>
  k t6_2 w)
theorem C.pool_Pool_Take {k : Value → World → Prop} {a0 a1 a2 : Value} {w : World} (h : F.pool_Pool_Take k a0 a1 a2 w) : C Tryz.prog N.pool_Pool_Take #[a0, a1, a2] w k :=
  den_calls (H := { moves := [], vars := [2, 6, 7, 18] }) (args := [a0, a1, a2]) mixed Tryz.func14 (by kernel_rfl) (by kernel_rfl) (by kernel_rfl) h

-- isthmus/isthmuslaw18.sure
def F.isthmuslaw18_sure (k : Value → World → Prop) (w : World) : Prop :=
  mv (.bool false) fun t0 =>
  C Tryz.prog N.pool_New #[.int .i64 2, .int .i64 100, .int .i64 0] w fun t12 w =>
  mv t12 fun t11 =>
  o1 Tryz.prog (Instr.extract t11 0) w fun t13 w =>
  o1 Tryz.prog (Instr.extract t11 1) w fun t14 w =>
  mv t13 fun t1 =>
  mv t14 fun t2 =>
  mv t2 fun t15 =>
  o1 Tryz.prog (bin .neq 27 (.tmp 15) (.const .nilIface) t15 .nilIface) w fun t16 w =>
  mv t16 fun t17 =>
  gd t17 false (fun k1 => mv t1 fun v => k1 v w) w fun t18 w =>
  gd t17 false (fun k2 => o1 Tryz.prog (bin .eql 25 (.tmp 18) (.const (.pointer none)) t18 (.pointer none)) w k2) w fun t19 w =>
  pk t17 (.bool true) t19 fun t20 =>
  br t20 (fun _ =>
  mv (.bool false) fun t0_1 =>
  k t0_1 w) (fun _ =>
  mv t1 fun t22 =>
  o1 Tryz.prog (Instr.buildSlice 38 1 #[(0, .int .u8 97)]) w fun t23 w =>
  o1 Tryz.prog (convert 38 38 t23) w fun t24 w =>
  C Tryz.prog N.pool_Pool_Add #[t22, t24, .int .i64 1] w fun t25 w =>
  mv t25 fun t21 =>
  o1 Tryz.prog (Instr.extract t21 0) w fun t26 w =>
  o1 Tryz.prog (Instr.extract t21 1) w fun t27 w =>
  mv t26 fun t3 =>
  mv t27 fun t4 =>
  mv t1 fun t29 =>
  o1 Tryz.prog (Instr.buildSlice 38 1 #[(0, .int .u8 98)]) w fun t30 w =>
  o1 Tryz.prog (convert 38 38 t30) w fun t31 w =>
  C Tryz.prog N.pool_Pool_Add #[t29, t31, .int .i64 2] w fun t32 w =>
  mv t32 fun t28 =>
  o1 Tryz.prog (Instr.extract t28 0) w fun t33 w =>
  o1 Tryz.prog (Instr.extract t28 1) w fun t34 w =>
  mv t33 fun t5 =>
  mv t34 fun t6 =>
  mv t1 fun t36 =>
  o1 Tryz.prog (Instr.buildSlice 38 1 #[(0, .int .u8 99)]) w fun t37 w =>
  o1 Tryz.prog (convert 38 38 t37) w fun t38 w =>
  C Tryz.prog N.pool_Pool_Add #[t36, t38, .int .i64 3] w fun t39 w =>
  mv t39 fun t35 =>
  o1 Tryz.prog (Instr.extract t35 0) w fun t40 w =>
  o1 Tryz.prog (Instr.extract t35 1) w fun t41 w =>
  mv t40 fun t7 =>
  mv t41 fun t8 =>
  mv t1 fun t43 =>
  o1 Tryz.prog (Instr.buildSlice 38 1 #[(0, .int .u8 100)]) w fun t44 w =>
  o1 Tryz.prog (convert 38 38 t44) w fun t45 w =>
  C Tryz.prog N.pool_Pool_Add #[t43, t45, .int .i64 2] w fun t46 w =>
  mv t46 fun t42 =>
  o1 Tryz.prog (Instr.extract t42 0) w fun t47 w =>
  o1 Tryz.prog (Instr.extract t42 1) w fun t48 w =>
  mv t47 fun t9 =>
  mv t48 fun t10 =>
  dr w.drew fun S1 =>
  mv t4 fun t49 =>
  tk Tryz.prog S1 (bin .eql 27 (.tmp 49) (.const .nilIface) t49 .nilIface) fun t50 =>
  mv t50 fun t51 =>
  gdT t51 true (fun k3 => mv t6 k3) fun t52 =>
  gdT t51 true (fun k4 => tk Tryz.prog S1 (bin .eql 27 (.tmp 52) (.const .nilIface) t52 .nilIface) k4) fun t53 =>
  pk t51 t53 (.bool false) fun t54 =>
  mv t54 fun t55 =>
  gdT t55 true (fun k5 => mv t8 k5) fun t56 =>
  gdT t55 true (fun k6 => tk Tryz.prog S1 (bin .eql 27 (.tmp 56) (.const .nilIface) t56 .nilIface) k6) fun t57 =>
  pk t55 t57 (.bool false) fun t58 =>
  mv t58 fun t59 =>
  gdT t59 true (fun k7 => mv t10 k7) fun t60 =>
  gd t59 true (fun k8 => C Tryz.prog N.isthmuslaw18_num #[t60] w.drew k8) w.drew fun t61 w =>
  S1 w ∧
  gdT t59 true (fun k9 => tk Tryz.prog S1 (bin .eql 3 (.tmp 61) (.const (.int .i64 10)) t61 (.int .i64 10)) k9) fun t62 =>
  pk t59 t62 (.bool false) fun t63 =>
  mv t63 fun t64 =>
  gdT t64 true (fun k10 => mv t7 k10) fun t65 =>
  gdT t64 true (fun k11 => tk Tryz.prog S1 (Builtin.len_ #[31] 3 #[t65]) k11) fun t66 =>
  gdT t64 true (fun k12 => tk Tryz.prog S1 (bin .eql 3 (.tmp 66) (.const (.int .i64 1)) t66 (.int .i64 1)) k12) fun t67 =>
  pk t64 t67 (.bool false) fun t68 =>
  mv t68 fun t69 =>
  gdT t69 true (fun k13 => mv t7 k13) fun t70 =>
  gdT t69 true (fun k14 => tk Tryz.prog S1 (Instr.indexAt 31 t70 (.int .i64 0)) k14) fun t71 =>
  nS S1 w fun S2 =>
  gdT t69 true (fun k15 => tk Tryz.prog S2 (Instr.loadAt 43 t71) k15) fun t72 =>
  gd t69 true (fun k16 => o1 Tryz.prog (Instr.buildSlice 38 1 #[(0, .int .u8 97)]) w k16) w fun t73 w =>
  S2 w ∧
  gd t69 true (fun k17 => o1 Tryz.prog (convert 38 38 t73) w k17) w fun t74 w =>
  S2 w ∧
  gd t69 true (fun k18 => C Tryz.prog N.txs_Hash #[t74] w k18) w fun t75 w =>
  S2 w ∧
  gdT t69 true (fun k19 => tk Tryz.prog S2 (bin .eql 43 (.tmp 72) (.tmp 75) t72 t75) k19) fun t76 =>
  pk t69 t76 (.bool false) fun t77 =>
  mv t77 fun t78 =>
  gdT t78 true (fun k20 => mv t1 k20) fun t79 =>
  gd t78 true (fun k21 => C Tryz.prog N.pool_Pool_Len #[t79] w k21) w fun t80 w =>
  S2 w ∧
  gdT t78 true (fun k22 => tk Tryz.prog S2 (bin .eql 3 (.tmp 80) (.const (.int .i64 2)) t80 (.int .i64 2)) k22) fun t81 =>
  pk t78 t81 (.bool false) fun t82 =>
  mv t82 fun t0_2 =>
  k t0_2 w)
theorem C.isthmuslaw18_sure {k : Value → World → Prop} {w : World} (h : F.isthmuslaw18_sure k  w) : C Tryz.prog N.isthmuslaw18_sure #[] w k :=
  den_calls (H := { moves := [(8, (.take 0 (.take 1 (.take 2 (.take 3 (.take 4 (.take 5 (.take 6 (.take 7 (.take 8 (.take 9 (.take 10 (.take 11 (.force 12 (.take 13 (.take 14 (.take 15 (.take 16 (.take 17 (.take 18 (.take 19 (.take 20 (.take 21 (.take 22 (.renew (.take 23 (.force 24 (.force 25 (.force 26 (.take 27 (.take 28 (.take 29 (.take 30 (.force 31 (.take 32 (.take 33 (.take 34 .fin)))))))))))))))))))))))))))))))))))))], vars := [0, 1, 2, 3, 4, 5, 6, 7, 8, 9, 10] }) (args := []) mixed Tryz.func15 (by kernel_rfl) (by kernel_rfl) (by kernel_rfl) h

-- isthmus/isthmusref15.Hash
def F.isthmusref15_Hash (k : Value → World → Prop) (a0 : Value) (w : World) : Prop :=
  o1 Tryz.prog (Instr.alloc 43 true (.tuple #[])) w fun t2 w =>
  o1 Tryz.prog (Instr.buildSlice 38 1 #[(0, .int .u8 9)]) w fun t3 w =>
  mv a0 fun t4 =>
  ob Tryz.prog (fun _ => Builtin.append_ #[38, 38] 38 #[t3, t4]) w fun t5 w =>
  C Tryz.prog N.isthmusref01_Sum #[t5] w fun t6 w =>
  o0 Tryz.prog (Instr.storeAt 43 t2 t6) w fun _ w =>
  rc Tryz.prog 43 t2 w fun r0 =>
  k r0 w
theorem C.isthmusref15_Hash {k : Value → World → Prop} {a0 : Value} {w : World} (h : F.isthmusref15_Hash k a0 w) : C Tryz.prog N.isthmusref15_Hash #[a0] w k :=
  den_calls (H := { moves := [], vars := [] }) (args := [a0]) mixed Tryz.func16 (by kernel_rfl) (by kernel_rfl) (by kernel_rfl) h

-- isthmus/isthmusref18.Done
def F.isthmusref18_Done (k : Value → World → Prop) (a0 a1 : Value) (w : World) : Prop :=
  o1 Tryz.prog (Instr.box 33 a0) w fun t2 w =>
  o1 Tryz.prog (Instr.alloc 33 true (.tuple #[])) w fun t4 w =>
  mv (.int .i64 0) fun t5 =>
  lp [t5] w fun I1 μ1 => ∀ (x1 : Env) (w1 : World), I1 [x1 5] w1 →
  mv (x1 5) fun t7 =>
  mv a1 fun t8 =>
  o1 Tryz.prog (Builtin.len_ #[46] 3 #[t8]) w1 fun t9 w =>
  o1 Tryz.prog (bin .lss 3 (.tmp 7) (.tmp 9) t7 t9) w fun t10 w =>
  br t10 (fun _ =>
  mv a1 fun t13 =>
  mv (x1 5) fun t14 =>
  o1 Tryz.prog (Instr.indexAt 46 t13 t14) w fun t15 w =>
  o1 Tryz.prog (Instr.loadAt 38 t15) w fun t16 w =>
  C Tryz.prog N.isthmusref15_Hash #[t16] w fun t17 w =>
  o1 Tryz.prog (Instr.alloc 43 true (.tuple #[])) w fun t6 w =>
  o0 Tryz.prog (Instr.storeAt 43 t6 t17) w fun _ w =>
  dr w.drew fun S1 =>
  tk Tryz.prog S1 (Instr.loadAt 33 t2) fun t18 =>
  tk Tryz.prog S1 (Instr.loadAt 43 t6) fun t19 =>
  tk Tryz.prog S1 (Instr.loadAt 43 t6) fun t21 =>
  C Tryz.prog N.isthmusref18_drop #[t18, t19] w.drew fun t20 w =>
  S1 w ∧
  C Tryz.prog N.isthmusref18_remember #[t20, t21] w fun t22 w =>
  S1 w ∧
  o0 Tryz.prog (Instr.storeAt 33 t2 t22) w fun _ w =>
  mv (x1 5) fun t11 =>
  o1 Tryz.prog (bin .add 3 (.tmp 11) (.const (.int .i64 1)) t11 (.int .i64 1)) w fun t12 w =>
  mv t12 fun t5_1 =>
  I1 [t5_1] w ∧ μ1 [t5_1] w < μ1 [x1 5] w1) (fun _ =>
  o1 Tryz.prog (Instr.loadAt 33 t2) w fun t23 w =>
  o0 Tryz.prog (Instr.storeAt 33 t4 t23) w fun _ w =>
  rc Tryz.prog 33 t4 w fun r0 =>
  k r0 w)
theorem C.isthmusref18_Done {k : Value → World → Prop} {a0 a1 : Value} {w : World} (h : F.isthmusref18_Done k a0 a1 w) : C Tryz.prog N.isthmusref18_Done #[a0, a1] w k :=
  den_calls (H := { moves := [(5, (.take 0 (.take 1 (.take 3 (.force 2 (.force 4 (.last 5)))))))], vars := [5] }) (args := [a0, a1]) mixed Tryz.func17 (by kernel_rfl) (by kernel_rfl) (by kernel_rfl) h

-- isthmus/isthmusref18.Drop
def F.isthmusref18_Drop (k : Value → World → Prop) (a0 a1 : Value) (w : World) : Prop :=
  o1 Tryz.prog (Instr.box 33 a0) w fun t2 w =>
  o1 Tryz.prog (Instr.box 43 a1) w fun t3 w =>
  o1 Tryz.prog (Instr.alloc 33 true (.tuple #[])) w fun t4 w =>
  mv (.int .i64 0) fun t5 =>
  o1 Tryz.prog (Instr.loadAt 33 t2) w fun t6 w =>
  o1 Tryz.prog (Instr.loadAt 43 t3) w fun t7 w =>
  C Tryz.prog N.isthmusref18_Has #[t6, t7] w fun t8 w =>
  o1 Tryz.prog (Op.unary .not t8) w fun t9 w =>
  br t9 (fun _ =>
  o1 Tryz.prog (Instr.loadAt 33 t2) w fun t10 w =>
  o0 Tryz.prog (Instr.storeAt 33 t4 t10) w fun _ w =>
  mv (.int .i64 8) fun t5_1 =>
  rc Tryz.prog 33 t4 w fun r0 =>
  k (.tuple #[r0, t5_1]) w) (fun _ =>
  dr w.drew fun S1 =>
  tk Tryz.prog S1 (Instr.loadAt 33 t2) fun t11 =>
  tk Tryz.prog S1 (Instr.loadAt 43 t3) fun t12 =>
  tk Tryz.prog S1 (Instr.loadAt 43 t3) fun t14 =>
  C Tryz.prog N.isthmusref18_drop #[t11, t12] w.drew fun t13 w =>
  S1 w ∧
  C Tryz.prog N.isthmusref18_forget #[t13, t14] w fun t15 w =>
  S1 w ∧
  o0 Tryz.prog (Instr.storeAt 33 t4 t15) w fun _ w =>
  S1 w ∧
  mv (.int .i64 0) fun t5_2 =>
  rc Tryz.prog 33 t4 w fun r0 =>
  k (.tuple #[r0, t5_2]) w)
theorem C.isthmusref18_Drop {k : Value → World → Prop} {a0 a1 : Value} {w : World} (h : F.isthmusref18_Drop k a0 a1 w) : C Tryz.prog N.isthmusref18_Drop #[a0, a1] w k :=
  den_calls (H := { moves := [(3, (.take 0 (.take 1 (.take 3 (.force 2 (.force 4 (.force 5 (.take 6 .fin))))))))], vars := [5] }) (args := [a0, a1]) mixed Tryz.func18 (by kernel_rfl) (by kernel_rfl) (by kernel_rfl) h

end Go.Proofs.YtgagekffmamldaaGreatDoor
