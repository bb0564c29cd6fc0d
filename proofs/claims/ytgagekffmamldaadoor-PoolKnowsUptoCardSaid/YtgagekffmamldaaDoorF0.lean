/- What each function asks: printed by hoas.py off the loaded program; each is held against the program by the kernel. -/
import Derived.Test.YtgagekffmamldaaDoorN
set_option linter.unusedVariables false
set_option linter.unusedSimpArgs false
set_option linter.unusedSectionVars false
namespace Go.Proofs.YtgagekffmamldaaDoor
open Go Go.Isk
set_option maxRecDepth 100000
-- gosem.cut.init
-- isthmus/isthmuslaw18.PoolBounds
-- isthmus/isthmuslaw18.PoolOrder
-- isthmus/isthmuslaw18.PoolKnows
def F.isthmuslaw18_PoolKnows (k : Value → World → Prop) (a0 a1 : Value) (w : World) : Prop :=
  mv (.bool false) fun t4 =>
  mv a1 fun t15 =>
  o1 Tryd.prog (convert 3 25 t15) w fun t16 w =>
  o1 Tryd.prog (bin .rem 25 (.tmp 16) (.const (.int .u64 5)) t16 (.int .u64 5)) w fun t17 w =>
  o1 Tryd.prog (convert 25 3 t17) w fun t18 w =>
  o1 Tryd.prog (bin .add 3 (.const (.int .i64 1)) (.tmp 18) (.int .i64 1) t18) w fun t19 w =>
  C Tryd.prog N.pool_New #[.int .i64 100, .int .i64 1048576, t19] w fun t20 w =>
  mv t20 fun t14 =>
  o1 Tryd.prog (Instr.extract t14 0) w fun t21 w =>
  o1 Tryd.prog (Instr.extract t14 1) w fun t22 w =>
  mv t21 fun t5 =>
  mv t22 fun t6 =>
  mv t6 fun t23 =>
  o1 Tryd.prog (bin .neq 28 (.tmp 23) (.const .nilIface) t23 .nilIface) w fun t24 w =>
  mv t24 fun t25 =>
  gd t25 false (fun k1 => mv t5 fun v => k1 v w) w fun t26 w =>
  gd t25 false (fun k2 => o1 Tryd.prog (bin .eql 26 (.tmp 26) (.const (.pointer none)) t26 (.pointer none)) w k2) w fun t27 w =>
  pk t25 (.bool true) t27 fun t28 =>
  br t28 (fun _ =>
  mv (.bool false) fun t4_1 =>
  k t4_1 w) (fun _ =>
  mv (.int .i64 0) fun t7 =>
  lp [t4, t7, undef, undef, undef, undef] w fun I1 μ1 => ∀ (x1 : Env) (w1 : World), I1 [x1 4, x1 7, x1 9, x1 10, x1 12, x1 13] w1 →
  mv (x1 7) fun t29 =>
  mv a0 fun t30 =>
  o1 Tryd.prog (Builtin.len_ #[24] 3 #[t30]) w1 fun t31 w =>
  o1 Tryd.prog (bin .lss 3 (.tmp 29) (.tmp 31) t29 t31) w fun t32 w =>
  mv t32 fun t33 =>
  gd t33 true (fun k3 => mv (x1 7) fun v => k3 v w) w fun t34 w =>
  gd t33 true (fun k4 => o1 Tryd.prog (bin .lss 3 (.tmp 34) (.const (.int .i64 40)) t34 (.int .i64 40)) w k4) w fun t35 w =>
  pk t33 t35 (.bool false) fun t36 =>
  br t36 (fun _ =>
  jn (fun x2 => [x2 4, x2 9, x2 10, x2 12, x2 13]) (fun k5 =>
  mv a0 fun t39 =>
  mv (x1 7) fun t40 =>
  o1 Tryd.prog (Instr.indexAt 24 t39 t40) w fun t41 w =>
  o1 Tryd.prog (Instr.fieldAt 36 t41 3) w fun t42 w =>
  o1 Tryd.prog (Instr.loadAt 33 t42) w fun t43 w =>
  o1 Tryd.prog (Builtin.len_ #[33] 3 #[t43]) w fun t44 w =>
  o1 Tryd.prog (bin .eql 3 (.tmp 44) (.const (.int .i64 0)) t44 (.int .i64 0)) w fun t45 w =>
  mv t45 fun t46 =>
  gd t46 false (fun k6 => mv a0 fun v => k6 v w) w fun t47 w =>
  gd t46 false (fun k7 => mv (x1 7) fun v => k7 v w) w fun t48 w =>
  gd t46 false (fun k8 => o1 Tryd.prog (Instr.indexAt 24 t47 t48) w k8) w fun t49 w =>
  gd t46 false (fun k9 => o1 Tryd.prog (Instr.fieldAt 36 t49 3) w k9) w fun t50 w =>
  gd t46 false (fun k10 => o1 Tryd.prog (Instr.loadAt 33 t50) w k10) w fun t51 w =>
  gd t46 false (fun k11 => o1 Tryd.prog (Builtin.len_ #[33] 3 #[t51]) w k11) w fun t52 w =>
  gd t46 false (fun k12 => o1 Tryd.prog (bin .gtr 3 (.tmp 52) (.const (.int .i64 1000)) t52 (.int .i64 1000)) w k12) w fun t53 w =>
  pk t46 (.bool true) t53 fun t54 =>
  br t54 (fun _ =>
  k5 [(x1 4), (x1 9), (x1 10), (x1 12), (x1 13)] w) (fun _ =>
  mv a0 fun t55 =>
  mv (x1 7) fun t56 =>
  o1 Tryd.prog (Instr.indexAt 24 t55 t56) w fun t57 w =>
  o1 Tryd.prog (Instr.fieldAt 36 t57 3) w fun t58 w =>
  o1 Tryd.prog (Instr.loadAt 33 t58) w fun t59 w =>
  C Tryd.prog N.txs_Hash #[t59] w fun t60 w =>
  o1 Tryd.prog (Instr.alloc 40 true (.tuple #[])) w fun t8 w =>
  o0 Tryd.prog (Instr.storeAt 40 t8 t60) w fun _ w =>
  mv t5 fun t61 =>
  mv a0 fun t62 =>
  mv (x1 7) fun t63 =>
  o1 Tryd.prog (Instr.indexAt 24 t62 t63) w fun t64 w =>
  o1 Tryd.prog (Instr.fieldAt 36 t64 3) w fun t65 w =>
  o1 Tryd.prog (Instr.loadAt 33 t65) w fun t66 w =>
  o1 Tryd.prog (Instr.buildSlice 34 1 #[(0, t66)]) w fun t67 w =>
  C Tryd.prog N.pool_Pool_Done #[t61, t67] w fun t68 w =>
  mv t5 fun t70 =>
  mv a0 fun t71 =>
  mv (x1 7) fun t72 =>
  o1 Tryd.prog (Instr.indexAt 24 t71 t72) w fun t73 w =>
  o1 Tryd.prog (Instr.fieldAt 36 t73 3) w fun t74 w =>
  o1 Tryd.prog (Instr.loadAt 33 t74) w fun t75 w =>
  C Tryd.prog N.pool_Pool_Add #[t70, t75, .int .i64 1] w fun t76 w =>
  mv t76 fun t69 =>
  o1 Tryd.prog (Instr.extract t69 0) w fun t77 w =>
  o1 Tryd.prog (Instr.extract t69 1) w fun t78 w =>
  mv t77 fun t9 =>
  mv t78 fun t10 =>
  mv t5 fun t79 =>
  o1 Tryd.prog (Instr.loadAt 40 t8) w fun t80 w =>
  C Tryd.prog N.pool_Pool_Knows #[t79, t80] w fun t81 w =>
  o1 Tryd.prog (Op.unary .not t81) w fun t82 w =>
  mv t82 fun t83 =>
  gd t83 false (fun k13 => mv t5 fun v => k13 v w) w fun t84 w =>
  gd t83 false (fun k14 => o1 Tryd.prog (Instr.loadAt 40 t8) w k14) w fun t85 w =>
  gd t83 false (fun k15 => C Tryd.prog N.pool_Pool_Has #[t84, t85] w k15) w fun t86 w =>
  pk t83 (.bool true) t86 fun t87 =>
  mv t87 fun t88 =>
  gd t88 false (fun k16 => mv t10 fun v => k16 v w) w fun t89 w =>
  gd t88 false (fun k17 => C Tryd.prog N.isthmuslaw18_num #[t89] w k17) w fun t90 w =>
  gd t88 false (fun k18 => o1 Tryd.prog (bin .neq 3 (.tmp 90) (.const (.int .i64 9)) t90 (.int .i64 9)) w k18) w fun t91 w =>
  pk t88 (.bool true) t91 fun t92 =>
  br t92 (fun _ =>
  mv (.bool false) fun t4_2 =>
  k t4_2 w) (fun _ =>
  mv (x1 7) fun t93 =>
  o1 Tryd.prog (bin .add 3 (.tmp 93) (.const (.int .i64 1)) t93 (.int .i64 1)) w fun t94 w =>
  mv a0 fun t95 =>
  o1 Tryd.prog (Builtin.len_ #[24] 3 #[t95]) w fun t96 w =>
  o1 Tryd.prog (bin .lss 3 (.tmp 94) (.tmp 96) t94 t96) w fun t97 w =>
  mv t97 fun t98 =>
  gd t98 true (fun k19 => mv a0 fun v => k19 v w) w fun t99 w =>
  gd t98 true (fun k20 => mv (x1 7) fun v => k20 v w) w fun t100 w =>
  gd t98 true (fun k21 => o1 Tryd.prog (bin .add 3 (.tmp 100) (.const (.int .i64 1)) t100 (.int .i64 1)) w k21) w fun t101 w =>
  gd t98 true (fun k22 => o1 Tryd.prog (Instr.indexAt 24 t99 t101) w k22) w fun t102 w =>
  gd t98 true (fun k23 => o1 Tryd.prog (Instr.fieldAt 36 t102 3) w k23) w fun t103 w =>
  gd t98 true (fun k24 => o1 Tryd.prog (Instr.loadAt 33 t103) w k24) w fun t104 w =>
  gd t98 true (fun k25 => o1 Tryd.prog (Builtin.len_ #[33] 3 #[t104]) w k25) w fun t105 w =>
  gd t98 true (fun k26 => o1 Tryd.prog (bin .gtr 3 (.tmp 105) (.const (.int .i64 0)) t105 (.int .i64 0)) w k26) w fun t106 w =>
  pk t98 t106 (.bool false) fun t107 =>
  mv t107 fun t108 =>
  gd t108 true (fun k27 => mv a0 fun v => k27 v w) w fun t109 w =>
  gd t108 true (fun k28 => mv (x1 7) fun v => k28 v w) w fun t110 w =>
  gd t108 true (fun k29 => o1 Tryd.prog (bin .add 3 (.tmp 110) (.const (.int .i64 1)) t110 (.int .i64 1)) w k29) w fun t111 w =>
  gd t108 true (fun k30 => o1 Tryd.prog (Instr.indexAt 24 t109 t111) w k30) w fun t112 w =>
  gd t108 true (fun k31 => o1 Tryd.prog (Instr.fieldAt 36 t112 3) w k31) w fun t113 w =>
  gd t108 true (fun k32 => o1 Tryd.prog (Instr.loadAt 33 t113) w k32) w fun t114 w =>
  gd t108 true (fun k33 => o1 Tryd.prog (Builtin.len_ #[33] 3 #[t114]) w k33) w fun t115 w =>
  gd t108 true (fun k34 => o1 Tryd.prog (bin .lss 3 (.tmp 115) (.const (.int .i64 1000)) t115 (.int .i64 1000)) w k34) w fun t116 w =>
  pk t108 t116 (.bool false) fun t117 =>
  mv t117 fun t118 =>
  gd t118 true (fun k35 => mv t5 fun v => k35 v w) w fun t119 w =>
  gd t118 true (fun k36 => mv a0 fun v => k36 v w) w fun t120 w =>
  gd t118 true (fun k37 => mv (x1 7) fun v => k37 v w) w fun t121 w =>
  gd t118 true (fun k38 => o1 Tryd.prog (bin .add 3 (.tmp 121) (.const (.int .i64 1)) t121 (.int .i64 1)) w k38) w fun t122 w =>
  gd t118 true (fun k39 => o1 Tryd.prog (Instr.indexAt 24 t120 t122) w k39) w fun t123 w =>
  gd t118 true (fun k40 => o1 Tryd.prog (Instr.fieldAt 36 t123 3) w k40) w fun t124 w =>
  gd t118 true (fun k41 => o1 Tryd.prog (Instr.loadAt 33 t124) w k41) w fun t125 w =>
  gd t118 true (fun k42 => C Tryd.prog N.txs_Hash #[t125] w k42) w fun t126 w =>
  gd t118 true (fun k43 => C Tryd.prog N.pool_Pool_Knows #[t119, t126] w k43) w fun t127 w =>
  gd t118 true (fun k44 => o1 Tryd.prog (Op.unary .not t127) w k44) w fun t128 w =>
  pk t118 t128 (.bool false) fun t129 =>
  jn (fun x3 => [x3 4, x3 12, x3 13]) (fun k45 =>
  br t129 (fun _ =>
  mv a0 fun t130 =>
  mv (x1 7) fun t131 =>
  o1 Tryd.prog (bin .add 3 (.tmp 131) (.const (.int .i64 1)) t131 (.int .i64 1)) w fun t132 w =>
  o1 Tryd.prog (Instr.indexAt 24 t130 t132) w fun t133 w =>
  o1 Tryd.prog (Instr.fieldAt 36 t133 3) w fun t134 w =>
  o1 Tryd.prog (Instr.loadAt 33 t134) w fun t135 w =>
  C Tryd.prog N.txs_Hash #[t135] w fun t136 w =>
  o1 Tryd.prog (Instr.alloc 40 true (.tuple #[])) w fun t11 w =>
  o0 Tryd.prog (Instr.storeAt 40 t11 t136) w fun _ w =>
  mv t5 fun t138 =>
  mv a0 fun t139 =>
  mv (x1 7) fun t140 =>
  o1 Tryd.prog (bin .add 3 (.tmp 140) (.const (.int .i64 1)) t140 (.int .i64 1)) w fun t141 w =>
  o1 Tryd.prog (Instr.indexAt 24 t139 t141) w fun t142 w =>
  o1 Tryd.prog (Instr.fieldAt 36 t142 3) w fun t143 w =>
  o1 Tryd.prog (Instr.loadAt 33 t143) w fun t144 w =>
  C Tryd.prog N.pool_Pool_Add #[t138, t144, .int .i64 1] w fun t145 w =>
  mv t145 fun t137 =>
  o1 Tryd.prog (Instr.extract t137 0) w fun t146 w =>
  o1 Tryd.prog (Instr.extract t137 1) w fun t147 w =>
  mv t146 fun t12 =>
  mv t147 fun t13 =>
  mv t13 fun t148 =>
  o1 Tryd.prog (bin .neq 28 (.tmp 148) (.const .nilIface) t148 .nilIface) w fun t149 w =>
  mv t149 fun t150 =>
  gd t150 false (fun k46 => mv t5 fun v => k46 v w) w fun t151 w =>
  gd t150 false (fun k47 => o1 Tryd.prog (Instr.loadAt 40 t11) w k47) w fun t152 w =>
  gd t150 false (fun k48 => C Tryd.prog N.pool_Pool_Has #[t151, t152] w k48) w fun t153 w =>
  gd t150 false (fun k49 => o1 Tryd.prog (Op.unary .not t153) w k49) w fun t154 w =>
  pk t150 (.bool true) t154 fun t155 =>
  mv t155 fun t156 =>
  gd t156 false (fun k50 => mv t5 fun v => k50 v w) w fun t157 w =>
  gd t156 false (fun k51 => o1 Tryd.prog (Instr.loadAt 40 t11) w k51) w fun t158 w =>
  gd t156 false (fun k52 => C Tryd.prog N.pool_Pool_Drop #[t157, t158] w k52) w fun t159 w =>
  gd t156 false (fun k53 => o1 Tryd.prog (bin .neq 28 (.tmp 159) (.const .nilIface) t159 .nilIface) w k53) w fun t160 w =>
  pk t156 (.bool true) t160 fun t161 =>
  mv t161 fun t162 =>
  gd t162 false (fun k54 => mv t5 fun v => k54 v w) w fun t163 w =>
  gd t162 false (fun k55 => o1 Tryd.prog (Instr.loadAt 40 t11) w k55) w fun t164 w =>
  gd t162 false (fun k56 => C Tryd.prog N.pool_Pool_Knows #[t163, t164] w k56) w fun t165 w =>
  pk t162 (.bool true) t165 fun t166 =>
  mv t166 fun t167 =>
  gd t167 false (fun k57 => mv t5 fun v => k57 v w) w fun t168 w =>
  gd t167 false (fun k58 => o1 Tryd.prog (Instr.loadAt 40 t11) w k58) w fun t169 w =>
  gd t167 false (fun k59 => C Tryd.prog N.pool_Pool_Drop #[t168, t169] w k59) w fun t170 w =>
  gd t167 false (fun k60 => C Tryd.prog N.isthmuslaw18_num #[t170] w k60) w fun t171 w =>
  gd t167 false (fun k61 => o1 Tryd.prog (bin .neq 3 (.tmp 171) (.const (.int .i64 8)) t171 (.int .i64 8)) w k61) w fun t172 w =>
  pk t167 (.bool true) t172 fun t173 =>
  br t173 (fun _ =>
  mv (.bool false) fun t4_3 =>
  k t4_3 w) (fun _ =>
  k45 [(x1 4), t12, t13] w)) (fun _ =>
  k45 [(x1 4), (x1 12), (x1 13)] w)) fun x3 w =>
  k5 [(x3 4), t9, t10, (x3 12), (x3 13)] w))) fun x2 w =>
  mv (x1 7) fun t37 =>
  o1 Tryd.prog (bin .add 3 (.tmp 37) (.const (.int .i64 1)) t37 (.int .i64 1)) w fun t38 w =>
  mv t38 fun t7_1 =>
  I1 [(x2 4), t7_1, (x2 9), (x2 10), (x2 12), (x2 13)] w ∧ μ1 [(x2 4), t7_1, (x2 9), (x2 10), (x2 12), (x2 13)] w < μ1 [x1 4, x1 7, x1 9, x1 10, x1 12, x1 13] w1) (fun _ =>
  mv t5 fun t174 =>
  C Tryd.prog N.pool_Pool_Len #[t174] w fun t175 w =>
  o1 Tryd.prog (bin .eql 3 (.tmp 175) (.const (.int .i64 0)) t175 (.int .i64 0)) w fun t176 w =>
  mv t176 fun t177 =>
  gd t177 true (fun k62 => C Tryd.prog N.isthmuslaw18_sure #[] w k62) w fun t178 w =>
  pk t177 t178 (.bool false) fun t179 =>
  mv t179 fun t4_4 =>
  k t4_4 w))
theorem C.isthmuslaw18_PoolKnows {k : Value → World → Prop} {a0 a1 : Value} {w : World} (h : F.isthmuslaw18_PoolKnows k a0 a1 w) : C Tryd.prog N.isthmuslaw18_PoolKnows #[a0, a1] w k :=
  den_calls (H := { moves := [], vars := [4, 5, 6, 7, 9, 10, 12, 13] }) (args := [a0, a1]) mixed Tryd.func5 (by kernel_rfl) (by kernel_rfl) (by kernel_rfl) h

-- isthmus/pool.New
def F.pool_New (k : Value → World → Prop) (a0 a1 a2 : Value) (w : World) : Prop :=
  mv (.pointer none) fun t6 =>
  mv .nilIface fun t7 =>
  mv (.func (.func 18) #[] #[]) fun t8 =>
  mv t8 fun t9 =>
  mv a0 fun t10 =>
  cv Tryd.prog t9 #[t10] w fun t11 w =>
  mv t11 fun t12 =>
  gd t12 false (fun k1 => mv t8 fun v => k1 v w) w fun t13 w =>
  gd t12 false (fun k2 => mv a1 fun v => k2 v w) w fun t14 w =>
  gd t12 false (fun k3 => cv Tryd.prog t13 #[t14] w k3) w fun t15 w =>
  pk t12 (.bool true) t15 fun t16 =>
  mv t16 fun t17 =>
  gd t17 false (fun k4 => mv a2 fun v => k4 v w) w fun t18 w =>
  gd t17 false (fun k5 => o1 Tryd.prog (bin .lss 3 (.tmp 18) (.const (.int .i64 0)) t18 (.int .i64 0)) w k5) w fun t19 w =>
  pk t17 (.bool true) t19 fun t20 =>
  mv t20 fun t21 =>
  gd t21 false (fun k6 => mv a2 fun v => k6 v w) w fun t22 w =>
  gd t21 false (fun k7 => o1 Tryd.prog (bin .gtr 3 (.tmp 22) (.const (.int .i64 1048576)) t22 (.int .i64 1048576)) w k7) w fun t23 w =>
  pk t21 (.bool true) t23 fun t24 =>
  br t24 (fun _ =>
  C Tryd.prog N.pool_fault #[.string ⟨#[112, 111, 111, 108]⟩, .int .i64 1] w fun t25 w =>
  mv (.pointer none) fun t6_1 =>
  mv t25 fun t7_1 =>
  k (.tuple #[t6_1, t7_1]) w) (fun _ =>
  mv a0 fun t26 =>
  mv a1 fun t27 =>
  mv a2 fun t28 =>
  o1 Tryd.prog (Instr.build 58 #[(0, t26), (1, t27), (2, t28)]) w fun t29 w =>
  o1 Tryd.prog (Instr.box 58 t29) w fun t30 w =>
  mv t30 fun t6_2 =>
  mv .nilIface fun t7_2 =>
  k (.tuple #[t6_2, t7_2]) w)
theorem C.pool_New {k : Value → World → Prop} {a0 a1 a2 : Value} {w : World} (h : F.pool_New k a0 a1 a2 w) : C Tryd.prog N.pool_New #[a0, a1, a2] w k :=
  den_calls (H := { moves := [], vars := [6, 7, 8] }) (args := [a0, a1, a2]) mixed Tryd.func6 (by kernel_rfl) (by kernel_rfl) (by kernel_rfl) h

-- (*isthmus/pool.Pool).Add
def F.pool_Pool_Add (k : Value → World → Prop) (a0 a1 a2 : Value) (w : World) : Prop :=
  mv (.slice none 0 0) fun t6 =>
  mv .nilIface fun t7 =>
  mv a0 fun t12 =>
  o1 Tryd.prog (bin .eql 26 (.tmp 12) (.const (.pointer none)) t12 (.pointer none)) w fun t13 w =>
  mv t13 fun t14 =>
  gd t14 false (fun k1 => mv a1 fun v => k1 v w) w fun t15 w =>
  gd t14 false (fun k2 => o1 Tryd.prog (Builtin.len_ #[33] 3 #[t15]) w k2) w fun t16 w =>
  gd t14 false (fun k3 => o1 Tryd.prog (bin .eql 3 (.tmp 16) (.const (.int .i64 0)) t16 (.int .i64 0)) w k3) w fun t17 w =>
  pk t14 (.bool true) t17 fun t18 =>
  mv t18 fun t19 =>
  gd t19 false (fun k4 => mv a2 fun v => k4 v w) w fun t20 w =>
  gd t19 false (fun k5 => o1 Tryd.prog (bin .lss 3 (.tmp 20) (.const (.int .i64 0)) t20 (.int .i64 0)) w k5) w fun t21 w =>
  pk t19 (.bool true) t21 fun t22 =>
  br t22 (fun _ =>
  C Tryd.prog N.pool_fault #[.string ⟨#[116, 114, 97, 110, 115, 97, 99, 116, 105, 111, 110]⟩, .int .i64 1] w fun t23 w =>
  mv (.slice none 0 0) fun t6_1 =>
  mv t23 fun t7_1 =>
  k (.tuple #[t6_1, t7_1]) w) (fun _ =>
  dr w.drew fun S1 =>
  mv a1 fun t24 =>
  mv a1 fun t26 =>
  mv a2 fun t28 =>
  mv a0 fun t29 =>
  nilOk t29 = true ∧ mv t29 fun t30 =>
  tk Tryd.prog S1 (Instr.fieldAt 58 t30 5) fun t31 =>
  tk Tryd.prog S1 (Instr.loadAt 3 t31) fun t32 =>
  (C Tryd.prog N.slices_Clone_bytes #[t24] w.drew fun t25 w =>
  S1 w ∧
  (C Tryd.prog N.txs_Hash #[t26] w fun t27 w =>
  S1 w ∧
  tk Tryd.prog S1 (Instr.build 61 #[(0, t25), (1, t27), (2, t28), (3, t32)]) fun t33 =>
  o1 Tryd.prog (Instr.alloc 61 true (.tuple #[])) w fun t8 w =>
  S1 w ∧
  o0 Tryd.prog (Instr.storeAt 61 t8 t33) w fun _ w =>
  mv a0 fun t35 =>
  o1 Tryd.prog (Instr.fieldAt 61 t8 1) w fun t36 w =>
  o1 Tryd.prog (Instr.loadAt 40 t36) w fun t37 w =>
  C Tryd.prog N.pool_Pool_Knows #[t35, t37] w fun t38 w =>
  mv t38 fun t34 =>
  br t34 (fun _ =>
  C Tryd.prog N.pool_fault #[.string ⟨#[116, 114, 97, 110, 115, 97, 99, 116, 105, 111, 110]⟩, .int .i64 9] w fun t39 w =>
  mv (.slice none 0 0) fun t6_2 =>
  mv t39 fun t7_2 =>
  k (.tuple #[t6_2, t7_2]) w) (fun _ =>
  mv a1 fun t41 =>
  o1 Tryd.prog (Builtin.len_ #[33] 3 #[t41]) w fun t42 w =>
  mv a0 fun t43 =>
  nilOk t43 = true ∧ mv t43 fun t44 =>
  o1 Tryd.prog (Instr.fieldAt 58 t44 1) w fun t45 w =>
  o1 Tryd.prog (Instr.loadAt 3 t45) w fun t46 w =>
  o1 Tryd.prog (bin .gtr 3 (.tmp 42) (.tmp 46) t42 t46) w fun t47 w =>
  mv t47 fun t40 =>
  br t40 (fun _ =>
  C Tryd.prog N.pool_fault #[.string ⟨#[116, 114, 97, 110, 115, 97, 99, 116, 105, 111, 110]⟩, .int .i64 2] w fun t48 w =>
  mv (.slice none 0 0) fun t6_3 =>
  mv t48 fun t7_3 =>
  k (.tuple #[t6_3, t7_3]) w) (fun _ =>
  mv a0 fun t49 =>
  nilOk t49 = true ∧ mv t49 fun t50 =>
  o1 Tryd.prog (Instr.fieldAt 58 t50 3) w fun t51 w =>
  o1 Tryd.prog (Instr.loadAt 56 t51) w fun t52 w =>
  C Tryd.prog N.slices_Clone_pool_item_pool_item #[t52] w fun t53 w =>
  mv t53 fun t9 =>
  mv (.slice none 0 0) fun t10 =>
  lp [t6, t7, t9, t10] w fun I1 μ1 => ∀ (x1 : Env) (w1 : World), I1 [x1 6, x1 7, x1 9, x1 10] w1 →
  dr w1.drew fun S2 =>
  mv (x1 9) fun t54 =>
  tk Tryd.prog S2 (Builtin.len_ #[56] 3 #[t54]) fun t55 =>
  tk Tryd.prog S2 (bin .add 3 (.tmp 55) (.const (.int .i64 1)) t55 (.int .i64 1)) fun t56 =>
  mv a0 fun t57 =>
  nilOk t57 = true ∧ mv t57 fun t58 =>
  tk Tryd.prog S2 (Instr.fieldAt 58 t58 0) fun t59 =>
  tk Tryd.prog S2 (Instr.loadAt 3 t59) fun t60 =>
  tk Tryd.prog S2 (bin .gtr 3 (.tmp 56) (.tmp 60) t56 t60) fun t61 =>
  mv t61 fun t62 =>
  gdT t62 false (fun k6 => mv (x1 9) k6) fun t63 =>
  gdT t62 false (fun k7 => mv a1 k7) fun t65 =>
  gdT t62 false (fun k8 => tk Tryd.prog S2 (Builtin.len_ #[33] 3 #[t65]) k8) fun t66 =>
  gdT t62 false (fun k9 => mv a0 k9) fun t68 =>
  gdT t62 false (fun k10 => nilOk t68 = true ∧ mv t68 k10) fun t69 =>
  gdT t62 false (fun k11 => tk Tryd.prog S2 (Instr.fieldAt 58 t69 1) k11) fun t70 =>
  gdT t62 false (fun k12 => tk Tryd.prog S2 (Instr.loadAt 3 t70) k12) fun t71 =>
  gd t62 false (fun k13 => C Tryd.prog N.pool_size #[t63] w1.drew k13) w1.drew fun t64 w =>
  S2 w ∧
  gdT t62 false (fun k14 => tk Tryd.prog S2 (bin .add 3 (.tmp 64) (.tmp 66) t64 t66) k14) fun t67 =>
  gdT t62 false (fun k15 => tk Tryd.prog S2 (bin .gtr 3 (.tmp 67) (.tmp 71) t67 t71) k15) fun t72 =>
  pk t62 (.bool true) t72 fun t73 =>
  br t73 (fun _ =>
  mv (x1 9) fun t74 =>
  mv (x1 9) fun t75 =>
  o1 Tryd.prog (Builtin.len_ #[56] 3 #[t75]) w fun t76 w =>
  o1 Tryd.prog (bin .sub 3 (.tmp 76) (.const (.int .i64 1)) t76 (.int .i64 1)) w fun t77 w =>
  o1 Tryd.prog (Instr.indexAt 56 t74 t77) w fun t78 w =>
  o1 Tryd.prog (Instr.loadAt 61 t78) w fun t79 w =>
  o1 Tryd.prog (Instr.alloc 61 true (.tuple #[])) w fun t11 w =>
  o0 Tryd.prog (Instr.storeAt 61 t11 t79) w fun _ w =>
  o1 Tryd.prog (Instr.fieldAt 61 t11 2) w fun t80 w =>
  o1 Tryd.prog (Instr.loadAt 3 t80) w fun t81 w =>
  mv a2 fun t82 =>
  o1 Tryd.prog (bin .geq 3 (.tmp 81) (.tmp 82) t81 t82) w fun t83 w =>
  br t83 (fun _ =>
  C Tryd.prog N.pool_fault #[.string ⟨#[112, 111, 111, 108]⟩, .int .i64 10] w fun t84 w =>
  mv (.slice none 0 0) fun t6_4 =>
  mv t84 fun t7_4 =>
  k (.tuple #[t6_4, t7_4]) w) (fun _ =>
  mv (x1 10) fun t85 =>
  o1 Tryd.prog (Instr.fieldAt 61 t11 1) w fun t86 w =>
  o1 Tryd.prog (Instr.loadAt 40 t86) w fun t87 w =>
  o1 Tryd.prog (Instr.buildSlice 32 1 #[(0, t87)]) w fun t88 w =>
  ob Tryd.prog (fun _ => Builtin.append_ #[32, 32] 32 #[t85, t88]) w fun t89 w =>
  mv t89 fun t10_1 =>
  mv (x1 9) fun t90 =>
  mv (x1 9) fun t91 =>
  o1 Tryd.prog (Builtin.len_ #[56] 3 #[t91]) w fun t92 w =>
  o1 Tryd.prog (bin .sub 3 (.tmp 92) (.const (.int .i64 1)) t92 (.int .i64 1)) w fun t93 w =>
  o1 Tryd.prog (Instr.sliceAt 56 t90 none (some t93) none) w fun t94 w =>
  mv t94 fun t9_1 =>
  I1 [(x1 6), (x1 7), t9_1, t10_1] w ∧ μ1 [(x1 6), (x1 7), t9_1, t10_1] w < μ1 [x1 6, x1 7, x1 9, x1 10] w1)) (fun _ =>
  mv a0 fun t95 =>
  nilOk t95 = true ∧ mv t95 fun t96 =>
  o1 Tryd.prog (Instr.fieldAt 58 t96 5) w fun t97 w =>
  o1 Tryd.prog (Instr.loadAt 3 t97) w fun t98 w =>
  o1 Tryd.prog (bin .add 3 (.tmp 98) (.const (.int .i64 1)) t98 (.int .i64 1)) w fun t99 w =>
  nilOk t95 = true ∧ mv t95 fun t100 =>
  o1 Tryd.prog (Instr.fieldAt 58 t100 5) w fun t101 w =>
  o0 Tryd.prog (Instr.storeAt 3 t101 t99) w fun _ w =>
  mv a0 fun t102 =>
  mv (x1 9) fun t103 =>
  o1 Tryd.prog (Instr.loadAt 61 t8) w fun t104 w =>
  o1 Tryd.prog (Instr.buildSlice 56 1 #[(0, t104)]) w fun t105 w =>
  ob Tryd.prog (fun _ => Builtin.append_ #[56, 56] 56 #[t103, t105]) w fun t106 w =>
  nilOk t102 = true ∧ mv t102 fun t107 =>
  o1 Tryd.prog (Instr.fieldAt 58 t107 3) w fun t108 w =>
  o0 Tryd.prog (Instr.storeAt 56 t108 t106) w fun _ w =>
  mv a0 fun t109 =>
  nilOk t109 = true ∧ mv t109 fun t110 =>
  o1 Tryd.prog (Instr.fieldAt 58 t110 3) w fun t111 w =>
  o1 Tryd.prog (Instr.loadAt 56 t111) w fun t112 w =>
  C Tryd.prog N.slices_SortFunc_pool_item_pool_item #[t112, .func (.func 24) #[] #[]] w fun t113 w =>
  mv a0 fun t114 =>
  o1 Tryd.prog (Instr.fieldAt 61 t8 1) w fun t115 w =>
  o1 Tryd.prog (Instr.loadAt 40 t115) w fun t116 w =>
  C Tryd.prog N.pool_Pool_remember #[t114, t116] w fun t117 w =>
  mv (x1 10) fun t118 =>
  mv t118 fun t6_5 =>
  mv .nilIface fun t7_5 =>
  k (.tuple #[t6_5, t7_5]) w)))) ∧ (
  o1 Tryd.prog (Instr.alloc 61 true (.tuple #[])) w fun t8_1 w =>
  S1 w ∧
  C Tryd.prog N.txs_Hash #[t26] w fun t27_1 w =>
  S1 w ∧
  tk Tryd.prog S1 (Instr.build 61 #[(0, t25), (1, t27_1), (2, t28), (3, t32)]) fun t33_1 =>
  o0 Tryd.prog (Instr.storeAt 61 t8_1 t33_1) w fun _ w =>
  mv a0 fun t35_1 =>
  o1 Tryd.prog (Instr.fieldAt 61 t8_1 1) w fun t36_1 w =>
  o1 Tryd.prog (Instr.loadAt 40 t36_1) w fun t37_1 w =>
  C Tryd.prog N.pool_Pool_Knows #[t35_1, t37_1] w fun t38_1 w =>
  mv t38_1 fun t34_1 =>
  br t34_1 (fun _ =>
  C Tryd.prog N.pool_fault #[.string ⟨#[116, 114, 97, 110, 115, 97, 99, 116, 105, 111, 110]⟩, .int .i64 9] w fun t39_1 w =>
  mv (.slice none 0 0) fun t6_6 =>
  mv t39_1 fun t7_6 =>
  k (.tuple #[t6_6, t7_6]) w) (fun _ =>
  mv a1 fun t41_1 =>
  o1 Tryd.prog (Builtin.len_ #[33] 3 #[t41_1]) w fun t42_1 w =>
  mv a0 fun t43_1 =>
  nilOk t43_1 = true ∧ mv t43_1 fun t44_1 =>
  o1 Tryd.prog (Instr.fieldAt 58 t44_1 1) w fun t45_1 w =>
  o1 Tryd.prog (Instr.loadAt 3 t45_1) w fun t46_1 w =>
  o1 Tryd.prog (bin .gtr 3 (.tmp 42) (.tmp 46) t42_1 t46_1) w fun t47_1 w =>
  mv t47_1 fun t40_1 =>
  br t40_1 (fun _ =>
  C Tryd.prog N.pool_fault #[.string ⟨#[116, 114, 97, 110, 115, 97, 99, 116, 105, 111, 110]⟩, .int .i64 2] w fun t48_1 w =>
  mv (.slice none 0 0) fun t6_7 =>
  mv t48_1 fun t7_7 =>
  k (.tuple #[t6_7, t7_7]) w) (fun _ =>
  mv a0 fun t49_1 =>
  nilOk t49_1 = true ∧ mv t49_1 fun t50_1 =>
  o1 Tryd.prog (Instr.fieldAt 58 t50_1 3) w fun t51_1 w =>
  o1 Tryd.prog (Instr.loadAt 56 t51_1) w fun t52_1 w =>
  C Tryd.prog N.slices_Clone_pool_item_pool_item #[t52_1] w fun t53_1 w =>
  mv t53_1 fun t9_2 =>
  mv (.slice none 0 0) fun t10_2 =>
  lp [t6, t7, t9_2, t10_2] w fun I2 μ2 => ∀ (x2 : Env) (w2 : World), I2 [x2 6, x2 7, x2 9, x2 10] w2 →
  dr w2.drew fun S3 =>
  mv (x2 9) fun t54_1 =>
  tk Tryd.prog S3 (Builtin.len_ #[56] 3 #[t54_1]) fun t55_1 =>
  tk Tryd.prog S3 (bin .add 3 (.tmp 55) (.const (.int .i64 1)) t55_1 (.int .i64 1)) fun t56_1 =>
  mv a0 fun t57_1 =>
  nilOk t57_1 = true ∧ mv t57_1 fun t58_1 =>
  tk Tryd.prog S3 (Instr.fieldAt 58 t58_1 0) fun t59_1 =>
  tk Tryd.prog S3 (Instr.loadAt 3 t59_1) fun t60_1 =>
  tk Tryd.prog S3 (bin .gtr 3 (.tmp 56) (.tmp 60) t56_1 t60_1) fun t61_1 =>
  mv t61_1 fun t62_1 =>
  gdT t62_1 false (fun k16 => mv (x2 9) k16) fun t63_1 =>
  gdT t62_1 false (fun k17 => mv a1 k17) fun t65_1 =>
  gdT t62_1 false (fun k18 => tk Tryd.prog S3 (Builtin.len_ #[33] 3 #[t65_1]) k18) fun t66_1 =>
  gdT t62_1 false (fun k19 => mv a0 k19) fun t68_1 =>
  gdT t62_1 false (fun k20 => nilOk t68_1 = true ∧ mv t68_1 k20) fun t69_1 =>
  gdT t62_1 false (fun k21 => tk Tryd.prog S3 (Instr.fieldAt 58 t69_1 1) k21) fun t70_1 =>
  gdT t62_1 false (fun k22 => tk Tryd.prog S3 (Instr.loadAt 3 t70_1) k22) fun t71_1 =>
  gd t62_1 false (fun k23 => C Tryd.prog N.pool_size #[t63_1] w2.drew k23) w2.drew fun t64_1 w =>
  S3 w ∧
  gdT t62_1 false (fun k24 => tk Tryd.prog S3 (bin .add 3 (.tmp 64) (.tmp 66) t64_1 t66_1) k24) fun t67_1 =>
  gdT t62_1 false (fun k25 => tk Tryd.prog S3 (bin .gtr 3 (.tmp 67) (.tmp 71) t67_1 t71_1) k25) fun t72_1 =>
  pk t62_1 (.bool true) t72_1 fun t73_1 =>
  br t73_1 (fun _ =>
  mv (x2 9) fun t74_1 =>
  mv (x2 9) fun t75_1 =>
  o1 Tryd.prog (Builtin.len_ #[56] 3 #[t75_1]) w fun t76_1 w =>
  o1 Tryd.prog (bin .sub 3 (.tmp 76) (.const (.int .i64 1)) t76_1 (.int .i64 1)) w fun t77_1 w =>
  o1 Tryd.prog (Instr.indexAt 56 t74_1 t77_1) w fun t78_1 w =>
  o1 Tryd.prog (Instr.loadAt 61 t78_1) w fun t79_1 w =>
  o1 Tryd.prog (Instr.alloc 61 true (.tuple #[])) w fun t11_1 w =>
  o0 Tryd.prog (Instr.storeAt 61 t11_1 t79_1) w fun _ w =>
  o1 Tryd.prog (Instr.fieldAt 61 t11_1 2) w fun t80_1 w =>
  o1 Tryd.prog (Instr.loadAt 3 t80_1) w fun t81_1 w =>
  mv a2 fun t82_1 =>
  o1 Tryd.prog (bin .geq 3 (.tmp 81) (.tmp 82) t81_1 t82_1) w fun t83_1 w =>
  br t83_1 (fun _ =>
  C Tryd.prog N.pool_fault #[.string ⟨#[112, 111, 111, 108]⟩, .int .i64 10] w fun t84_1 w =>
  mv (.slice none 0 0) fun t6_8 =>
  mv t84_1 fun t7_8 =>
  k (.tuple #[t6_8, t7_8]) w) (fun _ =>
  mv (x2 10) fun t85_1 =>
  o1 Tryd.prog (Instr.fieldAt 61 t11_1 1) w fun t86_1 w =>
  o1 Tryd.prog (Instr.loadAt 40 t86_1) w fun t87_1 w =>
  o1 Tryd.prog (Instr.buildSlice 32 1 #[(0, t87_1)]) w fun t88_1 w =>
  ob Tryd.prog (fun _ => Builtin.append_ #[32, 32] 32 #[t85_1, t88_1]) w fun t89_1 w =>
  mv t89_1 fun t10_3 =>
  mv (x2 9) fun t90_1 =>
  mv (x2 9) fun t91_1 =>
  o1 Tryd.prog (Builtin.len_ #[56] 3 #[t91_1]) w fun t92_1 w =>
  o1 Tryd.prog (bin .sub 3 (.tmp 92) (.const (.int .i64 1)) t92_1 (.int .i64 1)) w fun t93_1 w =>
  o1 Tryd.prog (Instr.sliceAt 56 t90_1 none (some t93_1) none) w fun t94_1 w =>
  mv t94_1 fun t9_3 =>
  I2 [(x2 6), (x2 7), t9_3, t10_3] w ∧ μ2 [(x2 6), (x2 7), t9_3, t10_3] w < μ2 [x2 6, x2 7, x2 9, x2 10] w2)) (fun _ =>
  mv a0 fun t95_1 =>
  nilOk t95_1 = true ∧ mv t95_1 fun t96_1 =>
  o1 Tryd.prog (Instr.fieldAt 58 t96_1 5) w fun t97_1 w =>
  o1 Tryd.prog (Instr.loadAt 3 t97_1) w fun t98_1 w =>
  o1 Tryd.prog (bin .add 3 (.tmp 98) (.const (.int .i64 1)) t98_1 (.int .i64 1)) w fun t99_1 w =>
  nilOk t95_1 = true ∧ mv t95_1 fun t100_1 =>
  o1 Tryd.prog (Instr.fieldAt 58 t100_1 5) w fun t101_1 w =>
  o0 Tryd.prog (Instr.storeAt 3 t101_1 t99_1) w fun _ w =>
  mv a0 fun t102_1 =>
  mv (x2 9) fun t103_1 =>
  o1 Tryd.prog (Instr.loadAt 61 t8_1) w fun t104_1 w =>
  o1 Tryd.prog (Instr.buildSlice 56 1 #[(0, t104_1)]) w fun t105_1 w =>
  ob Tryd.prog (fun _ => Builtin.append_ #[56, 56] 56 #[t103_1, t105_1]) w fun t106_1 w =>
  nilOk t102_1 = true ∧ mv t102_1 fun t107_1 =>
  o1 Tryd.prog (Instr.fieldAt 58 t107_1 3) w fun t108_1 w =>
  o0 Tryd.prog (Instr.storeAt 56 t108_1 t106_1) w fun _ w =>
  mv a0 fun t109_1 =>
  nilOk t109_1 = true ∧ mv t109_1 fun t110_1 =>
  o1 Tryd.prog (Instr.fieldAt 58 t110_1 3) w fun t111_1 w =>
  o1 Tryd.prog (Instr.loadAt 56 t111_1) w fun t112_1 w =>
  C Tryd.prog N.slices_SortFunc_pool_item_pool_item #[t112_1, .func (.func 24) #[] #[]] w fun t113_1 w =>
  mv a0 fun t114_1 =>
  o1 Tryd.prog (Instr.fieldAt 61 t8_1 1) w fun t115_1 w =>
  o1 Tryd.prog (Instr.loadAt 40 t115_1) w fun t116_1 w =>
  C Tryd.prog N.pool_Pool_remember #[t114_1, t116_1] w fun t117_1 w =>
  mv (x2 10) fun t118_1 =>
  mv t118_1 fun t6_9 =>
  mv .nilIface fun t7_9 =>
  k (.tuple #[t6_9, t7_9]) w))))) ∧ (
  o1 Tryd.prog (Instr.alloc 61 true (.tuple #[])) w.drew fun t8_2 w =>
  S1 w ∧
  C Tryd.prog N.slices_Clone_bytes #[t24] w fun t25_1 w =>
  S1 w ∧
  C Tryd.prog N.txs_Hash #[t26] w fun t27_2 w =>
  S1 w ∧
  tk Tryd.prog S1 (Instr.build 61 #[(0, t25_1), (1, t27_2), (2, t28), (3, t32)]) fun t33_2 =>
  o0 Tryd.prog (Instr.storeAt 61 t8_2 t33_2) w fun _ w =>
  mv a0 fun t35_2 =>
  o1 Tryd.prog (Instr.fieldAt 61 t8_2 1) w fun t36_2 w =>
  o1 Tryd.prog (Instr.loadAt 40 t36_2) w fun t37_2 w =>
  C Tryd.prog N.pool_Pool_Knows #[t35_2, t37_2] w fun t38_2 w =>
  mv t38_2 fun t34_2 =>
  br t34_2 (fun _ =>
  C Tryd.prog N.pool_fault #[.string ⟨#[116, 114, 97, 110, 115, 97, 99, 116, 105, 111, 110]⟩, .int .i64 9] w fun t39_2 w =>
  mv (.slice none 0 0) fun t6_10 =>
  mv t39_2 fun t7_10 =>
  k (.tuple #[t6_10, t7_10]) w) (fun _ =>
  mv a1 fun t41_2 =>
  o1 Tryd.prog (Builtin.len_ #[33] 3 #[t41_2]) w fun t42_2 w =>
  mv a0 fun t43_2 =>
  nilOk t43_2 = true ∧ mv t43_2 fun t44_2 =>
  o1 Tryd.prog (Instr.fieldAt 58 t44_2 1) w fun t45_2 w =>
  o1 Tryd.prog (Instr.loadAt 3 t45_2) w fun t46_2 w =>
  o1 Tryd.prog (bin .gtr 3 (.tmp 42) (.tmp 46) t42_2 t46_2) w fun t47_2 w =>
  mv t47_2 fun t40_2 =>
  br t40_2 (fun _ =>
  C Tryd.prog N.pool_fault #[.string ⟨#[116, 114, 97, 110, 115, 97, 99, 116, 105, 111, 110]⟩, .int .i64 2] w fun t48_2 w =>
  mv (.slice none 0 0) fun t6_11 =>
  mv t48_2 fun t7_11 =>
  k (.tuple #[t6_11, t7_11]) w) (fun _ =>
  mv a0 fun t49_2 =>
  nilOk t49_2 = true ∧ mv t49_2 fun t50_2 =>
  o1 Tryd.prog (Instr.fieldAt 58 t50_2 3) w fun t51_2 w =>
  o1 Tryd.prog (Instr.loadAt 56 t51_2) w fun t52_2 w =>
  C Tryd.prog N.slices_Clone_pool_item_pool_item #[t52_2] w fun t53_2 w =>
  mv t53_2 fun t9_4 =>
  mv (.slice none 0 0) fun t10_4 =>
  lp [t6, t7, t9_4, t10_4] w fun I3 μ3 => ∀ (x3 : Env) (w3 : World), I3 [x3 6, x3 7, x3 9, x3 10] w3 →
  dr w3.drew fun S4 =>
  mv (x3 9) fun t54_2 =>
  tk Tryd.prog S4 (Builtin.len_ #[56] 3 #[t54_2]) fun t55_2 =>
  tk Tryd.prog S4 (bin .add 3 (.tmp 55) (.const (.int .i64 1)) t55_2 (.int .i64 1)) fun t56_2 =>
  mv a0 fun t57_2 =>
  nilOk t57_2 = true ∧ mv t57_2 fun t58_2 =>
  tk Tryd.prog S4 (Instr.fieldAt 58 t58_2 0) fun t59_2 =>
  tk Tryd.prog S4 (Instr.loadAt 3 t59_2) fun t60_2 =>
  tk Tryd.prog S4 (bin .gtr 3 (.tmp 56) (.tmp 60) t56_2 t60_2) fun t61_2 =>
  mv t61_2 fun t62_2 =>
  gdT t62_2 false (fun k26 => mv (x3 9) k26) fun t63_2 =>
  gdT t62_2 false (fun k27 => mv a1 k27) fun t65_2 =>
  gdT t62_2 false (fun k28 => tk Tryd.prog S4 (Builtin.len_ #[33] 3 #[t65_2]) k28) fun t66_2 =>
  gdT t62_2 false (fun k29 => mv a0 k29) fun t68_2 =>
  gdT t62_2 false (fun k30 => nilOk t68_2 = true ∧ mv t68_2 k30) fun t69_2 =>
  gdT t62_2 false (fun k31 => tk Tryd.prog S4 (Instr.fieldAt 58 t69_2 1) k31) fun t70_2 =>
  gdT t62_2 false (fun k32 => tk Tryd.prog S4 (Instr.loadAt 3 t70_2) k32) fun t71_2 =>
  gd t62_2 false (fun k33 => C Tryd.prog N.pool_size #[t63_2] w3.drew k33) w3.drew fun t64_2 w =>
  S4 w ∧
  gdT t62_2 false (fun k34 => tk Tryd.prog S4 (bin .add 3 (.tmp 64) (.tmp 66) t64_2 t66_2) k34) fun t67_2 =>
  gdT t62_2 false (fun k35 => tk Tryd.prog S4 (bin .gtr 3 (.tmp 67) (.tmp 71) t67_2 t71_2) k35) fun t72_2 =>
  pk t62_2 (.bool true) t72_2 fun t73_2 =>
  br t73_2 (fun _ =>
  mv (x3 9) fun t74_2 =>
  mv (x3 9) fun t75_2 =>
  o1 Tryd.prog (Builtin.len_ #[56] 3 #[t75_2]) w fun t76_2 w =>
  o1 Tryd.prog (bin .sub 3 (.tmp 76) (.const (.int .i64 1)) t76_2 (.int .i64 1)) w fun t77_2 w =>
  o1 Tryd.prog (Instr.indexAt 56 t74_2 t77_2) w fun t78_2 w =>
  o1 Tryd.prog (Instr.loadAt 61 t78_2) w fun t79_2 w =>
  o1 Tryd.prog (Instr.alloc 61 true (.tuple #[])) w fun t11_2 w =>
  o0 Tryd.prog (Instr.storeAt 61 t11_2 t79_2) w fun _ w =>
  o1 Tryd.prog (Instr.fieldAt 61 t11_2 2) w fun t80_2 w =>
  o1 Tryd.prog (Instr.loadAt 3 t80_2) w fun t81_2 w =>
  mv a2 fun t82_2 =>
  o1 Tryd.prog (bin .geq 3 (.tmp 81) (.tmp 82) t81_2 t82_2) w fun t83_2 w =>
  br t83_2 (fun _ =>
  C Tryd.prog N.pool_fault #[.string ⟨#[112, 111, 111, 108]⟩, .int .i64 10] w fun t84_2 w =>
  mv (.slice none 0 0) fun t6_12 =>
  mv t84_2 fun t7_12 =>
  k (.tuple #[t6_12, t7_12]) w) (fun _ =>
  mv (x3 10) fun t85_2 =>
  o1 Tryd.prog (Instr.fieldAt 61 t11_2 1) w fun t86_2 w =>
  o1 Tryd.prog (Instr.loadAt 40 t86_2) w fun t87_2 w =>
  o1 Tryd.prog (Instr.buildSlice 32 1 #[(0, t87_2)]) w fun t88_2 w =>
  ob Tryd.prog (fun _ => Builtin.append_ #[32, 32] 32 #[t85_2, t88_2]) w fun t89_2 w =>
  mv t89_2 fun t10_5 =>
  mv (x3 9) fun t90_2 =>
  mv (x3 9) fun t91_2 =>
  o1 Tryd.prog (Builtin.len_ #[56] 3 #[t91_2]) w fun t92_2 w =>
  o1 Tryd.prog (bin .sub 3 (.tmp 92) (.const (.int .i64 1)) t92_2 (.int .i64 1)) w fun t93_2 w =>
  o1 Tryd.prog (Instr.sliceAt 56 t90_2 none (some t93_2) none) w fun t94_2 w =>
  mv t94_2 fun t9_5 =>
  I3 [(x3 6), (x3 7), t9_5, t10_5] w ∧ μ3 [(x3 6), (x3 7), t9_5, t10_5] w < μ3 [x3 6, x3 7, x3 9, x3 10] w3)) (fun _ =>
  mv a0 fun t95_2 =>
  nilOk t95_2 = true ∧ mv t95_2 fun t96_2 =>
  o1 Tryd.prog (Instr.fieldAt 58 t96_2 5) w fun t97_2 w =>
  o1 Tryd.prog (Instr.loadAt 3 t97_2) w fun t98_2 w =>
  o1 Tryd.prog (bin .add 3 (.tmp 98) (.const (.int .i64 1)) t98_2 (.int .i64 1)) w fun t99_2 w =>
  nilOk t95_2 = true ∧ mv t95_2 fun t100_2 =>
  o1 Tryd.prog (Instr.fieldAt 58 t100_2 5) w fun t101_2 w =>
  o0 Tryd.prog (Instr.storeAt 3 t101_2 t99_2) w fun _ w =>
  mv a0 fun t102_2 =>
  mv (x3 9) fun t103_2 =>
  o1 Tryd.prog (Instr.loadAt 61 t8_2) w fun t104_2 w =>
  o1 Tryd.prog (Instr.buildSlice 56 1 #[(0, t104_2)]) w fun t105_2 w =>
  ob Tryd.prog (fun _ => Builtin.append_ #[56, 56] 56 #[t103_2, t105_2]) w fun t106_2 w =>
  nilOk t102_2 = true ∧ mv t102_2 fun t107_2 =>
  o1 Tryd.prog (Instr.fieldAt 58 t107_2 3) w fun t108_2 w =>
  o0 Tryd.prog (Instr.storeAt 56 t108_2 t106_2) w fun _ w =>
  mv a0 fun t109_2 =>
  nilOk t109_2 = true ∧ mv t109_2 fun t110_2 =>
  o1 Tryd.prog (Instr.fieldAt 58 t110_2 3) w fun t111_2 w =>
  o1 Tryd.prog (Instr.loadAt 56 t111_2) w fun t112_2 w =>
  C Tryd.prog N.slices_SortFunc_pool_item_pool_item #[t112_2, .func (.func 24) #[] #[]] w fun t113_2 w =>
  mv a0 fun t114_2 =>
  o1 Tryd.prog (Instr.fieldAt 61 t8_2 1) w fun t115_2 w =>
  o1 Tryd.prog (Instr.loadAt 40 t115_2) w fun t116_2 w =>
  C Tryd.prog N.pool_Pool_remember #[t114_2, t116_2] w fun t117_2 w =>
  mv (x3 10) fun t118_2 =>
  mv t118_2 fun t6_13 =>
  mv .nilIface fun t7_13 =>
  k (.tuple #[t6_13, t7_13]) w)))))
theorem C.pool_Pool_Add {k : Value → World → Prop} {a0 a1 a2 : Value} {w : World} (h : F.pool_Pool_Add k a0 a1 a2 w) : C Tryd.prog N.pool_Pool_Add #[a0, a1, a2] w k :=
  den_calls (H := { moves := [(3, (.take 0 (.take 2 (.take 4 (.take 5 (.take 6 (.take 7 (.take 8 (.two 1 10 (.two 3 10 (.take 9 (.force 10 (.last 11))) (.force 3 (.take 9 (.last 11)))) (.force 1 (.force 3 (.take 9 (.last 11))))))))))))), (10, (.take 0 (.take 1 (.take 2 (.take 3 (.take 4 (.take 5 (.take 6 (.take 7 (.take 8 (.take 9 (.take 11 (.take 12 (.take 14 (.take 15 (.take 16 (.take 17 (.force 10 (.take 13 (.take 18 (.take 19 .fin)))))))))))))))))))))], vars := [6, 7, 9, 10, 34, 40] }) (args := [a0, a1, a2]) mixed Tryd.func7 (by kernel_rfl) (by kernel_rfl) (by kernel_rfl) h

end Go.Proofs.YtgagekffmamldaaDoor
