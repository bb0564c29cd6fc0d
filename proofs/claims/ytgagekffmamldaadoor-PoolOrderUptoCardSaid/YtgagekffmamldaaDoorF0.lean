/- What each function asks: printed by hoas.py off the loaded program; each is held against the program by the kernel. -/
import Derived.Test.YtgagekffmamldaaDoorN
set_option linter.unusedVariables false
set_option linter.unusedSimpArgs false
set_option linter.unusedSectionVars false
namespace Go.Proofs.YtgagekffmamldaaDoor
open Go Go.Isk
set_option maxRecDepth 100000
-- gosem.cut.init
-- isthmus/isthmuslaw18.PoolBounds
-- isthmus/isthmuslaw18.PoolOrder
def F.isthmuslaw18_PoolOrder (k : Value → World → Prop) (a0 : Value) (w : World) : Prop :=
  mv (.bool false) fun t2 =>
  C Tryd.prog N.pool_New #[.int .i64 100, .int .i64 1048576, .int .i64 0] w fun t17 w =>
  mv t17 fun t16 =>
  o1 Tryd.prog (Instr.extract t16 0) w fun t18 w =>
  o1 Tryd.prog (Instr.extract t16 1) w fun t19 w =>
  mv t18 fun t3 =>
  mv t19 fun t4 =>
  mv t4 fun t20 =>
  o1 Tryd.prog (bin .neq 28 (.tmp 20) (.const .nilIface) t20 .nilIface) w fun t21 w =>
  mv t21 fun t22 =>
  gd t22 false (fun k1 => mv t3 fun v => k1 v w) w fun t23 w =>
  gd t22 false (fun k2 => o1 Tryd.prog (bin .eql 26 (.tmp 23) (.const (.pointer none)) t23 (.pointer none)) w k2) w fun t24 w =>
  pk t22 (.bool true) t24 fun t25 =>
  br t25 (fun _ =>
  mv (.bool false) fun t2_1 =>
  k t2_1 w) (fun _ =>
  mv (.slice none 0 0) fun t5 =>
  mv (.slice none 0 0) fun t6 =>
  mv (.int .i64 0) fun t7 =>
  mv (.int .i64 0) fun t8 =>
  lp [t2, t5, t6, t7, t8, undef, undef] w fun I1 μ1 => ∀ (x1 : Env) (w1 : World), I1 [x1 2, x1 5, x1 6, x1 7, x1 8, x1 9, x1 10] w1 →
  mv (x1 8) fun t26 =>
  mv a0 fun t27 =>
  o1 Tryd.prog (Builtin.len_ #[24] 3 #[t27]) w1 fun t28 w =>
  o1 Tryd.prog (bin .lss 3 (.tmp 26) (.tmp 28) t26 t28) w fun t29 w =>
  mv t29 fun t30 =>
  gd t30 true (fun k3 => mv (x1 8) fun v => k3 v w) w fun t31 w =>
  gd t30 true (fun k4 => o1 Tryd.prog (bin .lss 3 (.tmp 31) (.const (.int .i64 60)) t31 (.int .i64 60)) w k4) w fun t32 w =>
  pk t30 t32 (.bool false) fun t33 =>
  br t33 (fun _ =>
  mv a0 fun t36 =>
  mv (x1 8) fun t37 =>
  o1 Tryd.prog (Instr.indexAt 24 t36 t37) w fun t38 w =>
  o1 Tryd.prog (Instr.fieldAt 36 t38 3) w fun t39 w =>
  o1 Tryd.prog (Instr.loadAt 33 t39) w fun t40 w =>
  o1 Tryd.prog (Builtin.len_ #[33] 3 #[t40]) w fun t41 w =>
  o1 Tryd.prog (bin .gtr 3 (.tmp 41) (.const (.int .i64 1000)) t41 (.int .i64 1000)) w fun t42 w =>
  br t42 (fun _ =>
  C Tryd.prog N.isthmuslaw18_sure #[] w fun t43 w =>
  mv t43 fun t2_2 =>
  k t2_2 w) (fun _ =>
  dr w.drew fun S1 =>
  mv t3 fun t45 =>
  mv a0 fun t46 =>
  mv (x1 8) fun t47 =>
  tk Tryd.prog S1 (Instr.indexAt 24 t46 t47) fun t48 =>
  tk Tryd.prog S1 (Instr.fieldAt 36 t48 3) fun t49 =>
  tk Tryd.prog S1 (Instr.loadAt 33 t49) fun t50 =>
  mv a0 fun t51 =>
  mv (x1 8) fun t52 =>
  tk Tryd.prog S1 (Instr.indexAt 24 t51 t52) fun t53 =>
  tk Tryd.prog S1 (Instr.fieldAt 36 t53 1) fun t54 =>
  tk Tryd.prog S1 (Instr.loadAt 3 t54) fun t55 =>
  C Tryd.prog N.pool_Pool_Add #[t45, t50, t55] w.drew fun t56 w =>
  S1 w ∧
  mv t56 fun t44 =>
  tk Tryd.prog S1 (Instr.extract t44 0) fun t57 =>
  tk Tryd.prog S1 (Instr.extract t44 1) fun t58 =>
  mv t57 fun t9 =>
  mv t58 fun t10 =>
  mv t10 fun t59 =>
  o1 Tryd.prog (bin .eql 28 (.tmp 59) (.const .nilIface) t59 .nilIface) w fun t60 w =>
  jn (fun x2 => [x2 5, x2 6, x2 7]) (fun k5 =>
  br t60 (fun _ =>
  mv (x1 5) fun t61 =>
  mv a0 fun t62 =>
  mv (x1 8) fun t63 =>
  o1 Tryd.prog (Instr.indexAt 24 t62 t63) w fun t64 w =>
  o1 Tryd.prog (Instr.fieldAt 36 t64 3) w fun t65 w =>
  o1 Tryd.prog (Instr.loadAt 33 t65) w fun t66 w =>
  o1 Tryd.prog (convert 33 9 t66) w fun t67 w =>
  o1 Tryd.prog (Instr.buildSlice 46 1 #[(0, t67)]) w fun t68 w =>
  ob Tryd.prog (fun _ => Builtin.append_ #[46, 46] 46 #[t61, t68]) w fun t69 w =>
  mv t69 fun t5_1 =>
  mv (x1 6) fun t70 =>
  mv a0 fun t71 =>
  mv (x1 8) fun t72 =>
  o1 Tryd.prog (Instr.indexAt 24 t71 t72) w fun t73 w =>
  o1 Tryd.prog (Instr.fieldAt 36 t73 1) w fun t74 w =>
  o1 Tryd.prog (Instr.loadAt 3 t74) w fun t75 w =>
  o1 Tryd.prog (Instr.buildSlice 31 1 #[(0, t75)]) w fun t76 w =>
  ob Tryd.prog (fun _ => Builtin.append_ #[31, 31] 31 #[t70, t76]) w fun t77 w =>
  mv t77 fun t6_1 =>
  mv (x1 7) fun t78 =>
  mv a0 fun t79 =>
  mv (x1 8) fun t80 =>
  o1 Tryd.prog (Instr.indexAt 24 t79 t80) w fun t81 w =>
  o1 Tryd.prog (Instr.fieldAt 36 t81 3) w fun t82 w =>
  o1 Tryd.prog (Instr.loadAt 33 t82) w fun t83 w =>
  o1 Tryd.prog (Builtin.len_ #[33] 3 #[t83]) w fun t84 w =>
  o1 Tryd.prog (bin .add 3 (.tmp 78) (.tmp 84) t78 t84) w fun t85 w =>
  mv t85 fun t7_1 =>
  k5 [t5_1, t6_1, t7_1] w) (fun _ =>
  k5 [(x1 5), (x1 6), (x1 7)] w)) fun x2 w =>
  mv (x1 8) fun t34 =>
  o1 Tryd.prog (bin .add 3 (.tmp 34) (.const (.int .i64 1)) t34 (.int .i64 1)) w fun t35 w =>
  mv t35 fun t8_1 =>
  I1 [(x1 2), (x2 5), (x2 6), (x2 7), t8_1, t9, t10] w ∧ μ1 [(x1 2), (x2 5), (x2 6), (x2 7), t8_1, t9, t10] w < μ1 [x1 2, x1 5, x1 6, x1 7, x1 8, x1 9, x1 10] w1)) (fun _ =>
  mv t3 fun t86 =>
  C Tryd.prog N.pool_Pool_Take #[t86, .int .i64 100, .int .i64 1048576] w fun t87 w =>
  mv t87 fun t11 =>
  mv t11 fun t88 =>
  o1 Tryd.prog (Builtin.len_ #[34] 3 #[t88]) w fun t89 w =>
  mv (x1 5) fun t90 =>
  o1 Tryd.prog (Builtin.len_ #[46] 3 #[t90]) w fun t91 w =>
  o1 Tryd.prog (bin .neq 3 (.tmp 89) (.tmp 91) t89 t91) w fun t92 w =>
  mv t92 fun t93 =>
  gd t93 false (fun k6 => mv t3 fun v => k6 v w) w fun t94 w =>
  gd t93 false (fun k7 => C Tryd.prog N.pool_Pool_Len #[t94] w k7) w fun t95 w =>
  gd t93 false (fun k8 => mv (x1 5) fun v => k8 v w) w fun t96 w =>
  gd t93 false (fun k9 => o1 Tryd.prog (Builtin.len_ #[46] 3 #[t96]) w k9) w fun t97 w =>
  gd t93 false (fun k10 => o1 Tryd.prog (bin .neq 3 (.tmp 95) (.tmp 97) t95 t97) w k10) w fun t98 w =>
  pk t93 (.bool true) t98 fun t99 =>
  mv t99 fun t100 =>
  gd t100 false (fun k11 => mv t3 fun v => k11 v w) w fun t101 w =>
  gd t100 false (fun k12 => C Tryd.prog N.pool_Pool_Bytes #[t101] w k12) w fun t102 w =>
  gd t100 false (fun k13 => mv (x1 7) fun v => k13 v w) w fun t103 w =>
  gd t100 false (fun k14 => o1 Tryd.prog (bin .neq 3 (.tmp 102) (.tmp 103) t102 t103) w k14) w fun t104 w =>
  pk t100 (.bool true) t104 fun t105 =>
  br t105 (fun _ =>
  mv (.bool false) fun t2_3 =>
  k t2_3 w) (fun _ =>
  mv (.int .i64 (-1)) fun t12 =>
  mv (.int .i64 0) fun t13 =>
  lp [(x1 2), t12, t13, undef, undef] w fun I3 μ3 => ∀ (x3 : Env) (w2 : World), I3 [x3 2, x3 12, x3 13, x3 14, x3 15] w2 →
  mv (x3 13) fun t106 =>
  mv t11 fun t107 =>
  o1 Tryd.prog (Builtin.len_ #[34] 3 #[t107]) w2 fun t108 w =>
  o1 Tryd.prog (bin .lss 3 (.tmp 106) (.tmp 108) t106 t108) w fun t109 w =>
  br t109 (fun _ =>
  mv (.int .i64 (-1)) fun t14 =>
  mv (.int .i64 0) fun t15 =>
  lp [t14, t15] w fun I4 μ4 => ∀ (x4 : Env) (w3 : World), I4 [x4 14, x4 15] w3 →
  mv (x4 15) fun t112 =>
  mv (x1 5) fun t113 =>
  o1 Tryd.prog (Builtin.len_ #[46] 3 #[t113]) w3 fun t114 w =>
  o1 Tryd.prog (bin .lss 3 (.tmp 112) (.tmp 114) t112 t114) w fun t115 w =>
  br t115 (fun _ =>
  mv (x1 5) fun t118 =>
  mv (x4 15) fun t119 =>
  tk Tryd.prog (fun w' => w' = w.drew) (Instr.indexAt 46 t118 t119) fun t120 =>
  tk Tryd.prog (fun w' => w' = w.drew) (Instr.loadAt 9 t120) fun t121 =>
  mv t11 fun t122 =>
  mv (x3 13) fun t123 =>
  tk Tryd.prog (fun w' => w' = w.drew) (Instr.indexAt 34 t122 t123) fun t124 =>
  tk Tryd.prog (fun w' => w' = w.drew) (Instr.loadAt 33 t124) fun t125 =>
  tk Tryd.prog (fun w' => w' = w.drew) (convert 33 9 t125) fun t126 =>
  tk Tryd.prog (fun w' => w' = w.drew) (bin .eql 9 (.tmp 121) (.tmp 126) t121 t126) fun t127 =>
  jn (fun x5 => [x5 14]) (fun k15 =>
  br t127 (fun _ =>
  mv (x4 15) fun t128 =>
  mv t128 fun t14_1 =>
  k15 [t14_1] w.drew) (fun _ =>
  k15 [(x4 14)] w.drew)) fun x5 w =>
  mv (x4 15) fun t116 =>
  o1 Tryd.prog (bin .add 3 (.tmp 116) (.const (.int .i64 1)) t116 (.int .i64 1)) w fun t117 w =>
  mv t117 fun t15_1 =>
  I4 [(x5 14), t15_1] w ∧ μ4 [(x5 14), t15_1] w < μ4 [x4 14, x4 15] w3) (fun _ =>
  mv (x4 14) fun t129 =>
  tk Tryd.prog (fun w' => w' = w.drew) (bin .lss 3 (.tmp 129) (.const (.int .i64 0)) t129 (.int .i64 0)) fun t130 =>
  mv t130 fun t131 =>
  gdT t131 false (fun k16 => mv (x3 12) k16) fun t132 =>
  gdT t131 false (fun k17 => tk Tryd.prog (fun w' => w' = w.drew) (bin .geq 3 (.tmp 132) (.const (.int .i64 0)) t132 (.int .i64 0)) k17) fun t133 =>
  gdT t131 false (fun k18 => mv t133 k18) fun t134 =>
  gdT t134 true (fun k19 => mv (x1 6) k19) fun t135 =>
  gdT t134 true (fun k20 => mv (x4 14) k20) fun t136 =>
  gdT t134 true (fun k21 => tk Tryd.prog (fun w' => w' = w.drew) (Instr.indexAt 31 t135 t136) k21) fun t137 =>
  gdT t134 true (fun k22 => tk Tryd.prog (fun w' => w' = w.drew) (Instr.loadAt 3 t137) k22) fun t138 =>
  gdT t134 true (fun k23 => mv (x1 6) k23) fun t139 =>
  gdT t134 true (fun k24 => mv (x3 12) k24) fun t140 =>
  gdT t134 true (fun k25 => tk Tryd.prog (fun w' => w' = w.drew) (Instr.indexAt 31 t139 t140) k25) fun t141 =>
  gdT t134 true (fun k26 => tk Tryd.prog (fun w' => w' = w.drew) (Instr.loadAt 3 t141) k26) fun t142 =>
  gdT t134 true (fun k27 => tk Tryd.prog (fun w' => w' = w.drew) (bin .gtr 3 (.tmp 138) (.tmp 142) t138 t142) k27) fun t143 =>
  gdT t134 true (fun k28 => mv t143 k28) fun t144 =>
  gdT t144 false (fun k29 => mv (x1 6) k29) fun t145 =>
  gdT t144 false (fun k30 => mv (x4 14) k30) fun t146 =>
  gdT t144 false (fun k31 => tk Tryd.prog (fun w' => w' = w.drew) (Instr.indexAt 31 t145 t146) k31) fun t147 =>
  gdT t144 false (fun k32 => tk Tryd.prog (fun w' => w' = w.drew) (Instr.loadAt 3 t147) k32) fun t148 =>
  gdT t144 false (fun k33 => mv (x1 6) k33) fun t149 =>
  gdT t144 false (fun k34 => mv (x3 12) k34) fun t150 =>
  gdT t144 false (fun k35 => tk Tryd.prog (fun w' => w' = w.drew) (Instr.indexAt 31 t149 t150) k35) fun t151 =>
  gdT t144 false (fun k36 => tk Tryd.prog (fun w' => w' = w.drew) (Instr.loadAt 3 t151) k36) fun t152 =>
  gdT t144 false (fun k37 => tk Tryd.prog (fun w' => w' = w.drew) (bin .eql 3 (.tmp 148) (.tmp 152) t148 t152) k37) fun t153 =>
  gdT t144 false (fun k38 => mv t153 k38) fun t154 =>
  gdT t154 true (fun k39 => mv (x4 14) k39) fun t155 =>
  gdT t154 true (fun k40 => mv (x3 12) k40) fun t156 =>
  gdT t154 true (fun k41 => tk Tryd.prog (fun w' => w' = w.drew) (bin .lss 3 (.tmp 155) (.tmp 156) t155 t156) k41) fun t157 =>
  gdT t144 false (fun k42 => pk t154 t157 (.bool false) k42) fun t158 =>
  gdT t134 true (fun k43 => pk t144 (.bool true) t158 k43) fun t159 =>
  gdT t131 false (fun k44 => pk t134 t159 (.bool false) k44) fun t160 =>
  pk t131 (.bool true) t160 fun t161 =>
  br t161 (fun _ =>
  mv (.bool false) fun t2_4 =>
  k t2_4 w.drew) (fun _ =>
  mv (x4 14) fun t162 =>
  mv t162 fun t12_1 =>
  mv (x3 13) fun t110 =>
  o1 Tryd.prog (bin .add 3 (.tmp 110) (.const (.int .i64 1)) t110 (.int .i64 1)) w.drew fun t111 w =>
  mv t111 fun t13_1 =>
  I3 [(x3 2), t12_1, t13_1, (x4 14), (x4 15)] w ∧ μ3 [(x3 2), t12_1, t13_1, (x4 14), (x4 15)] w < μ3 [x3 2, x3 12, x3 13, x3 14, x3 15] w2))) (fun _ =>
  C Tryd.prog N.isthmuslaw18_sure #[] w fun t163 w =>
  mv t163 fun t2_5 =>
  k t2_5 w))))
theorem C.isthmuslaw18_PoolOrder {k : Value → World → Prop} {a0 : Value} {w : World} (h : F.isthmuslaw18_PoolOrder k a0 w) : C Tryd.prog N.isthmuslaw18_PoolOrder #[a0] w k :=
  den_calls (H := { moves := [(12, (.take 0 (.take 1 (.take 2 (.take 3 (.take 4 (.take 5 (.take 6 (.take 7 (.take 8 (.take 9 (.take 10 (.force 11 (.take 12 (.take 13 (.take 14 (.take 15 (.take 16 .fin)))))))))))))))))), (28, (.take 0 (.take 1 (.take 2 (.take 3 (.take 4 (.take 5 (.take 6 (.take 7 (.take 8 (.take 9 .fin))))))))))), (30, (.take 0 (.take 1 (.take 2 (.take 3 (.take 4 (.take 5 (.take 6 (.take 7 (.take 8 (.take 9 (.take 10 (.take 11 (.take 12 (.take 13 (.take 14 (.take 15 (.take 16 (.take 17 (.take 18 (.take 19 (.take 20 (.take 21 (.take 22 (.take 23 (.take 24 (.take 25 (.take 26 (.take 27 (.take 28 (.take 29 (.take 30 (.take 31 (.take 32 .fin))))))))))))))))))))))))))))))))))], vars := [2, 3, 4, 5, 6, 7, 8, 9, 10, 11, 12, 13, 14, 15] }) (args := [a0]) mixed Tryd.func4 (by kernel_rfl) (by kernel_rfl) (by kernel_rfl) h

-- isthmus/isthmuslaw18.PoolKnows
-- isthmus/pool.New
def F.pool_New (k : Value → World → Prop) (a0 a1 a2 : Value) (w : World) : Prop :=
  mv (.pointer none) fun t6 =>
  mv .nilIface fun t7 =>
  mv (.func (.func 18) #[] #[]) fun t8 =>
  mv t8 fun t9 =>
  mv a0 fun t10 =>
  cv Tryd.prog t9 #[t10] w fun t11 w =>
  mv t11 fun t12 =>
  gd t12 false (fun k1 => mv t8 fun v => k1 v w) w fun t13 w =>
  gd t12 false (fun k2 => mv a1 fun v => k2 v w) w fun t14 w =>
  gd t12 false (fun k3 => cv Tryd.prog t13 #[t14] w k3) w fun t15 w =>
  pk t12 (.bool true) t15 fun t16 =>
  mv t16 fun t17 =>
  gd t17 false (fun k4 => mv a2 fun v => k4 v w) w fun t18 w =>
  gd t17 false (fun k5 => o1 Tryd.prog (bin .lss 3 (.tmp 18) (.const (.int .i64 0)) t18 (.int .i64 0)) w k5) w fun t19 w =>
  pk t17 (.bool true) t19 fun t20 =>
  mv t20 fun t21 =>
  gd t21 false (fun k6 => mv a2 fun v => k6 v w) w fun t22 w =>
  gd t21 false (fun k7 => o1 Tryd.prog (bin .gtr 3 (.tmp 22) (.const (.int .i64 1048576)) t22 (.int .i64 1048576)) w k7) w fun t23 w =>
  pk t21 (.bool true) t23 fun t24 =>
  br t24 (fun _ =>
  C Tryd.prog N.pool_fault #[.string ⟨#[112, 111, 111, 108]⟩, .int .i64 1] w fun t25 w =>
  mv (.pointer none) fun t6_1 =>
  mv t25 fun t7_1 =>
  k (.tuple #[t6_1, t7_1]) w) (fun _ =>
  mv a0 fun t26 =>
  mv a1 fun t27 =>
  mv a2 fun t28 =>
  o1 Tryd.prog (Instr.build 58 #[(0, t26), (1, t27), (2, t28)]) w fun t29 w =>
  o1 Tryd.prog (Instr.box 58 t29) w fun t30 w =>
  mv t30 fun t6_2 =>
  mv .nilIface fun t7_2 =>
  k (.tuple #[t6_2, t7_2]) w)
theorem C.pool_New {k : Value → World → Prop} {a0 a1 a2 : Value} {w : World} (h : F.pool_New k a0 a1 a2 w) : C Tryd.prog N.pool_New #[a0, a1, a2] w k :=
  den_calls (H := { moves := [], vars := [6, 7, 8] }) (args := [a0, a1, a2]) mixed Tryd.func6 (by kernel_rfl) (by kernel_rfl) (by kernel_rfl) h

-- (*isthmus/pool.Pool).Add
def F.pool_Pool_Add (k : Value → World → Prop) (a0 a1 a2 : Value) (w : World) : Prop :=
  mv (.slice none 0 0) fun t6 =>
  mv .nilIface fun t7 =>
  mv a0 fun t12 =>
  o1 Tryd.prog (bin .eql 26 (.tmp 12) (.const (.pointer none)) t12 (.pointer none)) w fun t13 w =>
  mv t13 fun t14 =>
  gd t14 false (fun k1 => mv a1 fun v => k1 v w) w fun t15 w =>
  gd t14 false (fun k2 => o1 Tryd.prog (Builtin.len_ #[33] 3 #[t15]) w k2) w fun t16 w =>
  gd t14 false (fun k3 => o1 Tryd.prog (bin .eql 3 (.tmp 16) (.const (.int .i64 0)) t16 (.int .i64 0)) w k3) w fun t17 w =>
  pk t14 (.bool true) t17 fun t18 =>
  mv t18 fun t19 =>
  gd t19 false (fun k4 => mv a2 fun v => k4 v w) w fun t20 w =>
  gd t19 false (fun k5 => o1 Tryd.prog (bin .lss 3 (.tmp 20) (.const (.int .i64 0)) t20 (.int .i64 0)) w k5) w fun t21 w =>
  pk t19 (.bool true) t21 fun t22 =>
  br t22 (fun _ =>
  C Tryd.prog N.pool_fault #[.string ⟨#[116, 114, 97, 110, 115, 97, 99, 116, 105, 111, 110]⟩, .int .i64 1] w fun t23 w =>
  mv (.slice none 0 0) fun t6_1 =>
  mv t23 fun t7_1 =>
  k (.tuple #[t6_1, t7_1]) w) (fun _ =>
  dr w.drew fun S1 =>
  mv a1 fun t24 =>
  mv a1 fun t26 =>
  mv a2 fun t28 =>
  mv a0 fun t29 =>
  nilOk t29 = true ∧ mv t29 fun t30 =>
  tk Tryd.prog S1 (Instr.fieldAt 58 t30 5) fun t31 =>
  tk Tryd.prog S1 (Instr.loadAt 3 t31) fun t32 =>
  (C Tryd.prog N.slices_Clone_bytes #[t24] w.drew fun t25 w =>
  S1 w ∧
  (C Tryd.prog N.txs_Hash #[t26] w fun t27 w =>
  S1 w ∧
  tk Tryd.prog S1 (Instr.build 61 #[(0, t25), (1, t27), (2, t28), (3, t32)]) fun t33 =>
  o1 Tryd.prog (Instr.alloc 61 true (.tuple #[])) w fun t8 w =>
  S1 w ∧
  o0 Tryd.prog (Instr.storeAt 61 t8 t33) w fun _ w =>
  mv a0 fun t35 =>
  o1 Tryd.prog (Instr.fieldAt 61 t8 1) w fun t36 w =>
  o1 Tryd.prog (Instr.loadAt 40 t36) w fun t37 w =>
  C Tryd.prog N.pool_Pool_Knows #[t35, t37] w fun t38 w =>
  mv t38 fun t34 =>
  br t34 (fun _ =>
  C Tryd.prog N.pool_fault #[.string ⟨#[116, 114, 97, 110, 115, 97, 99, 116, 105, 111, 110]⟩, .int .i64 9] w fun t39 w =>
  mv (.slice none 0 0) fun t6_2 =>
  mv t39 fun t7_2 =>
  k (.tuple #[t6_2, t7_2]) w) (fun _ =>
  mv a1 fun t41 =>
  o1 Tryd.prog (Builtin.len_ #[33] 3 #[t41]) w fun t42 w =>
  mv a0 fun t43 =>
  nilOk t43 = true ∧ mv t43 fun t44 =>
  o1 Tryd.prog (Instr.fieldAt 58 t44 1) w fun t45 w =>
  o1 Tryd.prog (Instr.loadAt 3 t45) w fun t46 w =>
  o1 Tryd.prog (bin .gtr 3 (.tmp 42) (.tmp 46) t42 t46) w fun t47 w =>
  mv t47 fun t40 =>
  br t40 (fun _ =>
  C Tryd.prog N.pool_fault #[.string ⟨#[116, 114, 97, 110, 115, 97, 99, 116, 105, 111, 110]⟩, .int .i64 2] w fun t48 w =>
  mv (.slice none 0 0) fun t6_3 =>
  mv t48 fun t7_3 =>
  k (.tuple #[t6_3, t7_3]) w) (fun _ =>
  mv a0 fun t49 =>
  nilOk t49 = true ∧ mv t49 fun t50 =>
  o1 Tryd.prog (Instr.fieldAt 58 t50 3) w fun t51 w =>
  o1 Tryd.prog (Instr.loadAt 56 t51) w fun t52 w =>
  C Tryd.prog N.slices_Clone_pool_item_pool_item #[t52] w fun t53 w =>
  mv t53 fun t9 =>
  mv (.slice none 0 0) fun t10 =>
  lp [t6, t7, t9, t10] w fun I1 μ1 => ∀ (x1 : Env) (w1 : World), I1 [x1 6, x1 7, x1 9, x1 10] w1 →
  dr w1.drew fun S2 =>
  mv (x1 9) fun t54 =>
  tk Tryd.prog S2 (Builtin.len_ #[56] 3 #[t54]) fun t55 =>
  tk Tryd.prog S2 (bin .add 3 (.tmp 55) (.const (.int .i64 1)) t55 (.int .i64 1)) fun t56 =>
  mv a0 fun t57 =>
  nilOk t57 = true ∧ mv t57 fun t58 =>
  tk Tryd.prog S2 (Instr.fieldAt 58 t58 0) fun t59 =>
  tk Tryd.prog S2 (Instr.loadAt 3 t59) fun t60 =>
  tk Tryd.prog S2 (bin .gtr 3 (.tmp 56) (.tmp 60) t56 t60) fun t61 =>
  mv t61 fun t62 =>
  gdT t62 false (fun k6 => mv (x1 9) k6) fun t63 =>
  gdT t62 false (fun k7 => mv a1 k7) fun t65 =>
  gdT t62 false (fun k8 => tk Tryd.prog S2 (Builtin.len_ #[33] 3 #[t65]) k8) fun t66 =>
  gdT t62 false (fun k9 => mv a0 k9) fun t68 =>
  gdT t62 false (fun k10 => nilOk t68 = true ∧ mv t68 k10) fun t69 =>
  gdT t62 false (fun k11 => tk Tryd.prog S2 (Instr.fieldAt 58 t69 1) k11) fun t70 =>
  gdT t62 false (fun k12 => tk Tryd.prog S2 (Instr.loadAt 3 t70) k12) fun t71 =>
  gd t62 false (fun k13 => C Tryd.prog N.pool_size #[t63] w1.drew k13) w1.drew fun t64 w =>
  S2 w ∧
  gdT t62 false (fun k14 => tk Tryd.prog S2 (bin .add 3 (.tmp 64) (.tmp 66) t64 t66) k14) fun t67 =>
  gdT t62 false (fun k15 => tk Tryd.prog S2 (bin .gtr 3 (.tmp 67) (.tmp 71) t67 t71) k15) fun t72 =>
  pk t62 (.bool true) t72 fun t73 =>
  br t73 (fun _ =>
  mv (x1 9) fun t74 =>
  mv (x1 9) fun t75 =>
  o1 Tryd.prog (Builtin.len_ #[56] 3 #[t75]) w fun t76 w =>
  o1 Tryd.prog (bin .sub 3 (.tmp 76) (.const (.int .i64 1)) t76 (.int .i64 1)) w fun t77 w =>
  o1 Tryd.prog (Instr.indexAt 56 t74 t77) w fun t78 w =>
  o1 Tryd.prog (Instr.loadAt 61 t78) w fun t79 w =>
  o1 Tryd.prog (Instr.alloc 61 true (.tuple #[])) w fun t11 w =>
  o0 Tryd.prog (Instr.storeAt 61 t11 t79) w fun _ w =>
  o1 Tryd.prog (Instr.fieldAt 61 t11 2) w fun t80 w =>
  o1 Tryd.prog (Instr.loadAt 3 t80) w fun t81 w =>
  mv a2 fun t82 =>
  o1 Tryd.prog (bin .geq 3 (.tmp 81) (.tmp 82) t81 t82) w fun t83 w =>
  br t83 (fun _ =>
  C Tryd.prog N.pool_fault #[.string ⟨#[112, 111, 111, 108]⟩, .int .i64 10] w fun t84 w =>
  mv (.slice none 0 0) fun t6_4 =>
  mv t84 fun t7_4 =>
  k (.tuple #[t6_4, t7_4]) w) (fun _ =>
  mv (x1 10) fun t85 =>
  o1 Tryd.prog (Instr.fieldAt 61 t11 1) w fun t86 w =>
  o1 Tryd.prog (Instr.loadAt 40 t86) w fun t87 w =>
  o1 Tryd.prog (Instr.buildSlice 32 1 #[(0, t87)]) w fun t88 w =>
  ob Tryd.prog (fun _ => Builtin.append_ #[32, 32] 32 #[t85, t88]) w fun t89 w =>
  mv t89 fun t10_1 =>
  mv (x1 9) fun t90 =>
  mv (x1 9) fun t91 =>
  o1 Tryd.prog (Builtin.len_ #[56] 3 #[t91]) w fun t92 w =>
  o1 Tryd.prog (bin .sub 3 (.tmp 92) (.const (.int .i64 1)) t92 (.int .i64 1)) w fun t93 w =>
  o1 Tryd.prog (Instr.sliceAt 56 t90 none (some t93) none) w fun t94 w =>
  mv t94 fun t9_1 =>
  I1 [(x1 6), (x1 7), t9_1, t10_1] w ∧ μ1 [(x1 6), (x1 7), t9_1, t10_1] w < μ1 [x1 6, x1 7, x1 9, x1 10] w1)) (fun _ =>
  mv a0 fun t95 =>
  nilOk t95 = true ∧ mv t95 fun t96 =>
  o1 Tryd.prog (Instr.fieldAt 58 t96 5) w fun t97 w =>
  o1 Tryd.prog (Instr.loadAt 3 t97) w fun t98 w =>
  o1 Tryd.prog (bin .add 3 (.tmp 98) (.const (.int .i64 1)) t98 (.int .i64 1)) w fun t99 w =>
  nilOk t95 = true ∧ mv t95 fun t100 =>
  o1 Tryd.prog (Instr.fieldAt 58 t100 5) w fun t101 w =>
  o0 Tryd.prog (Instr.storeAt 3 t101 t99) w fun _ w =>
  mv a0 fun t102 =>
  mv (x1 9) fun t103 =>
  o1 Tryd.prog (Instr.loadAt 61 t8) w fun t104 w =>
  o1 Tryd.prog (Instr.buildSlice 56 1 #[(0, t104)]) w fun t105 w =>
  ob Tryd.prog (fun _ => Builtin.append_ #[56, 56] 56 #[t103, t105]) w fun t106 w =>
  nilOk t102 = true ∧ mv t102 fun t107 =>
  o1 Tryd.prog (Instr.fieldAt 58 t107 3) w fun t108 w =>
  o0 Tryd.prog (Instr.storeAt 56 t108 t106) w fun _ w =>
  mv a0 fun t109 =>
  nilOk t109 = true ∧ mv t109 fun t110 =>
  o1 Tryd.prog (Instr.fieldAt 58 t110 3) w fun t111 w =>
  o1 Tryd.prog (Instr.loadAt 56 t111) w fun t112 w =>
  C Tryd.prog N.slices_SortFunc_pool_item_pool_item #[t112, .func (.func 24) #[] #[]] w fun t113 w =>
  mv a0 fun t114 =>
  o1 Tryd.prog (Instr.fieldAt 61 t8 1) w fun t115 w =>
  o1 Tryd.prog (Instr.loadAt 40 t115) w fun t116 w =>
  C Tryd.prog N.pool_Pool_remember #[t114, t116] w fun t117 w =>
  mv (x1 10) fun t118 =>
  mv t118 fun t6_5 =>
  mv .nilIface fun t7_5 =>
  k (.tuple #[t6_5, t7_5]) w)))) ∧ (
  o1 Tryd.prog (Instr.alloc 61 true (.tuple #[])) w fun t8_1 w =>
  S1 w ∧
  C Tryd.prog N.txs_Hash #[t26] w fun t27_1 w =>
  S1 w ∧
  tk Tryd.prog S1 (Instr.build 61 #[(0, t25), (1, t27_1), (2, t28), (3, t32)]) fun t33_1 =>
  o0 Tryd.prog (Instr.storeAt 61 t8_1 t33_1) w fun _ w =>
  mv a0 fun t35_1 =>
  o1 Tryd.prog (Instr.fieldAt 61 t8_1 1) w fun t36_1 w =>
  o1 Tryd.prog (Instr.loadAt 40 t36_1) w fun t37_1 w =>
  C Tryd.prog N.pool_Pool_Knows #[t35_1, t37_1] w fun t38_1 w =>
  mv t38_1 fun t34_1 =>
  br t34_1 (fun _ =>
  C Tryd.prog N.pool_fault #[.string ⟨#[116, 114, 97, 110, 115, 97, 99, 116, 105, 111, 110]⟩, .int .i64 9] w fun t39_1 w =>
  mv (.slice none 0 0) fun t6_6 =>
  mv t39_1 fun t7_6 =>
  k (.tuple #[t6_6, t7_6]) w) (fun _ =>
  mv a1 fun t41_1 =>
  o1 Tryd.prog (Builtin.len_ #[33] 3 #[t41_1]) w fun t42_1 w =>
  mv a0 fun t43_1 =>
  nilOk t43_1 = true ∧ mv t43_1 fun t44_1 =>
  o1 Tryd.prog (Instr.fieldAt 58 t44_1 1) w fun t45_1 w =>
  o1 Tryd.prog (Instr.loadAt 3 t45_1) w fun t46_1 w =>
  o1 Tryd.prog (bin .gtr 3 (.tmp 42) (.tmp 46) t42_1 t46_1) w fun t47_1 w =>
  mv t47_1 fun t40_1 =>
  br t40_1 (fun _ =>
  C Tryd.prog N.pool_fault #[.string ⟨#[116, 114, 97, 110, 115, 97, 99, 116, 105, 111, 110]⟩, .int .i64 2] w fun t48_1 w =>
  mv (.slice none 0 0) fun t6_7 =>
  mv t48_1 fun t7_7 =>
  k (.tuple #[t6_7, t7_7]) w) (fun _ =>
  mv a0 fun t49_1 =>
  nilOk t49_1 = true ∧ mv t49_1 fun t50_1 =>
  o1 Tryd.prog (Instr.fieldAt 58 t50_1 3) w fun t51_1 w =>
  o1 Tryd.prog (Instr.loadAt 56 t51_1) w fun t52_1 w =>
  C Tryd.prog N.slices_Clone_pool_item_pool_item #[t52_1] w fun t53_1 w =>
  mv t53_1 fun t9_2 =>
  mv (.slice none 0 0) fun t10_2 =>
  lp [t6, t7, t9_2, t10_2] w fun I2 μ2 => ∀ (x2 : Env) (w2 : World), I2 [x2 6, x2 7, x2 9, x2 10] w2 →
  dr w2.drew fun S3 =>
  mv (x2 9) fun t54_1 =>
  tk Tryd.prog S3 (Builtin.len_ #[56] 3 #[t54_1]) fun t55_1 =>
  tk Tryd.prog S3 (bin .add 3 (.tmp 55) (.const (.int .i64 1)) t55_1 (.int .i64 1)) fun t56_1 =>
  mv a0 fun t57_1 =>
  nilOk t57_1 = true ∧ mv t57_1 fun t58_1 =>
  tk Tryd.prog S3 (Instr.fieldAt 58 t58_1 0) fun t59_1 =>
  tk Tryd.prog S3 (Instr.loadAt 3 t59_1) fun t60_1 =>
  tk Tryd.prog S3 (bin .gtr 3 (.tmp 56) (.tmp 60) t56_1 t60_1) fun t61_1 =>
  mv t61_1 fun t62_1 =>
  gdT t62_1 false (fun k16 => mv (x2 9) k16) fun t63_1 =>
  gdT t62_1 false (fun k17 => mv a1 k17) fun t65_1 =>
  gdT t62_1 false (fun k18 => tk Tryd.prog S3 (Builtin.len_ #[33] 3 #[t65_1]) k18) fun t66_1 =>
  gdT t62_1 false (fun k19 => mv a0 k19) fun t68_1 =>
  gdT t62_1 false (fun k20 => nilOk t68_1 = true ∧ mv t68_1 k20) fun t69_1 =>
  gdT t62_1 false (fun k21 => tk Tryd.prog S3 (Instr.fieldAt 58 t69_1 1) k21) fun t70_1 =>
  gdT t62_1 false (fun k22 => tk Tryd.prog S3 (Instr.loadAt 3 t70_1) k22) fun t71_1 =>
  gd t62_1 false (fun k23 => C Tryd.prog N.pool_size #[t63_1] w2.drew k23) w2.drew fun t64_1 w =>
  S3 w ∧
  gdT t62_1 false (fun k24 => tk Tryd.prog S3 (bin .add 3 (.tmp 64) (.tmp 66) t64_1 t66_1) k24) fun t67_1 =>
  gdT t62_1 false (fun k25 => tk Tryd.prog S3 (bin .gtr 3 (.tmp 67) (.tmp 71) t67_1 t71_1) k25) fun t72_1 =>
  pk t62_1 (.bool true) t72_1 fun t73_1 =>
  br t73_1 (fun _ =>
  mv (x2 9) fun t74_1 =>
  mv (x2 9) fun t75_1 =>
  o1 Tryd.prog (Builtin.len_ #[56] 3 #[t75_1]) w fun t76_1 w =>
  o1 Tryd.prog (bin .sub 3 (.tmp 76) (.const (.int .i64 1)) t76_1 (.int .i64 1)) w fun t77_1 w =>
  o1 Tryd.prog (Instr.indexAt 56 t74_1 t77_1) w fun t78_1 w =>
  o1 Tryd.prog (Instr.loadAt 61 t78_1) w fun t79_1 w =>
  o1 Tryd.prog (Instr.alloc 61 true (.tuple #[])) w fun t11_1 w =>
  o0 Tryd.prog (Instr.storeAt 61 t11_1 t79_1) w fun _ w =>
  o1 Tryd.prog (Instr.fieldAt 61 t11_1 2) w fun t80_1 w =>
  o1 Tryd.prog (Instr.loadAt 3 t80_1) w fun t81_1 w =>
  mv a2 fun t82_1 =>
  o1 Tryd.prog (bin .geq 3 (.tmp 81) (.tmp 82) t81_1 t82_1) w fun t83_1 w =>
  br t83_1 (fun _ =>
  C Tryd.prog N.pool_fault #[.string ⟨#[112, 111, 111, 108]⟩, .int .i64 10] w fun t84_1 w =>
  mv (.slice none 0 0) fun t6_8 =>
  mv t84_1 fun t7_8 =>
  k (.tuple #[t6_8, t7_8]) w) (fun _ =>
  mv (x2 10) fun t85_1 =>
  o1 Tryd.prog (Instr.fieldAt 61 t11_1 1) w fun t86_1 w =>
  o1 Tryd.prog (Instr.loadAt 40 t86_1) w fun t87_1 w =>
  o1 Tryd.prog (Instr.buildSlice 32 1 #[(0, t87_1)]) w fun t88_1 w =>
  ob Tryd.prog (fun _ => Builtin.append_ #[32, 32] 32 #[t85_1, t88_1]) w fun t89_1 w =>
  mv t89_1 fun t10_3 =>
  mv (x2 9) fun t90_1 =>
  mv (x2 9) fun t91_1 =>
  o1 Tryd.prog (Builtin.len_ #[56] 3 #[t91_1]) w fun t92_1 w =>
  o1 Tryd.prog (bin .sub 3 (.tmp 92) (.const (.int .i64 1)) t92_1 (.int .i64 1)) w fun t93_1 w =>
  o1 Tryd.prog (Instr.sliceAt 56 t90_1 none (some t93_1) none) w fun t94_1 w =>
  mv t94_1 fun t9_3 =>
  I2 [(x2 6), (x2 7), t9_3, t10_3] w ∧ μ2 [(x2 6), (x2 7), t9_3, t10_3] w < μ2 [x2 6, x2 7, x2 9, x2 10] w2)) (fun _ =>
  mv a0 fun t95_1 =>
  nilOk t95_1 = true ∧ mv t95_1 fun t96_1 =>
  o1 Tryd.prog (Instr.fieldAt 58 t96_1 5) w fun t97_1 w =>
  o1 Tryd.prog (Instr.loadAt 3 t97_1) w fun t98_1 w =>
  o1 Tryd.prog (bin .add 3 (.tmp 98) (.const (.int .i64 1)) t98_1 (.int .i64 1)) w fun t99_1 w =>
  nilOk t95_1 = true ∧ mv t95_1 fun t100_1 =>
  o1 Tryd.prog (Instr.fieldAt 58 t100_1 5) w fun t101_1 w =>
  o0 Tryd.prog (Instr.storeAt 3 t101_1 t99_1) w fun _ w =>
  mv a0 fun t102_1 =>
  mv (x2 9) fun t103_1 =>
  o1 Tryd.prog (Instr.loadAt 61 t8_1) w fun t104_1 w =>
  o1 Tryd.prog (Instr.buildSlice 56 1 #[(0, t104_1)]) w fun t105_1 w =>
  ob Tryd.prog (fun _ => Builtin.append_ #[56, 56] 56 #[t103_1, t105_1]) w fun t106_1 w =>
  nilOk t102_1 = true ∧ mv t102_1 fun t107_1 =>
  o1 Tryd.prog (Instr.fieldAt 58 t107_1 3) w fun t108_1 w =>
  o0 Tryd.prog (Instr.storeAt 56 t108_1 t106_1) w fun _ w =>
  mv a0 fun t109_1 =>
  nilOk t109_1 = true ∧ mv t109_1 fun t110_1 =>
  o1 Tryd.prog (Instr.fieldAt 58 t110_1 3) w fun t111_1 w =>
  o1 Tryd.prog (Instr.loadAt 56 t111_1) w fun t112_1 w =>
  C Tryd.prog N.slices_SortFunc_pool_item_pool_item #[t112_1, .func (.func 24) #[] #[]] w fun t113_1 w =>
  mv a0 fun t114_1 =>
  o1 Tryd.prog (Instr.fieldAt 61 t8_1 1) w fun t115_1 w =>
  o1 Tryd.prog (Instr.loadAt 40 t115_1) w fun t116_1 w =>
  C Tryd.prog N.pool_Pool_remember #[t114_1, t116_1] w fun t117_1 w =>
  mv (x2 10) fun t118_1 =>
  mv t118_1 fun t6_9 =>
  mv .nilIface fun t7_9 =>
  k (.tuple #[t6_9, t7_9]) w))))) ∧ (
  o1 Tryd.prog (Instr.alloc 61 true (.tuple #[])) w.drew fun t8_2 w =>
  S1 w ∧
  C Tryd.prog N.slices_Clone_bytes #[t24] w fun t25_1 w =>
  S1 w ∧
  C Tryd.prog N.txs_Hash #[t26] w fun t27_2 w =>
  S1 w ∧
  tk Tryd.prog S1 (Instr.build 61 #[(0, t25_1), (1, t27_2), (2, t28), (3, t32)]) fun t33_2 =>
  o0 Tryd.prog (Instr.storeAt 61 t8_2 t33_2) w fun _ w =>
  mv a0 fun t35_2 =>
  o1 Tryd.prog (Instr.fieldAt 61 t8_2 1) w fun t36_2 w =>
  o1 Tryd.prog (Instr.loadAt 40 t36_2) w fun t37_2 w =>
  C Tryd.prog N.pool_Pool_Knows #[t35_2, t37_2] w fun t38_2 w =>
  mv t38_2 fun t34_2 =>
  br t34_2 (fun _ =>
  C Tryd.prog N.pool_fault #[.string ⟨#[116, 114, 97, 110, 115, 97, 99, 116, 105, 111, 110]⟩, .int .i64 9] w fun t39_2 w =>
  mv (.slice none 0 0) fun t6_10 =>
  mv t39_2 fun t7_10 =>
  k (.tuple #[t6_10, t7_10]) w) (fun _ =>
  mv a1 fun t41_2 =>
  o1 Tryd.prog (Builtin.len_ #[33] 3 #[t41_2]) w fun t42_2 w =>
  mv a0 fun t43_2 =>
  nilOk t43_2 = true ∧ mv t43_2 fun t44_2 =>
  o1 Tryd.prog (Instr.fieldAt 58 t44_2 1) w fun t45_2 w =>
  o1 Tryd.prog (Instr.loadAt 3 t45_2) w fun t46_2 w =>
  o1 Tryd.prog (bin .gtr 3 (.tmp 42) (.tmp 46) t42_2 t46_2) w fun t47_2 w =>
  mv t47_2 fun t40_2 =>
  br t40_2 (fun _ =>
  C Tryd.prog N.pool_fault #[.string ⟨#[116, 114, 97, 110, 115, 97, 99, 116, 105, 111, 110]⟩, .int .i64 2] w fun t48_2 w =>
  mv (.slice none 0 0) fun t6_11 =>
  mv t48_2 fun t7_11 =>
  k (.tuple #[t6_11, t7_11]) w) (fun _ =>
  mv a0 fun t49_2 =>
  nilOk t49_2 = true ∧ mv t49_2 fun t50_2 =>
  o1 Tryd.prog (Instr.fieldAt 58 t50_2 3) w fun t51_2 w =>
  o1 Tryd.prog (Instr.loadAt 56 t51_2) w fun t52_2 w =>
  C Tryd.prog N.slices_Clone_pool_item_pool_item #[t52_2] w fun t53_2 w =>
  mv t53_2 fun t9_4 =>
  mv (.slice none 0 0) fun t10_4 =>
  lp [t6, t7, t9_4, t10_4] w fun I3 μ3 => ∀ (x3 : Env) (w3 : World), I3 [x3 6, x3 7, x3 9, x3 10] w3 →
  dr w3.drew fun S4 =>
  mv (x3 9) fun t54_2 =>
  tk Tryd.prog S4 (Builtin.len_ #[56] 3 #[t54_2]) fun t55_2 =>
  tk Tryd.prog S4 (bin .add 3 (.tmp 55) (.const (.int .i64 1)) t55_2 (.int .i64 1)) fun t56_2 =>
  mv a0 fun t57_2 =>
  nilOk t57_2 = true ∧ mv t57_2 fun t58_2 =>
  tk Tryd.prog S4 (Instr.fieldAt 58 t58_2 0) fun t59_2 =>
  tk Tryd.prog S4 (Instr.loadAt 3 t59_2) fun t60_2 =>
  tk Tryd.prog S4 (bin .gtr 3 (.tmp 56) (.tmp 60) t56_2 t60_2) fun t61_2 =>
  mv t61_2 fun t62_2 =>
  gdT t62_2 false (fun k26 => mv (x3 9) k26) fun t63_2 =>
  gdT t62_2 false (fun k27 => mv a1 k27) fun t65_2 =>
  gdT t62_2 false (fun k28 => tk Tryd.prog S4 (Builtin.len_ #[33] 3 #[t65_2]) k28) fun t66_2 =>
  gdT t62_2 false (fun k29 => mv a0 k29) fun t68_2 =>
  gdT t62_2 false (fun k30 => nilOk t68_2 = true ∧ mv t68_2 k30) fun t69_2 =>
  gdT t62_2 false (fun k31 => tk Tryd.prog S4 (Instr.fieldAt 58 t69_2 1) k31) fun t70_2 =>
  gdT t62_2 false (fun k32 => tk Tryd.prog S4 (Instr.loadAt 3 t70_2) k32) fun t71_2 =>
  gd t62_2 false (fun k33 => C Tryd.prog N.pool_size #[t63_2] w3.drew k33) w3.drew fun t64_2 w =>
  S4 w ∧
  gdT t62_2 false (fun k34 => tk Tryd.prog S4 (bin .add 3 (.tmp 64) (.tmp 66) t64_2 t66_2) k34) fun t67_2 =>
  gdT t62_2 false (fun k35 => tk Tryd.prog S4 (bin .gtr 3 (.tmp 67) (.tmp 71) t67_2 t71_2) k35) fun t72_2 =>
  pk t62_2 (.bool true) t72_2 fun t73_2 =>
  br t73_2 (fun _ =>
  mv (x3 9) fun t74_2 =>
  mv (x3 9) fun t75_2 =>
  o1 Tryd.prog (Builtin.len_ #[56] 3 #[t75_2]) w fun t76_2 w =>
  o1 Tryd.prog (bin .sub 3 (.tmp 76) (.const (.int .i64 1)) t76_2 (.int .i64 1)) w fun t77_2 w =>
  o1 Tryd.prog (Instr.indexAt 56 t74_2 t77_2) w fun t78_2 w =>
  o1 Tryd.prog (Instr.loadAt 61 t78_2) w fun t79_2 w =>
  o1 Tryd.prog (Instr.alloc 61 true (.tuple #[])) w fun t11_2 w =>
  o0 Tryd.prog (Instr.storeAt 61 t11_2 t79_2) w fun _ w =>
  o1 Tryd.prog (Instr.fieldAt 61 t11_2 2) w fun t80_2 w =>
  o1 Tryd.prog (Instr.loadAt 3 t80_2) w fun t81_2 w =>
  mv a2 fun t82_2 =>
  o1 Tryd.prog (bin .geq 3 (.tmp 81) (.tmp 82) t81_2 t82_2) w fun t83_2 w =>
  br t83_2 (fun _ =>
  C Tryd.prog N.pool_fault #[.string ⟨#[112, 111, 111, 108]⟩, .int .i64 10] w fun t84_2 w =>
  mv (.slice none 0 0) fun t6_12 =>
  mv t84_2 fun t7_12 =>
  k (.tuple #[t6_12, t7_12]) w) (fun _ =>
  mv (x3 10) fun t85_2 =>
  o1 Tryd.prog (Instr.fieldAt 61 t11_2 1) w fun t86_2 w =>
  o1 Tryd.prog (Instr.loadAt 40 t86_2) w fun t87_2 w =>
  o1 Tryd.prog (Instr.buildSlice 32 1 #[(0, t87_2)]) w fun t88_2 w =>
  ob Tryd.prog (fun _ => Builtin.append_ #[32, 32] 32 #[t85_2, t88_2]) w fun t89_2 w =>
  mv t89_2 fun t10_5 =>
  mv (x3 9) fun t90_2 =>
  mv (x3 9) fun t91_2 =>
  o1 Tryd.prog (Builtin.len_ #[56] 3 #[t91_2]) w fun t92_2 w =>
  o1 Tryd.prog (bin .sub 3 (.tmp 92) (.const (.int .i64 1)) t92_2 (.int .i64 1)) w fun t93_2 w =>
  o1 Tryd.prog (Instr.sliceAt 56 t90_2 none (some t93_2) none) w fun t94_2 w =>
  mv t94_2 fun t9_5 =>
  I3 [(x3 6), (x3 7), t9_5, t10_5] w ∧ μ3 [(x3 6), (x3 7), t9_5, t10_5] w < μ3 [x3 6, x3 7, x3 9, x3 10] w3)) (fun _ =>
  mv a0 fun t95_2 =>
  nilOk t95_2 = true ∧ mv t95_2 fun t96_2 =>
  o1 Tryd.prog (Instr.fieldAt 58 t96_2 5) w fun t97_2 w =>
  o1 Tryd.prog (Instr.loadAt 3 t97_2) w fun t98_2 w =>
  o1 Tryd.prog (bin .add 3 (.tmp 98) (.const (.int .i64 1)) t98_2 (.int .i64 1)) w fun t99_2 w =>
  nilOk t95_2 = true ∧ mv t95_2 fun t100_2 =>
  o1 Tryd.prog (Instr.fieldAt 58 t100_2 5) w fun t101_2 w =>
  o0 Tryd.prog (Instr.storeAt 3 t101_2 t99_2) w fun _ w =>
  mv a0 fun t102_2 =>
  mv (x3 9) fun t103_2 =>
  o1 Tryd.prog (Instr.loadAt 61 t8_2) w fun t104_2 w =>
  o1 Tryd.prog (Instr.buildSlice 56 1 #[(0, t104_2)]) w fun t105_2 w =>
  ob Tryd.prog (fun _ => Builtin.append_ #[56, 56] 56 #[t103_2, t105_2]) w fun t106_2 w =>
  nilOk t102_2 = true ∧ mv t102_2 fun t107_2 =>
  o1 Tryd.prog (Instr.fieldAt 58 t107_2 3) w fun t108_2 w =>
  o0 Tryd.prog (Instr.storeAt 56 t108_2 t106_2) w fun _ w =>
  mv a0 fun t109_2 =>
  nilOk t109_2 = true ∧ mv t109_2 fun t110_2 =>
  o1 Tryd.prog (Instr.fieldAt 58 t110_2 3) w fun t111_2 w =>
  o1 Tryd.prog (Instr.loadAt 56 t111_2) w fun t112_2 w =>
  C Tryd.prog N.slices_SortFunc_pool_item_pool_item #[t112_2, .func (.func 24) #[] #[]] w fun t113_2 w =>
  mv a0 fun t114_2 =>
  o1 Tryd.prog (Instr.fieldAt 61 t8_2 1) w fun t115_2 w =>
  o1 Tryd.prog (Instr.loadAt 40 t115_2) w fun t116_2 w =>
  C Tryd.prog N.pool_Pool_remember #[t114_2, t116_2] w fun t117_2 w =>
  mv (x3 10) fun t118_2 =>
  mv t118_2 fun t6_13 =>
  mv .nilIface fun t7_13 =>
  k (.tuple #[t6_13, t7_13]) w)))))
theorem C.pool_Pool_Add {k : Value → World → Prop} {a0 a1 a2 : Value} {w : World} (h : F.pool_Pool_Add k a0 a1 a2 w) : C Tryd.prog N.pool_Pool_Add #[a0, a1, a2] w k :=
  den_calls (H := { moves := [(3, (.take 0 (.take 2 (.take 4 (.take 5 (.take 6 (.take 7 (.take 8 (.two 1 10 (.two 3 10 (.take 9 (.force 10 (.last 11))) (.force 3 (.take 9 (.last 11)))) (.force 1 (.force 3 (.take 9 (.last 11))))))))))))), (10, (.take 0 (.take 1 (.take 2 (.take 3 (.take 4 (.take 5 (.take 6 (.take 7 (.take 8 (.take 9 (.take 11 (.take 12 (.take 14 (.take 15 (.take 16 (.take 17 (.force 10 (.take 13 (.take 18 (.take 19 .fin)))))))))))))))))))))], vars := [6, 7, 9, 10, 34, 40] }) (args := [a0, a1, a2]) mixed Tryd.func7 (by kernel_rfl) (by kernel_rfl) (by kernel_rfl) h

end Go.Proofs.YtgagekffmamldaaDoor
