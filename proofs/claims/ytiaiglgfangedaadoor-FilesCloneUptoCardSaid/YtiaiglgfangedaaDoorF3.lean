/- What each function asks: printed by hoas.py off the loaded program; each is held against the program by the kernel. -/
import Derived.Test.YtiaiglgfangedaaDoorN
set_option linter.unusedVariables false
set_option linter.unusedSimpArgs false
set_option linter.unusedSectionVars false
namespace Go.Proofs.YtiaiglgfangedaaDoor
open Go Go.Isk
set_option maxRecDepth 100000
-- slices.reverseRangeOrdered[string]
def F.slices_reverseRangeOrdered_string (k : Value → World → Prop) (a0 a1 a2 : Value) (w : World) : Prop :=
  mv a1 fun t8 =>
  mv t8 fun t6 =>
  mv a2 fun t9 =>
  o1 Tryd.prog (bin .sub 3 (.tmp 9) (.const (.int .i64 1)) t9 (.int .i64 1)) w fun t10 w =>
  mv t10 fun t7 =>
  lp [t6, t7] w fun I1 μ1 => ∀ (x1 : Env) (w1 : World), I1 [x1 6, x1 7] w1 →
  mv (x1 6) fun t11 =>
  mv (x1 7) fun t12 =>
  o1 Tryd.prog (bin .lss 3 (.tmp 11) (.tmp 12) t11 t12) w1 fun t13 w =>
  br t13 (fun _ =>
  dr w.drew fun S1 =>
  mv a0 fun t14 =>
  mv (x1 6) fun t15 =>
  mv a0 fun t16 =>
  mv (x1 7) fun t17 =>
  mv a0 fun t18 =>
  mv (x1 7) fun t19 =>
  tk Tryd.prog S1 (Instr.indexAt 48 t18 t19) fun t20 =>
  tk Tryd.prog S1 (Instr.loadAt 9 t20) fun t21 =>
  mv a0 fun t22 =>
  mv (x1 6) fun t23 =>
  tk Tryd.prog S1 (Instr.indexAt 48 t22 t23) fun t24 =>
  tk Tryd.prog S1 (Instr.loadAt 9 t24) fun t25 =>
  tk Tryd.prog S1 (Instr.indexAt 48 t14 t15) fun t26 =>
  o0 Tryd.prog (Instr.storeAt 9 t26 t21) w.drew fun _ w =>
  S1 w ∧
  tk Tryd.prog S1 (Instr.indexAt 48 t16 t17) fun t27 =>
  o0 Tryd.prog (Instr.storeAt 9 t27 t25) w fun _ w =>
  mv (x1 6) fun t28 =>
  o1 Tryd.prog (bin .add 3 (.tmp 28) (.const (.int .i64 1)) t28 (.int .i64 1)) w fun t29 w =>
  mv t29 fun t6_1 =>
  mv (x1 7) fun t30 =>
  o1 Tryd.prog (bin .sub 3 (.tmp 30) (.const (.int .i64 1)) t30 (.int .i64 1)) w fun t31 w =>
  mv t31 fun t7_1 =>
  I1 [t6_1, t7_1] w ∧ μ1 [t6_1, t7_1] w < μ1 [x1 6, x1 7] w1) (fun _ =>
  k (.tuple #[]) w)
theorem C.slices_reverseRangeOrdered_string {k : Value → World → Prop} {a0 a1 a2 : Value} {w : World} (h : F.slices_reverseRangeOrdered_string k a0 a1 a2 w) : C Tryd.prog N.slices_reverseRangeOrdered_string #[a0, a1, a2] w k :=
  den_calls (H := { moves := [(3, (.take 0 (.take 1 (.take 2 (.take 3 (.take 4 (.take 5 (.take 6 (.take 7 (.take 8 (.take 9 (.take 10 (.take 11 (.take 12 (.force 13 (.take 14 (.last 15)))))))))))))))))], vars := [6, 7] }) (args := [a0, a1, a2]) mixed Tryd.func70 (by kernel_rfl) (by kernel_rfl) (by kernel_rfl) h

-- slices.partialInsertionSortOrdered[string]
def F.slices_partialInsertionSortOrdered_string (k : Value → World → Prop) (a0 a1 a2 : Value) (w : World) : Prop :=
  mv (.bool false) fun t6 =>
  mv a1 fun t11 =>
  o1 Tryd.prog (bin .add 3 (.tmp 11) (.const (.int .i64 1)) t11 (.int .i64 1)) w fun t12 w =>
  mv t12 fun t7 =>
  mv (.int .i64 0) fun t8 =>
  lp [t6, t7, t8, undef, undef] w fun I1 μ1 => ∀ (x1 : Env) (w1 : World), I1 [x1 6, x1 7, x1 8, x1 9, x1 10] w1 →
  mv (x1 8) fun t13 =>
  o1 Tryd.prog (bin .lss 3 (.tmp 13) (.const (.int .i64 5)) t13 (.int .i64 5)) w1 fun t14 w =>
  br t14 (fun _ =>
  lp [(x1 7)] w fun I2 μ2 => ∀ (x2 : Env) (w2 : World), I2 [x2 7] w2 →
  dr w2.drew fun S1 =>
  mv (x2 7) fun t17 =>
  mv a2 fun t18 =>
  tk Tryd.prog S1 (bin .lss 3 (.tmp 17) (.tmp 18) t17 t18) fun t19 =>
  mv t19 fun t20 =>
  gdT t20 true (fun k1 => mv a0 k1) fun t21 =>
  gdT t20 true (fun k2 => mv (x2 7) k2) fun t22 =>
  gdT t20 true (fun k3 => tk Tryd.prog S1 (Instr.indexAt 48 t21 t22) k3) fun t23 =>
  gdT t20 true (fun k4 => tk Tryd.prog S1 (Instr.loadAt 9 t23) k4) fun t24 =>
  gdT t20 true (fun k5 => mv a0 k5) fun t25 =>
  gdT t20 true (fun k6 => mv (x2 7) k6) fun t26 =>
  gdT t20 true (fun k7 => tk Tryd.prog S1 (bin .sub 3 (.tmp 26) (.const (.int .i64 1)) t26 (.int .i64 1)) k7) fun t27 =>
  gdT t20 true (fun k8 => tk Tryd.prog S1 (Instr.indexAt 48 t25 t27) k8) fun t28 =>
  gdT t20 true (fun k9 => tk Tryd.prog S1 (Instr.loadAt 9 t28) k9) fun t29 =>
  gd t20 true (fun k10 => C Tryd.prog N.cmp_Less_string #[t24, t29] w2.drew k10) w2.drew fun t30 w =>
  S1 w ∧
  gdT t20 true (fun k11 => tk Tryd.prog S1 (Op.unary .not t30) k11) fun t31 =>
  pk t20 t31 (.bool false) fun t32 =>
  br t32 (fun _ =>
  mv (x2 7) fun t33 =>
  o1 Tryd.prog (bin .add 3 (.tmp 33) (.const (.int .i64 1)) t33 (.int .i64 1)) w fun t34 w =>
  mv t34 fun t7_1 =>
  I2 [t7_1] w ∧ μ2 [t7_1] w < μ2 [x2 7] w2) (fun _ =>
  mv (x2 7) fun t35 =>
  mv a2 fun t36 =>
  o1 Tryd.prog (bin .eql 3 (.tmp 35) (.tmp 36) t35 t36) w fun t37 w =>
  br t37 (fun _ =>
  mv (.bool true) fun t6_1 =>
  k t6_1 w) (fun _ =>
  mv a2 fun t38 =>
  mv a1 fun t39 =>
  o1 Tryd.prog (bin .sub 3 (.tmp 38) (.tmp 39) t38 t39) w fun t40 w =>
  o1 Tryd.prog (bin .lss 3 (.tmp 40) (.const (.int .i64 50)) t40 (.int .i64 50)) w fun t41 w =>
  br t41 (fun _ =>
  mv (.bool false) fun t6_2 =>
  k t6_2 w) (fun _ =>
  dr w.drew fun S2 =>
  mv a0 fun t42 =>
  mv (x2 7) fun t43 =>
  mv a0 fun t44 =>
  mv (x2 7) fun t45 =>
  tk Tryd.prog S2 (bin .sub 3 (.tmp 45) (.const (.int .i64 1)) t45 (.int .i64 1)) fun t46 =>
  mv a0 fun t47 =>
  mv (x2 7) fun t48 =>
  tk Tryd.prog S2 (bin .sub 3 (.tmp 48) (.const (.int .i64 1)) t48 (.int .i64 1)) fun t49 =>
  tk Tryd.prog S2 (Instr.indexAt 48 t47 t49) fun t50 =>
  tk Tryd.prog S2 (Instr.loadAt 9 t50) fun t51 =>
  mv a0 fun t52 =>
  mv (x2 7) fun t53 =>
  tk Tryd.prog S2 (Instr.indexAt 48 t52 t53) fun t54 =>
  tk Tryd.prog S2 (Instr.loadAt 9 t54) fun t55 =>
  tk Tryd.prog S2 (Instr.indexAt 48 t42 t43) fun t56 =>
  o0 Tryd.prog (Instr.storeAt 9 t56 t51) w.drew fun _ w =>
  S2 w ∧
  tk Tryd.prog S2 (Instr.indexAt 48 t44 t46) fun t57 =>
  o0 Tryd.prog (Instr.storeAt 9 t57 t55) w fun _ w =>
  mv (x2 7) fun t58 =>
  mv a1 fun t59 =>
  o1 Tryd.prog (bin .sub 3 (.tmp 58) (.tmp 59) t58 t59) w fun t60 w =>
  o1 Tryd.prog (bin .geq 3 (.tmp 60) (.const (.int .i64 2)) t60 (.int .i64 2)) w fun t61 w =>
  jn (fun x3 => [x3 9]) (fun k12 =>
  br t61 (fun _ =>
  mv (x2 7) fun t62 =>
  o1 Tryd.prog (bin .sub 3 (.tmp 62) (.const (.int .i64 1)) t62 (.int .i64 1)) w fun t63 w =>
  mv t63 fun t9 =>
  jn (fun x4 => [x4 9]) (fun k13 =>
  lp [t9] w fun I5 μ5 => ∀ (x5 : Env) (w3 : World), I5 [x5 9] w3 →
  mv (x5 9) fun t64 =>
  o1 Tryd.prog (bin .geq 3 (.tmp 64) (.const (.int .i64 1)) t64 (.int .i64 1)) w3 fun t65 w =>
  br t65 (fun _ =>
  dr w.drew fun S3 =>
  mv a0 fun t68 =>
  mv (x5 9) fun t69 =>
  tk Tryd.prog S3 (Instr.indexAt 48 t68 t69) fun t70 =>
  tk Tryd.prog S3 (Instr.loadAt 9 t70) fun t71 =>
  mv a0 fun t72 =>
  mv (x5 9) fun t73 =>
  tk Tryd.prog S3 (bin .sub 3 (.tmp 73) (.const (.int .i64 1)) t73 (.int .i64 1)) fun t74 =>
  tk Tryd.prog S3 (Instr.indexAt 48 t72 t74) fun t75 =>
  tk Tryd.prog S3 (Instr.loadAt 9 t75) fun t76 =>
  C Tryd.prog N.cmp_Less_string #[t71, t76] w.drew fun t77 w =>
  S3 w ∧
  tk Tryd.prog S3 (Op.unary .not t77) fun t78 =>
  br t78 (fun _ =>
  k13 [(x5 9)] w) (fun _ =>
  dr w.drew fun S4 =>
  mv a0 fun t79 =>
  mv (x5 9) fun t80 =>
  mv a0 fun t81 =>
  mv (x5 9) fun t82 =>
  tk Tryd.prog S4 (bin .sub 3 (.tmp 82) (.const (.int .i64 1)) t82 (.int .i64 1)) fun t83 =>
  mv a0 fun t84 =>
  mv (x5 9) fun t85 =>
  tk Tryd.prog S4 (bin .sub 3 (.tmp 85) (.const (.int .i64 1)) t85 (.int .i64 1)) fun t86 =>
  tk Tryd.prog S4 (Instr.indexAt 48 t84 t86) fun t87 =>
  tk Tryd.prog S4 (Instr.loadAt 9 t87) fun t88 =>
  mv a0 fun t89 =>
  mv (x5 9) fun t90 =>
  tk Tryd.prog S4 (Instr.indexAt 48 t89 t90) fun t91 =>
  tk Tryd.prog S4 (Instr.loadAt 9 t91) fun t92 =>
  tk Tryd.prog S4 (Instr.indexAt 48 t79 t80) fun t93 =>
  o0 Tryd.prog (Instr.storeAt 9 t93 t88) w.drew fun _ w =>
  S4 w ∧
  tk Tryd.prog S4 (Instr.indexAt 48 t81 t83) fun t94 =>
  o0 Tryd.prog (Instr.storeAt 9 t94 t92) w fun _ w =>
  mv (x5 9) fun t66 =>
  o1 Tryd.prog (bin .sub 3 (.tmp 66) (.const (.int .i64 1)) t66 (.int .i64 1)) w fun t67 w =>
  mv t67 fun t9_1 =>
  I5 [t9_1] w ∧ μ5 [t9_1] w < μ5 [x5 9] w3)) (fun _ =>
  k13 [(x5 9)] w)) fun x4 w =>
  k12 [(x4 9)] w) (fun _ =>
  k12 [(x1 9)] w)) fun x3 w =>
  mv a2 fun t95 =>
  mv (x2 7) fun t96 =>
  o1 Tryd.prog (bin .sub 3 (.tmp 95) (.tmp 96) t95 t96) w fun t97 w =>
  o1 Tryd.prog (bin .geq 3 (.tmp 97) (.const (.int .i64 2)) t97 (.int .i64 2)) w fun t98 w =>
  jn (fun x6 => [x6 10]) (fun k14 =>
  br t98 (fun _ =>
  mv (x2 7) fun t99 =>
  o1 Tryd.prog (bin .add 3 (.tmp 99) (.const (.int .i64 1)) t99 (.int .i64 1)) w fun t100 w =>
  mv t100 fun t10 =>
  jn (fun x7 => [x7 10]) (fun k15 =>
  lp [t10] w fun I8 μ8 => ∀ (x8 : Env) (w4 : World), I8 [x8 10] w4 →
  mv (x8 10) fun t101 =>
  mv a2 fun t102 =>
  o1 Tryd.prog (bin .lss 3 (.tmp 101) (.tmp 102) t101 t102) w4 fun t103 w =>
  br t103 (fun _ =>
  dr w.drew fun S5 =>
  mv a0 fun t106 =>
  mv (x8 10) fun t107 =>
  tk Tryd.prog S5 (Instr.indexAt 48 t106 t107) fun t108 =>
  tk Tryd.prog S5 (Instr.loadAt 9 t108) fun t109 =>
  mv a0 fun t110 =>
  mv (x8 10) fun t111 =>
  tk Tryd.prog S5 (bin .sub 3 (.tmp 111) (.const (.int .i64 1)) t111 (.int .i64 1)) fun t112 =>
  tk Tryd.prog S5 (Instr.indexAt 48 t110 t112) fun t113 =>
  tk Tryd.prog S5 (Instr.loadAt 9 t113) fun t114 =>
  C Tryd.prog N.cmp_Less_string #[t109, t114] w.drew fun t115 w =>
  S5 w ∧
  tk Tryd.prog S5 (Op.unary .not t115) fun t116 =>
  br t116 (fun _ =>
  k15 [(x8 10)] w) (fun _ =>
  dr w.drew fun S6 =>
  mv a0 fun t117 =>
  mv (x8 10) fun t118 =>
  mv a0 fun t119 =>
  mv (x8 10) fun t120 =>
  tk Tryd.prog S6 (bin .sub 3 (.tmp 120) (.const (.int .i64 1)) t120 (.int .i64 1)) fun t121 =>
  mv a0 fun t122 =>
  mv (x8 10) fun t123 =>
  tk Tryd.prog S6 (bin .sub 3 (.tmp 123) (.const (.int .i64 1)) t123 (.int .i64 1)) fun t124 =>
  tk Tryd.prog S6 (Instr.indexAt 48 t122 t124) fun t125 =>
  tk Tryd.prog S6 (Instr.loadAt 9 t125) fun t126 =>
  mv a0 fun t127 =>
  mv (x8 10) fun t128 =>
  tk Tryd.prog S6 (Instr.indexAt 48 t127 t128) fun t129 =>
  tk Tryd.prog S6 (Instr.loadAt 9 t129) fun t130 =>
  tk Tryd.prog S6 (Instr.indexAt 48 t117 t118) fun t131 =>
  o0 Tryd.prog (Instr.storeAt 9 t131 t126) w.drew fun _ w =>
  S6 w ∧
  tk Tryd.prog S6 (Instr.indexAt 48 t119 t121) fun t132 =>
  o0 Tryd.prog (Instr.storeAt 9 t132 t130) w fun _ w =>
  mv (x8 10) fun t104 =>
  o1 Tryd.prog (bin .add 3 (.tmp 104) (.const (.int .i64 1)) t104 (.int .i64 1)) w fun t105 w =>
  mv t105 fun t10_1 =>
  I8 [t10_1] w ∧ μ8 [t10_1] w < μ8 [x8 10] w4)) (fun _ =>
  k15 [(x8 10)] w)) fun x7 w =>
  k14 [(x7 10)] w) (fun _ =>
  k14 [(x1 10)] w)) fun x6 w =>
  mv (x1 8) fun t15 =>
  o1 Tryd.prog (bin .add 3 (.tmp 15) (.const (.int .i64 1)) t15 (.int .i64 1)) w fun t16 w =>
  mv t16 fun t8_1 =>
  I1 [(x1 6), (x2 7), t8_1, (x3 9), (x6 10)] w ∧ μ1 [(x1 6), (x2 7), t8_1, (x3 9), (x6 10)] w < μ1 [x1 6, x1 7, x1 8, x1 9, x1 10] w1)))) (fun _ =>
  mv (.bool false) fun t6_3 =>
  k t6_3 w)
theorem C.slices_partialInsertionSortOrdered_string {k : Value → World → Prop} {a0 a1 a2 : Value} {w : World} (h : F.slices_partialInsertionSortOrdered_string k a0 a1 a2 w) : C Tryd.prog N.slices_partialInsertionSortOrdered_string #[a0, a1, a2] w k :=
  den_calls (H := { moves := [(5, (.take 0 (.take 1 (.take 2 (.take 3 (.take 4 (.take 5 (.take 6 (.take 7 (.take 8 (.take 9 (.take 10 (.take 11 (.take 12 (.force 13 (.take 14 (.take 15 .fin))))))))))))))))), (11, (.take 0 (.take 1 (.take 2 (.take 3 (.take 4 (.take 5 (.take 6 (.take 7 (.take 8 (.take 9 (.take 10 (.take 11 (.take 12 (.take 13 (.take 14 (.force 15 (.take 16 (.last 17))))))))))))))))))), (16, (.take 0 (.take 1 (.take 2 (.take 3 (.take 4 (.take 5 (.take 6 (.take 7 (.take 8 (.force 9 (.take 10 .fin)))))))))))), (17, (.take 0 (.take 1 (.take 2 (.take 3 (.take 4 (.take 5 (.take 6 (.take 7 (.take 8 (.take 9 (.take 10 (.take 11 (.take 12 (.take 13 (.take 14 (.force 15 (.take 16 (.last 17))))))))))))))))))), (22, (.take 0 (.take 1 (.take 2 (.take 3 (.take 4 (.take 5 (.take 6 (.take 7 (.take 8 (.force 9 (.take 10 .fin)))))))))))), (23, (.take 0 (.take 1 (.take 2 (.take 3 (.take 4 (.take 5 (.take 6 (.take 7 (.take 8 (.take 9 (.take 10 (.take 11 (.take 12 (.take 13 (.take 14 (.force 15 (.take 16 (.last 17)))))))))))))))))))], vars := [6, 7, 8, 9, 10] }) (args := [a0, a1, a2]) mixed Tryd.func71 (by kernel_rfl) (by kernel_rfl) (by kernel_rfl) h

-- cmp.Less[string]
def F.cmp_Less_string (k : Value → World → Prop) (a0 a1 : Value) (w : World) : Prop :=
  mv (.bool false) fun t4 =>
  mv a0 fun t5 =>
  C Tryd.prog N.cmp_isNaN_string #[t5] w fun t6 w =>
  mv t6 fun t7 =>
  gd t7 true (fun k1 => mv a1 fun v => k1 v w) w fun t8 w =>
  gd t7 true (fun k2 => C Tryd.prog N.cmp_isNaN_string #[t8] w k2) w fun t9 w =>
  gd t7 true (fun k3 => o1 Tryd.prog (Op.unary .not t9) w k3) w fun t10 w =>
  pk t7 t10 (.bool false) fun t11 =>
  mv t11 fun t12 =>
  gd t12 false (fun k4 => mv a0 fun v => k4 v w) w fun t13 w =>
  gd t12 false (fun k5 => mv a1 fun v => k5 v w) w fun t14 w =>
  gd t12 false (fun k6 => o1 Tryd.prog (bin .lss 9 (.tmp 13) (.tmp 14) t13 t14) w k6) w fun t15 w =>
  pk t12 (.bool true) t15 fun t16 =>
  mv t16 fun t4_1 =>
  k t4_1 w
theorem C.cmp_Less_string {k : Value → World → Prop} {a0 a1 : Value} {w : World} (h : F.cmp_Less_string k a0 a1 w) : C Tryd.prog N.cmp_Less_string #[a0, a1] w k :=
  den_calls (H := { moves := [], vars := [4] }) (args := [a0, a1]) mixed Tryd.func72 (by kernel_rfl) (by kernel_rfl) (by kernel_rfl) h

-- slices.partitionEqualOrdered[string]
def F.slices_partitionEqualOrdered_string (k : Value → World → Prop) (a0 a1 a2 a3 : Value) (w : World) : Prop :=
  mv (.int .i64 0) fun t8 =>
  dr w.drew fun S1 =>
  mv a0 fun t11 =>
  mv a1 fun t12 =>
  mv a0 fun t13 =>
  mv a3 fun t14 =>
  mv a0 fun t15 =>
  mv a3 fun t16 =>
  tk Tryd.prog S1 (Instr.indexAt 48 t15 t16) fun t17 =>
  tk Tryd.prog S1 (Instr.loadAt 9 t17) fun t18 =>
  mv a0 fun t19 =>
  mv a1 fun t20 =>
  tk Tryd.prog S1 (Instr.indexAt 48 t19 t20) fun t21 =>
  tk Tryd.prog S1 (Instr.loadAt 9 t21) fun t22 =>
  tk Tryd.prog S1 (Instr.indexAt 48 t11 t12) fun t23 =>
  o0 Tryd.prog (Instr.storeAt 9 t23 t18) w.drew fun _ w =>
  S1 w ∧
  tk Tryd.prog S1 (Instr.indexAt 48 t13 t14) fun t24 =>
  o0 Tryd.prog (Instr.storeAt 9 t24 t22) w fun _ w =>
  mv a1 fun t25 =>
  o1 Tryd.prog (bin .add 3 (.tmp 25) (.const (.int .i64 1)) t25 (.int .i64 1)) w fun t26 w =>
  mv a2 fun t27 =>
  o1 Tryd.prog (bin .sub 3 (.tmp 27) (.const (.int .i64 1)) t27 (.int .i64 1)) w fun t28 w =>
  mv t26 fun t9 =>
  mv t28 fun t10 =>
  lp [t9, t10] w fun I1 μ1 => ∀ (x1 : Env) (w1 : World), I1 [x1 9, x1 10] w1 →
  lp [(x1 9)] w1 fun I2 μ2 => ∀ (x2 : Env) (w2 : World), I2 [x2 9] w2 →
  dr w2.drew fun S2 =>
  mv (x2 9) fun t29 =>
  mv (x1 10) fun t30 =>
  tk Tryd.prog S2 (bin .leq 3 (.tmp 29) (.tmp 30) t29 t30) fun t31 =>
  mv t31 fun t32 =>
  gdT t32 true (fun k1 => mv a0 k1) fun t33 =>
  gdT t32 true (fun k2 => mv a1 k2) fun t34 =>
  gdT t32 true (fun k3 => tk Tryd.prog S2 (Instr.indexAt 48 t33 t34) k3) fun t35 =>
  gdT t32 true (fun k4 => tk Tryd.prog S2 (Instr.loadAt 9 t35) k4) fun t36 =>
  gdT t32 true (fun k5 => mv a0 k5) fun t37 =>
  gdT t32 true (fun k6 => mv (x2 9) k6) fun t38 =>
  gdT t32 true (fun k7 => tk Tryd.prog S2 (Instr.indexAt 48 t37 t38) k7) fun t39 =>
  gdT t32 true (fun k8 => tk Tryd.prog S2 (Instr.loadAt 9 t39) k8) fun t40 =>
  gd t32 true (fun k9 => C Tryd.prog N.cmp_Less_string #[t36, t40] w2.drew k9) w2.drew fun t41 w =>
  S2 w ∧
  gdT t32 true (fun k10 => tk Tryd.prog S2 (Op.unary .not t41) k10) fun t42 =>
  pk t32 t42 (.bool false) fun t43 =>
  br t43 (fun _ =>
  mv (x2 9) fun t44 =>
  o1 Tryd.prog (bin .add 3 (.tmp 44) (.const (.int .i64 1)) t44 (.int .i64 1)) w fun t45 w =>
  mv t45 fun t9_1 =>
  I2 [t9_1] w ∧ μ2 [t9_1] w < μ2 [x2 9] w2) (fun _ =>
  lp [(x1 10)] w fun I3 μ3 => ∀ (x3 : Env) (w3 : World), I3 [x3 10] w3 →
  dr w3.drew fun S3 =>
  mv (x2 9) fun t46 =>
  mv (x3 10) fun t47 =>
  tk Tryd.prog S3 (bin .leq 3 (.tmp 46) (.tmp 47) t46 t47) fun t48 =>
  mv t48 fun t49 =>
  gdT t49 true (fun k11 => mv a0 k11) fun t50 =>
  gdT t49 true (fun k12 => mv a1 k12) fun t51 =>
  gdT t49 true (fun k13 => tk Tryd.prog S3 (Instr.indexAt 48 t50 t51) k13) fun t52 =>
  gdT t49 true (fun k14 => tk Tryd.prog S3 (Instr.loadAt 9 t52) k14) fun t53 =>
  gdT t49 true (fun k15 => mv a0 k15) fun t54 =>
  gdT t49 true (fun k16 => mv (x3 10) k16) fun t55 =>
  gdT t49 true (fun k17 => tk Tryd.prog S3 (Instr.indexAt 48 t54 t55) k17) fun t56 =>
  gdT t49 true (fun k18 => tk Tryd.prog S3 (Instr.loadAt 9 t56) k18) fun t57 =>
  gd t49 true (fun k19 => C Tryd.prog N.cmp_Less_string #[t53, t57] w3.drew k19) w3.drew fun t58 w =>
  S3 w ∧
  pk t49 t58 (.bool false) fun t59 =>
  br t59 (fun _ =>
  mv (x3 10) fun t60 =>
  o1 Tryd.prog (bin .sub 3 (.tmp 60) (.const (.int .i64 1)) t60 (.int .i64 1)) w fun t61 w =>
  mv t61 fun t10_1 =>
  I3 [t10_1] w ∧ μ3 [t10_1] w < μ3 [x3 10] w3) (fun _ =>
  mv (x2 9) fun t62 =>
  mv (x3 10) fun t63 =>
  o1 Tryd.prog (bin .gtr 3 (.tmp 62) (.tmp 63) t62 t63) w fun t64 w =>
  br t64 (fun _ =>
  mv (x2 9) fun t83 =>
  mv t83 fun t8_1 =>
  k t8_1 w) (fun _ =>
  dr w.drew fun S4 =>
  mv a0 fun t65 =>
  mv (x2 9) fun t66 =>
  mv a0 fun t67 =>
  mv (x3 10) fun t68 =>
  mv a0 fun t69 =>
  mv (x3 10) fun t70 =>
  tk Tryd.prog S4 (Instr.indexAt 48 t69 t70) fun t71 =>
  tk Tryd.prog S4 (Instr.loadAt 9 t71) fun t72 =>
  mv a0 fun t73 =>
  mv (x2 9) fun t74 =>
  tk Tryd.prog S4 (Instr.indexAt 48 t73 t74) fun t75 =>
  tk Tryd.prog S4 (Instr.loadAt 9 t75) fun t76 =>
  tk Tryd.prog S4 (Instr.indexAt 48 t65 t66) fun t77 =>
  o0 Tryd.prog (Instr.storeAt 9 t77 t72) w.drew fun _ w =>
  S4 w ∧
  tk Tryd.prog S4 (Instr.indexAt 48 t67 t68) fun t78 =>
  o0 Tryd.prog (Instr.storeAt 9 t78 t76) w fun _ w =>
  mv (x2 9) fun t79 =>
  o1 Tryd.prog (bin .add 3 (.tmp 79) (.const (.int .i64 1)) t79 (.int .i64 1)) w fun t80 w =>
  mv t80 fun t9_2 =>
  mv (x3 10) fun t81 =>
  o1 Tryd.prog (bin .sub 3 (.tmp 81) (.const (.int .i64 1)) t81 (.int .i64 1)) w fun t82 w =>
  mv t82 fun t10_2 =>
  I1 [t9_2, t10_2] w ∧ μ1 [t9_2, t10_2] w < μ1 [x1 9, x1 10] w1)))
theorem C.slices_partitionEqualOrdered_string {k : Value → World → Prop} {a0 a1 a2 a3 : Value} {w : World} (h : F.slices_partitionEqualOrdered_string k a0 a1 a2 a3 w) : C Tryd.prog N.slices_partitionEqualOrdered_string #[a0, a1, a2, a3] w k :=
  den_calls (H := { moves := [(1, (.take 0 (.take 1 (.take 2 (.take 3 (.take 4 (.take 5 (.take 6 (.take 7 (.take 8 (.take 9 (.take 10 (.take 11 (.take 12 (.force 13 (.take 14 (.last 15))))))))))))))))), (3, (.take 0 (.take 1 (.take 2 (.take 3 (.take 4 (.take 5 (.take 6 (.take 7 (.take 8 (.take 9 (.take 10 (.take 11 (.force 12 (.take 13 (.take 14 .fin)))))))))))))))), (5, (.take 0 (.take 1 (.take 2 (.take 3 (.take 4 (.take 5 (.take 6 (.take 7 (.take 8 (.take 9 (.take 10 (.take 11 (.force 12 (.take 13 .fin))))))))))))))), (8, (.take 0 (.take 1 (.take 2 (.take 3 (.take 4 (.take 5 (.take 6 (.take 7 (.take 8 (.take 9 (.take 10 (.take 11 (.take 12 (.force 13 (.take 14 (.last 15)))))))))))))))))], vars := [8, 9, 10] }) (args := [a0, a1, a2, a3]) mixed Tryd.func73 (by kernel_rfl) (by kernel_rfl) (by kernel_rfl) h

-- slices.partitionOrdered[string]
def F.slices_partitionOrdered_string (k : Value → World → Prop) (a0 a1 a2 a3 : Value) (w : World) : Prop :=
  mv (.int .i64 0) fun t8 =>
  mv (.bool false) fun t9 =>
  dr w.drew fun S1 =>
  mv a0 fun t12 =>
  mv a1 fun t13 =>
  mv a0 fun t14 =>
  mv a3 fun t15 =>
  mv a0 fun t16 =>
  mv a3 fun t17 =>
  tk Tryd.prog S1 (Instr.indexAt 48 t16 t17) fun t18 =>
  tk Tryd.prog S1 (Instr.loadAt 9 t18) fun t19 =>
  mv a0 fun t20 =>
  mv a1 fun t21 =>
  tk Tryd.prog S1 (Instr.indexAt 48 t20 t21) fun t22 =>
  tk Tryd.prog S1 (Instr.loadAt 9 t22) fun t23 =>
  tk Tryd.prog S1 (Instr.indexAt 48 t12 t13) fun t24 =>
  o0 Tryd.prog (Instr.storeAt 9 t24 t19) w.drew fun _ w =>
  S1 w ∧
  tk Tryd.prog S1 (Instr.indexAt 48 t14 t15) fun t25 =>
  o0 Tryd.prog (Instr.storeAt 9 t25 t23) w fun _ w =>
  mv a1 fun t26 =>
  o1 Tryd.prog (bin .add 3 (.tmp 26) (.const (.int .i64 1)) t26 (.int .i64 1)) w fun t27 w =>
  mv a2 fun t28 =>
  o1 Tryd.prog (bin .sub 3 (.tmp 28) (.const (.int .i64 1)) t28 (.int .i64 1)) w fun t29 w =>
  mv t27 fun t10 =>
  mv t29 fun t11 =>
  lp [t10] w fun I1 μ1 => ∀ (x1 : Env) (w1 : World), I1 [x1 10] w1 →
  dr w1.drew fun S2 =>
  mv (x1 10) fun t30 =>
  mv t11 fun t31 =>
  tk Tryd.prog S2 (bin .leq 3 (.tmp 30) (.tmp 31) t30 t31) fun t32 =>
  mv t32 fun t33 =>
  gdT t33 true (fun k1 => mv a0 k1) fun t34 =>
  gdT t33 true (fun k2 => mv (x1 10) k2) fun t35 =>
  gdT t33 true (fun k3 => tk Tryd.prog S2 (Instr.indexAt 48 t34 t35) k3) fun t36 =>
  gdT t33 true (fun k4 => tk Tryd.prog S2 (Instr.loadAt 9 t36) k4) fun t37 =>
  gdT t33 true (fun k5 => mv a0 k5) fun t38 =>
  gdT t33 true (fun k6 => mv a1 k6) fun t39 =>
  gdT t33 true (fun k7 => tk Tryd.prog S2 (Instr.indexAt 48 t38 t39) k7) fun t40 =>
  gdT t33 true (fun k8 => tk Tryd.prog S2 (Instr.loadAt 9 t40) k8) fun t41 =>
  gd t33 true (fun k9 => C Tryd.prog N.cmp_Less_string #[t37, t41] w1.drew k9) w1.drew fun t42 w =>
  S2 w ∧
  pk t33 t42 (.bool false) fun t43 =>
  br t43 (fun _ =>
  mv (x1 10) fun t44 =>
  o1 Tryd.prog (bin .add 3 (.tmp 44) (.const (.int .i64 1)) t44 (.int .i64 1)) w fun t45 w =>
  mv t45 fun t10_1 =>
  I1 [t10_1] w ∧ μ1 [t10_1] w < μ1 [x1 10] w1) (fun _ =>
  lp [t11] w fun I2 μ2 => ∀ (x2 : Env) (w2 : World), I2 [x2 11] w2 →
  dr w2.drew fun S3 =>
  mv (x1 10) fun t46 =>
  mv (x2 11) fun t47 =>
  tk Tryd.prog S3 (bin .leq 3 (.tmp 46) (.tmp 47) t46 t47) fun t48 =>
  mv t48 fun t49 =>
  gdT t49 true (fun k10 => mv a0 k10) fun t50 =>
  gdT t49 true (fun k11 => mv (x2 11) k11) fun t51 =>
  gdT t49 true (fun k12 => tk Tryd.prog S3 (Instr.indexAt 48 t50 t51) k12) fun t52 =>
  gdT t49 true (fun k13 => tk Tryd.prog S3 (Instr.loadAt 9 t52) k13) fun t53 =>
  gdT t49 true (fun k14 => mv a0 k14) fun t54 =>
  gdT t49 true (fun k15 => mv a1 k15) fun t55 =>
  gdT t49 true (fun k16 => tk Tryd.prog S3 (Instr.indexAt 48 t54 t55) k16) fun t56 =>
  gdT t49 true (fun k17 => tk Tryd.prog S3 (Instr.loadAt 9 t56) k17) fun t57 =>
  gd t49 true (fun k18 => C Tryd.prog N.cmp_Less_string #[t53, t57] w2.drew k18) w2.drew fun t58 w =>
  S3 w ∧
  gdT t49 true (fun k19 => tk Tryd.prog S3 (Op.unary .not t58) k19) fun t59 =>
  pk t49 t59 (.bool false) fun t60 =>
  br t60 (fun _ =>
  mv (x2 11) fun t61 =>
  o1 Tryd.prog (bin .sub 3 (.tmp 61) (.const (.int .i64 1)) t61 (.int .i64 1)) w fun t62 w =>
  mv t62 fun t11_1 =>
  I2 [t11_1] w ∧ μ2 [t11_1] w < μ2 [x2 11] w2) (fun _ =>
  mv (x1 10) fun t63 =>
  mv (x2 11) fun t64 =>
  o1 Tryd.prog (bin .gtr 3 (.tmp 63) (.tmp 64) t63 t64) w fun t65 w =>
  br t65 (fun _ =>
  dr w.drew fun S4 =>
  mv a0 fun t66 =>
  mv (x2 11) fun t67 =>
  mv a0 fun t68 =>
  mv a1 fun t69 =>
  mv a0 fun t70 =>
  mv a1 fun t71 =>
  tk Tryd.prog S4 (Instr.indexAt 48 t70 t71) fun t72 =>
  tk Tryd.prog S4 (Instr.loadAt 9 t72) fun t73 =>
  mv a0 fun t74 =>
  mv (x2 11) fun t75 =>
  tk Tryd.prog S4 (Instr.indexAt 48 t74 t75) fun t76 =>
  tk Tryd.prog S4 (Instr.loadAt 9 t76) fun t77 =>
  tk Tryd.prog S4 (Instr.indexAt 48 t66 t67) fun t78 =>
  o0 Tryd.prog (Instr.storeAt 9 t78 t73) w.drew fun _ w =>
  S4 w ∧
  tk Tryd.prog S4 (Instr.indexAt 48 t68 t69) fun t79 =>
  o0 Tryd.prog (Instr.storeAt 9 t79 t77) w fun _ w =>
  mv (x2 11) fun t80 =>
  mv t80 fun t8_1 =>
  mv (.bool true) fun t9_1 =>
  k (.tuple #[t8_1, t9_1]) w) (fun _ =>
  dr w.drew fun S5 =>
  mv a0 fun t81 =>
  mv (x1 10) fun t82 =>
  mv a0 fun t83 =>
  mv (x2 11) fun t84 =>
  mv a0 fun t85 =>
  mv (x2 11) fun t86 =>
  tk Tryd.prog S5 (Instr.indexAt 48 t85 t86) fun t87 =>
  tk Tryd.prog S5 (Instr.loadAt 9 t87) fun t88 =>
  mv a0 fun t89 =>
  mv (x1 10) fun t90 =>
  tk Tryd.prog S5 (Instr.indexAt 48 t89 t90) fun t91 =>
  tk Tryd.prog S5 (Instr.loadAt 9 t91) fun t92 =>
  tk Tryd.prog S5 (Instr.indexAt 48 t81 t82) fun t93 =>
  o0 Tryd.prog (Instr.storeAt 9 t93 t88) w.drew fun _ w =>
  S5 w ∧
  tk Tryd.prog S5 (Instr.indexAt 48 t83 t84) fun t94 =>
  o0 Tryd.prog (Instr.storeAt 9 t94 t92) w fun _ w =>
  mv (x1 10) fun t95 =>
  o1 Tryd.prog (bin .add 3 (.tmp 95) (.const (.int .i64 1)) t95 (.int .i64 1)) w fun t96 w =>
  mv t96 fun t10_2 =>
  mv (x2 11) fun t97 =>
  o1 Tryd.prog (bin .sub 3 (.tmp 97) (.const (.int .i64 1)) t97 (.int .i64 1)) w fun t98 w =>
  mv t98 fun t11_2 =>
  lp [t10_2, t11_2] w fun I3 μ3 => ∀ (x3 : Env) (w3 : World), I3 [x3 10, x3 11] w3 →
  lp [(x3 10)] w3 fun I4 μ4 => ∀ (x4 : Env) (w4 : World), I4 [x4 10] w4 →
  dr w4.drew fun S6 =>
  mv (x4 10) fun t99 =>
  mv (x3 11) fun t100 =>
  tk Tryd.prog S6 (bin .leq 3 (.tmp 99) (.tmp 100) t99 t100) fun t101 =>
  mv t101 fun t102 =>
  gdT t102 true (fun k20 => mv a0 k20) fun t103 =>
  gdT t102 true (fun k21 => mv (x4 10) k21) fun t104 =>
  gdT t102 true (fun k22 => tk Tryd.prog S6 (Instr.indexAt 48 t103 t104) k22) fun t105 =>
  gdT t102 true (fun k23 => tk Tryd.prog S6 (Instr.loadAt 9 t105) k23) fun t106 =>
  gdT t102 true (fun k24 => mv a0 k24) fun t107 =>
  gdT t102 true (fun k25 => mv a1 k25) fun t108 =>
  gdT t102 true (fun k26 => tk Tryd.prog S6 (Instr.indexAt 48 t107 t108) k26) fun t109 =>
  gdT t102 true (fun k27 => tk Tryd.prog S6 (Instr.loadAt 9 t109) k27) fun t110 =>
  gd t102 true (fun k28 => C Tryd.prog N.cmp_Less_string #[t106, t110] w4.drew k28) w4.drew fun t111 w =>
  S6 w ∧
  pk t102 t111 (.bool false) fun t112 =>
  br t112 (fun _ =>
  mv (x4 10) fun t113 =>
  o1 Tryd.prog (bin .add 3 (.tmp 113) (.const (.int .i64 1)) t113 (.int .i64 1)) w fun t114 w =>
  mv t114 fun t10_3 =>
  I4 [t10_3] w ∧ μ4 [t10_3] w < μ4 [x4 10] w4) (fun _ =>
  lp [(x3 11)] w fun I5 μ5 => ∀ (x5 : Env) (w5 : World), I5 [x5 11] w5 →
  dr w5.drew fun S7 =>
  mv (x4 10) fun t115 =>
  mv (x5 11) fun t116 =>
  tk Tryd.prog S7 (bin .leq 3 (.tmp 115) (.tmp 116) t115 t116) fun t117 =>
  mv t117 fun t118 =>
  gdT t118 true (fun k29 => mv a0 k29) fun t119 =>
  gdT t118 true (fun k30 => mv (x5 11) k30) fun t120 =>
  gdT t118 true (fun k31 => tk Tryd.prog S7 (Instr.indexAt 48 t119 t120) k31) fun t121 =>
  gdT t118 true (fun k32 => tk Tryd.prog S7 (Instr.loadAt 9 t121) k32) fun t122 =>
  gdT t118 true (fun k33 => mv a0 k33) fun t123 =>
  gdT t118 true (fun k34 => mv a1 k34) fun t124 =>
  gdT t118 true (fun k35 => tk Tryd.prog S7 (Instr.indexAt 48 t123 t124) k35) fun t125 =>
  gdT t118 true (fun k36 => tk Tryd.prog S7 (Instr.loadAt 9 t125) k36) fun t126 =>
  gd t118 true (fun k37 => C Tryd.prog N.cmp_Less_string #[t122, t126] w5.drew k37) w5.drew fun t127 w =>
  S7 w ∧
  gdT t118 true (fun k38 => tk Tryd.prog S7 (Op.unary .not t127) k38) fun t128 =>
  pk t118 t128 (.bool false) fun t129 =>
  br t129 (fun _ =>
  mv (x5 11) fun t130 =>
  o1 Tryd.prog (bin .sub 3 (.tmp 130) (.const (.int .i64 1)) t130 (.int .i64 1)) w fun t131 w =>
  mv t131 fun t11_3 =>
  I5 [t11_3] w ∧ μ5 [t11_3] w < μ5 [x5 11] w5) (fun _ =>
  mv (x4 10) fun t132 =>
  mv (x5 11) fun t133 =>
  o1 Tryd.prog (bin .gtr 3 (.tmp 132) (.tmp 133) t132 t133) w fun t134 w =>
  br t134 (fun _ =>
  dr w.drew fun S8 =>
  mv a0 fun t153 =>
  mv (x5 11) fun t154 =>
  mv a0 fun t155 =>
  mv a1 fun t156 =>
  mv a0 fun t157 =>
  mv a1 fun t158 =>
  tk Tryd.prog S8 (Instr.indexAt 48 t157 t158) fun t159 =>
  tk Tryd.prog S8 (Instr.loadAt 9 t159) fun t160 =>
  mv a0 fun t161 =>
  mv (x5 11) fun t162 =>
  tk Tryd.prog S8 (Instr.indexAt 48 t161 t162) fun t163 =>
  tk Tryd.prog S8 (Instr.loadAt 9 t163) fun t164 =>
  tk Tryd.prog S8 (Instr.indexAt 48 t153 t154) fun t165 =>
  o0 Tryd.prog (Instr.storeAt 9 t165 t160) w.drew fun _ w =>
  S8 w ∧
  tk Tryd.prog S8 (Instr.indexAt 48 t155 t156) fun t166 =>
  o0 Tryd.prog (Instr.storeAt 9 t166 t164) w fun _ w =>
  mv (x5 11) fun t167 =>
  mv t167 fun t8_2 =>
  mv (.bool false) fun t9_2 =>
  k (.tuple #[t8_2, t9_2]) w) (fun _ =>
  dr w.drew fun S9 =>
  mv a0 fun t135 =>
  mv (x4 10) fun t136 =>
  mv a0 fun t137 =>
  mv (x5 11) fun t138 =>
  mv a0 fun t139 =>
  mv (x5 11) fun t140 =>
  tk Tryd.prog S9 (Instr.indexAt 48 t139 t140) fun t141 =>
  tk Tryd.prog S9 (Instr.loadAt 9 t141) fun t142 =>
  mv a0 fun t143 =>
  mv (x4 10) fun t144 =>
  tk Tryd.prog S9 (Instr.indexAt 48 t143 t144) fun t145 =>
  tk Tryd.prog S9 (Instr.loadAt 9 t145) fun t146 =>
  tk Tryd.prog S9 (Instr.indexAt 48 t135 t136) fun t147 =>
  o0 Tryd.prog (Instr.storeAt 9 t147 t142) w.drew fun _ w =>
  S9 w ∧
  tk Tryd.prog S9 (Instr.indexAt 48 t137 t138) fun t148 =>
  o0 Tryd.prog (Instr.storeAt 9 t148 t146) w fun _ w =>
  mv (x4 10) fun t149 =>
  o1 Tryd.prog (bin .add 3 (.tmp 149) (.const (.int .i64 1)) t149 (.int .i64 1)) w fun t150 w =>
  mv t150 fun t10_4 =>
  mv (x5 11) fun t151 =>
  o1 Tryd.prog (bin .sub 3 (.tmp 151) (.const (.int .i64 1)) t151 (.int .i64 1)) w fun t152 w =>
  mv t152 fun t11_4 =>
  I3 [t10_4, t11_4] w ∧ μ3 [t10_4, t11_4] w < μ3 [x3 10, x3 11] w3))))))
theorem C.slices_partitionOrdered_string {k : Value → World → Prop} {a0 a1 a2 a3 : Value} {w : World} (h : F.slices_partitionOrdered_string k a0 a1 a2 a3 w) : C Tryd.prog N.slices_partitionOrdered_string #[a0, a1, a2, a3] w k :=
  den_calls (H := { moves := [(1, (.take 0 (.take 1 (.take 2 (.take 3 (.take 4 (.take 5 (.take 6 (.take 7 (.take 8 (.take 9 (.take 10 (.take 11 (.take 12 (.force 13 (.take 14 (.last 15))))))))))))))))), (3, (.take 0 (.take 1 (.take 2 (.take 3 (.take 4 (.take 5 (.take 6 (.take 7 (.take 8 (.take 9 (.take 10 (.take 11 (.force 12 (.take 13 .fin))))))))))))))), (5, (.take 0 (.take 1 (.take 2 (.take 3 (.take 4 (.take 5 (.take 6 (.take 7 (.take 8 (.take 9 (.take 10 (.take 11 (.force 12 (.take 13 (.take 14 .fin)))))))))))))))), (8, (.take 0 (.take 1 (.take 2 (.take 3 (.take 4 (.take 5 (.take 6 (.take 7 (.take 8 (.take 9 (.take 10 (.take 11 (.take 12 (.force 13 (.take 14 (.last 15))))))))))))))))), (10, (.take 0 (.take 1 (.take 2 (.take 3 (.take 4 (.take 5 (.take 6 (.take 7 (.take 8 (.take 9 (.take 10 (.take 11 (.take 12 (.force 13 (.take 14 (.last 15))))))))))))))))), (13, (.take 0 (.take 1 (.take 2 (.take 3 (.take 4 (.take 5 (.take 6 (.take 7 (.take 8 (.take 9 (.take 10 (.take 11 (.force 12 (.take 13 .fin))))))))))))))), (15, (.take 0 (.take 1 (.take 2 (.take 3 (.take 4 (.take 5 (.take 6 (.take 7 (.take 8 (.take 9 (.take 10 (.take 11 (.force 12 (.take 13 (.take 14 .fin)))))))))))))))), (18, (.take 0 (.take 1 (.take 2 (.take 3 (.take 4 (.take 5 (.take 6 (.take 7 (.take 8 (.take 9 (.take 10 (.take 11 (.take 12 (.force 13 (.take 14 (.last 15))))))))))))))))), (21, (.take 0 (.take 1 (.take 2 (.take 3 (.take 4 (.take 5 (.take 6 (.take 7 (.take 8 (.take 9 (.take 10 (.take 11 (.take 12 (.force 13 (.take 14 (.last 15)))))))))))))))))], vars := [8, 9, 10, 11] }) (args := [a0, a1, a2, a3]) mixed Tryd.func74 (by kernel_rfl) (by kernel_rfl) (by kernel_rfl) h

-- math/bits.Len32
def F.math_bits_Len32 (k : Value → World → Prop) (a0 : Value) (w : World) : Prop :=
  mv (.int .i64 0) fun t2 =>
  mv a0 fun t3 =>
  o1 Tryd.prog (bin .geq 139 (.tmp 3) (.const (.int .u32 65536)) t3 (.int .u32 65536)) w fun t4 w =>
  jn (fun x1 => [x1 0, x1 2]) (fun k1 =>
  br t4 (fun _ =>
  mv a0 fun t5 =>
  o1 Tryd.prog (bin .shr 139 (.tmp 5) (.const (.int .u64 16)) t5 (.int .u64 16)) w fun t6 w =>
  mv t6 fun t0 =>
  mv (.int .i64 16) fun t2_1 =>
  k1 [t0, t2_1] w) (fun _ =>
  k1 [a0, t2] w)) fun x1 w =>
  mv (x1 0) fun t7 =>
  o1 Tryd.prog (bin .geq 139 (.tmp 7) (.const (.int .u32 256)) t7 (.int .u32 256)) w fun t8 w =>
  jn (fun x2 => [x2 0, x2 2]) (fun k2 =>
  br t8 (fun _ =>
  mv (x1 0) fun t9 =>
  o1 Tryd.prog (bin .shr 139 (.tmp 9) (.const (.int .u64 8)) t9 (.int .u64 8)) w fun t10 w =>
  mv t10 fun t0_1 =>
  mv (x1 2) fun t11 =>
  o1 Tryd.prog (bin .add 3 (.tmp 11) (.const (.int .i64 8)) t11 (.int .i64 8)) w fun t12 w =>
  mv t12 fun t2_2 =>
  k2 [t0_1, t2_2] w) (fun _ =>
  k2 [(x1 0), (x1 2)] w)) fun x2 w =>
  mv (x2 2) fun t13 =>
  mv (x2 0) fun t14 =>
  o1 Tryd.prog (convert 139 5 t14) w fun t15 w =>
  o1 Tryd.prog (Instr.index 9 (.string ⟨#[0, 1, 2, 2, 3, 3, 3, 3, 4, 4, 4, 4, 4, 4, 4, 4, 5, 5, 5, 5, 5, 5, 5, 5, 5, 5, 5, 5, 5, 5, 5, 5, 6, 6, 6, 6, 6, 6, 6, 6, 6, 6, 6, 6, 6, 6, 6, 6, 6, 6, 6, 6, 6, 6, 6, 6, 6, 6, 6, 6, 6, 6, 6, 6, 7, 7, 7, 7, 7, 7, 7, 7, 7, 7, 7, 7, 7, 7, 7, 7, 7, 7, 7, 7, 7, 7, 7, 7, 7, 7, 7, 7, 7, 7, 7, 7, 7, 7, 7, 7, 7, 7, 7, 7, 7, 7, 7, 7, 7, 7, 7, 7, 7, 7, 7, 7, 7, 7, 7, 7, 7, 7, 7, 7, 7, 7, 7, 7, 8, 8, 8, 8, 8, 8, 8, 8, 8, 8, 8, 8, 8, 8, 8, 8, 8, 8, 8, 8, 8, 8, 8, 8, 8, 8, 8, 8, 8, 8, 8, 8, 8, 8, 8, 8, 8, 8, 8, 8, 8, 8, 8, 8, 8, 8, 8, 8, 8, 8, 8, 8, 8, 8, 8, 8, 8, 8, 8, 8, 8, 8, 8, 8, 8, 8, 8, 8, 8, 8, 8, 8, 8, 8, 8, 8, 8, 8, 8, 8, 8, 8, 8, 8, 8, 8, 8, 8, 8, 8, 8, 8, 8, 8, 8, 8, 8, 8, 8, 8, 8, 8, 8, 8, 8, 8, 8, 8, 8, 8, 8, 8, 8, 8, 8, 8, 8, 8, 8, 8, 8, 8, 8, 8, 8, 8, 8, 8]⟩) t15) w fun t16 w =>
  o1 Tryd.prog (convert 5 3 t16) w fun t17 w =>
  o1 Tryd.prog (bin .add 3 (.tmp 13) (.tmp 17) t13 t17) w fun t18 w =>
  mv t18 fun t2_3 =>
  k t2_3 w
theorem C.math_bits_Len32 {k : Value → World → Prop} {a0 : Value} {w : World} (h : F.math_bits_Len32 k a0 w) : C Tryd.prog N.math_bits_Len32 #[a0] w k :=
  den_calls (H := { moves := [], vars := [0, 2] }) (args := [a0]) mixed Tryd.func75 (by kernel_rfl) (by kernel_rfl) (by kernel_rfl) h

-- math/bits.Len64
def F.math_bits_Len64 (k : Value → World → Prop) (a0 : Value) (w : World) : Prop :=
  mv (.int .i64 0) fun t2 =>
  mv a0 fun t3 =>
  o1 Tryd.prog (bin .geq 141 (.tmp 3) (.const (.int .u64 4294967296)) t3 (.int .u64 4294967296)) w fun t4 w =>
  jn (fun x1 => [x1 0, x1 2]) (fun k1 =>
  br t4 (fun _ =>
  mv a0 fun t5 =>
  o1 Tryd.prog (bin .shr 141 (.tmp 5) (.const (.int .u64 32)) t5 (.int .u64 32)) w fun t6 w =>
  mv t6 fun t0 =>
  mv (.int .i64 32) fun t2_1 =>
  k1 [t0, t2_1] w) (fun _ =>
  k1 [a0, t2] w)) fun x1 w =>
  mv (x1 0) fun t7 =>
  o1 Tryd.prog (bin .geq 141 (.tmp 7) (.const (.int .u64 65536)) t7 (.int .u64 65536)) w fun t8 w =>
  jn (fun x2 => [x2 0, x2 2]) (fun k2 =>
  br t8 (fun _ =>
  mv (x1 0) fun t9 =>
  o1 Tryd.prog (bin .shr 141 (.tmp 9) (.const (.int .u64 16)) t9 (.int .u64 16)) w fun t10 w =>
  mv t10 fun t0_1 =>
  mv (x1 2) fun t11 =>
  o1 Tryd.prog (bin .add 3 (.tmp 11) (.const (.int .i64 16)) t11 (.int .i64 16)) w fun t12 w =>
  mv t12 fun t2_2 =>
  k2 [t0_1, t2_2] w) (fun _ =>
  k2 [(x1 0), (x1 2)] w)) fun x2 w =>
  mv (x2 0) fun t13 =>
  o1 Tryd.prog (bin .geq 141 (.tmp 13) (.const (.int .u64 256)) t13 (.int .u64 256)) w fun t14 w =>
  jn (fun x3 => [x3 0, x3 2]) (fun k3 =>
  br t14 (fun _ =>
  mv (x2 0) fun t15 =>
  o1 Tryd.prog (bin .shr 141 (.tmp 15) (.const (.int .u64 8)) t15 (.int .u64 8)) w fun t16 w =>
  mv t16 fun t0_2 =>
  mv (x2 2) fun t17 =>
  o1 Tryd.prog (bin .add 3 (.tmp 17) (.const (.int .i64 8)) t17 (.int .i64 8)) w fun t18 w =>
  mv t18 fun t2_3 =>
  k3 [t0_2, t2_3] w) (fun _ =>
  k3 [(x2 0), (x2 2)] w)) fun x3 w =>
  mv (x3 2) fun t19 =>
  mv (x3 0) fun t20 =>
  o1 Tryd.prog (convert 141 5 t20) w fun t21 w =>
  o1 Tryd.prog (Instr.index 9 (.string ⟨#[0, 1, 2, 2, 3, 3, 3, 3, 4, 4, 4, 4, 4, 4, 4, 4, 5, 5, 5, 5, 5, 5, 5, 5, 5, 5, 5, 5, 5, 5, 5, 5, 6, 6, 6, 6, 6, 6, 6, 6, 6, 6, 6, 6, 6, 6, 6, 6, 6, 6, 6, 6, 6, 6, 6, 6, 6, 6, 6, 6, 6, 6, 6, 6, 7, 7, 7, 7, 7, 7, 7, 7, 7, 7, 7, 7, 7, 7, 7, 7, 7, 7, 7, 7, 7, 7, 7, 7, 7, 7, 7, 7, 7, 7, 7, 7, 7, 7, 7, 7, 7, 7, 7, 7, 7, 7, 7, 7, 7, 7, 7, 7, 7, 7, 7, 7, 7, 7, 7, 7, 7, 7, 7, 7, 7, 7, 7, 7, 8, 8, 8, 8, 8, 8, 8, 8, 8, 8, 8, 8, 8, 8, 8, 8, 8, 8, 8, 8, 8, 8, 8, 8, 8, 8, 8, 8, 8, 8, 8, 8, 8, 8, 8, 8, 8, 8, 8, 8, 8, 8, 8, 8, 8, 8, 8, 8, 8, 8, 8, 8, 8, 8, 8, 8, 8, 8, 8, 8, 8, 8, 8, 8, 8, 8, 8, 8, 8, 8, 8, 8, 8, 8, 8, 8, 8, 8, 8, 8, 8, 8, 8, 8, 8, 8, 8, 8, 8, 8, 8, 8, 8, 8, 8, 8, 8, 8, 8, 8, 8, 8, 8, 8, 8, 8, 8, 8, 8, 8, 8, 8, 8, 8, 8, 8, 8, 8, 8, 8, 8, 8, 8, 8, 8, 8, 8, 8]⟩) t21) w fun t22 w =>
  o1 Tryd.prog (convert 5 3 t22) w fun t23 w =>
  o1 Tryd.prog (bin .add 3 (.tmp 19) (.tmp 23) t19 t23) w fun t24 w =>
  mv t24 fun t2_4 =>
  k t2_4 w
theorem C.math_bits_Len64 {k : Value → World → Prop} {a0 : Value} {w : World} (h : F.math_bits_Len64 k a0 w) : C Tryd.prog N.math_bits_Len64 #[a0] w k :=
  den_calls (H := { moves := [], vars := [0, 2] }) (args := [a0]) mixed Tryd.func76 (by kernel_rfl) (by kernel_rfl) (by kernel_rfl) h

-- slices.siftDownOrdered[string]
def F.slices_siftDownOrdered_string (k : Value → World → Prop) (a0 a1 a2 a3 : Value) (w : World) : Prop :=
  mv a1 fun t10 =>
  mv t10 fun t8 =>
  lp [t8, undef] w fun I1 μ1 => ∀ (x1 : Env) (w1 : World), I1 [x1 8, x1 9] w1 →
  mv (x1 8) fun t11 =>
  o1 Tryd.prog (bin .mul 3 (.const (.int .i64 2)) (.tmp 11) (.int .i64 2) t11) w1 fun t12 w =>
  o1 Tryd.prog (bin .add 3 (.tmp 12) (.const (.int .i64 1)) t12 (.int .i64 1)) w fun t13 w =>
  mv t13 fun t9 =>
  mv t9 fun t14 =>
  mv a2 fun t15 =>
  o1 Tryd.prog (bin .geq 3 (.tmp 14) (.tmp 15) t14 t15) w fun t16 w =>
  br t16 (fun _ =>
  k (.tuple #[]) w) (fun _ =>
  dr w.drew fun S1 =>
  mv t9 fun t17 =>
  tk Tryd.prog S1 (bin .add 3 (.tmp 17) (.const (.int .i64 1)) t17 (.int .i64 1)) fun t18 =>
  mv a2 fun t19 =>
  tk Tryd.prog S1 (bin .lss 3 (.tmp 18) (.tmp 19) t18 t19) fun t20 =>
  mv t20 fun t21 =>
  gdT t21 true (fun k1 => mv a0 k1) fun t22 =>
  gdT t21 true (fun k2 => mv a3 k2) fun t23 =>
  gdT t21 true (fun k3 => mv t9 k3) fun t24 =>
  gdT t21 true (fun k4 => tk Tryd.prog S1 (bin .add 3 (.tmp 23) (.tmp 24) t23 t24) k4) fun t25 =>
  gdT t21 true (fun k5 => tk Tryd.prog S1 (Instr.indexAt 48 t22 t25) k5) fun t26 =>
  gdT t21 true (fun k6 => tk Tryd.prog S1 (Instr.loadAt 9 t26) k6) fun t27 =>
  gdT t21 true (fun k7 => mv a0 k7) fun t28 =>
  gdT t21 true (fun k8 => mv a3 k8) fun t29 =>
  gdT t21 true (fun k9 => mv t9 k9) fun t30 =>
  gdT t21 true (fun k10 => tk Tryd.prog S1 (bin .add 3 (.tmp 29) (.tmp 30) t29 t30) k10) fun t31 =>
  gdT t21 true (fun k11 => tk Tryd.prog S1 (bin .add 3 (.tmp 31) (.const (.int .i64 1)) t31 (.int .i64 1)) k11) fun t32 =>
  gdT t21 true (fun k12 => tk Tryd.prog S1 (Instr.indexAt 48 t28 t32) k12) fun t33 =>
  gdT t21 true (fun k13 => tk Tryd.prog S1 (Instr.loadAt 9 t33) k13) fun t34 =>
  gd t21 true (fun k14 => C Tryd.prog N.cmp_Less_string #[t27, t34] w.drew k14) w.drew fun t35 w =>
  S1 w ∧
  pk t21 t35 (.bool false) fun t36 =>
  jn (fun x2 => [x2 9]) (fun k15 =>
  br t36 (fun _ =>
  mv t9 fun t37 =>
  o1 Tryd.prog (bin .add 3 (.tmp 37) (.const (.int .i64 1)) t37 (.int .i64 1)) w fun t38 w =>
  mv t38 fun t9_1 =>
  k15 [t9_1] w) (fun _ =>
  k15 [t9] w)) fun x2 w =>
  dr w.drew fun S2 =>
  mv a0 fun t39 =>
  mv a3 fun t40 =>
  mv (x1 8) fun t41 =>
  tk Tryd.prog S2 (bin .add 3 (.tmp 40) (.tmp 41) t40 t41) fun t42 =>
  tk Tryd.prog S2 (Instr.indexAt 48 t39 t42) fun t43 =>
  tk Tryd.prog S2 (Instr.loadAt 9 t43) fun t44 =>
  mv a0 fun t45 =>
  mv a3 fun t46 =>
  mv (x2 9) fun t47 =>
  tk Tryd.prog S2 (bin .add 3 (.tmp 46) (.tmp 47) t46 t47) fun t48 =>
  tk Tryd.prog S2 (Instr.indexAt 48 t45 t48) fun t49 =>
  tk Tryd.prog S2 (Instr.loadAt 9 t49) fun t50 =>
  C Tryd.prog N.cmp_Less_string #[t44, t50] w.drew fun t51 w =>
  S2 w ∧
  tk Tryd.prog S2 (Op.unary .not t51) fun t52 =>
  br t52 (fun _ =>
  k (.tuple #[]) w) (fun _ =>
  dr w.drew fun S3 =>
  mv a0 fun t53 =>
  mv a3 fun t54 =>
  mv (x1 8) fun t55 =>
  tk Tryd.prog S3 (bin .add 3 (.tmp 54) (.tmp 55) t54 t55) fun t56 =>
  mv a0 fun t57 =>
  mv a3 fun t58 =>
  mv (x2 9) fun t59 =>
  tk Tryd.prog S3 (bin .add 3 (.tmp 58) (.tmp 59) t58 t59) fun t60 =>
  mv a0 fun t61 =>
  mv a3 fun t62 =>
  mv (x2 9) fun t63 =>
  tk Tryd.prog S3 (bin .add 3 (.tmp 62) (.tmp 63) t62 t63) fun t64 =>
  tk Tryd.prog S3 (Instr.indexAt 48 t61 t64) fun t65 =>
  tk Tryd.prog S3 (Instr.loadAt 9 t65) fun t66 =>
  mv a0 fun t67 =>
  mv a3 fun t68 =>
  mv (x1 8) fun t69 =>
  tk Tryd.prog S3 (bin .add 3 (.tmp 68) (.tmp 69) t68 t69) fun t70 =>
  tk Tryd.prog S3 (Instr.indexAt 48 t67 t70) fun t71 =>
  tk Tryd.prog S3 (Instr.loadAt 9 t71) fun t72 =>
  tk Tryd.prog S3 (Instr.indexAt 48 t53 t56) fun t73 =>
  o0 Tryd.prog (Instr.storeAt 9 t73 t66) w.drew fun _ w =>
  S3 w ∧
  tk Tryd.prog S3 (Instr.indexAt 48 t57 t60) fun t74 =>
  o0 Tryd.prog (Instr.storeAt 9 t74 t72) w fun _ w =>
  mv (x2 9) fun t75 =>
  mv t75 fun t8_1 =>
  I1 [t8_1, (x2 9)] w ∧ μ1 [t8_1, (x2 9)] w < μ1 [x1 8, x1 9] w1))
theorem C.slices_siftDownOrdered_string {k : Value → World → Prop} {a0 a1 a2 a3 : Value} {w : World} (h : F.slices_siftDownOrdered_string k a0 a1 a2 a3 w) : C Tryd.prog N.slices_siftDownOrdered_string #[a0, a1, a2, a3] w k :=
  den_calls (H := { moves := [(3, (.take 0 (.take 1 (.take 2 (.take 3 (.take 4 (.take 5 (.take 6 (.take 7 (.take 8 (.take 9 (.take 10 (.take 11 (.take 12 (.take 13 (.take 14 (.take 15 (.take 16 (.take 17 (.force 18 (.take 19 .fin))))))))))))))))))))), (5, (.take 0 (.take 1 (.take 2 (.take 3 (.take 4 (.take 5 (.take 6 (.take 7 (.take 8 (.take 9 (.take 10 (.take 11 (.force 12 (.take 13 .fin))))))))))))))), (6, (.take 0 (.take 1 (.take 2 (.take 3 (.take 4 (.take 5 (.take 6 (.take 7 (.take 8 (.take 9 (.take 10 (.take 11 (.take 12 (.take 13 (.take 14 (.take 15 (.take 16 (.take 17 (.take 18 (.take 19 (.take 20 (.force 21 (.take 22 (.last 23)))))))))))))))))))))))))], vars := [8, 9] }) (args := [a0, a1, a2, a3]) mixed Tryd.func77 (by kernel_rfl) (by kernel_rfl) (by kernel_rfl) h

-- slices.nextPowerOfTwo
def F.slices_nextPowerOfTwo (k : Value → World → Prop) (a0 : Value) (w : World) : Prop :=
  mv (.int .u64 0) fun t2 =>
  mv a0 fun t3 =>
  o1 Tryd.prog (convert 3 25 t3) w fun t4 w =>
  C Tryd.prog N.math_bits_Len #[t4] w fun t5 w =>
  o1 Tryd.prog (bin .shl 25 (.const (.int .u64 1)) (.tmp 5) (.int .u64 1) t5) w fun t6 w =>
  mv t6 fun t2_1 =>
  k t2_1 w
theorem C.slices_nextPowerOfTwo {k : Value → World → Prop} {a0 : Value} {w : World} (h : F.slices_nextPowerOfTwo k a0 w) : C Tryd.prog N.slices_nextPowerOfTwo #[a0] w k :=
  den_calls (H := { moves := [], vars := [2] }) (args := [a0]) mixed Tryd.func78 (by kernel_rfl) (by kernel_rfl) (by kernel_rfl) h

-- (*slices.xorshift).Next
def F.slices_xorshift_Next (k : Value → World → Prop) (a0 : Value) (w : World) : Prop :=
  mv (.int .u64 0) fun t2 =>
  dr w.drew fun S1 =>
  mv a0 fun t3 =>
  nilOk t3 = true ∧ mv t3 fun t4 =>
  tk Tryd.prog S1 (Instr.loadAt 142 t4) fun t5 =>
  mv a0 fun t6 =>
  nilOk t6 = true ∧ mv t6 fun t7 =>
  tk Tryd.prog S1 (Instr.loadAt 142 t7) fun t8 =>
  tk Tryd.prog S1 (bin .shl 142 (.tmp 8) (.const (.int .u64 13)) t8 (.int .u64 13)) fun t9 =>
  tk Tryd.prog S1 (bin .xor 142 (.tmp 5) (.tmp 9) t5 t9) fun t10 =>
  nilOk t3 = true ∧ mv t3 fun t11 =>
  o0 Tryd.prog (Instr.storeAt 142 t11 t10) w.drew fun _ w =>
  dr w.drew fun S2 =>
  mv a0 fun t12 =>
  nilOk t12 = true ∧ mv t12 fun t13 =>
  tk Tryd.prog S2 (Instr.loadAt 142 t13) fun t14 =>
  mv a0 fun t15 =>
  nilOk t15 = true ∧ mv t15 fun t16 =>
  tk Tryd.prog S2 (Instr.loadAt 142 t16) fun t17 =>
  tk Tryd.prog S2 (bin .shr 142 (.tmp 17) (.const (.int .u64 7)) t17 (.int .u64 7)) fun t18 =>
  tk Tryd.prog S2 (bin .xor 142 (.tmp 14) (.tmp 18) t14 t18) fun t19 =>
  nilOk t12 = true ∧ mv t12 fun t20 =>
  o0 Tryd.prog (Instr.storeAt 142 t20 t19) w.drew fun _ w =>
  dr w.drew fun S3 =>
  mv a0 fun t21 =>
  nilOk t21 = true ∧ mv t21 fun t22 =>
  tk Tryd.prog S3 (Instr.loadAt 142 t22) fun t23 =>
  mv a0 fun t24 =>
  nilOk t24 = true ∧ mv t24 fun t25 =>
  tk Tryd.prog S3 (Instr.loadAt 142 t25) fun t26 =>
  tk Tryd.prog S3 (bin .shl 142 (.tmp 26) (.const (.int .u64 17)) t26 (.int .u64 17)) fun t27 =>
  tk Tryd.prog S3 (bin .xor 142 (.tmp 23) (.tmp 27) t23 t27) fun t28 =>
  nilOk t21 = true ∧ mv t21 fun t29 =>
  o0 Tryd.prog (Instr.storeAt 142 t29 t28) w.drew fun _ w =>
  mv a0 fun t30 =>
  nilOk t30 = true ∧ mv t30 fun t31 =>
  o1 Tryd.prog (Instr.loadAt 142 t31) w fun t32 w =>
  mv t32 fun t2_1 =>
  k t2_1 w
theorem C.slices_xorshift_Next {k : Value → World → Prop} {a0 : Value} {w : World} (h : F.slices_xorshift_Next k a0 w) : C Tryd.prog N.slices_xorshift_Next #[a0] w k :=
  den_calls (H := { moves := [(1, (.take 0 (.take 1 (.take 2 (.take 3 (.take 4 (.take 5 (.take 6 (.take 7 (.take 8 (.last 9))))))))))), (2, (.take 0 (.take 1 (.take 2 (.take 3 (.take 4 (.take 5 (.take 6 (.take 7 (.take 8 (.last 9))))))))))), (3, (.take 0 (.take 1 (.take 2 (.take 3 (.take 4 (.take 5 (.take 6 (.take 7 (.take 8 (.last 9)))))))))))], vars := [2] }) (args := [a0]) mixed Tryd.func79 (by kernel_rfl) (by kernel_rfl) (by kernel_rfl) h

-- slices.medianAdjacentOrdered[string]
def F.slices_medianAdjacentOrdered_string (k : Value → World → Prop) (a0 a1 a2 : Value) (w : World) : Prop :=
  mv (.int .i64 0) fun t6 =>
  mv a0 fun t7 =>
  mv a1 fun t8 =>
  o1 Tryd.prog (bin .sub 3 (.tmp 8) (.const (.int .i64 1)) t8 (.int .i64 1)) w fun t9 w =>
  mv a1 fun t10 =>
  mv a1 fun t11 =>
  o1 Tryd.prog (bin .add 3 (.tmp 11) (.const (.int .i64 1)) t11 (.int .i64 1)) w fun t12 w =>
  mv a2 fun t13 =>
  C Tryd.prog N.slices_medianOrdered_string #[t7, t9, t10, t12, t13] w fun t14 w =>
  mv t14 fun t6_1 =>
  k t6_1 w
theorem C.slices_medianAdjacentOrdered_string {k : Value → World → Prop} {a0 a1 a2 : Value} {w : World} (h : F.slices_medianAdjacentOrdered_string k a0 a1 a2 w) : C Tryd.prog N.slices_medianAdjacentOrdered_string #[a0, a1, a2] w k :=
  den_calls (H := { moves := [], vars := [6] }) (args := [a0, a1, a2]) mixed Tryd.func80 (by kernel_rfl) (by kernel_rfl) (by kernel_rfl) h

-- slices.medianOrdered[string]
def F.slices_medianOrdered_string (k : Value → World → Prop) (a0 a1 a2 a3 a4 : Value) (w : World) : Prop :=
  mv (.int .i64 0) fun t10 =>
  mv a0 fun t12 =>
  mv a1 fun t13 =>
  mv a2 fun t14 =>
  mv a4 fun t15 =>
  C Tryd.prog N.slices_order2Ordered_string #[t12, t13, t14, t15] w fun t16 w =>
  mv t16 fun t11 =>
  o1 Tryd.prog (Instr.extract t11 0) w fun t17 w =>
  o1 Tryd.prog (Instr.extract t11 1) w fun t18 w =>
  mv t17 fun t1 =>
  mv t18 fun t2 =>
  mv a0 fun t20 =>
  mv t2 fun t21 =>
  mv a3 fun t22 =>
  mv a4 fun t23 =>
  C Tryd.prog N.slices_order2Ordered_string #[t20, t21, t22, t23] w fun t24 w =>
  mv t24 fun t19 =>
  o1 Tryd.prog (Instr.extract t19 0) w fun t25 w =>
  o1 Tryd.prog (Instr.extract t19 1) w fun t26 w =>
  mv t25 fun t2_1 =>
  mv t26 fun t3 =>
  mv a0 fun t28 =>
  mv t1 fun t29 =>
  mv t2_1 fun t30 =>
  mv a4 fun t31 =>
  C Tryd.prog N.slices_order2Ordered_string #[t28, t29, t30, t31] w fun t32 w =>
  mv t32 fun t27 =>
  o1 Tryd.prog (Instr.extract t27 0) w fun t33 w =>
  o1 Tryd.prog (Instr.extract t27 1) w fun t34 w =>
  mv t33 fun t1_1 =>
  mv t34 fun t2_2 =>
  mv t2_2 fun t35 =>
  mv t35 fun t10_1 =>
  k t10_1 w
theorem C.slices_medianOrdered_string {k : Value → World → Prop} {a0 a1 a2 a3 a4 : Value} {w : World} (h : F.slices_medianOrdered_string k a0 a1 a2 a3 a4 w) : C Tryd.prog N.slices_medianOrdered_string #[a0, a1, a2, a3, a4] w k :=
  den_calls (H := { moves := [], vars := [1, 2, 3, 10] }) (args := [a0, a1, a2, a3, a4]) mixed Tryd.func81 (by kernel_rfl) (by kernel_rfl) (by kernel_rfl) h

-- cmp.isNaN[string]
def F.cmp_isNaN_string (k : Value → World → Prop) (a0 : Value) (w : World) : Prop :=
  mv (.bool false) fun t2 =>
  mv a0 fun t3 =>
  mv a0 fun t4 =>
  o1 Tryd.prog (bin .neq 9 (.tmp 3) (.tmp 4) t3 t4) w fun t5 w =>
  mv t5 fun t2_1 =>
  k t2_1 w
theorem C.cmp_isNaN_string {k : Value → World → Prop} {a0 : Value} {w : World} (h : F.cmp_isNaN_string k a0 w) : C Tryd.prog N.cmp_isNaN_string #[a0] w k :=
  den_calls (H := { moves := [], vars := [2] }) (args := [a0]) mixed Tryd.func82 (by kernel_rfl) (by kernel_rfl) (by kernel_rfl) h

-- slices.order2Ordered[string]
def F.slices_order2Ordered_string (k : Value → World → Prop) (a0 a1 a2 a3 : Value) (w : World) : Prop :=
  mv (.int .i64 0) fun t8 =>
  mv (.int .i64 0) fun t9 =>
  dr w.drew fun S1 =>
  mv a0 fun t10 =>
  mv a2 fun t11 =>
  tk Tryd.prog S1 (Instr.indexAt 48 t10 t11) fun t12 =>
  tk Tryd.prog S1 (Instr.loadAt 9 t12) fun t13 =>
  mv a0 fun t14 =>
  mv a1 fun t15 =>
  tk Tryd.prog S1 (Instr.indexAt 48 t14 t15) fun t16 =>
  tk Tryd.prog S1 (Instr.loadAt 9 t16) fun t17 =>
  C Tryd.prog N.cmp_Less_string #[t13, t17] w.drew fun t18 w =>
  br t18 (fun _ =>
  mv a3 fun t19 =>
  nilOk t19 = true ∧ mv t19 fun t20 =>
  o1 Tryd.prog (Instr.loadAt 3 t20) w fun t21 w =>
  o1 Tryd.prog (bin .add 3 (.tmp 21) (.const (.int .i64 1)) t21 (.int .i64 1)) w fun t22 w =>
  nilOk t19 = true ∧ mv t19 fun t23 =>
  o0 Tryd.prog (Instr.storeAt 3 t23 t22) w fun _ w =>
  mv a2 fun t24 =>
  mv a1 fun t25 =>
  mv t24 fun t8_1 =>
  mv t25 fun t9_1 =>
  k (.tuple #[t8_1, t9_1]) w) (fun _ =>
  mv a1 fun t26 =>
  mv a2 fun t27 =>
  mv t26 fun t8_2 =>
  mv t27 fun t9_2 =>
  k (.tuple #[t8_2, t9_2]) w)
theorem C.slices_order2Ordered_string {k : Value → World → Prop} {a0 a1 a2 a3 : Value} {w : World} (h : F.slices_order2Ordered_string k a0 a1 a2 a3 w) : C Tryd.prog N.slices_order2Ordered_string #[a0, a1, a2, a3] w k :=
  den_calls (H := { moves := [(1, (.take 0 (.take 1 (.take 2 (.take 3 (.take 4 (.take 5 (.take 6 (.take 7 (.last 8))))))))))], vars := [8, 9] }) (args := [a0, a1, a2, a3]) mixed Tryd.func83 (by kernel_rfl) (by kernel_rfl) (by kernel_rfl) h

-- (*isthmus/api.Fault).Unwrap
def F.api_Fault_Unwrap (k : Value → World → Prop) (a0 : Value) (w : World) : Prop :=
  mv .nilIface fun t2 =>
  mv a0 fun t3 =>
  nilOk t3 = true ∧ mv t3 fun t4 =>
  o1 Tryd.prog (Instr.fieldAt 88 t4 1) w fun t5 w =>
  o1 Tryd.prog (Instr.loadAt 27 t5) w fun t6 w =>
  mv t6 fun t2_1 =>
  k t2_1 w
theorem C.api_Fault_Unwrap {k : Value → World → Prop} {a0 : Value} {w : World} (h : F.api_Fault_Unwrap k a0 w) : C Tryd.prog N.api_Fault_Unwrap #[a0] w k :=
  den_calls (H := { moves := [], vars := [2] }) (args := [a0]) mixed Tryd.func103 (by kernel_rfl) (by kernel_rfl) (by kernel_rfl) h

-- gosem.cut.vars
end Go.Proofs.YtiaiglgfangedaaDoor
