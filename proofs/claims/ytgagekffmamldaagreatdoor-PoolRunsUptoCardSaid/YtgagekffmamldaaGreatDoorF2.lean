/- What each function asks: printed by hoas.py off the loaded program; each is held against the program by the kernel. -/
import Derived.Test.YtgagekffmamldaaGreatDoorN
set_option linter.unusedVariables false
set_option linter.unusedSimpArgs false
set_option linter.unusedSectionVars false
namespace Go.Proofs.YtgagekffmamldaaGreatDoor
open Go Go.Isk
set_option maxRecDepth 100000
-- isthmus/isthmusref18.forget
def F.isthmusref18_forget (k : Value → World → Prop) (a0 a1 : Value) (w : World) : Prop :=
  o1 Tryz.prog (Instr.box 33 a0) w fun t2 w =>
  o1 Tryz.prog (Instr.box 43 a1) w fun t3 w =>
  o1 Tryz.prog (Instr.alloc 33 true (.tuple #[])) w fun t4 w =>
  mv (.slice none 0 0) fun t5 =>
  mv (.int .i64 0) fun t6 =>
  lp [t5, t6] w fun I1 μ1 => ∀ (x1 : Env) (w1 : World), I1 [x1 5, x1 6] w1 →
  mv (x1 6) fun t7 =>
  o1 Tryz.prog (Instr.fieldAt 33 t2 4) w1 fun t8 w =>
  o1 Tryz.prog (Instr.loadAt 31 t8) w fun t9 w =>
  o1 Tryz.prog (Builtin.len_ #[31] 3 #[t9]) w fun t10 w =>
  o1 Tryz.prog (bin .lss 3 (.tmp 7) (.tmp 10) t7 t10) w fun t11 w =>
  br t11 (fun _ =>
  tk Tryz.prog (fun w' => w' = w.drew) (Instr.fieldAt 33 t2 4) fun t14 =>
  tk Tryz.prog (fun w' => w' = w.drew) (Instr.loadAt 31 t14) fun t15 =>
  mv (x1 6) fun t16 =>
  tk Tryz.prog (fun w' => w' = w.drew) (Instr.indexAt 31 t15 t16) fun t17 =>
  tk Tryz.prog (fun w' => w' = w.drew) (Instr.loadAt 43 t17) fun t18 =>
  tk Tryz.prog (fun w' => w' = w.drew) (Instr.loadAt 43 t3) fun t19 =>
  tk Tryz.prog (fun w' => w' = w.drew) (bin .neq 43 (.tmp 18) (.tmp 19) t18 t19) fun t20 =>
  jn (fun x2 => [x2 5]) (fun k1 =>
  br t20 (fun _ =>
  mv (x1 5) fun t21 =>
  o1 Tryz.prog (Instr.fieldAt 33 t2 4) w.drew fun t22 w =>
  o1 Tryz.prog (Instr.loadAt 31 t22) w fun t23 w =>
  mv (x1 6) fun t24 =>
  o1 Tryz.prog (Instr.indexAt 31 t23 t24) w fun t25 w =>
  o1 Tryz.prog (Instr.loadAt 43 t25) w fun t26 w =>
  o1 Tryz.prog (Instr.buildSlice 31 1 #[(0, t26)]) w fun t27 w =>
  ob Tryz.prog (fun _ => Builtin.append_ #[31, 31] 31 #[t21, t27]) w fun t28 w =>
  mv t28 fun t5_1 =>
  k1 [t5_1] w) (fun _ =>
  k1 [(x1 5)] w.drew)) fun x2 w =>
  mv (x1 6) fun t12 =>
  o1 Tryz.prog (bin .add 3 (.tmp 12) (.const (.int .i64 1)) t12 (.int .i64 1)) w fun t13 w =>
  mv t13 fun t6_1 =>
  I1 [(x2 5), t6_1] w ∧ μ1 [(x2 5), t6_1] w < μ1 [x1 5, x1 6] w1) (fun _ =>
  mv (x1 5) fun t29 =>
  o1 Tryz.prog (Instr.fieldAt 33 t2 4) w fun t30 w =>
  o0 Tryz.prog (Instr.storeAt 31 t30 t29) w fun _ w =>
  o1 Tryz.prog (Instr.loadAt 33 t2) w fun t31 w =>
  o0 Tryz.prog (Instr.storeAt 33 t4 t31) w fun _ w =>
  rc Tryz.prog 33 t4 w fun r0 =>
  k r0 w)
theorem C.isthmusref18_forget {k : Value → World → Prop} {a0 a1 : Value} {w : World} (h : F.isthmusref18_forget k a0 a1 w) : C Tryz.prog N.isthmusref18_forget #[a0, a1] w k :=
  den_calls (H := { moves := [(5, (.take 0 (.take 1 (.take 2 (.take 3 (.take 4 (.take 5 (.take 6 .fin))))))))], vars := [5, 6] }) (args := [a0, a1]) mixed Tryz.func44 (by kernel_rfl) (by kernel_rfl) (by kernel_rfl) h

-- isthmus/sha.Sum
def F.sha_Sum (k : Value → World → Prop) (a0 : Value) (w : World) : Prop :=
  o1 Tryz.prog (Instr.alloc 43 true (.tuple #[])) w fun t2 w =>
  C Tryz.prog N.sha_start #[] w fun t5 w =>
  mv a0 fun t6 =>
  o1 Tryz.prog (Builtin.len_ #[38] 3 #[t6]) w fun t7 w =>
  o1 Tryz.prog (convert 3 116 t7) w fun t8 w =>
  o1 Tryz.prog (Instr.alloc 118 true (.tuple #[])) w fun t3 w =>
  o0 Tryz.prog (Instr.storeAt 118 t3 t5) w fun _ w =>
  mv t8 fun t4 =>
  lp [a0] w fun I1 μ1 => ∀ (x1 : Env) (w1 : World), I1 [x1 0] w1 →
  mv (x1 0) fun t9 =>
  o1 Tryz.prog (Builtin.len_ #[38] 3 #[t9]) w1 fun t10 w =>
  o1 Tryz.prog (bin .geq 3 (.tmp 10) (.const (.int .i64 64)) t10 (.int .i64 64)) w fun t11 w =>
  br t11 (fun _ =>
  mv (x1 0) fun t12 =>
  o1 Tryz.prog (Instr.sliceAt 38 t12 none (some (.int .i64 64)) none) w fun t13 w =>
  C Tryz.prog N.sha_words_mix #[t3, t13] w fun t14 w =>
  mv (x1 0) fun t15 =>
  o1 Tryz.prog (Instr.sliceAt 38 t15 (some (.int .i64 64)) none none) w fun t16 w =>
  mv t16 fun t0 =>
  I1 [t0] w ∧ μ1 [t0] w < μ1 [x1 0] w1) (fun _ =>
  o1 Tryz.prog (Instr.loadAt 118 t3) w fun t17 w =>
  mv (x1 0) fun t18 =>
  mv t4 fun t19 =>
  C Tryz.prog N.sha_words_end #[t17, t18, t19] w fun t20 w =>
  o0 Tryz.prog (Instr.storeAt 43 t2 t20) w fun _ w =>
  rc Tryz.prog 43 t2 w fun r0 =>
  k r0 w)
theorem C.sha_Sum {k : Value → World → Prop} {a0 : Value} {w : World} (h : F.sha_Sum k a0 w) : C Tryz.prog N.sha_Sum #[a0] w k :=
  den_calls (H := { moves := [], vars := [0, 4] }) (args := [a0]) mixed Tryz.func45 (by kernel_rfl) (by kernel_rfl) (by kernel_rfl) h

-- slices.pdqsortCmpFunc[isthmus/pool.item]
def F.slices_pdqsortCmpFunc_pool_item (k : Value → World → Prop) (a0 a1 a2 a3 a4 : Value) (w : World) : Prop :=
  mv (.bool true) fun t10 =>
  mv (.bool true) fun t11 =>
  lp [a1, a2, a3, t10, t11, undef, undef, undef, undef, undef, undef, undef, undef, undef] w fun I1 μ1 => ∀ (x1 : Env) (w1 : World), I1 [x1 1, x1 2, x1 3, x1 10, x1 11, x1 12, x1 13, x1 14, x1 15, x1 16, x1 17, x1 18, x1 19, x1 20] w1 →
  jn (fun x2 => [x2 1, x2 2, x2 3, x2 10, x2 11, x2 12, x2 13, x2 14, x2 15, x2 16, x2 17, x2 18, x2 19, x2 20]) (fun k1 =>
  mv (x1 2) fun t21 =>
  mv (x1 1) fun t22 =>
  o1 Tryz.prog (bin .sub 3 (.tmp 21) (.tmp 22) t21 t22) w1 fun t23 w =>
  mv t23 fun t12 =>
  mv t12 fun t24 =>
  o1 Tryz.prog (bin .leq 3 (.tmp 24) (.const (.int .i64 12)) t24 (.int .i64 12)) w fun t25 w =>
  br t25 (fun _ =>
  mv a0 fun t26 =>
  mv (x1 1) fun t27 =>
  mv (x1 2) fun t28 =>
  mv a4 fun t29 =>
  C Tryz.prog N.slices_insertionSortCmpFunc_pool_item #[t26, t27, t28, t29] w fun t30 w =>
  k (.tuple #[]) w) (fun _ =>
  mv (x1 3) fun t31 =>
  o1 Tryz.prog (bin .eql 3 (.tmp 31) (.const (.int .i64 0)) t31 (.int .i64 0)) w fun t32 w =>
  br t32 (fun _ =>
  mv a0 fun t33 =>
  mv (x1 1) fun t34 =>
  mv (x1 2) fun t35 =>
  mv a4 fun t36 =>
  C Tryz.prog N.slices_heapSortCmpFunc_pool_item #[t33, t34, t35, t36] w fun t37 w =>
  k (.tuple #[]) w) (fun _ =>
  mv (x1 10) fun t38 =>
  o1 Tryz.prog (Op.unary .not t38) w fun t39 w =>
  jn (fun x3 => [x3 3]) (fun k2 =>
  br t39 (fun _ =>
  mv a0 fun t40 =>
  mv (x1 1) fun t41 =>
  mv (x1 2) fun t42 =>
  mv a4 fun t43 =>
  C Tryz.prog N.slices_breakPatternsCmpFunc_pool_item #[t40, t41, t42, t43] w fun t44 w =>
  mv (x1 3) fun t45 =>
  o1 Tryz.prog (bin .sub 3 (.tmp 45) (.const (.int .i64 1)) t45 (.int .i64 1)) w fun t46 w =>
  mv t46 fun t3 =>
  k2 [t3] w) (fun _ =>
  k2 [(x1 3)] w)) fun x3 w =>
  mv a0 fun t48 =>
  mv (x1 1) fun t49 =>
  mv (x1 2) fun t50 =>
  mv a4 fun t51 =>
  C Tryz.prog N.slices_choosePivotCmpFunc_pool_item #[t48, t49, t50, t51] w fun t52 w =>
  mv t52 fun t47 =>
  o1 Tryz.prog (Instr.extract t47 0) w fun t53 w =>
  o1 Tryz.prog (Instr.extract t47 1) w fun t54 w =>
  mv t53 fun t13 =>
  mv t54 fun t14 =>
  mv t14 fun t55 =>
  o1 Tryz.prog (bin .eql 123 (.tmp 55) (.const (.int .i64 2)) t55 (.int .i64 2)) w fun t56 w =>
  jn (fun x4 => [x4 13, x4 14]) (fun k3 =>
  br t56 (fun _ =>
  mv a0 fun t57 =>
  mv (x1 1) fun t58 =>
  mv (x1 2) fun t59 =>
  mv a4 fun t60 =>
  C Tryz.prog N.slices_reverseRangeCmpFunc_pool_item #[t57, t58, t59, t60] w fun t61 w =>
  mv (x1 2) fun t62 =>
  o1 Tryz.prog (bin .sub 3 (.tmp 62) (.const (.int .i64 1)) t62 (.int .i64 1)) w fun t63 w =>
  mv t13 fun t64 =>
  mv (x1 1) fun t65 =>
  o1 Tryz.prog (bin .sub 3 (.tmp 64) (.tmp 65) t64 t65) w fun t66 w =>
  o1 Tryz.prog (bin .sub 3 (.tmp 63) (.tmp 66) t63 t66) w fun t67 w =>
  mv t67 fun t13_1 =>
  mv (.int .i64 1) fun t14_1 =>
  k3 [t13_1, t14_1] w) (fun _ =>
  k3 [t13, t14] w)) fun x4 w =>
  mv (x1 10) fun t68 =>
  mv t68 fun t69 =>
  gd t69 true (fun k4 => mv (x1 11) fun v => k4 v w) w fun t70 w =>
  pk t69 t70 (.bool false) fun t71 =>
  mv t71 fun t72 =>
  gd t72 true (fun k5 => mv (x4 14) fun v => k5 v w) w fun t73 w =>
  gd t72 true (fun k6 => o1 Tryz.prog (bin .eql 123 (.tmp 73) (.const (.int .i64 1)) t73 (.int .i64 1)) w k6) w fun t74 w =>
  pk t72 t74 (.bool false) fun t75 =>
  jn (fun x5 => []) (fun k7 =>
  br t75 (fun _ =>
  mv a0 fun t76 =>
  mv (x1 1) fun t77 =>
  mv (x1 2) fun t78 =>
  mv a4 fun t79 =>
  C Tryz.prog N.slices_partialInsertionSortCmpFunc_pool_item #[t76, t77, t78, t79] w fun t80 w =>
  br t80 (fun _ =>
  k (.tuple #[]) w) (fun _ =>
  k7 [] w)) (fun _ =>
  k7 [] w)) fun x5 w =>
  dr w.drew fun S1 =>
  mv (x1 1) fun t81 =>
  tk Tryz.prog S1 (bin .gtr 3 (.tmp 81) (.const (.int .i64 0)) t81 (.int .i64 0)) fun t82 =>
  mv t82 fun t83 =>
  gdT t83 true (fun k8 => mv a4 k8) fun t84 =>
  gdT t83 true (fun k9 => mv a0 k9) fun t85 =>
  gdT t83 true (fun k10 => mv (x1 1) k10) fun t86 =>
  gdT t83 true (fun k11 => tk Tryz.prog S1 (bin .sub 3 (.tmp 86) (.const (.int .i64 1)) t86 (.int .i64 1)) k11) fun t87 =>
  gdT t83 true (fun k12 => tk Tryz.prog S1 (Instr.indexAt 67 t85 t87) k12) fun t88 =>
  gdT t83 true (fun k13 => tk Tryz.prog S1 (Instr.loadAt 72 t88) k13) fun t89 =>
  gdT t83 true (fun k14 => mv a0 k14) fun t90 =>
  gdT t83 true (fun k15 => mv (x4 13) k15) fun t91 =>
  gdT t83 true (fun k16 => tk Tryz.prog S1 (Instr.indexAt 67 t90 t91) k16) fun t92 =>
  gdT t83 true (fun k17 => tk Tryz.prog S1 (Instr.loadAt 72 t92) k17) fun t93 =>
  gd t83 true (fun k18 => cv Tryz.prog t84 #[t89, t93] w.drew k18) w.drew fun t94 w =>
  S1 w ∧
  gdT t83 true (fun k19 => tk Tryz.prog S1 (bin .lss 3 (.tmp 94) (.const (.int .i64 0)) t94 (.int .i64 0)) k19) fun t95 =>
  gdT t83 true (fun k20 => tk Tryz.prog S1 (Op.unary .not t95) k20) fun t96 =>
  pk t83 t96 (.bool false) fun t97 =>
  br t97 (fun _ =>
  mv a0 fun t98 =>
  mv (x1 1) fun t99 =>
  mv (x1 2) fun t100 =>
  mv (x4 13) fun t101 =>
  mv a4 fun t102 =>
  C Tryz.prog N.slices_partitionEqualCmpFunc_pool_item #[t98, t99, t100, t101, t102] w fun t103 w =>
  mv t103 fun t15 =>
  mv t15 fun t104 =>
  mv t104 fun t1 =>
  k1 [t1, (x1 2), (x3 3), (x1 10), (x1 11), t12, (x4 13), (x4 14), t15, (x1 16), (x1 17), (x1 18), (x1 19), (x1 20)] w) (fun _ =>
  mv a0 fun t106 =>
  mv (x1 1) fun t107 =>
  mv (x1 2) fun t108 =>
  mv (x4 13) fun t109 =>
  mv a4 fun t110 =>
  C Tryz.prog N.slices_partitionCmpFunc_pool_item #[t106, t107, t108, t109, t110] w fun t111 w =>
  mv t111 fun t105 =>
  o1 Tryz.prog (Instr.extract t105 0) w fun t112 w =>
  o1 Tryz.prog (Instr.extract t105 1) w fun t113 w =>
  mv t112 fun t16 =>
  mv t113 fun t17 =>
  mv t17 fun t114 =>
  mv t114 fun t11_1 =>
  mv t16 fun t115 =>
  mv (x1 1) fun t116 =>
  o1 Tryz.prog (bin .sub 3 (.tmp 115) (.tmp 116) t115 t116) w fun t117 w =>
  mv (x1 2) fun t118 =>
  mv t16 fun t119 =>
  o1 Tryz.prog (bin .sub 3 (.tmp 118) (.tmp 119) t118 t119) w fun t120 w =>
  mv t117 fun t18 =>
  mv t120 fun t19 =>
  mv t12 fun t121 =>
  o1 Tryz.prog (bin .quo 3 (.tmp 121) (.const (.int .i64 8)) t121 (.int .i64 8)) w fun t122 w =>
  mv t122 fun t20 =>
  mv t18 fun t123 =>
  mv t19 fun t124 =>
  o1 Tryz.prog (bin .lss 3 (.tmp 123) (.tmp 124) t123 t124) w fun t125 w =>
  jn (fun x6 => [x6 1, x6 2, x6 10]) (fun k21 =>
  br t125 (fun _ =>
  mv t18 fun t126 =>
  mv t20 fun t127 =>
  o1 Tryz.prog (bin .geq 3 (.tmp 126) (.tmp 127) t126 t127) w fun t128 w =>
  mv t128 fun t10_1 =>
  mv a0 fun t129 =>
  mv (x1 1) fun t130 =>
  mv t16 fun t131 =>
  mv (x3 3) fun t132 =>
  mv a4 fun t133 =>
  C Tryz.prog N.slices_pdqsortCmpFunc_pool_item #[t129, t130, t131, t132, t133] w fun t134 w =>
  mv t16 fun t135 =>
  o1 Tryz.prog (bin .add 3 (.tmp 135) (.const (.int .i64 1)) t135 (.int .i64 1)) w fun t136 w =>
  mv t136 fun t1_1 =>
  k21 [t1_1, (x1 2), t10_1] w) (fun _ =>
  mv t19 fun t137 =>
  mv t20 fun t138 =>
  o1 Tryz.prog (bin .geq 3 (.tmp 137) (.tmp 138) t137 t138) w fun t139 w =>
  mv t139 fun t10_2 =>
  mv a0 fun t140 =>
  mv t16 fun t141 =>
  o1 Tryz.prog (bin .add 3 (.tmp 141) (.const (.int .i64 1)) t141 (.int .i64 1)) w fun t142 w =>
  mv (x1 2) fun t143 =>
  mv (x3 3) fun t144 =>
  mv a4 fun t145 =>
  C Tryz.prog N.slices_pdqsortCmpFunc_pool_item #[t140, t142, t143, t144, t145] w fun t146 w =>
  mv t16 fun t147 =>
  mv t147 fun t2 =>
  k21 [(x1 1), t2, t10_2] w)) fun x6 w =>
  k1 [(x6 1), (x6 2), (x3 3), (x6 10), t11_1, t12, (x4 13), (x4 14), (x1 15), t16, t17, t18, t19, t20] w)))) fun x2 w =>
  I1 [(x2 1), (x2 2), (x2 3), (x2 10), (x2 11), (x2 12), (x2 13), (x2 14), (x2 15), (x2 16), (x2 17), (x2 18), (x2 19), (x2 20)] w ∧ μ1 [(x2 1), (x2 2), (x2 3), (x2 10), (x2 11), (x2 12), (x2 13), (x2 14), (x2 15), (x2 16), (x2 17), (x2 18), (x2 19), (x2 20)] w < μ1 [x1 1, x1 2, x1 3, x1 10, x1 11, x1 12, x1 13, x1 14, x1 15, x1 16, x1 17, x1 18, x1 19, x1 20] w1
theorem C.slices_pdqsortCmpFunc_pool_item {k : Value → World → Prop} {a0 a1 a2 a3 a4 : Value} {w : World} (h : F.slices_pdqsortCmpFunc_pool_item k a0 a1 a2 a3 a4 w) : C Tryz.prog N.slices_pdqsortCmpFunc_pool_item #[a0, a1, a2, a3, a4] w k :=
  den_calls (H := { moves := [(17, (.take 0 (.take 1 (.take 2 (.take 3 (.take 4 (.take 5 (.take 6 (.take 7 (.take 8 (.take 9 (.take 10 (.take 11 (.take 12 (.force 13 (.take 14 (.take 15 (.take 16 .fin))))))))))))))))))], vars := [1, 2, 3, 10, 11, 12, 13, 14, 15, 16, 17, 18, 19, 20] }) (args := [a0, a1, a2, a3, a4]) mixed Tryz.func46 (by kernel_rfl) (by kernel_rfl) (by kernel_rfl) h

-- math/bits.Len
def F.math_bits_Len (k : Value → World → Prop) (a0 : Value) (w : World) : Prop :=
  mv (.int .i64 0) fun t2 =>
  br (.bool false) (fun _ =>
  mv a0 fun t3 =>
  o1 Tryz.prog (convert 52 111 t3) w fun t4 w =>
  C Tryz.prog N.math_bits_Len32 #[t4] w fun t5 w =>
  mv t5 fun t2_1 =>
  k t2_1 w) (fun _ =>
  mv a0 fun t6 =>
  C Tryz.prog N.math_bits_Len64 #[t6] w fun t7 w =>
  mv t7 fun t2_2 =>
  k t2_2 w)
theorem C.math_bits_Len {k : Value → World → Prop} {a0 : Value} {w : World} (h : F.math_bits_Len k a0 w) : C Tryz.prog N.math_bits_Len #[a0] w k :=
  den_calls (H := { moves := [], vars := [2] }) (args := [a0]) mixed Tryz.func47 (by kernel_rfl) (by kernel_rfl) (by kernel_rfl) h

-- cmp.Or[int]
def F.cmp_Or_int (k : Value → World → Prop) (a0 : Value) (w : World) : Prop :=
  mv (.int .i64 0) fun t2 =>
  mv (.int .i64 0) fun t3 =>
  mv a0 fun t6 =>
  o1 Tryz.prog (Builtin.len_ #[132] 3 #[t6]) w fun t7 w =>
  mv (.int .i64 0) fun t8 =>
  lp [t2, undef, t8] w fun I1 μ1 => ∀ (x1 : Env) (w1 : World), I1 [x1 2, x1 5, x1 8] w1 →
  o1 Tryz.prog (bin .lss 3 (.tmp 8) (.tmp 7) (x1 8) t7) w1 fun t9 w =>
  br t9 (fun _ =>
  o1 Tryz.prog (Instr.indexAt 132 t6 (x1 8)) w fun t10 w =>
  o1 Tryz.prog (Instr.loadAt 3 t10) w fun t11 w =>
  mv t11 fun t5 =>
  mv t5 fun t12 =>
  mv t3 fun t13 =>
  o1 Tryz.prog (bin .neq 3 (.tmp 12) (.tmp 13) t12 t13) w fun t14 w =>
  br t14 (fun _ =>
  mv t5 fun t15 =>
  mv t15 fun t2_1 =>
  k t2_1 w) (fun _ =>
  o1 Tryz.prog (bin .add 3 (.tmp 8) (.const (.int .i64 1)) (x1 8) (.int .i64 1)) w fun t16 w =>
  mv t16 fun t8_1 =>
  I1 [(x1 2), t5, t8_1] w ∧ μ1 [(x1 2), t5, t8_1] w < μ1 [x1 2, x1 5, x1 8] w1)) (fun _ =>
  mv t3 fun t17 =>
  mv t17 fun t2_2 =>
  k t2_2 w)
theorem C.cmp_Or_int {k : Value → World → Prop} {a0 : Value} {w : World} (h : F.cmp_Or_int k a0 w) : C Tryz.prog N.cmp_Or_int #[a0] w k :=
  den_calls (H := { moves := [], vars := [2, 3, 5, 8] }) (args := [a0]) mixed Tryz.func48 (by kernel_rfl) (by kernel_rfl) (by kernel_rfl) h

-- cmp.Compare[int]
def F.cmp_Compare_int (k : Value → World → Prop) (a0 a1 : Value) (w : World) : Prop :=
  mv (.int .i64 0) fun t4 =>
  mv a0 fun t7 =>
  C Tryz.prog N.cmp_isNaN_int #[t7] w fun t8 w =>
  mv t8 fun t5 =>
  mv a1 fun t9 =>
  C Tryz.prog N.cmp_isNaN_int #[t9] w fun t10 w =>
  mv t10 fun t6 =>
  mv t5 fun t11 =>
  br t11 (fun _ =>
  mv t6 fun t12 =>
  br t12 (fun _ =>
  mv (.int .i64 0) fun t4_1 =>
  k t4_1 w) (fun _ =>
  mv (.int .i64 (-1)) fun t4_2 =>
  k t4_2 w)) (fun _ =>
  mv t6 fun t13 =>
  br t13 (fun _ =>
  mv (.int .i64 1) fun t4_3 =>
  k t4_3 w) (fun _ =>
  mv a0 fun t14 =>
  mv a1 fun t15 =>
  o1 Tryz.prog (bin .lss 3 (.tmp 14) (.tmp 15) t14 t15) w fun t16 w =>
  br t16 (fun _ =>
  mv (.int .i64 (-1)) fun t4_4 =>
  k t4_4 w) (fun _ =>
  mv a0 fun t17 =>
  mv a1 fun t18 =>
  o1 Tryz.prog (bin .gtr 3 (.tmp 17) (.tmp 18) t17 t18) w fun t19 w =>
  br t19 (fun _ =>
  mv (.int .i64 1) fun t4_5 =>
  k t4_5 w) (fun _ =>
  mv (.int .i64 0) fun t4_6 =>
  k t4_6 w))))
theorem C.cmp_Compare_int {k : Value → World → Prop} {a0 a1 : Value} {w : World} (h : F.cmp_Compare_int k a0 a1 w) : C Tryz.prog N.cmp_Compare_int #[a0, a1] w k :=
  den_calls (H := { moves := [], vars := [4, 5, 6] }) (args := [a0, a1]) mixed Tryz.func49 (by kernel_rfl) (by kernel_rfl) (by kernel_rfl) h

-- slices.IndexFunc[[]isthmus/pool.item,isthmus/pool.item]
def F.slices_IndexFunc_pool_item_pool_item (k : Value → World → Prop) (a0 a1 : Value) (w : World) : Prop :=
  mv (.int .i64 0) fun t4 =>
  mv a0 fun t6 =>
  o1 Tryz.prog (Builtin.len_ #[67] 3 #[t6]) w fun t7 w =>
  mv (.int .i64 0) fun t8 =>
  lp [t4, undef, t8] w fun I1 μ1 => ∀ (x1 : Env) (w1 : World), I1 [x1 4, x1 5, x1 8] w1 →
  o1 Tryz.prog (bin .lss 3 (.tmp 8) (.tmp 7) (x1 8) t7) w1 fun t9 w =>
  br t9 (fun _ =>
  mv (x1 8) fun t10 =>
  mv t10 fun t5 =>
  mv a1 fun t11 =>
  mv a0 fun t12 =>
  mv t5 fun t13 =>
  o1 Tryz.prog (Instr.indexAt 67 t12 t13) w fun t14 w =>
  o1 Tryz.prog (Instr.loadAt 72 t14) w fun t15 w =>
  cv Tryz.prog t11 #[t15] w fun t16 w =>
  br t16 (fun _ =>
  mv t5 fun t17 =>
  mv t17 fun t4_1 =>
  k t4_1 w) (fun _ =>
  o1 Tryz.prog (bin .add 3 (.tmp 8) (.const (.int .i64 1)) (x1 8) (.int .i64 1)) w fun t18 w =>
  mv t18 fun t8_1 =>
  I1 [(x1 4), t5, t8_1] w ∧ μ1 [(x1 4), t5, t8_1] w < μ1 [x1 4, x1 5, x1 8] w1)) (fun _ =>
  mv (.int .i64 (-1)) fun t4_2 =>
  k t4_2 w)
theorem C.slices_IndexFunc_pool_item_pool_item {k : Value → World → Prop} {a0 a1 : Value} {w : World} (h : F.slices_IndexFunc_pool_item_pool_item k a0 a1 w) : C Tryz.prog N.slices_IndexFunc_pool_item_pool_item #[a0, a1] w k :=
  den_calls (H := { moves := [], vars := [4, 5, 8] }) (args := [a0, a1]) mixed Tryz.func50 (by kernel_rfl) (by kernel_rfl) (by kernel_rfl) h

-- (*isthmus/pool.Pool).drop$1
def F.pool_Pool_drop_1 (k : Value → World → Prop) (a0 a1 : Value) (w : World) : Prop :=
  o1 Tryz.prog (Instr.box 72 a0) w fun t2 w =>
  mv (.bool false) fun t3 =>
  o1 Tryz.prog (Instr.fieldAt 72 t2 1) w fun t4 w =>
  o1 Tryz.prog (Instr.loadAt 43 t4) w fun t5 w =>
  o1 Tryz.prog (Instr.loadAt 43 a1) w fun t6 w =>
  o1 Tryz.prog (bin .eql 43 (.tmp 5) (.tmp 6) t5 t6) w fun t7 w =>
  mv t7 fun t3_1 =>
  k t3_1 w
theorem C.pool_Pool_drop_1 {k : Value → World → Prop} {a0 a1 : Value} {w : World} (h : F.pool_Pool_drop_1 k a0 a1 w) : C Tryz.prog N.pool_Pool_drop_1 #[a0, a1] w k :=
  den_calls (H := { moves := [], vars := [3] }) (args := [a0, a1]) mixed Tryz.func51 (by kernel_rfl) (by kernel_rfl) (by kernel_rfl) h

-- slices.Delete[[]isthmus/pool.item,isthmus/pool.item]
def F.slices_Delete_pool_item_pool_item (k : Value → World → Prop) (a0 a1 a2 : Value) (w : World) : Prop :=
  mv (.slice none 0 0) fun t6 =>
  mv a0 fun t8 =>
  mv a1 fun t9 =>
  mv a2 fun t10 =>
  mv a0 fun t11 =>
  o1 Tryz.prog (Builtin.len_ #[67] 3 #[t11]) w fun t12 w =>
  o1 Tryz.prog (Instr.sliceAt 67 t8 (some t9) (some t10) (some t12)) w fun t13 w =>
  mv a1 fun t14 =>
  mv a2 fun t15 =>
  o1 Tryz.prog (bin .eql 3 (.tmp 14) (.tmp 15) t14 t15) w fun t16 w =>
  br t16 (fun _ =>
  mv a0 fun t17 =>
  mv t17 fun t6_1 =>
  k t6_1 w) (fun _ =>
  mv a0 fun t18 =>
  o1 Tryz.prog (Builtin.len_ #[67] 3 #[t18]) w fun t19 w =>
  mv t19 fun t7 =>
  dr w.drew fun S1 =>
  mv a0 fun t20 =>
  mv a1 fun t21 =>
  tk Tryz.prog S1 (Instr.sliceAt 67 t20 none (some t21) none) fun t22 =>
  mv a0 fun t23 =>
  mv a2 fun t24 =>
  tk Tryz.prog S1 (Instr.sliceAt 67 t23 (some t24) none none) fun t25 =>
  ob Tryz.prog (fun _ => Builtin.append_ #[67, 67] 67 #[t22, t25]) w.drew fun t26 w =>
  S1 w ∧
  mv t26 fun t0 =>
  mv t0 fun t27 =>
  mv t0 fun t28 =>
  o1 Tryz.prog (Builtin.len_ #[67] 3 #[t28]) w fun t29 w =>
  mv t7 fun t30 =>
  o1 Tryz.prog (Instr.sliceAt 67 t27 (some t29) (some t30) none) w fun t31 w =>
  ob Tryz.prog (fun _ => Builtin.clear_ #[67] 0 #[t31]) w fun _ w =>
  mv t0 fun t32 =>
  mv t32 fun t6_2 =>
  k t6_2 w)
theorem C.slices_Delete_pool_item_pool_item {k : Value → World → Prop} {a0 a1 a2 : Value} {w : World} (h : F.slices_Delete_pool_item_pool_item k a0 a1 a2 w) : C Tryz.prog N.slices_Delete_pool_item_pool_item #[a0, a1, a2] w k :=
  den_calls (H := { moves := [(5, (.take 0 (.take 1 (.take 2 (.take 3 (.take 4 (.take 5 (.force 6 (.take 7 .fin)))))))))], vars := [0, 6, 7] }) (args := [a0, a1, a2]) mixed Tryz.func52 (by kernel_rfl) (by kernel_rfl) (by kernel_rfl) h

-- errors.as
def F.errors_as (k : Value → World → Prop) (a0 a1 a2 a3 : Value) (w : World) : Prop :=
  o1 Tryz.prog (Instr.box 99 a2) w fun t6 w =>
  mv (.bool false) fun t8 =>
  lp [a0, t8, undef, undef, undef, undef, undef, undef, undef] w fun I1 μ1 => ∀ (x1 : Env) (w1 : World), I1 [x1 0, x1 8, x1 9, x1 10, x1 11, x1 12, x1 14, x1 15, x1 50] w1 →
  mv (x1 0) fun t16 =>
  oN Tryz.prog (callFunc N.internal_reflectlite_TypeOf #[t16]) w1 fun t17 w =>
  mv a3 fun t18 =>
  iv Tryz.prog t17 "AssignableTo" #[t18] w fun t19 w =>
  br t19 (fun _ =>
  o1 Tryz.prog (Instr.loadAt 99 t6) w fun t20 w =>
  oN Tryz.prog (callFunc N.internal_reflectlite_Value_Elem #[t20]) w fun t21 w =>
  mv (x1 0) fun t22 =>
  oN Tryz.prog (callFunc N.internal_reflectlite_ValueOf #[t22]) w fun t23 w =>
  oN Tryz.prog (callFunc N.internal_reflectlite_Value_Set #[t21, t23]) w fun t24 w =>
  mv (.bool true) fun t8_1 =>
  k t8_1 w) (fun _ =>
  mv (x1 0) fun t26 =>
  o1 Tryz.prog (Instr.typeAssert t26 27 139 true) w fun t27 w =>
  mv t27 fun t25 =>
  o1 Tryz.prog (Instr.extract t25 0) w fun t28 w =>
  o1 Tryz.prog (Instr.extract t25 1) w fun t29 w =>
  mv t28 fun t9 =>
  mv t29 fun t10 =>
  mv t10 fun t30 =>
  mv t30 fun t31 =>
  gd t31 true (fun k1 => mv t9 fun v => k1 v w) w fun t32 w =>
  gd t31 true (fun k2 => mv a1 fun v => k2 v w) w fun t33 w =>
  gd t31 true (fun k3 => iv Tryz.prog t32 "As" #[t33] w k3) w fun t34 w =>
  pk t31 t34 (.bool false) fun t35 =>
  br t35 (fun _ =>
  mv (.bool true) fun t8_2 =>
  k t8_2 w) (fun _ =>
  mv (x1 0) fun t36 =>
  o1 Tryz.prog (Instr.typeAssert t36 27 142 true) w fun t37 w =>
  o1 Tryz.prog (Instr.extract t37 1) w fun t38 w =>
  o1 Tryz.prog (Instr.extract t37 0) w fun t39 w =>
  br t38 (fun _ =>
  mv t39 fun t11 =>
  mv t11 fun t40 =>
  iv Tryz.prog t40 "Unwrap" #[] w fun t41 w =>
  mv t41 fun t0 =>
  mv t0 fun t42 =>
  o1 Tryz.prog (bin .eql 27 (.tmp 42) (.const .nilIface) t42 .nilIface) w fun t43 w =>
  br t43 (fun _ =>
  mv (.bool false) fun t8_3 =>
  k t8_3 w) (fun _ =>
  I1 [t0, (x1 8), t9, t10, t11, (x1 12), (x1 14), (x1 15), (x1 50)] w ∧ μ1 [t0, (x1 8), t9, t10, t11, (x1 12), (x1 14), (x1 15), (x1 50)] w < μ1 [x1 0, x1 8, x1 9, x1 10, x1 11, x1 12, x1 14, x1 15, x1 50] w1)) (fun _ =>
  o1 Tryz.prog (Instr.typeAssert t36 27 144 true) w fun t44 w =>
  o1 Tryz.prog (Instr.extract t44 1) w fun t45 w =>
  o1 Tryz.prog (Instr.extract t44 0) w fun t46 w =>
  br t45 (fun _ =>
  mv t46 fun t12 =>
  mv t12 fun t47 =>
  iv Tryz.prog t47 "Unwrap" #[] w fun t48 w =>
  o1 Tryz.prog (Builtin.len_ #[145] 3 #[t48]) w fun t49 w =>
  mv (.int .i64 0) fun t50 =>
  lp [(x1 8), (x1 14), t50] w fun I2 μ2 => ∀ (x2 : Env) (w2 : World), I2 [x2 8, x2 14, x2 50] w2 →
  o1 Tryz.prog (bin .lss 3 (.tmp 50) (.tmp 49) (x2 50) t49) w2 fun t51 w =>
  br t51 (fun _ =>
  jn (fun x3 => [x3 8, x3 14]) (fun k4 =>
  o1 Tryz.prog (Instr.indexAt 145 t48 (x2 50)) w fun t52 w =>
  o1 Tryz.prog (Instr.loadAt 27 t52) w fun t53 w =>
  mv t53 fun t14 =>
  mv t14 fun t54 =>
  o1 Tryz.prog (bin .eql 27 (.tmp 54) (.const .nilIface) t54 .nilIface) w fun t55 w =>
  br t55 (fun _ =>
  k4 [(x2 8), t14] w) (fun _ =>
  mv t14 fun t56 =>
  mv a1 fun t57 =>
  o1 Tryz.prog (Instr.loadAt 99 t6) w fun t58 w =>
  mv a3 fun t59 =>
  C Tryz.prog N.errors_as #[t56, t57, t58, t59] w fun t60 w =>
  br t60 (fun _ =>
  mv (.bool true) fun t8_4 =>
  k t8_4 w) (fun _ =>
  k4 [(x2 8), t14] w))) fun x3 w =>
  o1 Tryz.prog (bin .add 3 (.tmp 50) (.const (.int .i64 1)) (x2 50) (.int .i64 1)) w fun t61 w =>
  mv t61 fun t50_1 =>
  I2 [(x3 8), (x3 14), t50_1] w ∧ μ2 [(x3 8), (x3 14), t50_1] w < μ2 [x2 8, x2 14, x2 50] w2) (fun _ =>
  mv (.bool false) fun t8_5 =>
  k t8_5 w)) (fun _ =>
  mv t36 fun t15 =>
  mv (.bool false) fun t8_6 =>
  k t8_6 w))))
theorem C.errors_as {k : Value → World → Prop} {a0 a1 a2 a3 : Value} {w : World} (h : F.errors_as k a0 a1 a2 a3 w) : C Tryz.prog N.errors_as #[a0, a1, a2, a3] w k :=
  den_calls (H := { moves := [], vars := [0, 8, 9, 10, 11, 12, 14, 15, 50] }) (args := [a0, a1, a2, a3]) mixed Tryz.func56 (by kernel_rfl) (by kernel_rfl) (by kernel_rfl) h

-- slices.DeleteFunc[[]isthmus/api.Hash,isthmus/api.Hash]
def F.slices_DeleteFunc_api_Hash_api_Hash (k : Value → World → Prop) (a0 a1 : Value) (w : World) : Prop :=
  mv (.slice none 0 0) fun t4 =>
  mv a0 fun t8 =>
  mv a1 fun t9 =>
  C Tryz.prog N.slices_IndexFunc_api_Hash_api_Hash #[t8, t9] w fun t10 w =>
  mv t10 fun t5 =>
  mv t5 fun t11 =>
  o1 Tryz.prog (bin .eql 3 (.tmp 11) (.const (.int .i64 (-1))) t11 (.int .i64 (-1))) w fun t12 w =>
  br t12 (fun _ =>
  mv a0 fun t13 =>
  mv t13 fun t4_1 =>
  k t4_1 w) (fun _ =>
  mv t5 fun t14 =>
  o1 Tryz.prog (bin .add 3 (.tmp 14) (.const (.int .i64 1)) t14 (.int .i64 1)) w fun t15 w =>
  mv t15 fun t6 =>
  lp [t5, t6] w fun I1 μ1 => ∀ (x1 : Env) (w1 : World), I1 [x1 5, x1 6] w1 →
  mv (x1 6) fun t16 =>
  mv a0 fun t17 =>
  o1 Tryz.prog (Builtin.len_ #[31] 3 #[t17]) w1 fun t18 w =>
  o1 Tryz.prog (bin .lss 3 (.tmp 16) (.tmp 18) t16 t18) w fun t19 w =>
  br t19 (fun _ =>
  mv a0 fun t22 =>
  mv (x1 6) fun t23 =>
  o1 Tryz.prog (Instr.indexAt 31 t22 t23) w fun t24 w =>
  o1 Tryz.prog (Instr.loadAt 43 t24) w fun t25 w =>
  o1 Tryz.prog (Instr.alloc 43 true (.tuple #[])) w fun t7 w =>
  o0 Tryz.prog (Instr.storeAt 43 t7 t25) w fun _ w =>
  mv a1 fun t26 =>
  o1 Tryz.prog (Instr.loadAt 43 t7) w fun t27 w =>
  cv Tryz.prog t26 #[t27] w fun t28 w =>
  o1 Tryz.prog (Op.unary .not t28) w fun t29 w =>
  jn (fun x2 => [x2 5]) (fun k1 =>
  br t29 (fun _ =>
  mv a0 fun t30 =>
  mv (x1 5) fun t31 =>
  o1 Tryz.prog (Instr.loadAt 43 t7) w fun t32 w =>
  o1 Tryz.prog (Instr.indexAt 31 t30 t31) w fun t33 w =>
  o0 Tryz.prog (Instr.storeAt 43 t33 t32) w fun _ w =>
  mv (x1 5) fun t34 =>
  o1 Tryz.prog (bin .add 3 (.tmp 34) (.const (.int .i64 1)) t34 (.int .i64 1)) w fun t35 w =>
  mv t35 fun t5_1 =>
  k1 [t5_1] w) (fun _ =>
  k1 [(x1 5)] w)) fun x2 w =>
  mv (x1 6) fun t20 =>
  o1 Tryz.prog (bin .add 3 (.tmp 20) (.const (.int .i64 1)) t20 (.int .i64 1)) w fun t21 w =>
  mv t21 fun t6_1 =>
  I1 [(x2 5), t6_1] w ∧ μ1 [(x2 5), t6_1] w < μ1 [x1 5, x1 6] w1) (fun _ =>
  mv a0 fun t36 =>
  mv (x1 5) fun t37 =>
  o1 Tryz.prog (Instr.sliceAt 31 t36 (some t37) none none) w fun t38 w =>
  ob Tryz.prog (fun _ => Builtin.clear_ #[31] 0 #[t38]) w fun _ w =>
  mv a0 fun t39 =>
  mv (x1 5) fun t40 =>
  o1 Tryz.prog (Instr.sliceAt 31 t39 none (some t40) none) w fun t41 w =>
  mv t41 fun t4_2 =>
  k t4_2 w))
theorem C.slices_DeleteFunc_api_Hash_api_Hash {k : Value → World → Prop} {a0 a1 : Value} {w : World} (h : F.slices_DeleteFunc_api_Hash_api_Hash k a0 a1 w) : C Tryz.prog N.slices_DeleteFunc_api_Hash_api_Hash #[a0, a1] w k :=
  den_calls (H := { moves := [], vars := [4, 5, 6] }) (args := [a0, a1]) mixed Tryz.func57 (by kernel_rfl) (by kernel_rfl) (by kernel_rfl) h

-- slices.Clone[[]isthmus/api.Hash,isthmus/api.Hash]
def F.slices_Clone_api_Hash_api_Hash (k : Value → World → Prop) (a0 : Value) (w : World) : Prop :=
  mv (.slice none 0 0) fun t2 =>
  mv a0 fun t3 =>
  o1 Tryz.prog (bin .eql 31 (.tmp 3) (.const (.slice none 0 0)) t3 (.slice none 0 0)) w fun t4 w =>
  br t4 (fun _ =>
  mv (.slice none 0 0) fun t2_1 =>
  k t2_1 w) (fun _ =>
  o1 Tryz.prog (Instr.buildSlice 31 0 #[]) w fun t5 w =>
  mv a0 fun t6 =>
  ob Tryz.prog (fun _ => Builtin.append_ #[31, 31] 31 #[t5, t6]) w fun t7 w =>
  mv t7 fun t2_2 =>
  k t2_2 w)
theorem C.slices_Clone_api_Hash_api_Hash {k : Value → World → Prop} {a0 : Value} {w : World} (h : F.slices_Clone_api_Hash_api_Hash k a0 w) : C Tryz.prog N.slices_Clone_api_Hash_api_Hash #[a0] w k :=
  den_calls (H := { moves := [], vars := [2] }) (args := [a0]) mixed Tryz.func58 (by kernel_rfl) (by kernel_rfl) (by kernel_rfl) h

-- (*isthmus/pool.Pool).forget$1
def F.pool_Pool_forget_1 (k : Value → World → Prop) (a0 a1 : Value) (w : World) : Prop :=
  o1 Tryz.prog (Instr.box 43 a0) w fun t2 w =>
  mv (.bool false) fun t3 =>
  o1 Tryz.prog (Instr.loadAt 43 t2) w fun t4 w =>
  o1 Tryz.prog (Instr.loadAt 43 a1) w fun t5 w =>
  o1 Tryz.prog (bin .eql 43 (.tmp 4) (.tmp 5) t4 t5) w fun t6 w =>
  mv t6 fun t3_1 =>
  k t3_1 w
theorem C.pool_Pool_forget_1 {k : Value → World → Prop} {a0 a1 : Value} {w : World} (h : F.pool_Pool_forget_1 k a0 a1 w) : C Tryz.prog N.pool_Pool_forget_1 #[a0, a1] w k :=
  den_calls (H := { moves := [], vars := [3] }) (args := [a0, a1]) mixed Tryz.func59 (by kernel_rfl) (by kernel_rfl) (by kernel_rfl) h

-- slices.Index[[]isthmus/api.Hash,isthmus/api.Hash]
def F.slices_Index_api_Hash_api_Hash (k : Value → World → Prop) (a0 a1 : Value) (w : World) : Prop :=
  o1 Tryz.prog (Instr.box 43 a1) w fun t3 w =>
  mv (.int .i64 0) fun t4 =>
  mv a0 fun t6 =>
  o1 Tryz.prog (Builtin.len_ #[31] 3 #[t6]) w fun t7 w =>
  mv (.int .i64 0) fun t8 =>
  lp [t4, undef, t8] w fun I1 μ1 => ∀ (x1 : Env) (w1 : World), I1 [x1 4, x1 5, x1 8] w1 →
  o1 Tryz.prog (bin .lss 3 (.tmp 8) (.tmp 7) (x1 8) t7) w1 fun t9 w =>
  br t9 (fun _ =>
  mv (x1 8) fun t10 =>
  mv t10 fun t5 =>
  tk Tryz.prog (fun w' => w' = w.drew) (Instr.loadAt 43 t3) fun t11 =>
  mv a0 fun t12 =>
  mv t5 fun t13 =>
  tk Tryz.prog (fun w' => w' = w.drew) (Instr.indexAt 31 t12 t13) fun t14 =>
  tk Tryz.prog (fun w' => w' = w.drew) (Instr.loadAt 43 t14) fun t15 =>
  tk Tryz.prog (fun w' => w' = w.drew) (bin .eql 43 (.tmp 11) (.tmp 15) t11 t15) fun t16 =>
  br t16 (fun _ =>
  mv t5 fun t17 =>
  mv t17 fun t4_1 =>
  k t4_1 w.drew) (fun _ =>
  o1 Tryz.prog (bin .add 3 (.tmp 8) (.const (.int .i64 1)) (x1 8) (.int .i64 1)) w.drew fun t18 w =>
  mv t18 fun t8_1 =>
  I1 [(x1 4), t5, t8_1] w ∧ μ1 [(x1 4), t5, t8_1] w < μ1 [x1 4, x1 5, x1 8] w1)) (fun _ =>
  mv (.int .i64 (-1)) fun t4_2 =>
  k t4_2 w)
theorem C.slices_Index_api_Hash_api_Hash {k : Value → World → Prop} {a0 a1 : Value} {w : World} (h : F.slices_Index_api_Hash_api_Hash k a0 a1 w) : C Tryz.prog N.slices_Index_api_Hash_api_Hash #[a0, a1] w k :=
  den_calls (H := { moves := [(4, (.take 0 (.take 1 (.take 2 (.take 3 (.take 4 (.take 5 .fin)))))))], vars := [4, 5, 8] }) (args := [a0, a1]) mixed Tryz.func60 (by kernel_rfl) (by kernel_rfl) (by kernel_rfl) h

-- isthmus/isthmusref01.constants
def F.isthmusref01_constants (k : Value → World → Prop) (w : World) : Prop :=
  o1 Tryz.prog (Instr.alloc 112 true (.tuple #[])) w fun t0 w =>
  o1 Tryz.prog (Instr.alloc 113 true (.tuple #[])) w fun t1 w =>
  o1 Tryz.prog (Instr.build 112 #[(0, .int .u32 1116352408), (1, .int .u32 1899447441), (2, .int .u32 3049323471), (3, .int .u32 3921009573), (4, .int .u32 961987163), (5, .int .u32 1508970993), (6, .int .u32 2453635748), (7, .int .u32 2870763221), (8, .int .u32 3624381080), (9, .int .u32 310598401), (10, .int .u32 607225278), (11, .int .u32 1426881987), (12, .int .u32 1925078388), (13, .int .u32 2162078206), (14, .int .u32 2614888103), (15, .int .u32 3248222580), (16, .int .u32 3835390401), (17, .int .u32 4022224774), (18, .int .u32 264347078), (19, .int .u32 604807628), (20, .int .u32 770255983), (21, .int .u32 1249150122), (22, .int .u32 1555081692), (23, .int .u32 1996064986), (24, .int .u32 2554220882), (25, .int .u32 2821834349), (26, .int .u32 2952996808), (27, .int .u32 3210313671), (28, .int .u32 3336571891), (29, .int .u32 3584528711), (30, .int .u32 113926993), (31, .int .u32 338241895), (32, .int .u32 666307205), (33, .int .u32 773529912), (34, .int .u32 1294757372), (35, .int .u32 1396182291), (36, .int .u32 1695183700), (37, .int .u32 1986661051), (38, .int .u32 2177026350), (39, .int .u32 2456956037), (40, .int .u32 2730485921), (41, .int .u32 2820302411), (42, .int .u32 3259730800), (43, .int .u32 3345764771), (44, .int .u32 3516065817), (45, .int .u32 3600352804), (46, .int .u32 4094571909), (47, .int .u32 275423344), (48, .int .u32 430227734), (49, .int .u32 506948616), (50, .int .u32 659060556), (51, .int .u32 883997877), (52, .int .u32 958139571), (53, .int .u32 1322822218), (54, .int .u32 1537002063), (55, .int .u32 1747873779), (56, .int .u32 1955562222), (57, .int .u32 2024104815), (58, .int .u32 2227730452), (59, .int .u32 2361852424), (60, .int .u32 2428436474), (61, .int .u32 2756734187), (62, .int .u32 3204031479), (63, .int .u32 3329325298)]) w fun t2 w =>
  o1 Tryz.prog (Instr.build 113 #[(0, .int .u32 1779033703), (1, .int .u32 3144134277), (2, .int .u32 1013904242), (3, .int .u32 2773480762), (4, .int .u32 1359893119), (5, .int .u32 2600822924), (6, .int .u32 528734635), (7, .int .u32 1541459225)]) w fun t3 w =>
  o0 Tryz.prog (Instr.storeAt 112 t0 t2) w fun _ w =>
  o0 Tryz.prog (Instr.storeAt 113 t1 t3) w fun _ w =>
  rc Tryz.prog 112 t0 w fun r0 =>
  rc Tryz.prog 113 t1 w fun r1 =>
  k (.tuple #[r0, r1]) w
theorem C.isthmusref01_constants {k : Value → World → Prop} {w : World} (h : F.isthmusref01_constants k  w) : C Tryz.prog N.isthmusref01_constants #[] w k :=
  den_calls (H := { moves := [], vars := [] }) (args := []) mixed Tryz.func61 (by kernel_rfl) (by kernel_rfl) (by kernel_rfl) h

-- isthmus/isthmusref01.turn
def F.isthmusref01_turn (k : Value → World → Prop) (a0 a1 : Value) (w : World) : Prop :=
  mv (.int .u32 0) fun t4 =>
  mv a0 fun t5 =>
  mv a1 fun t6 =>
  o1 Tryz.prog (bin .shr 111 (.tmp 5) (.tmp 6) t5 t6) w fun t7 w =>
  mv a0 fun t8 =>
  mv a1 fun t9 =>
  o1 Tryz.prog (bin .sub 52 (.const (.int .u64 32)) (.tmp 9) (.int .u64 32) t9) w fun t10 w =>
  o1 Tryz.prog (bin .shl 111 (.tmp 8) (.tmp 10) t8 t10) w fun t11 w =>
  o1 Tryz.prog (bin .or 111 (.tmp 7) (.tmp 11) t7 t11) w fun t12 w =>
  mv t12 fun t4_1 =>
  k t4_1 w
theorem C.isthmusref01_turn {k : Value → World → Prop} {a0 a1 : Value} {w : World} (h : F.isthmusref01_turn k a0 a1 w) : C Tryz.prog N.isthmusref01_turn #[a0, a1] w k :=
  den_calls (H := { moves := [], vars := [4] }) (args := [a0, a1]) mixed Tryz.func62 (by kernel_rfl) (by kernel_rfl) (by kernel_rfl) h

-- isthmus/sha.start
def F.sha_start (k : Value → World → Prop) (w : World) : Prop :=
  o1 Tryz.prog (Instr.alloc 118 true (.tuple #[])) w fun t0 w =>
  o1 Tryz.prog (Instr.build 118 #[(0, .int .u32 1779033703), (1, .int .u32 3144134277), (2, .int .u32 1013904242), (3, .int .u32 2773480762), (4, .int .u32 1359893119), (5, .int .u32 2600822924), (6, .int .u32 528734635), (7, .int .u32 1541459225)]) w fun t1 w =>
  o0 Tryz.prog (Instr.storeAt 118 t0 t1) w fun _ w =>
  rc Tryz.prog 118 t0 w fun r0 =>
  k r0 w
theorem C.sha_start {k : Value → World → Prop} {w : World} (h : F.sha_start k  w) : C Tryz.prog N.sha_start #[] w k :=
  den_calls (H := { moves := [], vars := [] }) (args := []) mixed Tryz.func63 (by kernel_rfl) (by kernel_rfl) (by kernel_rfl) h

-- (*isthmus/sha.words).mix
def F.sha_words_mix (k : Value → World → Prop) (a0 a1 : Value) (w : World) : Prop :=
  o1 Tryz.prog (Instr.alloc 112 true (.tuple #[])) w fun t4 w =>
  mv (.int .i64 0) fun t24 =>
  lp [undef, t24] w fun I1 μ1 => ∀ (x1 : Env) (w1 : World), I1 [x1 5, x1 24] w1 →
  o1 Tryz.prog (bin .lss 3 (.tmp 24) (.const (.int .i64 16)) (x1 24) (.int .i64 16)) w1 fun t25 w =>
  br t25 (fun _ =>
  mv (x1 24) fun t26 =>
  mv t26 fun t5 =>
  dr w.drew fun S1 =>
  mv t5 fun t27 =>
  mv a1 fun t28 =>
  mv t5 fun t29 =>
  tk Tryz.prog S1 (bin .mul 3 (.const (.int .i64 4)) (.tmp 29) (.int .i64 4) t29) fun t30 =>
  tk Tryz.prog S1 (Instr.indexAt 38 t28 t30) fun t31 =>
  tk Tryz.prog S1 (Instr.loadAt 5 t31) fun t32 =>
  tk Tryz.prog S1 (convert 5 111 t32) fun t33 =>
  tk Tryz.prog S1 (bin .shl 111 (.tmp 33) (.const (.int .u64 24)) t33 (.int .u64 24)) fun t34 =>
  mv a1 fun t35 =>
  mv t5 fun t36 =>
  tk Tryz.prog S1 (bin .mul 3 (.const (.int .i64 4)) (.tmp 36) (.int .i64 4) t36) fun t37 =>
  tk Tryz.prog S1 (bin .add 3 (.tmp 37) (.const (.int .i64 1)) t37 (.int .i64 1)) fun t38 =>
  tk Tryz.prog S1 (Instr.indexAt 38 t35 t38) fun t39 =>
  tk Tryz.prog S1 (Instr.loadAt 5 t39) fun t40 =>
  tk Tryz.prog S1 (convert 5 111 t40) fun t41 =>
  tk Tryz.prog S1 (bin .shl 111 (.tmp 41) (.const (.int .u64 16)) t41 (.int .u64 16)) fun t42 =>
  tk Tryz.prog S1 (bin .or 111 (.tmp 34) (.tmp 42) t34 t42) fun t43 =>
  mv a1 fun t44 =>
  mv t5 fun t45 =>
  tk Tryz.prog S1 (bin .mul 3 (.const (.int .i64 4)) (.tmp 45) (.int .i64 4) t45) fun t46 =>
  tk Tryz.prog S1 (bin .add 3 (.tmp 46) (.const (.int .i64 2)) t46 (.int .i64 2)) fun t47 =>
  tk Tryz.prog S1 (Instr.indexAt 38 t44 t47) fun t48 =>
  tk Tryz.prog S1 (Instr.loadAt 5 t48) fun t49 =>
  tk Tryz.prog S1 (convert 5 111 t49) fun t50 =>
  tk Tryz.prog S1 (bin .shl 111 (.tmp 50) (.const (.int .u64 8)) t50 (.int .u64 8)) fun t51 =>
  tk Tryz.prog S1 (bin .or 111 (.tmp 43) (.tmp 51) t43 t51) fun t52 =>
  mv a1 fun t53 =>
  mv t5 fun t54 =>
  tk Tryz.prog S1 (bin .mul 3 (.const (.int .i64 4)) (.tmp 54) (.int .i64 4) t54) fun t55 =>
  tk Tryz.prog S1 (bin .add 3 (.tmp 55) (.const (.int .i64 3)) t55 (.int .i64 3)) fun t56 =>
  tk Tryz.prog S1 (Instr.indexAt 38 t53 t56) fun t57 =>
  tk Tryz.prog S1 (Instr.loadAt 5 t57) fun t58 =>
  tk Tryz.prog S1 (convert 5 111 t58) fun t59 =>
  tk Tryz.prog S1 (bin .or 111 (.tmp 52) (.tmp 59) t52 t59) fun t60 =>
  tk Tryz.prog S1 (Instr.indexAt 112 t4 t27) fun t61 =>
  o0 Tryz.prog (Instr.storeAt 111 t61 t60) w.drew fun _ w =>
  o1 Tryz.prog (bin .add 3 (.tmp 24) (.const (.int .i64 1)) (x1 24) (.int .i64 1)) w fun t62 w =>
  mv t62 fun t24_1 =>
  I1 [t5, t24_1] w ∧ μ1 [t5, t24_1] w < μ1 [x1 5, x1 24] w1) (fun _ =>
  mv (.int .i64 16) fun t6 =>
  lp [t6, undef, undef, undef, undef] w fun I2 μ2 => ∀ (x2 : Env) (w2 : World), I2 [x2 6, x2 7, x2 8, x2 9, x2 10] w2 →
  mv (x2 6) fun t63 =>
  o1 Tryz.prog (bin .lss 3 (.tmp 63) (.const (.int .i64 64)) t63 (.int .i64 64)) w2 fun t64 w =>
  br t64 (fun _ =>
  mv (x2 6) fun t67 =>
  tk Tryz.prog (fun w' => w' = w.drew) (bin .sub 3 (.tmp 67) (.const (.int .i64 15)) t67 (.int .i64 15)) fun t68 =>
  tk Tryz.prog (fun w' => w' = w.drew) (Instr.indexAt 112 t4 t68) fun t69 =>
  tk Tryz.prog (fun w' => w' = w.drew) (Instr.loadAt 111 t69) fun t70 =>
  mv (x2 6) fun t71 =>
  tk Tryz.prog (fun w' => w' = w.drew) (bin .sub 3 (.tmp 71) (.const (.int .i64 2)) t71 (.int .i64 2)) fun t72 =>
  tk Tryz.prog (fun w' => w' = w.drew) (Instr.indexAt 112 t4 t72) fun t73 =>
  tk Tryz.prog (fun w' => w' = w.drew) (Instr.loadAt 111 t73) fun t74 =>
  mv t70 fun t7 =>
  mv t74 fun t8 =>
  mv t7 fun t75 =>
  C Tryz.prog N.math_bits_RotateLeft32 #[t75, .int .i64 (-7)] w.drew fun t76 w =>
  mv t7 fun t77 =>
  C Tryz.prog N.math_bits_RotateLeft32 #[t77, .int .i64 (-18)] w fun t78 w =>
  o1 Tryz.prog (bin .xor 111 (.tmp 76) (.tmp 78) t76 t78) w fun t79 w =>
  mv t7 fun t80 =>
  o1 Tryz.prog (bin .shr 111 (.tmp 80) (.const (.int .u64 3)) t80 (.int .u64 3)) w fun t81 w =>
  o1 Tryz.prog (bin .xor 111 (.tmp 79) (.tmp 81) t79 t81) w fun t82 w =>
  mv t82 fun t9 =>
  mv t8 fun t83 =>
  C Tryz.prog N.math_bits_RotateLeft32 #[t83, .int .i64 (-17)] w fun t84 w =>
  mv t8 fun t85 =>
  C Tryz.prog N.math_bits_RotateLeft32 #[t85, .int .i64 (-19)] w fun t86 w =>
  o1 Tryz.prog (bin .xor 111 (.tmp 84) (.tmp 86) t84 t86) w fun t87 w =>
  mv t8 fun t88 =>
  o1 Tryz.prog (bin .shr 111 (.tmp 88) (.const (.int .u64 10)) t88 (.int .u64 10)) w fun t89 w =>
  o1 Tryz.prog (bin .xor 111 (.tmp 87) (.tmp 89) t87 t89) w fun t90 w =>
  mv t90 fun t10 =>
  dr w.drew fun S2 =>
  mv (x2 6) fun t91 =>
  mv (x2 6) fun t92 =>
  tk Tryz.prog S2 (bin .sub 3 (.tmp 92) (.const (.int .i64 16)) t92 (.int .i64 16)) fun t93 =>
  tk Tryz.prog S2 (Instr.indexAt 112 t4 t93) fun t94 =>
  tk Tryz.prog S2 (Instr.loadAt 111 t94) fun t95 =>
  mv t9 fun t96 =>
  tk Tryz.prog S2 (bin .add 111 (.tmp 95) (.tmp 96) t95 t96) fun t97 =>
  mv (x2 6) fun t98 =>
  tk Tryz.prog S2 (bin .sub 3 (.tmp 98) (.const (.int .i64 7)) t98 (.int .i64 7)) fun t99 =>
  tk Tryz.prog S2 (Instr.indexAt 112 t4 t99) fun t100 =>
  tk Tryz.prog S2 (Instr.loadAt 111 t100) fun t101 =>
  tk Tryz.prog S2 (bin .add 111 (.tmp 97) (.tmp 101) t97 t101) fun t102 =>
  mv t10 fun t103 =>
  tk Tryz.prog S2 (bin .add 111 (.tmp 102) (.tmp 103) t102 t103) fun t104 =>
  tk Tryz.prog S2 (Instr.indexAt 112 t4 t91) fun t105 =>
  o0 Tryz.prog (Instr.storeAt 111 t105 t104) w.drew fun _ w =>
  mv (x2 6) fun t65 =>
  o1 Tryz.prog (bin .add 3 (.tmp 65) (.const (.int .i64 1)) t65 (.int .i64 1)) w fun t66 w =>
  mv t66 fun t6_1 =>
  I2 [t6_1, t7, t8, t9, t10] w ∧ μ2 [t6_1, t7, t8, t9, t10] w < μ2 [x2 6, x2 7, x2 8, x2 9, x2 10] w2) (fun _ =>
  mv a0 fun t106 =>
  nilOk t106 = true ∧ mv t106 fun t107 =>
  tk Tryz.prog (fun w' => w' = w.drew) (Instr.indexAt 118 t107 (.int .i64 0)) fun t108 =>
  tk Tryz.prog (fun w' => w' = w.drew) (Instr.loadAt 111 t108) fun t109 =>
  mv a0 fun t110 =>
  nilOk t110 = true ∧ mv t110 fun t111 =>
  tk Tryz.prog (fun w' => w' = w.drew) (Instr.indexAt 118 t111 (.int .i64 1)) fun t112 =>
  tk Tryz.prog (fun w' => w' = w.drew) (Instr.loadAt 111 t112) fun t113 =>
  mv a0 fun t114 =>
  nilOk t114 = true ∧ mv t114 fun t115 =>
  tk Tryz.prog (fun w' => w' = w.drew) (Instr.indexAt 118 t115 (.int .i64 2)) fun t116 =>
  tk Tryz.prog (fun w' => w' = w.drew) (Instr.loadAt 111 t116) fun t117 =>
  mv a0 fun t118 =>
  nilOk t118 = true ∧ mv t118 fun t119 =>
  tk Tryz.prog (fun w' => w' = w.drew) (Instr.indexAt 118 t119 (.int .i64 3)) fun t120 =>
  tk Tryz.prog (fun w' => w' = w.drew) (Instr.loadAt 111 t120) fun t121 =>
  mv a0 fun t122 =>
  nilOk t122 = true ∧ mv t122 fun t123 =>
  tk Tryz.prog (fun w' => w' = w.drew) (Instr.indexAt 118 t123 (.int .i64 4)) fun t124 =>
  tk Tryz.prog (fun w' => w' = w.drew) (Instr.loadAt 111 t124) fun t125 =>
  mv a0 fun t126 =>
  nilOk t126 = true ∧ mv t126 fun t127 =>
  tk Tryz.prog (fun w' => w' = w.drew) (Instr.indexAt 118 t127 (.int .i64 5)) fun t128 =>
  tk Tryz.prog (fun w' => w' = w.drew) (Instr.loadAt 111 t128) fun t129 =>
  mv a0 fun t130 =>
  nilOk t130 = true ∧ mv t130 fun t131 =>
  tk Tryz.prog (fun w' => w' = w.drew) (Instr.indexAt 118 t131 (.int .i64 6)) fun t132 =>
  tk Tryz.prog (fun w' => w' = w.drew) (Instr.loadAt 111 t132) fun t133 =>
  mv a0 fun t134 =>
  nilOk t134 = true ∧ mv t134 fun t135 =>
  tk Tryz.prog (fun w' => w' = w.drew) (Instr.indexAt 118 t135 (.int .i64 7)) fun t136 =>
  tk Tryz.prog (fun w' => w' = w.drew) (Instr.loadAt 111 t136) fun t137 =>
  mv t109 fun t11 =>
  mv t113 fun t12 =>
  mv t117 fun t13 =>
  mv t121 fun t14 =>
  mv t125 fun t15 =>
  mv t129 fun t16 =>
  mv t133 fun t17 =>
  mv t137 fun t18 =>
  mv (.int .i64 0) fun t138 =>
  lp [t11, t12, t13, t14, t15, t16, t17, t18, undef, undef, undef, t138] w.drew fun I3 μ3 => ∀ (x3 : Env) (w3 : World), I3 [x3 11, x3 12, x3 13, x3 14, x3 15, x3 16, x3 17, x3 18, x3 19, x3 20, x3 21, x3 138] w3 →
  o1 Tryz.prog (bin .lss 3 (.tmp 138) (.const (.int .i64 64)) (x3 138) (.int .i64 64)) w3 fun t139 w =>
  br t139 (fun _ =>
  mv (x3 138) fun t140 =>
  mv t140 fun t19 =>
  dr w.drew fun S3 =>
  mv (x3 18) fun t141 =>
  mv (x3 15) fun t142 =>
  mv (x3 15) fun t144 =>
  mv (x3 15) fun t147 =>
  mv (x3 15) fun t151 =>
  mv (x3 16) fun t152 =>
  tk Tryz.prog S3 (bin .and 111 (.tmp 151) (.tmp 152) t151 t152) fun t153 =>
  mv (x3 15) fun t154 =>
  tk Tryz.prog S3 (Op.unary .xor t154) fun t155 =>
  mv (x3 17) fun t156 =>
  tk Tryz.prog S3 (bin .and 111 (.tmp 155) (.tmp 156) t155 t156) fun t157 =>
  tk Tryz.prog S3 (bin .xor 111 (.tmp 153) (.tmp 157) t153 t157) fun t158 =>
  mv t19 fun t160 =>
  tk Tryz.prog S3 (Instr.indexAt 112 (.pointer (some ⟨1, 0, none⟩)) t160) fun t161 =>
  tk Tryz.prog S3 (Instr.loadAt 111 t161) fun t162 =>
  mv t19 fun t164 =>
  tk Tryz.prog S3 (Instr.indexAt 112 t4 t164) fun t165 =>
  tk Tryz.prog S3 (Instr.loadAt 111 t165) fun t166 =>
  C Tryz.prog N.math_bits_RotateLeft32 #[t142, .int .i64 (-6)] w.drew fun t143 w =>
  S3 w ∧
  C Tryz.prog N.math_bits_RotateLeft32 #[t144, .int .i64 (-11)] w fun t145 w =>
  S3 w ∧
  tk Tryz.prog S3 (bin .xor 111 (.tmp 143) (.tmp 145) t143 t145) fun t146 =>
  C Tryz.prog N.math_bits_RotateLeft32 #[t147, .int .i64 (-25)] w fun t148 w =>
  S3 w ∧
  tk Tryz.prog S3 (bin .xor 111 (.tmp 146) (.tmp 148) t146 t148) fun t149 =>
  tk Tryz.prog S3 (bin .add 111 (.tmp 141) (.tmp 149) t141 t149) fun t150 =>
  tk Tryz.prog S3 (bin .add 111 (.tmp 150) (.tmp 158) t150 t158) fun t159 =>
  tk Tryz.prog S3 (bin .add 111 (.tmp 159) (.tmp 162) t159 t162) fun t163 =>
  tk Tryz.prog S3 (bin .add 111 (.tmp 163) (.tmp 166) t163 t166) fun t167 =>
  mv t167 fun t20 =>
  mv (x3 11) fun t168 =>
  C Tryz.prog N.math_bits_RotateLeft32 #[t168, .int .i64 (-2)] w fun t169 w =>
  mv (x3 11) fun t170 =>
  C Tryz.prog N.math_bits_RotateLeft32 #[t170, .int .i64 (-13)] w fun t171 w =>
  o1 Tryz.prog (bin .xor 111 (.tmp 169) (.tmp 171) t169 t171) w fun t172 w =>
  mv (x3 11) fun t173 =>
  C Tryz.prog N.math_bits_RotateLeft32 #[t173, .int .i64 (-22)] w fun t174 w =>
  o1 Tryz.prog (bin .xor 111 (.tmp 172) (.tmp 174) t172 t174) w fun t175 w =>
  mv (x3 11) fun t176 =>
  mv (x3 12) fun t177 =>
  o1 Tryz.prog (bin .and 111 (.tmp 176) (.tmp 177) t176 t177) w fun t178 w =>
  mv (x3 11) fun t179 =>
  mv (x3 13) fun t180 =>
  o1 Tryz.prog (bin .and 111 (.tmp 179) (.tmp 180) t179 t180) w fun t181 w =>
  o1 Tryz.prog (bin .xor 111 (.tmp 178) (.tmp 181) t178 t181) w fun t182 w =>
  mv (x3 12) fun t183 =>
  mv (x3 13) fun t184 =>
  o1 Tryz.prog (bin .and 111 (.tmp 183) (.tmp 184) t183 t184) w fun t185 w =>
  o1 Tryz.prog (bin .xor 111 (.tmp 182) (.tmp 185) t182 t185) w fun t186 w =>
  o1 Tryz.prog (bin .add 111 (.tmp 175) (.tmp 186) t175 t186) w fun t187 w =>
  mv t187 fun t21 =>
  mv (x3 17) fun t188 =>
  mv (x3 16) fun t189 =>
  mv (x3 15) fun t190 =>
  mv (x3 14) fun t191 =>
  mv t20 fun t192 =>
  o1 Tryz.prog (bin .add 111 (.tmp 191) (.tmp 192) t191 t192) w fun t193 w =>
  mv (x3 13) fun t194 =>
  mv (x3 12) fun t195 =>
  mv (x3 11) fun t196 =>
  mv t20 fun t197 =>
  mv t21 fun t198 =>
  o1 Tryz.prog (bin .add 111 (.tmp 197) (.tmp 198) t197 t198) w fun t199 w =>
  mv t188 fun t18_1 =>
  mv t189 fun t17_1 =>
  mv t190 fun t16_1 =>
  mv t193 fun t15_1 =>
  mv t194 fun t14_1 =>
  mv t195 fun t13_1 =>
  mv t196 fun t12_1 =>
  mv t199 fun t11_1 =>
  o1 Tryz.prog (bin .add 3 (.tmp 138) (.const (.int .i64 1)) (x3 138) (.int .i64 1)) w fun t200 w =>
  mv t200 fun t138_1 =>
  I3 [t11_1, t12_1, t13_1, t14_1, t15_1, t16_1, t17_1, t18_1, t19, t20, t21, t138_1] w ∧ μ3 [t11_1, t12_1, t13_1, t14_1, t15_1, t16_1, t17_1, t18_1, t19, t20, t21, t138_1] w < μ3 [x3 11, x3 12, x3 13, x3 14, x3 15, x3 16, x3 17, x3 18, x3 19, x3 20, x3 21, x3 138] w3) (fun _ =>
  mv (x3 11) fun t201 =>
  mv (x3 12) fun t202 =>
  mv (x3 13) fun t203 =>
  mv (x3 14) fun t204 =>
  mv (x3 15) fun t205 =>
  mv (x3 16) fun t206 =>
  mv (x3 17) fun t207 =>
  mv (x3 18) fun t208 =>
  o1 Tryz.prog (Instr.build 113 #[(0, t201), (1, t202), (2, t203), (3, t204), (4, t205), (5, t206), (6, t207), (7, t208)]) w fun t209 w =>
  mv (.int .i64 0) fun t210 =>
  lp [undef, undef, t210] w fun I4 μ4 => ∀ (x4 : Env) (w4 : World), I4 [x4 22, x4 23, x4 210] w4 →
  o1 Tryz.prog (bin .lss 3 (.tmp 210) (.const (.int .i64 8)) (x4 210) (.int .i64 8)) w4 fun t211 w =>
  br t211 (fun _ =>
  mv (x4 210) fun t212 =>
  o1 Tryz.prog (Instr.index 113 t209 (x4 210)) w fun t213 w =>
  mv t212 fun t22 =>
  mv t213 fun t23 =>
  dr w.drew fun S4 =>
  mv a0 fun t214 =>
  mv t22 fun t215 =>
  nilOk t214 = true ∧ mv t214 fun t216 =>
  tk Tryz.prog S4 (Instr.indexAt 118 t216 t215) fun t217 =>
  tk Tryz.prog S4 (Instr.loadAt 111 t217) fun t218 =>
  mv t23 fun t219 =>
  tk Tryz.prog S4 (bin .add 111 (.tmp 218) (.tmp 219) t218 t219) fun t220 =>
  nilOk t214 = true ∧ mv t214 fun t221 =>
  tk Tryz.prog S4 (Instr.indexAt 118 t221 t215) fun t222 =>
  o0 Tryz.prog (Instr.storeAt 111 t222 t220) w.drew fun _ w =>
  o1 Tryz.prog (bin .add 3 (.tmp 210) (.const (.int .i64 1)) (x4 210) (.int .i64 1)) w fun t223 w =>
  mv t223 fun t210_1 =>
  I4 [t22, t23, t210_1] w ∧ μ4 [t22, t23, t210_1] w < μ4 [x4 22, x4 23, x4 210] w4) (fun _ =>
  k (.tuple #[]) w))))
theorem C.sha_words_mix {k : Value → World → Prop} {a0 a1 : Value} {w : World} (h : F.sha_words_mix k a0 a1 w) : C Tryz.prog N.sha_words_mix #[a0, a1] w k :=
  den_calls (H := { moves := [(4, (.take 0 (.take 1 (.take 2 (.take 3 (.take 4 (.take 5 (.take 6 (.take 7 (.take 8 (.take 9 (.take 10 (.take 11 (.take 12 (.take 13 (.take 14 (.take 15 (.take 16 (.take 17 (.take 18 (.take 19 (.take 20 (.take 21 (.take 22 (.take 23 (.take 24 (.take 25 (.take 26 (.take 27 (.take 28 (.take 29 (.take 30 (.take 31 (.take 32 (.take 33 (.take 34 (.last 35))))))))))))))))))))))))))))))))))))), (9, (.take 0 (.take 1 (.take 2 (.take 3 (.take 4 (.take 5 (.take 6 (.take 7 (.take 8 (.take 9 .fin))))))))))), (12, (.take 0 (.take 1 (.take 2 (.take 3 (.take 4 (.take 5 (.take 6 (.take 7 (.take 8 (.take 9 (.take 10 (.take 11 (.take 12 (.take 13 (.take 14 (.last 15))))))))))))))))), (13, (.take 0 (.take 1 (.take 2 (.take 3 (.take 4 (.take 5 (.take 6 (.take 7 (.take 8 (.take 9 (.take 10 (.take 11 (.take 12 (.take 13 (.take 14 (.take 15 (.take 16 (.take 17 (.take 18 (.take 19 (.take 20 (.take 21 (.take 22 (.take 23 (.take 24 (.take 25 (.take 26 (.take 27 (.take 28 (.take 29 (.take 30 (.take 31 (.take 32 (.take 33 (.take 34 (.take 35 (.take 36 (.take 37 (.take 38 (.take 39 .fin))))))))))))))))))))))))))))))))))))))))), (17, (.take 0 (.take 1 (.take 3 (.take 6 (.take 10 (.take 11 (.take 12 (.take 13 (.take 14 (.take 15 (.take 16 (.take 17 (.take 19 (.take 20 (.take 21 (.take 23 (.take 24 (.take 25 (.force 2 (.force 4 (.take 5 (.force 7 (.take 8 (.take 9 (.take 18 (.take 22 (.take 26 (.take 27 .fin))))))))))))))))))))))))))))), (24, (.take 0 (.take 1 (.take 2 (.take 3 (.take 4 (.take 5 (.take 6 (.take 7 (.take 8 (.last 9)))))))))))], vars := [5, 6, 7, 8, 9, 10, 11, 12, 13, 14, 15, 16, 17, 18, 19, 20, 21, 22, 23, 24, 138, 210] }) (args := [a0, a1]) mixed Tryz.func64 (by kernel_rfl) (by kernel_rfl) (by kernel_rfl) h

-- (isthmus/sha.words).end
def F.sha_words_end (k : Value → World → Prop) (a0 a1 a2 : Value) (w : World) : Prop :=
  o1 Tryz.prog (Instr.box 118 a0) w fun t3 w =>
  o1 Tryz.prog (Instr.alloc 43 true (.tuple #[])) w fun t6 w =>
  o1 Tryz.prog (Instr.alloc 150 true (.tuple #[])) w fun t7 w =>
  o1 Tryz.prog (Instr.sliceAt 150 t7 none none none) w fun t16 w =>
  mv a1 fun t17 =>
  ob Tryz.prog (fun _ => Builtin.copy_ #[38, 38] 3 #[t16, t17]) w fun t18 w =>
  mv t18 fun t8 =>
  mv t8 fun t19 =>
  o1 Tryz.prog (Instr.indexAt 150 t7 t19) w fun t20 w =>
  o0 Tryz.prog (Instr.storeAt 5 t20 (.int .u8 128)) w fun _ w =>
  mv (.int .i64 64) fun t9 =>
  mv t8 fun t21 =>
  o1 Tryz.prog (bin .add 3 (.tmp 21) (.const (.int .i64 9)) t21 (.int .i64 9)) w fun t22 w =>
  o1 Tryz.prog (bin .gtr 3 (.tmp 22) (.const (.int .i64 64)) t22 (.int .i64 64)) w fun t23 w =>
  jn (fun x1 => [x1 9]) (fun k1 =>
  br t23 (fun _ =>
  mv (.int .i64 128) fun t9_1 =>
  k1 [t9_1] w) (fun _ =>
  k1 [t9] w)) fun x1 w =>
  mv (.int .i64 0) fun t24 =>
  lp [undef, t24] w fun I2 μ2 => ∀ (x2 : Env) (w1 : World), I2 [x2 10, x2 24] w1 →
  o1 Tryz.prog (bin .lss 3 (.tmp 24) (.const (.int .i64 8)) (x2 24) (.int .i64 8)) w1 fun t25 w =>
  br t25 (fun _ =>
  mv (x2 24) fun t26 =>
  mv t26 fun t10 =>
  mv (x1 9) fun t27 =>
  o1 Tryz.prog (bin .sub 3 (.tmp 27) (.const (.int .i64 1)) t27 (.int .i64 1)) w fun t28 w =>
  mv t10 fun t29 =>
  o1 Tryz.prog (bin .sub 3 (.tmp 28) (.tmp 29) t28 t29) w fun t30 w =>
  mv a2 fun t31 =>
  o1 Tryz.prog (bin .mul 116 (.tmp 31) (.const (.int .u64 8)) t31 (.int .u64 8)) w fun t32 w =>
  mv t10 fun t33 =>
  o1 Tryz.prog (bin .mul 3 (.const (.int .i64 8)) (.tmp 33) (.int .i64 8) t33) w fun t34 w =>
  o1 Tryz.prog (convert 3 52 t34) w fun t35 w =>
  o1 Tryz.prog (bin .shr 116 (.tmp 32) (.tmp 35) t32 t35) w fun t36 w =>
  o1 Tryz.prog (convert 116 5 t36) w fun t37 w =>
  o1 Tryz.prog (Instr.indexAt 150 t7 t30) w fun t38 w =>
  o0 Tryz.prog (Instr.storeAt 5 t38 t37) w fun _ w =>
  o1 Tryz.prog (bin .add 3 (.tmp 24) (.const (.int .i64 1)) (x2 24) (.int .i64 1)) w fun t39 w =>
  mv t39 fun t24_1 =>
  I2 [t10, t24_1] w ∧ μ2 [t10, t24_1] w < μ2 [x2 10, x2 24] w1) (fun _ =>
  mv (.int .i64 0) fun t11 =>
  lp [t11] w fun I3 μ3 => ∀ (x3 : Env) (w2 : World), I3 [x3 11] w2 →
  mv (x3 11) fun t40 =>
  mv (x1 9) fun t41 =>
  o1 Tryz.prog (bin .lss 3 (.tmp 40) (.tmp 41) t40 t41) w2 fun t42 w =>
  br t42 (fun _ =>
  mv (x3 11) fun t45 =>
  mv (x3 11) fun t46 =>
  o1 Tryz.prog (bin .add 3 (.tmp 46) (.const (.int .i64 64)) t46 (.int .i64 64)) w fun t47 w =>
  o1 Tryz.prog (Instr.sliceAt 150 t7 (some t45) (some t47) none) w fun t48 w =>
  C Tryz.prog N.sha_words_mix #[t3, t48] w fun t49 w =>
  mv (x3 11) fun t43 =>
  o1 Tryz.prog (bin .add 3 (.tmp 43) (.const (.int .i64 64)) t43 (.int .i64 64)) w fun t44 w =>
  mv t44 fun t11_1 =>
  I3 [t11_1] w ∧ μ3 [t11_1] w < μ3 [x3 11] w2) (fun _ =>
  o1 Tryz.prog (Instr.alloc 43 true (.tuple #[])) w fun t12 w =>
  o1 Tryz.prog (Instr.loadAt 118 t3) w fun t50 w =>
  mv (.int .i64 0) fun t51 =>
  lp [undef, undef, undef, t51, undef] w fun I4 μ4 => ∀ (x4 : Env) (w3 : World), I4 [x4 13, x4 14, x4 15, x4 51, x4 55] w3 →
  o1 Tryz.prog (bin .lss 3 (.tmp 51) (.const (.int .i64 8)) (x4 51) (.int .i64 8)) w3 fun t52 w =>
  br t52 (fun _ =>
  mv (x4 51) fun t53 =>
  o1 Tryz.prog (Instr.index 118 t50 (x4 51)) w fun t54 w =>
  mv t53 fun t13 =>
  mv t54 fun t14 =>
  mv (.int .i64 0) fun t55 =>
  lp [(x4 15), t55] w fun I5 μ5 => ∀ (x5 : Env) (w4 : World), I5 [x5 15, x5 55] w4 →
  o1 Tryz.prog (bin .lss 3 (.tmp 55) (.const (.int .i64 4)) (x5 55) (.int .i64 4)) w4 fun t56 w =>
  br t56 (fun _ =>
  mv (x5 55) fun t57 =>
  mv t57 fun t15 =>
  mv t13 fun t58 =>
  o1 Tryz.prog (bin .mul 3 (.const (.int .i64 4)) (.tmp 58) (.int .i64 4) t58) w fun t59 w =>
  mv t15 fun t60 =>
  o1 Tryz.prog (bin .add 3 (.tmp 59) (.tmp 60) t59 t60) w fun t61 w =>
  mv t14 fun t62 =>
  mv t15 fun t63 =>
  o1 Tryz.prog (bin .mul 3 (.const (.int .i64 8)) (.tmp 63) (.int .i64 8) t63) w fun t64 w =>
  o1 Tryz.prog (bin .sub 3 (.const (.int .i64 24)) (.tmp 64) (.int .i64 24) t64) w fun t65 w =>
  o1 Tryz.prog (convert 3 52 t65) w fun t66 w =>
  o1 Tryz.prog (bin .shr 111 (.tmp 62) (.tmp 66) t62 t66) w fun t67 w =>
  o1 Tryz.prog (convert 111 5 t67) w fun t68 w =>
  o1 Tryz.prog (Instr.indexAt 43 t12 t61) w fun t69 w =>
  o0 Tryz.prog (Instr.storeAt 5 t69 t68) w fun _ w =>
  o1 Tryz.prog (bin .add 3 (.tmp 55) (.const (.int .i64 1)) (x5 55) (.int .i64 1)) w fun t70 w =>
  mv t70 fun t55_1 =>
  I5 [t15, t55_1] w ∧ μ5 [t15, t55_1] w < μ5 [x5 15, x5 55] w4) (fun _ =>
  o1 Tryz.prog (bin .add 3 (.tmp 51) (.const (.int .i64 1)) (x4 51) (.int .i64 1)) w fun t71 w =>
  mv t71 fun t51_1 =>
  I4 [t13, t14, (x5 15), t51_1, (x5 55)] w ∧ μ4 [t13, t14, (x5 15), t51_1, (x5 55)] w < μ4 [x4 13, x4 14, x4 15, x4 51, x4 55] w3)) (fun _ =>
  o1 Tryz.prog (Instr.loadAt 43 t12) w fun t72 w =>
  o0 Tryz.prog (Instr.storeAt 43 t6 t72) w fun _ w =>
  rc Tryz.prog 43 t6 w fun r0 =>
  k r0 w)))
theorem C.sha_words_end {k : Value → World → Prop} {a0 a1 a2 : Value} {w : World} (h : F.sha_words_end k a0 a1 a2 w) : C Tryz.prog N.sha_words_end #[a0, a1, a2] w k :=
  den_calls (H := { moves := [], vars := [8, 9, 10, 11, 13, 14, 15, 24, 51, 55] }) (args := [a0, a1, a2]) mixed Tryz.func65 (by kernel_rfl) (by kernel_rfl) (by kernel_rfl) h

-- slices.insertionSortCmpFunc[isthmus/pool.item]
def F.slices_insertionSortCmpFunc_pool_item (k : Value → World → Prop) (a0 a1 a2 a3 : Value) (w : World) : Prop :=
  mv a1 fun t10 =>
  o1 Tryz.prog (bin .add 3 (.tmp 10) (.const (.int .i64 1)) t10 (.int .i64 1)) w fun t11 w =>
  mv t11 fun t8 =>
  lp [t8, undef] w fun I1 μ1 => ∀ (x1 : Env) (w1 : World), I1 [x1 8, x1 9] w1 →
  mv (x1 8) fun t12 =>
  mv a2 fun t13 =>
  o1 Tryz.prog (bin .lss 3 (.tmp 12) (.tmp 13) t12 t13) w1 fun t14 w =>
  br t14 (fun _ =>
  mv (x1 8) fun t17 =>
  mv t17 fun t9 =>
  lp [t9] w fun I2 μ2 => ∀ (x2 : Env) (w2 : World), I2 [x2 9] w2 →
  dr w2.drew fun S1 =>
  mv (x2 9) fun t18 =>
  mv a1 fun t19 =>
  tk Tryz.prog S1 (bin .gtr 3 (.tmp 18) (.tmp 19) t18 t19) fun t20 =>
  mv t20 fun t21 =>
  gdT t21 true (fun k1 => mv a3 k1) fun t22 =>
  gdT t21 true (fun k2 => mv a0 k2) fun t23 =>
  gdT t21 true (fun k3 => mv (x2 9) k3) fun t24 =>
  gdT t21 true (fun k4 => tk Tryz.prog S1 (Instr.indexAt 67 t23 t24) k4) fun t25 =>
  gdT t21 true (fun k5 => tk Tryz.prog S1 (Instr.loadAt 72 t25) k5) fun t26 =>
  gdT t21 true (fun k6 => mv a0 k6) fun t27 =>
  gdT t21 true (fun k7 => mv (x2 9) k7) fun t28 =>
  gdT t21 true (fun k8 => tk Tryz.prog S1 (bin .sub 3 (.tmp 28) (.const (.int .i64 1)) t28 (.int .i64 1)) k8) fun t29 =>
  gdT t21 true (fun k9 => tk Tryz.prog S1 (Instr.indexAt 67 t27 t29) k9) fun t30 =>
  gdT t21 true (fun k10 => tk Tryz.prog S1 (Instr.loadAt 72 t30) k10) fun t31 =>
  gd t21 true (fun k11 => cv Tryz.prog t22 #[t26, t31] w2.drew k11) w2.drew fun t32 w =>
  S1 w ∧
  gdT t21 true (fun k12 => tk Tryz.prog S1 (bin .lss 3 (.tmp 32) (.const (.int .i64 0)) t32 (.int .i64 0)) k12) fun t33 =>
  pk t21 t33 (.bool false) fun t34 =>
  br t34 (fun _ =>
  dr w.drew fun S2 =>
  mv a0 fun t37 =>
  mv (x2 9) fun t38 =>
  mv a0 fun t39 =>
  mv (x2 9) fun t40 =>
  tk Tryz.prog S2 (bin .sub 3 (.tmp 40) (.const (.int .i64 1)) t40 (.int .i64 1)) fun t41 =>
  mv a0 fun t42 =>
  mv (x2 9) fun t43 =>
  tk Tryz.prog S2 (bin .sub 3 (.tmp 43) (.const (.int .i64 1)) t43 (.int .i64 1)) fun t44 =>
  tk Tryz.prog S2 (Instr.indexAt 67 t42 t44) fun t45 =>
  tk Tryz.prog S2 (Instr.loadAt 72 t45) fun t46 =>
  mv a0 fun t47 =>
  mv (x2 9) fun t48 =>
  tk Tryz.prog S2 (Instr.indexAt 67 t47 t48) fun t49 =>
  tk Tryz.prog S2 (Instr.loadAt 72 t49) fun t50 =>
  tk Tryz.prog S2 (Instr.indexAt 67 t37 t38) fun t51 =>
  o0 Tryz.prog (Instr.storeAt 72 t51 t46) w.drew fun _ w =>
  S2 w ∧
  tk Tryz.prog S2 (Instr.indexAt 67 t39 t41) fun t52 =>
  o0 Tryz.prog (Instr.storeAt 72 t52 t50) w fun _ w =>
  mv (x2 9) fun t35 =>
  o1 Tryz.prog (bin .sub 3 (.tmp 35) (.const (.int .i64 1)) t35 (.int .i64 1)) w fun t36 w =>
  mv t36 fun t9_1 =>
  I2 [t9_1] w ∧ μ2 [t9_1] w < μ2 [x2 9] w2) (fun _ =>
  mv (x1 8) fun t15 =>
  o1 Tryz.prog (bin .add 3 (.tmp 15) (.const (.int .i64 1)) t15 (.int .i64 1)) w fun t16 w =>
  mv t16 fun t8_1 =>
  I1 [t8_1, (x2 9)] w ∧ μ1 [t8_1, (x2 9)] w < μ1 [x1 8, x1 9] w1)) (fun _ =>
  k (.tuple #[]) w)
theorem C.slices_insertionSortCmpFunc_pool_item {k : Value → World → Prop} {a0 a1 a2 a3 : Value} {w : World} (h : F.slices_insertionSortCmpFunc_pool_item k a0 a1 a2 a3 w) : C Tryz.prog N.slices_insertionSortCmpFunc_pool_item #[a0, a1, a2, a3] w k :=
  den_calls (H := { moves := [(4, (.take 0 (.take 1 (.take 2 (.take 3 (.take 4 (.take 5 (.take 6 (.take 7 (.take 8 (.take 9 (.take 10 (.take 11 (.take 12 (.take 13 (.force 14 (.take 15 (.take 16 .fin)))))))))))))))))), (6, (.take 0 (.take 1 (.take 2 (.take 3 (.take 4 (.take 5 (.take 6 (.take 7 (.take 8 (.take 9 (.take 10 (.take 11 (.take 12 (.take 13 (.take 14 (.force 15 (.take 16 (.last 17)))))))))))))))))))], vars := [8, 9] }) (args := [a0, a1, a2, a3]) mixed Tryz.func66 (by kernel_rfl) (by kernel_rfl) (by kernel_rfl) h

-- slices.heapSortCmpFunc[isthmus/pool.item]
def F.slices_heapSortCmpFunc_pool_item (k : Value → World → Prop) (a0 a1 a2 a3 : Value) (w : World) : Prop :=
  mv a1 fun t13 =>
  mv t13 fun t8 =>
  mv (.int .i64 0) fun t9 =>
  mv a2 fun t14 =>
  mv a1 fun t15 =>
  o1 Tryz.prog (bin .sub 3 (.tmp 14) (.tmp 15) t14 t15) w fun t16 w =>
  mv t16 fun t10 =>
  mv t10 fun t17 =>
  o1 Tryz.prog (bin .sub 3 (.tmp 17) (.const (.int .i64 1)) t17 (.int .i64 1)) w fun t18 w =>
  o1 Tryz.prog (bin .quo 3 (.tmp 18) (.const (.int .i64 2)) t18 (.int .i64 2)) w fun t19 w =>
  mv t19 fun t11 =>
  lp [t11] w fun I1 μ1 => ∀ (x1 : Env) (w1 : World), I1 [x1 11] w1 →
  mv (x1 11) fun t20 =>
  o1 Tryz.prog (bin .geq 3 (.tmp 20) (.const (.int .i64 0)) t20 (.int .i64 0)) w1 fun t21 w =>
  br t21 (fun _ =>
  mv a0 fun t24 =>
  mv (x1 11) fun t25 =>
  mv t10 fun t26 =>
  mv t8 fun t27 =>
  mv a3 fun t28 =>
  C Tryz.prog N.slices_siftDownCmpFunc_pool_item #[t24, t25, t26, t27, t28] w fun t29 w =>
  mv (x1 11) fun t22 =>
  o1 Tryz.prog (bin .sub 3 (.tmp 22) (.const (.int .i64 1)) t22 (.int .i64 1)) w fun t23 w =>
  mv t23 fun t11_1 =>
  I1 [t11_1] w ∧ μ1 [t11_1] w < μ1 [x1 11] w1) (fun _ =>
  mv t10 fun t30 =>
  o1 Tryz.prog (bin .sub 3 (.tmp 30) (.const (.int .i64 1)) t30 (.int .i64 1)) w fun t31 w =>
  mv t31 fun t12 =>
  lp [t12] w fun I2 μ2 => ∀ (x2 : Env) (w2 : World), I2 [x2 12] w2 →
  mv (x2 12) fun t32 =>
  o1 Tryz.prog (bin .geq 3 (.tmp 32) (.const (.int .i64 0)) t32 (.int .i64 0)) w2 fun t33 w =>
  br t33 (fun _ =>
  dr w.drew fun S1 =>
  mv a0 fun t36 =>
  mv t8 fun t37 =>
  mv a0 fun t38 =>
  mv t8 fun t39 =>
  mv (x2 12) fun t40 =>
  tk Tryz.prog S1 (bin .add 3 (.tmp 39) (.tmp 40) t39 t40) fun t41 =>
  mv a0 fun t42 =>
  mv t8 fun t43 =>
  mv (x2 12) fun t44 =>
  tk Tryz.prog S1 (bin .add 3 (.tmp 43) (.tmp 44) t43 t44) fun t45 =>
  tk Tryz.prog S1 (Instr.indexAt 67 t42 t45) fun t46 =>
  tk Tryz.prog S1 (Instr.loadAt 72 t46) fun t47 =>
  mv a0 fun t48 =>
  mv t8 fun t49 =>
  tk Tryz.prog S1 (Instr.indexAt 67 t48 t49) fun t50 =>
  tk Tryz.prog S1 (Instr.loadAt 72 t50) fun t51 =>
  tk Tryz.prog S1 (Instr.indexAt 67 t36 t37) fun t52 =>
  o0 Tryz.prog (Instr.storeAt 72 t52 t47) w.drew fun _ w =>
  S1 w ∧
  tk Tryz.prog S1 (Instr.indexAt 67 t38 t41) fun t53 =>
  o0 Tryz.prog (Instr.storeAt 72 t53 t51) w fun _ w =>
  mv a0 fun t54 =>
  mv t9 fun t55 =>
  mv (x2 12) fun t56 =>
  mv t8 fun t57 =>
  mv a3 fun t58 =>
  C Tryz.prog N.slices_siftDownCmpFunc_pool_item #[t54, t55, t56, t57, t58] w fun t59 w =>
  mv (x2 12) fun t34 =>
  o1 Tryz.prog (bin .sub 3 (.tmp 34) (.const (.int .i64 1)) t34 (.int .i64 1)) w fun t35 w =>
  mv t35 fun t12_1 =>
  I2 [t12_1] w ∧ μ2 [t12_1] w < μ2 [x2 12] w2) (fun _ =>
  k (.tuple #[]) w))
theorem C.slices_heapSortCmpFunc_pool_item {k : Value → World → Prop} {a0 a1 a2 a3 : Value} {w : World} (h : F.slices_heapSortCmpFunc_pool_item k a0 a1 a2 a3 w) : C Tryz.prog N.slices_heapSortCmpFunc_pool_item #[a0, a1, a2, a3] w k :=
  den_calls (H := { moves := [(10, (.take 0 (.take 1 (.take 2 (.take 3 (.take 4 (.take 5 (.take 6 (.take 7 (.take 8 (.take 9 (.take 10 (.take 11 (.take 12 (.take 13 (.take 14 (.take 15 (.take 16 (.force 17 (.take 18 (.last 19)))))))))))))))))))))], vars := [8, 9, 10, 11, 12] }) (args := [a0, a1, a2, a3]) mixed Tryz.func67 (by kernel_rfl) (by kernel_rfl) (by kernel_rfl) h

end Go.Proofs.YtgagekffmamldaaGreatDoor
