/- What each function asks: printed by hoas.py off the loaded program; each is held against the program by the kernel. -/
import Derived.Test.YtgagekffmamldaaGreatDoorN
set_option linter.unusedVariables false
set_option linter.unusedSimpArgs false
set_option linter.unusedSectionVars false
namespace Go.Proofs.YtgagekffmamldaaGreatDoor
open Go Go.Isk
set_option maxRecDepth 100000
-- slices.breakPatternsCmpFunc[isthmus/pool.item]
def F.slices_breakPatternsCmpFunc_pool_item (k : Value → World → Prop) (a0 a1 a2 a3 : Value) (w : World) : Prop :=
  mv a2 fun t13 =>
  mv a1 fun t14 =>
  o1 Tryz.prog (bin .sub 3 (.tmp 13) (.tmp 14) t13 t14) w fun t15 w =>
  mv t15 fun t8 =>
  mv t8 fun t16 =>
  o1 Tryz.prog (bin .geq 3 (.tmp 16) (.const (.int .i64 8)) t16 (.int .i64 8)) w fun t17 w =>
  jn (fun x1 => [x1 10, x1 11, x1 12]) (fun k1 =>
  br t17 (fun _ =>
  mv t8 fun t18 =>
  o1 Tryz.prog (convert 3 151 t18) w fun t19 w =>
  o1 Tryz.prog (Instr.alloc 151 true (.tuple #[])) w fun t9 w =>
  o0 Tryz.prog (Instr.storeAt 151 t9 t19) w fun _ w =>
  mv t8 fun t20 =>
  C Tryz.prog N.slices_nextPowerOfTwo #[t20] w fun t21 w =>
  mv t21 fun t10 =>
  mv a1 fun t22 =>
  mv t8 fun t23 =>
  o1 Tryz.prog (bin .quo 3 (.tmp 23) (.const (.int .i64 4)) t23 (.int .i64 4)) w fun t24 w =>
  o1 Tryz.prog (bin .mul 3 (.tmp 24) (.const (.int .i64 2)) t24 (.int .i64 2)) w fun t25 w =>
  o1 Tryz.prog (bin .add 3 (.tmp 22) (.tmp 25) t22 t25) w fun t26 w =>
  o1 Tryz.prog (bin .sub 3 (.tmp 26) (.const (.int .i64 1)) t26 (.int .i64 1)) w fun t27 w =>
  mv t27 fun t11 =>
  lp [t11, undef] w fun I2 μ2 => ∀ (x2 : Env) (w1 : World), I2 [x2 11, x2 12] w1 →
  mv (x2 11) fun t28 =>
  mv a1 fun t29 =>
  mv t8 fun t30 =>
  o1 Tryz.prog (bin .quo 3 (.tmp 30) (.const (.int .i64 4)) t30 (.int .i64 4)) w1 fun t31 w =>
  o1 Tryz.prog (bin .mul 3 (.tmp 31) (.const (.int .i64 2)) t31 (.int .i64 2)) w fun t32 w =>
  o1 Tryz.prog (bin .add 3 (.tmp 29) (.tmp 32) t29 t32) w fun t33 w =>
  o1 Tryz.prog (bin .add 3 (.tmp 33) (.const (.int .i64 1)) t33 (.int .i64 1)) w fun t34 w =>
  o1 Tryz.prog (bin .leq 3 (.tmp 28) (.tmp 34) t28 t34) w fun t35 w =>
  br t35 (fun _ =>
  C Tryz.prog N.slices_xorshift_Next #[t9] w fun t38 w =>
  mv t10 fun t39 =>
  o1 Tryz.prog (bin .sub 52 (.tmp 39) (.const (.int .u64 1)) t39 (.int .u64 1)) w fun t40 w =>
  o1 Tryz.prog (bin .and 52 (.tmp 38) (.tmp 40) t38 t40) w fun t41 w =>
  o1 Tryz.prog (convert 52 3 t41) w fun t42 w =>
  mv t42 fun t12 =>
  mv t12 fun t43 =>
  mv t8 fun t44 =>
  o1 Tryz.prog (bin .geq 3 (.tmp 43) (.tmp 44) t43 t44) w fun t45 w =>
  jn (fun x3 => [x3 12]) (fun k2 =>
  br t45 (fun _ =>
  mv t12 fun t46 =>
  mv t8 fun t47 =>
  o1 Tryz.prog (bin .sub 3 (.tmp 46) (.tmp 47) t46 t47) w fun t48 w =>
  mv t48 fun t12_1 =>
  k2 [t12_1] w) (fun _ =>
  k2 [t12] w)) fun x3 w =>
  dr w.drew fun S1 =>
  mv a0 fun t49 =>
  mv (x2 11) fun t50 =>
  mv a0 fun t51 =>
  mv a1 fun t52 =>
  mv (x3 12) fun t53 =>
  tk Tryz.prog S1 (bin .add 3 (.tmp 52) (.tmp 53) t52 t53) fun t54 =>
  mv a0 fun t55 =>
  mv a1 fun t56 =>
  mv (x3 12) fun t57 =>
  tk Tryz.prog S1 (bin .add 3 (.tmp 56) (.tmp 57) t56 t57) fun t58 =>
  tk Tryz.prog S1 (Instr.indexAt 67 t55 t58) fun t59 =>
  tk Tryz.prog S1 (Instr.loadAt 72 t59) fun t60 =>
  mv a0 fun t61 =>
  mv (x2 11) fun t62 =>
  tk Tryz.prog S1 (Instr.indexAt 67 t61 t62) fun t63 =>
  tk Tryz.prog S1 (Instr.loadAt 72 t63) fun t64 =>
  tk Tryz.prog S1 (Instr.indexAt 67 t49 t50) fun t65 =>
  o0 Tryz.prog (Instr.storeAt 72 t65 t60) w.drew fun _ w =>
  S1 w ∧
  tk Tryz.prog S1 (Instr.indexAt 67 t51 t54) fun t66 =>
  o0 Tryz.prog (Instr.storeAt 72 t66 t64) w fun _ w =>
  mv (x2 11) fun t36 =>
  o1 Tryz.prog (bin .add 3 (.tmp 36) (.const (.int .i64 1)) t36 (.int .i64 1)) w fun t37 w =>
  mv t37 fun t11_1 =>
  I2 [t11_1, (x3 12)] w ∧ μ2 [t11_1, (x3 12)] w < μ2 [x2 11, x2 12] w1) (fun _ =>
  k1 [t10, (x2 11), (x2 12)] w)) (fun _ =>
  k1 [undef, undef, undef] w)) fun x1 w =>
  k (.tuple #[]) w
theorem C.slices_breakPatternsCmpFunc_pool_item {k : Value → World → Prop} {a0 a1 a2 a3 : Value} {w : World} (h : F.slices_breakPatternsCmpFunc_pool_item k a0 a1 a2 a3 w) : C Tryz.prog N.slices_breakPatternsCmpFunc_pool_item #[a0, a1, a2, a3] w k :=
  den_calls (H := { moves := [(10, (.take 0 (.take 1 (.take 2 (.take 3 (.take 4 (.take 5 (.take 6 (.take 7 (.take 8 (.take 9 (.take 10 (.take 11 (.take 12 (.take 13 (.take 14 (.take 15 (.take 16 (.force 17 (.take 18 (.last 19)))))))))))))))))))))], vars := [8, 10, 11, 12] }) (args := [a0, a1, a2, a3]) mixed Tryz.func68 (by kernel_rfl) (by kernel_rfl) (by kernel_rfl) h

-- slices.choosePivotCmpFunc[isthmus/pool.item]
def F.slices_choosePivotCmpFunc_pool_item (k : Value → World → Prop) (a0 a1 a2 a3 : Value) (w : World) : Prop :=
  mv (.int .i64 0) fun t8 =>
  mv (.int .i64 0) fun t9 =>
  mv a2 fun t15 =>
  mv a1 fun t16 =>
  o1 Tryz.prog (bin .sub 3 (.tmp 15) (.tmp 16) t15 t16) w fun t17 w =>
  mv t17 fun t10 =>
  o1 Tryz.prog (Instr.alloc 3 true (.tuple #[])) w fun t11 w =>
  mv a1 fun t18 =>
  mv t10 fun t19 =>
  o1 Tryz.prog (bin .quo 3 (.tmp 19) (.const (.int .i64 4)) t19 (.int .i64 4)) w fun t20 w =>
  o1 Tryz.prog (bin .mul 3 (.tmp 20) (.const (.int .i64 1)) t20 (.int .i64 1)) w fun t21 w =>
  o1 Tryz.prog (bin .add 3 (.tmp 18) (.tmp 21) t18 t21) w fun t22 w =>
  mv t22 fun t12 =>
  mv a1 fun t23 =>
  mv t10 fun t24 =>
  o1 Tryz.prog (bin .quo 3 (.tmp 24) (.const (.int .i64 4)) t24 (.int .i64 4)) w fun t25 w =>
  o1 Tryz.prog (bin .mul 3 (.tmp 25) (.const (.int .i64 2)) t25 (.int .i64 2)) w fun t26 w =>
  o1 Tryz.prog (bin .add 3 (.tmp 23) (.tmp 26) t23 t26) w fun t27 w =>
  mv t27 fun t13 =>
  mv a1 fun t28 =>
  mv t10 fun t29 =>
  o1 Tryz.prog (bin .quo 3 (.tmp 29) (.const (.int .i64 4)) t29 (.int .i64 4)) w fun t30 w =>
  o1 Tryz.prog (bin .mul 3 (.tmp 30) (.const (.int .i64 3)) t30 (.int .i64 3)) w fun t31 w =>
  o1 Tryz.prog (bin .add 3 (.tmp 28) (.tmp 31) t28 t31) w fun t32 w =>
  mv t32 fun t14 =>
  mv t10 fun t33 =>
  o1 Tryz.prog (bin .geq 3 (.tmp 33) (.const (.int .i64 8)) t33 (.int .i64 8)) w fun t34 w =>
  jn (fun x1 => [x1 12, x1 13, x1 14]) (fun k1 =>
  br t34 (fun _ =>
  mv t10 fun t35 =>
  o1 Tryz.prog (bin .geq 3 (.tmp 35) (.const (.int .i64 50)) t35 (.int .i64 50)) w fun t36 w =>
  jn (fun x2 => [x2 12, x2 13, x2 14]) (fun k2 =>
  br t36 (fun _ =>
  mv a0 fun t37 =>
  mv t12 fun t38 =>
  mv a3 fun t39 =>
  C Tryz.prog N.slices_medianAdjacentCmpFunc_pool_item #[t37, t38, t11, t39] w fun t40 w =>
  mv t40 fun t12_1 =>
  mv a0 fun t41 =>
  mv t13 fun t42 =>
  mv a3 fun t43 =>
  C Tryz.prog N.slices_medianAdjacentCmpFunc_pool_item #[t41, t42, t11, t43] w fun t44 w =>
  mv t44 fun t13_1 =>
  mv a0 fun t45 =>
  mv t14 fun t46 =>
  mv a3 fun t47 =>
  C Tryz.prog N.slices_medianAdjacentCmpFunc_pool_item #[t45, t46, t11, t47] w fun t48 w =>
  mv t48 fun t14_1 =>
  k2 [t12_1, t13_1, t14_1] w) (fun _ =>
  k2 [t12, t13, t14] w)) fun x2 w =>
  mv a0 fun t49 =>
  mv (x2 12) fun t50 =>
  mv (x2 13) fun t51 =>
  mv (x2 14) fun t52 =>
  mv a3 fun t53 =>
  C Tryz.prog N.slices_medianCmpFunc_pool_item #[t49, t50, t51, t52, t11, t53] w fun t54 w =>
  mv t54 fun t13_2 =>
  k1 [(x2 12), t13_2, (x2 14)] w) (fun _ =>
  k1 [t12, t13, t14] w)) fun x1 w =>
  o1 Tryz.prog (Instr.loadAt 3 t11) w fun t55 w =>
  o1 Tryz.prog (bin .eql 3 (.tmp 55) (.const (.int .i64 0)) t55 (.int .i64 0)) w fun t58 w =>
  mv t58 fun t57 =>
  br t57 (fun _ =>
  mv (x1 13) fun t59 =>
  mv t59 fun t8_1 =>
  mv (.int .i64 1) fun t9_1 =>
  k (.tuple #[t8_1, t9_1]) w) (fun _ =>
  o1 Tryz.prog (bin .eql 3 (.tmp 55) (.const (.int .i64 12)) t55 (.int .i64 12)) w fun t61 w =>
  mv t61 fun t60 =>
  br t60 (fun _ =>
  mv (x1 13) fun t62 =>
  mv t62 fun t8_2 =>
  mv (.int .i64 2) fun t9_2 =>
  k (.tuple #[t8_2, t9_2]) w) (fun _ =>
  mv (x1 13) fun t56 =>
  mv t56 fun t8_3 =>
  mv (.int .i64 0) fun t9_3 =>
  k (.tuple #[t8_3, t9_3]) w))
theorem C.slices_choosePivotCmpFunc_pool_item {k : Value → World → Prop} {a0 a1 a2 a3 : Value} {w : World} (h : F.slices_choosePivotCmpFunc_pool_item k a0 a1 a2 a3 w) : C Tryz.prog N.slices_choosePivotCmpFunc_pool_item #[a0, a1, a2, a3] w k :=
  den_calls (H := { moves := [], vars := [8, 9, 10, 12, 13, 14, 57, 60] }) (args := [a0, a1, a2, a3]) mixed Tryz.func69 (by kernel_rfl) (by kernel_rfl) (by kernel_rfl) h

-- slices.reverseRangeCmpFunc[isthmus/pool.item]
def F.slices_reverseRangeCmpFunc_pool_item (k : Value → World → Prop) (a0 a1 a2 a3 : Value) (w : World) : Prop :=
  mv a1 fun t10 =>
  mv t10 fun t8 =>
  mv a2 fun t11 =>
  o1 Tryz.prog (bin .sub 3 (.tmp 11) (.const (.int .i64 1)) t11 (.int .i64 1)) w fun t12 w =>
  mv t12 fun t9 =>
  lp [t8, t9] w fun I1 μ1 => ∀ (x1 : Env) (w1 : World), I1 [x1 8, x1 9] w1 →
  mv (x1 8) fun t13 =>
  mv (x1 9) fun t14 =>
  o1 Tryz.prog (bin .lss 3 (.tmp 13) (.tmp 14) t13 t14) w1 fun t15 w =>
  br t15 (fun _ =>
  dr w.drew fun S1 =>
  mv a0 fun t16 =>
  mv (x1 8) fun t17 =>
  mv a0 fun t18 =>
  mv (x1 9) fun t19 =>
  mv a0 fun t20 =>
  mv (x1 9) fun t21 =>
  tk Tryz.prog S1 (Instr.indexAt 67 t20 t21) fun t22 =>
  tk Tryz.prog S1 (Instr.loadAt 72 t22) fun t23 =>
  mv a0 fun t24 =>
  mv (x1 8) fun t25 =>
  tk Tryz.prog S1 (Instr.indexAt 67 t24 t25) fun t26 =>
  tk Tryz.prog S1 (Instr.loadAt 72 t26) fun t27 =>
  tk Tryz.prog S1 (Instr.indexAt 67 t16 t17) fun t28 =>
  o0 Tryz.prog (Instr.storeAt 72 t28 t23) w.drew fun _ w =>
  S1 w ∧
  tk Tryz.prog S1 (Instr.indexAt 67 t18 t19) fun t29 =>
  o0 Tryz.prog (Instr.storeAt 72 t29 t27) w fun _ w =>
  mv (x1 8) fun t30 =>
  o1 Tryz.prog (bin .add 3 (.tmp 30) (.const (.int .i64 1)) t30 (.int .i64 1)) w fun t31 w =>
  mv t31 fun t8_1 =>
  mv (x1 9) fun t32 =>
  o1 Tryz.prog (bin .sub 3 (.tmp 32) (.const (.int .i64 1)) t32 (.int .i64 1)) w fun t33 w =>
  mv t33 fun t9_1 =>
  I1 [t8_1, t9_1] w ∧ μ1 [t8_1, t9_1] w < μ1 [x1 8, x1 9] w1) (fun _ =>
  k (.tuple #[]) w)
theorem C.slices_reverseRangeCmpFunc_pool_item {k : Value → World → Prop} {a0 a1 a2 a3 : Value} {w : World} (h : F.slices_reverseRangeCmpFunc_pool_item k a0 a1 a2 a3 w) : C Tryz.prog N.slices_reverseRangeCmpFunc_pool_item #[a0, a1, a2, a3] w k :=
  den_calls (H := { moves := [(3, (.take 0 (.take 1 (.take 2 (.take 3 (.take 4 (.take 5 (.take 6 (.take 7 (.take 8 (.take 9 (.take 10 (.take 11 (.take 12 (.force 13 (.take 14 (.last 15)))))))))))))))))], vars := [8, 9] }) (args := [a0, a1, a2, a3]) mixed Tryz.func70 (by kernel_rfl) (by kernel_rfl) (by kernel_rfl) h

-- slices.partialInsertionSortCmpFunc[isthmus/pool.item]
def F.slices_partialInsertionSortCmpFunc_pool_item (k : Value → World → Prop) (a0 a1 a2 a3 : Value) (w : World) : Prop :=
  mv (.bool false) fun t8 =>
  mv a1 fun t13 =>
  o1 Tryz.prog (bin .add 3 (.tmp 13) (.const (.int .i64 1)) t13 (.int .i64 1)) w fun t14 w =>
  mv t14 fun t9 =>
  mv (.int .i64 0) fun t10 =>
  lp [t8, t9, t10, undef, undef] w fun I1 μ1 => ∀ (x1 : Env) (w1 : World), I1 [x1 8, x1 9, x1 10, x1 11, x1 12] w1 →
  mv (x1 10) fun t15 =>
  o1 Tryz.prog (bin .lss 3 (.tmp 15) (.const (.int .i64 5)) t15 (.int .i64 5)) w1 fun t16 w =>
  br t16 (fun _ =>
  lp [(x1 9)] w fun I2 μ2 => ∀ (x2 : Env) (w2 : World), I2 [x2 9] w2 →
  dr w2.drew fun S1 =>
  mv (x2 9) fun t19 =>
  mv a2 fun t20 =>
  tk Tryz.prog S1 (bin .lss 3 (.tmp 19) (.tmp 20) t19 t20) fun t21 =>
  mv t21 fun t22 =>
  gdT t22 true (fun k1 => mv a3 k1) fun t23 =>
  gdT t22 true (fun k2 => mv a0 k2) fun t24 =>
  gdT t22 true (fun k3 => mv (x2 9) k3) fun t25 =>
  gdT t22 true (fun k4 => tk Tryz.prog S1 (Instr.indexAt 67 t24 t25) k4) fun t26 =>
  gdT t22 true (fun k5 => tk Tryz.prog S1 (Instr.loadAt 72 t26) k5) fun t27 =>
  gdT t22 true (fun k6 => mv a0 k6) fun t28 =>
  gdT t22 true (fun k7 => mv (x2 9) k7) fun t29 =>
  gdT t22 true (fun k8 => tk Tryz.prog S1 (bin .sub 3 (.tmp 29) (.const (.int .i64 1)) t29 (.int .i64 1)) k8) fun t30 =>
  gdT t22 true (fun k9 => tk Tryz.prog S1 (Instr.indexAt 67 t28 t30) k9) fun t31 =>
  gdT t22 true (fun k10 => tk Tryz.prog S1 (Instr.loadAt 72 t31) k10) fun t32 =>
  gd t22 true (fun k11 => cv Tryz.prog t23 #[t27, t32] w2.drew k11) w2.drew fun t33 w =>
  S1 w ∧
  gdT t22 true (fun k12 => tk Tryz.prog S1 (bin .lss 3 (.tmp 33) (.const (.int .i64 0)) t33 (.int .i64 0)) k12) fun t34 =>
  gdT t22 true (fun k13 => tk Tryz.prog S1 (Op.unary .not t34) k13) fun t35 =>
  pk t22 t35 (.bool false) fun t36 =>
  br t36 (fun _ =>
  mv (x2 9) fun t37 =>
  o1 Tryz.prog (bin .add 3 (.tmp 37) (.const (.int .i64 1)) t37 (.int .i64 1)) w fun t38 w =>
  mv t38 fun t9_1 =>
  I2 [t9_1] w ∧ μ2 [t9_1] w < μ2 [x2 9] w2) (fun _ =>
  mv (x2 9) fun t39 =>
  mv a2 fun t40 =>
  o1 Tryz.prog (bin .eql 3 (.tmp 39) (.tmp 40) t39 t40) w fun t41 w =>
  br t41 (fun _ =>
  mv (.bool true) fun t8_1 =>
  k t8_1 w) (fun _ =>
  mv a2 fun t42 =>
  mv a1 fun t43 =>
  o1 Tryz.prog (bin .sub 3 (.tmp 42) (.tmp 43) t42 t43) w fun t44 w =>
  o1 Tryz.prog (bin .lss 3 (.tmp 44) (.const (.int .i64 50)) t44 (.int .i64 50)) w fun t45 w =>
  br t45 (fun _ =>
  mv (.bool false) fun t8_2 =>
  k t8_2 w) (fun _ =>
  dr w.drew fun S2 =>
  mv a0 fun t46 =>
  mv (x2 9) fun t47 =>
  mv a0 fun t48 =>
  mv (x2 9) fun t49 =>
  tk Tryz.prog S2 (bin .sub 3 (.tmp 49) (.const (.int .i64 1)) t49 (.int .i64 1)) fun t50 =>
  mv a0 fun t51 =>
  mv (x2 9) fun t52 =>
  tk Tryz.prog S2 (bin .sub 3 (.tmp 52) (.const (.int .i64 1)) t52 (.int .i64 1)) fun t53 =>
  tk Tryz.prog S2 (Instr.indexAt 67 t51 t53) fun t54 =>
  tk Tryz.prog S2 (Instr.loadAt 72 t54) fun t55 =>
  mv a0 fun t56 =>
  mv (x2 9) fun t57 =>
  tk Tryz.prog S2 (Instr.indexAt 67 t56 t57) fun t58 =>
  tk Tryz.prog S2 (Instr.loadAt 72 t58) fun t59 =>
  tk Tryz.prog S2 (Instr.indexAt 67 t46 t47) fun t60 =>
  o0 Tryz.prog (Instr.storeAt 72 t60 t55) w.drew fun _ w =>
  S2 w ∧
  tk Tryz.prog S2 (Instr.indexAt 67 t48 t50) fun t61 =>
  o0 Tryz.prog (Instr.storeAt 72 t61 t59) w fun _ w =>
  mv (x2 9) fun t62 =>
  mv a1 fun t63 =>
  o1 Tryz.prog (bin .sub 3 (.tmp 62) (.tmp 63) t62 t63) w fun t64 w =>
  o1 Tryz.prog (bin .geq 3 (.tmp 64) (.const (.int .i64 2)) t64 (.int .i64 2)) w fun t65 w =>
  jn (fun x3 => [x3 11]) (fun k14 =>
  br t65 (fun _ =>
  mv (x2 9) fun t66 =>
  o1 Tryz.prog (bin .sub 3 (.tmp 66) (.const (.int .i64 1)) t66 (.int .i64 1)) w fun t67 w =>
  mv t67 fun t11 =>
  jn (fun x4 => [x4 11]) (fun k15 =>
  lp [t11] w fun I5 μ5 => ∀ (x5 : Env) (w3 : World), I5 [x5 11] w3 →
  mv (x5 11) fun t68 =>
  o1 Tryz.prog (bin .geq 3 (.tmp 68) (.const (.int .i64 1)) t68 (.int .i64 1)) w3 fun t69 w =>
  br t69 (fun _ =>
  dr w.drew fun S3 =>
  mv a3 fun t72 =>
  mv a0 fun t73 =>
  mv (x5 11) fun t74 =>
  tk Tryz.prog S3 (Instr.indexAt 67 t73 t74) fun t75 =>
  tk Tryz.prog S3 (Instr.loadAt 72 t75) fun t76 =>
  mv a0 fun t77 =>
  mv (x5 11) fun t78 =>
  tk Tryz.prog S3 (bin .sub 3 (.tmp 78) (.const (.int .i64 1)) t78 (.int .i64 1)) fun t79 =>
  tk Tryz.prog S3 (Instr.indexAt 67 t77 t79) fun t80 =>
  tk Tryz.prog S3 (Instr.loadAt 72 t80) fun t81 =>
  cv Tryz.prog t72 #[t76, t81] w.drew fun t82 w =>
  S3 w ∧
  tk Tryz.prog S3 (bin .lss 3 (.tmp 82) (.const (.int .i64 0)) t82 (.int .i64 0)) fun t83 =>
  tk Tryz.prog S3 (Op.unary .not t83) fun t84 =>
  br t84 (fun _ =>
  k15 [(x5 11)] w) (fun _ =>
  dr w.drew fun S4 =>
  mv a0 fun t85 =>
  mv (x5 11) fun t86 =>
  mv a0 fun t87 =>
  mv (x5 11) fun t88 =>
  tk Tryz.prog S4 (bin .sub 3 (.tmp 88) (.const (.int .i64 1)) t88 (.int .i64 1)) fun t89 =>
  mv a0 fun t90 =>
  mv (x5 11) fun t91 =>
  tk Tryz.prog S4 (bin .sub 3 (.tmp 91) (.const (.int .i64 1)) t91 (.int .i64 1)) fun t92 =>
  tk Tryz.prog S4 (Instr.indexAt 67 t90 t92) fun t93 =>
  tk Tryz.prog S4 (Instr.loadAt 72 t93) fun t94 =>
  mv a0 fun t95 =>
  mv (x5 11) fun t96 =>
  tk Tryz.prog S4 (Instr.indexAt 67 t95 t96) fun t97 =>
  tk Tryz.prog S4 (Instr.loadAt 72 t97) fun t98 =>
  tk Tryz.prog S4 (Instr.indexAt 67 t85 t86) fun t99 =>
  o0 Tryz.prog (Instr.storeAt 72 t99 t94) w.drew fun _ w =>
  S4 w ∧
  tk Tryz.prog S4 (Instr.indexAt 67 t87 t89) fun t100 =>
  o0 Tryz.prog (Instr.storeAt 72 t100 t98) w fun _ w =>
  mv (x5 11) fun t70 =>
  o1 Tryz.prog (bin .sub 3 (.tmp 70) (.const (.int .i64 1)) t70 (.int .i64 1)) w fun t71 w =>
  mv t71 fun t11_1 =>
  I5 [t11_1] w ∧ μ5 [t11_1] w < μ5 [x5 11] w3)) (fun _ =>
  k15 [(x5 11)] w)) fun x4 w =>
  k14 [(x4 11)] w) (fun _ =>
  k14 [(x1 11)] w)) fun x3 w =>
  mv a2 fun t101 =>
  mv (x2 9) fun t102 =>
  o1 Tryz.prog (bin .sub 3 (.tmp 101) (.tmp 102) t101 t102) w fun t103 w =>
  o1 Tryz.prog (bin .geq 3 (.tmp 103) (.const (.int .i64 2)) t103 (.int .i64 2)) w fun t104 w =>
  jn (fun x6 => [x6 12]) (fun k16 =>
  br t104 (fun _ =>
  mv (x2 9) fun t105 =>
  o1 Tryz.prog (bin .add 3 (.tmp 105) (.const (.int .i64 1)) t105 (.int .i64 1)) w fun t106 w =>
  mv t106 fun t12 =>
  jn (fun x7 => [x7 12]) (fun k17 =>
  lp [t12] w fun I8 μ8 => ∀ (x8 : Env) (w4 : World), I8 [x8 12] w4 →
  mv (x8 12) fun t107 =>
  mv a2 fun t108 =>
  o1 Tryz.prog (bin .lss 3 (.tmp 107) (.tmp 108) t107 t108) w4 fun t109 w =>
  br t109 (fun _ =>
  dr w.drew fun S5 =>
  mv a3 fun t112 =>
  mv a0 fun t113 =>
  mv (x8 12) fun t114 =>
  tk Tryz.prog S5 (Instr.indexAt 67 t113 t114) fun t115 =>
  tk Tryz.prog S5 (Instr.loadAt 72 t115) fun t116 =>
  mv a0 fun t117 =>
  mv (x8 12) fun t118 =>
  tk Tryz.prog S5 (bin .sub 3 (.tmp 118) (.const (.int .i64 1)) t118 (.int .i64 1)) fun t119 =>
  tk Tryz.prog S5 (Instr.indexAt 67 t117 t119) fun t120 =>
  tk Tryz.prog S5 (Instr.loadAt 72 t120) fun t121 =>
  cv Tryz.prog t112 #[t116, t121] w.drew fun t122 w =>
  S5 w ∧
  tk Tryz.prog S5 (bin .lss 3 (.tmp 122) (.const (.int .i64 0)) t122 (.int .i64 0)) fun t123 =>
  tk Tryz.prog S5 (Op.unary .not t123) fun t124 =>
  br t124 (fun _ =>
  k17 [(x8 12)] w) (fun _ =>
  dr w.drew fun S6 =>
  mv a0 fun t125 =>
  mv (x8 12) fun t126 =>
  mv a0 fun t127 =>
  mv (x8 12) fun t128 =>
  tk Tryz.prog S6 (bin .sub 3 (.tmp 128) (.const (.int .i64 1)) t128 (.int .i64 1)) fun t129 =>
  mv a0 fun t130 =>
  mv (x8 12) fun t131 =>
  tk Tryz.prog S6 (bin .sub 3 (.tmp 131) (.const (.int .i64 1)) t131 (.int .i64 1)) fun t132 =>
  tk Tryz.prog S6 (Instr.indexAt 67 t130 t132) fun t133 =>
  tk Tryz.prog S6 (Instr.loadAt 72 t133) fun t134 =>
  mv a0 fun t135 =>
  mv (x8 12) fun t136 =>
  tk Tryz.prog S6 (Instr.indexAt 67 t135 t136) fun t137 =>
  tk Tryz.prog S6 (Instr.loadAt 72 t137) fun t138 =>
  tk Tryz.prog S6 (Instr.indexAt 67 t125 t126) fun t139 =>
  o0 Tryz.prog (Instr.storeAt 72 t139 t134) w.drew fun _ w =>
  S6 w ∧
  tk Tryz.prog S6 (Instr.indexAt 67 t127 t129) fun t140 =>
  o0 Tryz.prog (Instr.storeAt 72 t140 t138) w fun _ w =>
  mv (x8 12) fun t110 =>
  o1 Tryz.prog (bin .add 3 (.tmp 110) (.const (.int .i64 1)) t110 (.int .i64 1)) w fun t111 w =>
  mv t111 fun t12_1 =>
  I8 [t12_1] w ∧ μ8 [t12_1] w < μ8 [x8 12] w4)) (fun _ =>
  k17 [(x8 12)] w)) fun x7 w =>
  k16 [(x7 12)] w) (fun _ =>
  k16 [(x1 12)] w)) fun x6 w =>
  mv (x1 10) fun t17 =>
  o1 Tryz.prog (bin .add 3 (.tmp 17) (.const (.int .i64 1)) t17 (.int .i64 1)) w fun t18 w =>
  mv t18 fun t10_1 =>
  I1 [(x1 8), (x2 9), t10_1, (x3 11), (x6 12)] w ∧ μ1 [(x1 8), (x2 9), t10_1, (x3 11), (x6 12)] w < μ1 [x1 8, x1 9, x1 10, x1 11, x1 12] w1)))) (fun _ =>
  mv (.bool false) fun t8_3 =>
  k t8_3 w)
theorem C.slices_partialInsertionSortCmpFunc_pool_item {k : Value → World → Prop} {a0 a1 a2 a3 : Value} {w : World} (h : F.slices_partialInsertionSortCmpFunc_pool_item k a0 a1 a2 a3 w) : C Tryz.prog N.slices_partialInsertionSortCmpFunc_pool_item #[a0, a1, a2, a3] w k :=
  den_calls (H := { moves := [(5, (.take 0 (.take 1 (.take 2 (.take 3 (.take 4 (.take 5 (.take 6 (.take 7 (.take 8 (.take 9 (.take 10 (.take 11 (.take 12 (.take 13 (.force 14 (.take 15 (.take 16 (.take 17 .fin))))))))))))))))))), (11, (.take 0 (.take 1 (.take 2 (.take 3 (.take 4 (.take 5 (.take 6 (.take 7 (.take 8 (.take 9 (.take 10 (.take 11 (.take 12 (.take 13 (.take 14 (.force 15 (.take 16 (.last 17))))))))))))))))))), (16, (.take 0 (.take 1 (.take 2 (.take 3 (.take 4 (.take 5 (.take 6 (.take 7 (.take 8 (.take 9 (.force 10 (.take 11 (.take 12 .fin)))))))))))))), (17, (.take 0 (.take 1 (.take 2 (.take 3 (.take 4 (.take 5 (.take 6 (.take 7 (.take 8 (.take 9 (.take 10 (.take 11 (.take 12 (.take 13 (.take 14 (.force 15 (.take 16 (.last 17))))))))))))))))))), (22, (.take 0 (.take 1 (.take 2 (.take 3 (.take 4 (.take 5 (.take 6 (.take 7 (.take 8 (.take 9 (.force 10 (.take 11 (.take 12 .fin)))))))))))))), (23, (.take 0 (.take 1 (.take 2 (.take 3 (.take 4 (.take 5 (.take 6 (.take 7 (.take 8 (.take 9 (.take 10 (.take 11 (.take 12 (.take 13 (.take 14 (.force 15 (.take 16 (.last 17)))))))))))))))))))], vars := [8, 9, 10, 11, 12] }) (args := [a0, a1, a2, a3]) mixed Tryz.func71 (by kernel_rfl) (by kernel_rfl) (by kernel_rfl) h

-- slices.partitionEqualCmpFunc[isthmus/pool.item]
def F.slices_partitionEqualCmpFunc_pool_item (k : Value → World → Prop) (a0 a1 a2 a3 a4 : Value) (w : World) : Prop :=
  mv (.int .i64 0) fun t10 =>
  dr w.drew fun S1 =>
  mv a0 fun t13 =>
  mv a1 fun t14 =>
  mv a0 fun t15 =>
  mv a3 fun t16 =>
  mv a0 fun t17 =>
  mv a3 fun t18 =>
  tk Tryz.prog S1 (Instr.indexAt 67 t17 t18) fun t19 =>
  tk Tryz.prog S1 (Instr.loadAt 72 t19) fun t20 =>
  mv a0 fun t21 =>
  mv a1 fun t22 =>
  tk Tryz.prog S1 (Instr.indexAt 67 t21 t22) fun t23 =>
  tk Tryz.prog S1 (Instr.loadAt 72 t23) fun t24 =>
  tk Tryz.prog S1 (Instr.indexAt 67 t13 t14) fun t25 =>
  o0 Tryz.prog (Instr.storeAt 72 t25 t20) w.drew fun _ w =>
  S1 w ∧
  tk Tryz.prog S1 (Instr.indexAt 67 t15 t16) fun t26 =>
  o0 Tryz.prog (Instr.storeAt 72 t26 t24) w fun _ w =>
  mv a1 fun t27 =>
  o1 Tryz.prog (bin .add 3 (.tmp 27) (.const (.int .i64 1)) t27 (.int .i64 1)) w fun t28 w =>
  mv a2 fun t29 =>
  o1 Tryz.prog (bin .sub 3 (.tmp 29) (.const (.int .i64 1)) t29 (.int .i64 1)) w fun t30 w =>
  mv t28 fun t11 =>
  mv t30 fun t12 =>
  lp [t11, t12] w fun I1 μ1 => ∀ (x1 : Env) (w1 : World), I1 [x1 11, x1 12] w1 →
  lp [(x1 11)] w1 fun I2 μ2 => ∀ (x2 : Env) (w2 : World), I2 [x2 11] w2 →
  dr w2.drew fun S2 =>
  mv (x2 11) fun t31 =>
  mv (x1 12) fun t32 =>
  tk Tryz.prog S2 (bin .leq 3 (.tmp 31) (.tmp 32) t31 t32) fun t33 =>
  mv t33 fun t34 =>
  gdT t34 true (fun k1 => mv a4 k1) fun t35 =>
  gdT t34 true (fun k2 => mv a0 k2) fun t36 =>
  gdT t34 true (fun k3 => mv a1 k3) fun t37 =>
  gdT t34 true (fun k4 => tk Tryz.prog S2 (Instr.indexAt 67 t36 t37) k4) fun t38 =>
  gdT t34 true (fun k5 => tk Tryz.prog S2 (Instr.loadAt 72 t38) k5) fun t39 =>
  gdT t34 true (fun k6 => mv a0 k6) fun t40 =>
  gdT t34 true (fun k7 => mv (x2 11) k7) fun t41 =>
  gdT t34 true (fun k8 => tk Tryz.prog S2 (Instr.indexAt 67 t40 t41) k8) fun t42 =>
  gdT t34 true (fun k9 => tk Tryz.prog S2 (Instr.loadAt 72 t42) k9) fun t43 =>
  gd t34 true (fun k10 => cv Tryz.prog t35 #[t39, t43] w2.drew k10) w2.drew fun t44 w =>
  S2 w ∧
  gdT t34 true (fun k11 => tk Tryz.prog S2 (bin .lss 3 (.tmp 44) (.const (.int .i64 0)) t44 (.int .i64 0)) k11) fun t45 =>
  gdT t34 true (fun k12 => tk Tryz.prog S2 (Op.unary .not t45) k12) fun t46 =>
  pk t34 t46 (.bool false) fun t47 =>
  br t47 (fun _ =>
  mv (x2 11) fun t48 =>
  o1 Tryz.prog (bin .add 3 (.tmp 48) (.const (.int .i64 1)) t48 (.int .i64 1)) w fun t49 w =>
  mv t49 fun t11_1 =>
  I2 [t11_1] w ∧ μ2 [t11_1] w < μ2 [x2 11] w2) (fun _ =>
  lp [(x1 12)] w fun I3 μ3 => ∀ (x3 : Env) (w3 : World), I3 [x3 12] w3 →
  dr w3.drew fun S3 =>
  mv (x2 11) fun t50 =>
  mv (x3 12) fun t51 =>
  tk Tryz.prog S3 (bin .leq 3 (.tmp 50) (.tmp 51) t50 t51) fun t52 =>
  mv t52 fun t53 =>
  gdT t53 true (fun k13 => mv a4 k13) fun t54 =>
  gdT t53 true (fun k14 => mv a0 k14) fun t55 =>
  gdT t53 true (fun k15 => mv a1 k15) fun t56 =>
  gdT t53 true (fun k16 => tk Tryz.prog S3 (Instr.indexAt 67 t55 t56) k16) fun t57 =>
  gdT t53 true (fun k17 => tk Tryz.prog S3 (Instr.loadAt 72 t57) k17) fun t58 =>
  gdT t53 true (fun k18 => mv a0 k18) fun t59 =>
  gdT t53 true (fun k19 => mv (x3 12) k19) fun t60 =>
  gdT t53 true (fun k20 => tk Tryz.prog S3 (Instr.indexAt 67 t59 t60) k20) fun t61 =>
  gdT t53 true (fun k21 => tk Tryz.prog S3 (Instr.loadAt 72 t61) k21) fun t62 =>
  gd t53 true (fun k22 => cv Tryz.prog t54 #[t58, t62] w3.drew k22) w3.drew fun t63 w =>
  S3 w ∧
  gdT t53 true (fun k23 => tk Tryz.prog S3 (bin .lss 3 (.tmp 63) (.const (.int .i64 0)) t63 (.int .i64 0)) k23) fun t64 =>
  pk t53 t64 (.bool false) fun t65 =>
  br t65 (fun _ =>
  mv (x3 12) fun t66 =>
  o1 Tryz.prog (bin .sub 3 (.tmp 66) (.const (.int .i64 1)) t66 (.int .i64 1)) w fun t67 w =>
  mv t67 fun t12_1 =>
  I3 [t12_1] w ∧ μ3 [t12_1] w < μ3 [x3 12] w3) (fun _ =>
  mv (x2 11) fun t68 =>
  mv (x3 12) fun t69 =>
  o1 Tryz.prog (bin .gtr 3 (.tmp 68) (.tmp 69) t68 t69) w fun t70 w =>
  br t70 (fun _ =>
  mv (x2 11) fun t89 =>
  mv t89 fun t10_1 =>
  k t10_1 w) (fun _ =>
  dr w.drew fun S4 =>
  mv a0 fun t71 =>
  mv (x2 11) fun t72 =>
  mv a0 fun t73 =>
  mv (x3 12) fun t74 =>
  mv a0 fun t75 =>
  mv (x3 12) fun t76 =>
  tk Tryz.prog S4 (Instr.indexAt 67 t75 t76) fun t77 =>
  tk Tryz.prog S4 (Instr.loadAt 72 t77) fun t78 =>
  mv a0 fun t79 =>
  mv (x2 11) fun t80 =>
  tk Tryz.prog S4 (Instr.indexAt 67 t79 t80) fun t81 =>
  tk Tryz.prog S4 (Instr.loadAt 72 t81) fun t82 =>
  tk Tryz.prog S4 (Instr.indexAt 67 t71 t72) fun t83 =>
  o0 Tryz.prog (Instr.storeAt 72 t83 t78) w.drew fun _ w =>
  S4 w ∧
  tk Tryz.prog S4 (Instr.indexAt 67 t73 t74) fun t84 =>
  o0 Tryz.prog (Instr.storeAt 72 t84 t82) w fun _ w =>
  mv (x2 11) fun t85 =>
  o1 Tryz.prog (bin .add 3 (.tmp 85) (.const (.int .i64 1)) t85 (.int .i64 1)) w fun t86 w =>
  mv t86 fun t11_2 =>
  mv (x3 12) fun t87 =>
  o1 Tryz.prog (bin .sub 3 (.tmp 87) (.const (.int .i64 1)) t87 (.int .i64 1)) w fun t88 w =>
  mv t88 fun t12_2 =>
  I1 [t11_2, t12_2] w ∧ μ1 [t11_2, t12_2] w < μ1 [x1 11, x1 12] w1)))
theorem C.slices_partitionEqualCmpFunc_pool_item {k : Value → World → Prop} {a0 a1 a2 a3 a4 : Value} {w : World} (h : F.slices_partitionEqualCmpFunc_pool_item k a0 a1 a2 a3 a4 w) : C Tryz.prog N.slices_partitionEqualCmpFunc_pool_item #[a0, a1, a2, a3, a4] w k :=
  den_calls (H := { moves := [(1, (.take 0 (.take 1 (.take 2 (.take 3 (.take 4 (.take 5 (.take 6 (.take 7 (.take 8 (.take 9 (.take 10 (.take 11 (.take 12 (.force 13 (.take 14 (.last 15))))))))))))))))), (3, (.take 0 (.take 1 (.take 2 (.take 3 (.take 4 (.take 5 (.take 6 (.take 7 (.take 8 (.take 9 (.take 10 (.take 11 (.take 12 (.force 13 (.take 14 (.take 15 (.take 16 .fin)))))))))))))))))), (5, (.take 0 (.take 1 (.take 2 (.take 3 (.take 4 (.take 5 (.take 6 (.take 7 (.take 8 (.take 9 (.take 10 (.take 11 (.take 12 (.force 13 (.take 14 (.take 15 .fin))))))))))))))))), (8, (.take 0 (.take 1 (.take 2 (.take 3 (.take 4 (.take 5 (.take 6 (.take 7 (.take 8 (.take 9 (.take 10 (.take 11 (.take 12 (.force 13 (.take 14 (.last 15)))))))))))))))))], vars := [10, 11, 12] }) (args := [a0, a1, a2, a3, a4]) mixed Tryz.func72 (by kernel_rfl) (by kernel_rfl) (by kernel_rfl) h

-- slices.partitionCmpFunc[isthmus/pool.item]
def F.slices_partitionCmpFunc_pool_item (k : Value → World → Prop) (a0 a1 a2 a3 a4 : Value) (w : World) : Prop :=
  mv (.int .i64 0) fun t10 =>
  mv (.bool false) fun t11 =>
  dr w.drew fun S1 =>
  mv a0 fun t14 =>
  mv a1 fun t15 =>
  mv a0 fun t16 =>
  mv a3 fun t17 =>
  mv a0 fun t18 =>
  mv a3 fun t19 =>
  tk Tryz.prog S1 (Instr.indexAt 67 t18 t19) fun t20 =>
  tk Tryz.prog S1 (Instr.loadAt 72 t20) fun t21 =>
  mv a0 fun t22 =>
  mv a1 fun t23 =>
  tk Tryz.prog S1 (Instr.indexAt 67 t22 t23) fun t24 =>
  tk Tryz.prog S1 (Instr.loadAt 72 t24) fun t25 =>
  tk Tryz.prog S1 (Instr.indexAt 67 t14 t15) fun t26 =>
  o0 Tryz.prog (Instr.storeAt 72 t26 t21) w.drew fun _ w =>
  S1 w ∧
  tk Tryz.prog S1 (Instr.indexAt 67 t16 t17) fun t27 =>
  o0 Tryz.prog (Instr.storeAt 72 t27 t25) w fun _ w =>
  mv a1 fun t28 =>
  o1 Tryz.prog (bin .add 3 (.tmp 28) (.const (.int .i64 1)) t28 (.int .i64 1)) w fun t29 w =>
  mv a2 fun t30 =>
  o1 Tryz.prog (bin .sub 3 (.tmp 30) (.const (.int .i64 1)) t30 (.int .i64 1)) w fun t31 w =>
  mv t29 fun t12 =>
  mv t31 fun t13 =>
  lp [t12] w fun I1 μ1 => ∀ (x1 : Env) (w1 : World), I1 [x1 12] w1 →
  dr w1.drew fun S2 =>
  mv (x1 12) fun t32 =>
  mv t13 fun t33 =>
  tk Tryz.prog S2 (bin .leq 3 (.tmp 32) (.tmp 33) t32 t33) fun t34 =>
  mv t34 fun t35 =>
  gdT t35 true (fun k1 => mv a4 k1) fun t36 =>
  gdT t35 true (fun k2 => mv a0 k2) fun t37 =>
  gdT t35 true (fun k3 => mv (x1 12) k3) fun t38 =>
  gdT t35 true (fun k4 => tk Tryz.prog S2 (Instr.indexAt 67 t37 t38) k4) fun t39 =>
  gdT t35 true (fun k5 => tk Tryz.prog S2 (Instr.loadAt 72 t39) k5) fun t40 =>
  gdT t35 true (fun k6 => mv a0 k6) fun t41 =>
  gdT t35 true (fun k7 => mv a1 k7) fun t42 =>
  gdT t35 true (fun k8 => tk Tryz.prog S2 (Instr.indexAt 67 t41 t42) k8) fun t43 =>
  gdT t35 true (fun k9 => tk Tryz.prog S2 (Instr.loadAt 72 t43) k9) fun t44 =>
  gd t35 true (fun k10 => cv Tryz.prog t36 #[t40, t44] w1.drew k10) w1.drew fun t45 w =>
  S2 w ∧
  gdT t35 true (fun k11 => tk Tryz.prog S2 (bin .lss 3 (.tmp 45) (.const (.int .i64 0)) t45 (.int .i64 0)) k11) fun t46 =>
  pk t35 t46 (.bool false) fun t47 =>
  br t47 (fun _ =>
  mv (x1 12) fun t48 =>
  o1 Tryz.prog (bin .add 3 (.tmp 48) (.const (.int .i64 1)) t48 (.int .i64 1)) w fun t49 w =>
  mv t49 fun t12_1 =>
  I1 [t12_1] w ∧ μ1 [t12_1] w < μ1 [x1 12] w1) (fun _ =>
  lp [t13] w fun I2 μ2 => ∀ (x2 : Env) (w2 : World), I2 [x2 13] w2 →
  dr w2.drew fun S3 =>
  mv (x1 12) fun t50 =>
  mv (x2 13) fun t51 =>
  tk Tryz.prog S3 (bin .leq 3 (.tmp 50) (.tmp 51) t50 t51) fun t52 =>
  mv t52 fun t53 =>
  gdT t53 true (fun k12 => mv a4 k12) fun t54 =>
  gdT t53 true (fun k13 => mv a0 k13) fun t55 =>
  gdT t53 true (fun k14 => mv (x2 13) k14) fun t56 =>
  gdT t53 true (fun k15 => tk Tryz.prog S3 (Instr.indexAt 67 t55 t56) k15) fun t57 =>
  gdT t53 true (fun k16 => tk Tryz.prog S3 (Instr.loadAt 72 t57) k16) fun t58 =>
  gdT t53 true (fun k17 => mv a0 k17) fun t59 =>
  gdT t53 true (fun k18 => mv a1 k18) fun t60 =>
  gdT t53 true (fun k19 => tk Tryz.prog S3 (Instr.indexAt 67 t59 t60) k19) fun t61 =>
  gdT t53 true (fun k20 => tk Tryz.prog S3 (Instr.loadAt 72 t61) k20) fun t62 =>
  gd t53 true (fun k21 => cv Tryz.prog t54 #[t58, t62] w2.drew k21) w2.drew fun t63 w =>
  S3 w ∧
  gdT t53 true (fun k22 => tk Tryz.prog S3 (bin .lss 3 (.tmp 63) (.const (.int .i64 0)) t63 (.int .i64 0)) k22) fun t64 =>
  gdT t53 true (fun k23 => tk Tryz.prog S3 (Op.unary .not t64) k23) fun t65 =>
  pk t53 t65 (.bool false) fun t66 =>
  br t66 (fun _ =>
  mv (x2 13) fun t67 =>
  o1 Tryz.prog (bin .sub 3 (.tmp 67) (.const (.int .i64 1)) t67 (.int .i64 1)) w fun t68 w =>
  mv t68 fun t13_1 =>
  I2 [t13_1] w ∧ μ2 [t13_1] w < μ2 [x2 13] w2) (fun _ =>
  mv (x1 12) fun t69 =>
  mv (x2 13) fun t70 =>
  o1 Tryz.prog (bin .gtr 3 (.tmp 69) (.tmp 70) t69 t70) w fun t71 w =>
  br t71 (fun _ =>
  dr w.drew fun S4 =>
  mv a0 fun t72 =>
  mv (x2 13) fun t73 =>
  mv a0 fun t74 =>
  mv a1 fun t75 =>
  mv a0 fun t76 =>
  mv a1 fun t77 =>
  tk Tryz.prog S4 (Instr.indexAt 67 t76 t77) fun t78 =>
  tk Tryz.prog S4 (Instr.loadAt 72 t78) fun t79 =>
  mv a0 fun t80 =>
  mv (x2 13) fun t81 =>
  tk Tryz.prog S4 (Instr.indexAt 67 t80 t81) fun t82 =>
  tk Tryz.prog S4 (Instr.loadAt 72 t82) fun t83 =>
  tk Tryz.prog S4 (Instr.indexAt 67 t72 t73) fun t84 =>
  o0 Tryz.prog (Instr.storeAt 72 t84 t79) w.drew fun _ w =>
  S4 w ∧
  tk Tryz.prog S4 (Instr.indexAt 67 t74 t75) fun t85 =>
  o0 Tryz.prog (Instr.storeAt 72 t85 t83) w fun _ w =>
  mv (x2 13) fun t86 =>
  mv t86 fun t10_1 =>
  mv (.bool true) fun t11_1 =>
  k (.tuple #[t10_1, t11_1]) w) (fun _ =>
  dr w.drew fun S5 =>
  mv a0 fun t87 =>
  mv (x1 12) fun t88 =>
  mv a0 fun t89 =>
  mv (x2 13) fun t90 =>
  mv a0 fun t91 =>
  mv (x2 13) fun t92 =>
  tk Tryz.prog S5 (Instr.indexAt 67 t91 t92) fun t93 =>
  tk Tryz.prog S5 (Instr.loadAt 72 t93) fun t94 =>
  mv a0 fun t95 =>
  mv (x1 12) fun t96 =>
  tk Tryz.prog S5 (Instr.indexAt 67 t95 t96) fun t97 =>
  tk Tryz.prog S5 (Instr.loadAt 72 t97) fun t98 =>
  tk Tryz.prog S5 (Instr.indexAt 67 t87 t88) fun t99 =>
  o0 Tryz.prog (Instr.storeAt 72 t99 t94) w.drew fun _ w =>
  S5 w ∧
  tk Tryz.prog S5 (Instr.indexAt 67 t89 t90) fun t100 =>
  o0 Tryz.prog (Instr.storeAt 72 t100 t98) w fun _ w =>
  mv (x1 12) fun t101 =>
  o1 Tryz.prog (bin .add 3 (.tmp 101) (.const (.int .i64 1)) t101 (.int .i64 1)) w fun t102 w =>
  mv t102 fun t12_2 =>
  mv (x2 13) fun t103 =>
  o1 Tryz.prog (bin .sub 3 (.tmp 103) (.const (.int .i64 1)) t103 (.int .i64 1)) w fun t104 w =>
  mv t104 fun t13_2 =>
  lp [t12_2, t13_2] w fun I3 μ3 => ∀ (x3 : Env) (w3 : World), I3 [x3 12, x3 13] w3 →
  lp [(x3 12)] w3 fun I4 μ4 => ∀ (x4 : Env) (w4 : World), I4 [x4 12] w4 →
  dr w4.drew fun S6 =>
  mv (x4 12) fun t105 =>
  mv (x3 13) fun t106 =>
  tk Tryz.prog S6 (bin .leq 3 (.tmp 105) (.tmp 106) t105 t106) fun t107 =>
  mv t107 fun t108 =>
  gdT t108 true (fun k24 => mv a4 k24) fun t109 =>
  gdT t108 true (fun k25 => mv a0 k25) fun t110 =>
  gdT t108 true (fun k26 => mv (x4 12) k26) fun t111 =>
  gdT t108 true (fun k27 => tk Tryz.prog S6 (Instr.indexAt 67 t110 t111) k27) fun t112 =>
  gdT t108 true (fun k28 => tk Tryz.prog S6 (Instr.loadAt 72 t112) k28) fun t113 =>
  gdT t108 true (fun k29 => mv a0 k29) fun t114 =>
  gdT t108 true (fun k30 => mv a1 k30) fun t115 =>
  gdT t108 true (fun k31 => tk Tryz.prog S6 (Instr.indexAt 67 t114 t115) k31) fun t116 =>
  gdT t108 true (fun k32 => tk Tryz.prog S6 (Instr.loadAt 72 t116) k32) fun t117 =>
  gd t108 true (fun k33 => cv Tryz.prog t109 #[t113, t117] w4.drew k33) w4.drew fun t118 w =>
  S6 w ∧
  gdT t108 true (fun k34 => tk Tryz.prog S6 (bin .lss 3 (.tmp 118) (.const (.int .i64 0)) t118 (.int .i64 0)) k34) fun t119 =>
  pk t108 t119 (.bool false) fun t120 =>
  br t120 (fun _ =>
  mv (x4 12) fun t121 =>
  o1 Tryz.prog (bin .add 3 (.tmp 121) (.const (.int .i64 1)) t121 (.int .i64 1)) w fun t122 w =>
  mv t122 fun t12_3 =>
  I4 [t12_3] w ∧ μ4 [t12_3] w < μ4 [x4 12] w4) (fun _ =>
  lp [(x3 13)] w fun I5 μ5 => ∀ (x5 : Env) (w5 : World), I5 [x5 13] w5 →
  dr w5.drew fun S7 =>
  mv (x4 12) fun t123 =>
  mv (x5 13) fun t124 =>
  tk Tryz.prog S7 (bin .leq 3 (.tmp 123) (.tmp 124) t123 t124) fun t125 =>
  mv t125 fun t126 =>
  gdT t126 true (fun k35 => mv a4 k35) fun t127 =>
  gdT t126 true (fun k36 => mv a0 k36) fun t128 =>
  gdT t126 true (fun k37 => mv (x5 13) k37) fun t129 =>
  gdT t126 true (fun k38 => tk Tryz.prog S7 (Instr.indexAt 67 t128 t129) k38) fun t130 =>
  gdT t126 true (fun k39 => tk Tryz.prog S7 (Instr.loadAt 72 t130) k39) fun t131 =>
  gdT t126 true (fun k40 => mv a0 k40) fun t132 =>
  gdT t126 true (fun k41 => mv a1 k41) fun t133 =>
  gdT t126 true (fun k42 => tk Tryz.prog S7 (Instr.indexAt 67 t132 t133) k42) fun t134 =>
  gdT t126 true (fun k43 => tk Tryz.prog S7 (Instr.loadAt 72 t134) k43) fun t135 =>
  gd t126 true (fun k44 => cv Tryz.prog t127 #[t131, t135] w5.drew k44) w5.drew fun t136 w =>
  S7 w ∧
  gdT t126 true (fun k45 => tk Tryz.prog S7 (bin .lss 3 (.tmp 136) (.const (.int .i64 0)) t136 (.int .i64 0)) k45) fun t137 =>
  gdT t126 true (fun k46 => tk Tryz.prog S7 (Op.unary .not t137) k46) fun t138 =>
  pk t126 t138 (.bool false) fun t139 =>
  br t139 (fun _ =>
  mv (x5 13) fun t140 =>
  o1 Tryz.prog (bin .sub 3 (.tmp 140) (.const (.int .i64 1)) t140 (.int .i64 1)) w fun t141 w =>
  mv t141 fun t13_3 =>
  I5 [t13_3] w ∧ μ5 [t13_3] w < μ5 [x5 13] w5) (fun _ =>
  mv (x4 12) fun t142 =>
  mv (x5 13) fun t143 =>
  o1 Tryz.prog (bin .gtr 3 (.tmp 142) (.tmp 143) t142 t143) w fun t144 w =>
  br t144 (fun _ =>
  dr w.drew fun S8 =>
  mv a0 fun t163 =>
  mv (x5 13) fun t164 =>
  mv a0 fun t165 =>
  mv a1 fun t166 =>
  mv a0 fun t167 =>
  mv a1 fun t168 =>
  tk Tryz.prog S8 (Instr.indexAt 67 t167 t168) fun t169 =>
  tk Tryz.prog S8 (Instr.loadAt 72 t169) fun t170 =>
  mv a0 fun t171 =>
  mv (x5 13) fun t172 =>
  tk Tryz.prog S8 (Instr.indexAt 67 t171 t172) fun t173 =>
  tk Tryz.prog S8 (Instr.loadAt 72 t173) fun t174 =>
  tk Tryz.prog S8 (Instr.indexAt 67 t163 t164) fun t175 =>
  o0 Tryz.prog (Instr.storeAt 72 t175 t170) w.drew fun _ w =>
  S8 w ∧
  tk Tryz.prog S8 (Instr.indexAt 67 t165 t166) fun t176 =>
  o0 Tryz.prog (Instr.storeAt 72 t176 t174) w fun _ w =>
  mv (x5 13) fun t177 =>
  mv t177 fun t10_2 =>
  mv (.bool false) fun t11_2 =>
  k (.tuple #[t10_2, t11_2]) w) (fun _ =>
  dr w.drew fun S9 =>
  mv a0 fun t145 =>
  mv (x4 12) fun t146 =>
  mv a0 fun t147 =>
  mv (x5 13) fun t148 =>
  mv a0 fun t149 =>
  mv (x5 13) fun t150 =>
  tk Tryz.prog S9 (Instr.indexAt 67 t149 t150) fun t151 =>
  tk Tryz.prog S9 (Instr.loadAt 72 t151) fun t152 =>
  mv a0 fun t153 =>
  mv (x4 12) fun t154 =>
  tk Tryz.prog S9 (Instr.indexAt 67 t153 t154) fun t155 =>
  tk Tryz.prog S9 (Instr.loadAt 72 t155) fun t156 =>
  tk Tryz.prog S9 (Instr.indexAt 67 t145 t146) fun t157 =>
  o0 Tryz.prog (Instr.storeAt 72 t157 t152) w.drew fun _ w =>
  S9 w ∧
  tk Tryz.prog S9 (Instr.indexAt 67 t147 t148) fun t158 =>
  o0 Tryz.prog (Instr.storeAt 72 t158 t156) w fun _ w =>
  mv (x4 12) fun t159 =>
  o1 Tryz.prog (bin .add 3 (.tmp 159) (.const (.int .i64 1)) t159 (.int .i64 1)) w fun t160 w =>
  mv t160 fun t12_4 =>
  mv (x5 13) fun t161 =>
  o1 Tryz.prog (bin .sub 3 (.tmp 161) (.const (.int .i64 1)) t161 (.int .i64 1)) w fun t162 w =>
  mv t162 fun t13_4 =>
  I3 [t12_4, t13_4] w ∧ μ3 [t12_4, t13_4] w < μ3 [x3 12, x3 13] w3))))))
theorem C.slices_partitionCmpFunc_pool_item {k : Value → World → Prop} {a0 a1 a2 a3 a4 : Value} {w : World} (h : F.slices_partitionCmpFunc_pool_item k a0 a1 a2 a3 a4 w) : C Tryz.prog N.slices_partitionCmpFunc_pool_item #[a0, a1, a2, a3, a4] w k :=
  den_calls (H := { moves := [(1, (.take 0 (.take 1 (.take 2 (.take 3 (.take 4 (.take 5 (.take 6 (.take 7 (.take 8 (.take 9 (.take 10 (.take 11 (.take 12 (.force 13 (.take 14 (.last 15))))))))))))))))), (3, (.take 0 (.take 1 (.take 2 (.take 3 (.take 4 (.take 5 (.take 6 (.take 7 (.take 8 (.take 9 (.take 10 (.take 11 (.take 12 (.force 13 (.take 14 (.take 15 .fin))))))))))))))))), (5, (.take 0 (.take 1 (.take 2 (.take 3 (.take 4 (.take 5 (.take 6 (.take 7 (.take 8 (.take 9 (.take 10 (.take 11 (.take 12 (.force 13 (.take 14 (.take 15 (.take 16 .fin)))))))))))))))))), (8, (.take 0 (.take 1 (.take 2 (.take 3 (.take 4 (.take 5 (.take 6 (.take 7 (.take 8 (.take 9 (.take 10 (.take 11 (.take 12 (.force 13 (.take 14 (.last 15))))))))))))))))), (10, (.take 0 (.take 1 (.take 2 (.take 3 (.take 4 (.take 5 (.take 6 (.take 7 (.take 8 (.take 9 (.take 10 (.take 11 (.take 12 (.force 13 (.take 14 (.last 15))))))))))))))))), (13, (.take 0 (.take 1 (.take 2 (.take 3 (.take 4 (.take 5 (.take 6 (.take 7 (.take 8 (.take 9 (.take 10 (.take 11 (.take 12 (.force 13 (.take 14 (.take 15 .fin))))))))))))))))), (15, (.take 0 (.take 1 (.take 2 (.take 3 (.take 4 (.take 5 (.take 6 (.take 7 (.take 8 (.take 9 (.take 10 (.take 11 (.take 12 (.force 13 (.take 14 (.take 15 (.take 16 .fin)))))))))))))))))), (18, (.take 0 (.take 1 (.take 2 (.take 3 (.take 4 (.take 5 (.take 6 (.take 7 (.take 8 (.take 9 (.take 10 (.take 11 (.take 12 (.force 13 (.take 14 (.last 15))))))))))))))))), (21, (.take 0 (.take 1 (.take 2 (.take 3 (.take 4 (.take 5 (.take 6 (.take 7 (.take 8 (.take 9 (.take 10 (.take 11 (.take 12 (.force 13 (.take 14 (.last 15)))))))))))))))))], vars := [10, 11, 12, 13] }) (args := [a0, a1, a2, a3, a4]) mixed Tryz.func73 (by kernel_rfl) (by kernel_rfl) (by kernel_rfl) h

-- math/bits.Len32
def F.math_bits_Len32 (k : Value → World → Prop) (a0 : Value) (w : World) : Prop :=
  mv (.int .i64 0) fun t2 =>
  mv a0 fun t3 =>
  o1 Tryz.prog (bin .geq 111 (.tmp 3) (.const (.int .u32 65536)) t3 (.int .u32 65536)) w fun t4 w =>
  jn (fun x1 => [x1 0, x1 2]) (fun k1 =>
  br t4 (fun _ =>
  mv a0 fun t5 =>
  o1 Tryz.prog (bin .shr 111 (.tmp 5) (.const (.int .u64 16)) t5 (.int .u64 16)) w fun t6 w =>
  mv t6 fun t0 =>
  mv (.int .i64 16) fun t2_1 =>
  k1 [t0, t2_1] w) (fun _ =>
  k1 [a0, t2] w)) fun x1 w =>
  mv (x1 0) fun t7 =>
  o1 Tryz.prog (bin .geq 111 (.tmp 7) (.const (.int .u32 256)) t7 (.int .u32 256)) w fun t8 w =>
  jn (fun x2 => [x2 0, x2 2]) (fun k2 =>
  br t8 (fun _ =>
  mv (x1 0) fun t9 =>
  o1 Tryz.prog (bin .shr 111 (.tmp 9) (.const (.int .u64 8)) t9 (.int .u64 8)) w fun t10 w =>
  mv t10 fun t0_1 =>
  mv (x1 2) fun t11 =>
  o1 Tryz.prog (bin .add 3 (.tmp 11) (.const (.int .i64 8)) t11 (.int .i64 8)) w fun t12 w =>
  mv t12 fun t2_2 =>
  k2 [t0_1, t2_2] w) (fun _ =>
  k2 [(x1 0), (x1 2)] w)) fun x2 w =>
  mv (x2 2) fun t13 =>
  mv (x2 0) fun t14 =>
  o1 Tryz.prog (convert 111 5 t14) w fun t15 w =>
  o1 Tryz.prog (Instr.index 9 (.string ⟨#[0, 1, 2, 2, 3, 3, 3, 3, 4, 4, 4, 4, 4, 4, 4, 4, 5, 5, 5, 5, 5, 5, 5, 5, 5, 5, 5, 5, 5, 5, 5, 5, 6, 6, 6, 6, 6, 6, 6, 6, 6, 6, 6, 6, 6, 6, 6, 6, 6, 6, 6, 6, 6, 6, 6, 6, 6, 6, 6, 6, 6, 6, 6, 6, 7, 7, 7, 7, 7, 7, 7, 7, 7, 7, 7, 7, 7, 7, 7, 7, 7, 7, 7, 7, 7, 7, 7, 7, 7, 7, 7, 7, 7, 7, 7, 7, 7, 7, 7, 7, 7, 7, 7, 7, 7, 7, 7, 7, 7, 7, 7, 7, 7, 7, 7, 7, 7, 7, 7, 7, 7, 7, 7, 7, 7, 7, 7, 7, 8, 8, 8, 8, 8, 8, 8, 8, 8, 8, 8, 8, 8, 8, 8, 8, 8, 8, 8, 8, 8, 8, 8, 8, 8, 8, 8, 8, 8, 8, 8, 8, 8, 8, 8, 8, 8, 8, 8, 8, 8, 8, 8, 8, 8, 8, 8, 8, 8, 8, 8, 8, 8, 8, 8, 8, 8, 8, 8, 8, 8, 8, 8, 8, 8, 8, 8, 8, 8, 8, 8, 8, 8, 8, 8, 8, 8, 8, 8, 8, 8, 8, 8, 8, 8, 8, 8, 8, 8, 8, 8, 8, 8, 8, 8, 8, 8, 8, 8, 8, 8, 8, 8, 8, 8, 8, 8, 8, 8, 8, 8, 8, 8, 8, 8, 8, 8, 8, 8, 8, 8, 8, 8, 8, 8, 8, 8, 8]⟩) t15) w fun t16 w =>
  o1 Tryz.prog (convert 5 3 t16) w fun t17 w =>
  o1 Tryz.prog (bin .add 3 (.tmp 13) (.tmp 17) t13 t17) w fun t18 w =>
  mv t18 fun t2_3 =>
  k t2_3 w
theorem C.math_bits_Len32 {k : Value → World → Prop} {a0 : Value} {w : World} (h : F.math_bits_Len32 k a0 w) : C Tryz.prog N.math_bits_Len32 #[a0] w k :=
  den_calls (H := { moves := [], vars := [0, 2] }) (args := [a0]) mixed Tryz.func74 (by kernel_rfl) (by kernel_rfl) (by kernel_rfl) h

-- math/bits.Len64
def F.math_bits_Len64 (k : Value → World → Prop) (a0 : Value) (w : World) : Prop :=
  mv (.int .i64 0) fun t2 =>
  mv a0 fun t3 =>
  o1 Tryz.prog (bin .geq 116 (.tmp 3) (.const (.int .u64 4294967296)) t3 (.int .u64 4294967296)) w fun t4 w =>
  jn (fun x1 => [x1 0, x1 2]) (fun k1 =>
  br t4 (fun _ =>
  mv a0 fun t5 =>
  o1 Tryz.prog (bin .shr 116 (.tmp 5) (.const (.int .u64 32)) t5 (.int .u64 32)) w fun t6 w =>
  mv t6 fun t0 =>
  mv (.int .i64 32) fun t2_1 =>
  k1 [t0, t2_1] w) (fun _ =>
  k1 [a0, t2] w)) fun x1 w =>
  mv (x1 0) fun t7 =>
  o1 Tryz.prog (bin .geq 116 (.tmp 7) (.const (.int .u64 65536)) t7 (.int .u64 65536)) w fun t8 w =>
  jn (fun x2 => [x2 0, x2 2]) (fun k2 =>
  br t8 (fun _ =>
  mv (x1 0) fun t9 =>
  o1 Tryz.prog (bin .shr 116 (.tmp 9) (.const (.int .u64 16)) t9 (.int .u64 16)) w fun t10 w =>
  mv t10 fun t0_1 =>
  mv (x1 2) fun t11 =>
  o1 Tryz.prog (bin .add 3 (.tmp 11) (.const (.int .i64 16)) t11 (.int .i64 16)) w fun t12 w =>
  mv t12 fun t2_2 =>
  k2 [t0_1, t2_2] w) (fun _ =>
  k2 [(x1 0), (x1 2)] w)) fun x2 w =>
  mv (x2 0) fun t13 =>
  o1 Tryz.prog (bin .geq 116 (.tmp 13) (.const (.int .u64 256)) t13 (.int .u64 256)) w fun t14 w =>
  jn (fun x3 => [x3 0, x3 2]) (fun k3 =>
  br t14 (fun _ =>
  mv (x2 0) fun t15 =>
  o1 Tryz.prog (bin .shr 116 (.tmp 15) (.const (.int .u64 8)) t15 (.int .u64 8)) w fun t16 w =>
  mv t16 fun t0_2 =>
  mv (x2 2) fun t17 =>
  o1 Tryz.prog (bin .add 3 (.tmp 17) (.const (.int .i64 8)) t17 (.int .i64 8)) w fun t18 w =>
  mv t18 fun t2_3 =>
  k3 [t0_2, t2_3] w) (fun _ =>
  k3 [(x2 0), (x2 2)] w)) fun x3 w =>
  mv (x3 2) fun t19 =>
  mv (x3 0) fun t20 =>
  o1 Tryz.prog (convert 116 5 t20) w fun t21 w =>
  o1 Tryz.prog (Instr.index 9 (.string ⟨#[0, 1, 2, 2, 3, 3, 3, 3, 4, 4, 4, 4, 4, 4, 4, 4, 5, 5, 5, 5, 5, 5, 5, 5, 5, 5, 5, 5, 5, 5, 5, 5, 6, 6, 6, 6, 6, 6, 6, 6, 6, 6, 6, 6, 6, 6, 6, 6, 6, 6, 6, 6, 6, 6, 6, 6, 6, 6, 6, 6, 6, 6, 6, 6, 7, 7, 7, 7, 7, 7, 7, 7, 7, 7, 7, 7, 7, 7, 7, 7, 7, 7, 7, 7, 7, 7, 7, 7, 7, 7, 7, 7, 7, 7, 7, 7, 7, 7, 7, 7, 7, 7, 7, 7, 7, 7, 7, 7, 7, 7, 7, 7, 7, 7, 7, 7, 7, 7, 7, 7, 7, 7, 7, 7, 7, 7, 7, 7, 8, 8, 8, 8, 8, 8, 8, 8, 8, 8, 8, 8, 8, 8, 8, 8, 8, 8, 8, 8, 8, 8, 8, 8, 8, 8, 8, 8, 8, 8, 8, 8, 8, 8, 8, 8, 8, 8, 8, 8, 8, 8, 8, 8, 8, 8, 8, 8, 8, 8, 8, 8, 8, 8, 8, 8, 8, 8, 8, 8, 8, 8, 8, 8, 8, 8, 8, 8, 8, 8, 8, 8, 8, 8, 8, 8, 8, 8, 8, 8, 8, 8, 8, 8, 8, 8, 8, 8, 8, 8, 8, 8, 8, 8, 8, 8, 8, 8, 8, 8, 8, 8, 8, 8, 8, 8, 8, 8, 8, 8, 8, 8, 8, 8, 8, 8, 8, 8, 8, 8, 8, 8, 8, 8, 8, 8, 8, 8]⟩) t21) w fun t22 w =>
  o1 Tryz.prog (convert 5 3 t22) w fun t23 w =>
  o1 Tryz.prog (bin .add 3 (.tmp 19) (.tmp 23) t19 t23) w fun t24 w =>
  mv t24 fun t2_4 =>
  k t2_4 w
theorem C.math_bits_Len64 {k : Value → World → Prop} {a0 : Value} {w : World} (h : F.math_bits_Len64 k a0 w) : C Tryz.prog N.math_bits_Len64 #[a0] w k :=
  den_calls (H := { moves := [], vars := [0, 2] }) (args := [a0]) mixed Tryz.func75 (by kernel_rfl) (by kernel_rfl) (by kernel_rfl) h

-- cmp.isNaN[int]
def F.cmp_isNaN_int (k : Value → World → Prop) (a0 : Value) (w : World) : Prop :=
  mv (.bool false) fun t2 =>
  mv a0 fun t3 =>
  mv a0 fun t4 =>
  o1 Tryz.prog (bin .neq 3 (.tmp 3) (.tmp 4) t3 t4) w fun t5 w =>
  mv t5 fun t2_1 =>
  k t2_1 w
theorem C.cmp_isNaN_int {k : Value → World → Prop} {a0 : Value} {w : World} (h : F.cmp_isNaN_int k a0 w) : C Tryz.prog N.cmp_isNaN_int #[a0] w k :=
  den_calls (H := { moves := [], vars := [2] }) (args := [a0]) mixed Tryz.func76 (by kernel_rfl) (by kernel_rfl) (by kernel_rfl) h

-- slices.IndexFunc[[]isthmus/api.Hash,isthmus/api.Hash]
def F.slices_IndexFunc_api_Hash_api_Hash (k : Value → World → Prop) (a0 a1 : Value) (w : World) : Prop :=
  mv (.int .i64 0) fun t4 =>
  mv a0 fun t6 =>
  o1 Tryz.prog (Builtin.len_ #[31] 3 #[t6]) w fun t7 w =>
  mv (.int .i64 0) fun t8 =>
  lp [t4, undef, t8] w fun I1 μ1 => ∀ (x1 : Env) (w1 : World), I1 [x1 4, x1 5, x1 8] w1 →
  o1 Tryz.prog (bin .lss 3 (.tmp 8) (.tmp 7) (x1 8) t7) w1 fun t9 w =>
  br t9 (fun _ =>
  mv (x1 8) fun t10 =>
  mv t10 fun t5 =>
  mv a1 fun t11 =>
  mv a0 fun t12 =>
  mv t5 fun t13 =>
  o1 Tryz.prog (Instr.indexAt 31 t12 t13) w fun t14 w =>
  o1 Tryz.prog (Instr.loadAt 43 t14) w fun t15 w =>
  cv Tryz.prog t11 #[t15] w fun t16 w =>
  br t16 (fun _ =>
  mv t5 fun t17 =>
  mv t17 fun t4_1 =>
  k t4_1 w) (fun _ =>
  o1 Tryz.prog (bin .add 3 (.tmp 8) (.const (.int .i64 1)) (x1 8) (.int .i64 1)) w fun t18 w =>
  mv t18 fun t8_1 =>
  I1 [(x1 4), t5, t8_1] w ∧ μ1 [(x1 4), t5, t8_1] w < μ1 [x1 4, x1 5, x1 8] w1)) (fun _ =>
  mv (.int .i64 (-1)) fun t4_2 =>
  k t4_2 w)
theorem C.slices_IndexFunc_api_Hash_api_Hash {k : Value → World → Prop} {a0 a1 : Value} {w : World} (h : F.slices_IndexFunc_api_Hash_api_Hash k a0 a1 w) : C Tryz.prog N.slices_IndexFunc_api_Hash_api_Hash #[a0, a1] w k :=
  den_calls (H := { moves := [], vars := [4, 5, 8] }) (args := [a0, a1]) mixed Tryz.func80 (by kernel_rfl) (by kernel_rfl) (by kernel_rfl) h

-- math/bits.RotateLeft32
def F.math_bits_RotateLeft32 (k : Value → World → Prop) (a0 a1 : Value) (w : World) : Prop :=
  mv (.int .u32 0) fun t4 =>
  mv a1 fun t6 =>
  o1 Tryz.prog (convert 3 52 t6) w fun t7 w =>
  o1 Tryz.prog (bin .and 52 (.tmp 7) (.const (.int .u64 31)) t7 (.int .u64 31)) w fun t8 w =>
  mv t8 fun t5 =>
  mv a0 fun t9 =>
  mv t5 fun t10 =>
  o1 Tryz.prog (bin .shl 111 (.tmp 9) (.tmp 10) t9 t10) w fun t11 w =>
  mv a0 fun t12 =>
  mv t5 fun t13 =>
  o1 Tryz.prog (bin .sub 52 (.const (.int .u64 32)) (.tmp 13) (.int .u64 32) t13) w fun t14 w =>
  o1 Tryz.prog (bin .shr 111 (.tmp 12) (.tmp 14) t12 t14) w fun t15 w =>
  o1 Tryz.prog (bin .or 111 (.tmp 11) (.tmp 15) t11 t15) w fun t16 w =>
  mv t16 fun t4_1 =>
  k t4_1 w
theorem C.math_bits_RotateLeft32 {k : Value → World → Prop} {a0 a1 : Value} {w : World} (h : F.math_bits_RotateLeft32 k a0 a1 w) : C Tryz.prog N.math_bits_RotateLeft32 #[a0, a1] w k :=
  den_calls (H := { moves := [], vars := [4, 5] }) (args := [a0, a1]) mixed Tryz.func81 (by kernel_rfl) (by kernel_rfl) (by kernel_rfl) h

-- slices.siftDownCmpFunc[isthmus/pool.item]
def F.slices_siftDownCmpFunc_pool_item (k : Value → World → Prop) (a0 a1 a2 a3 a4 : Value) (w : World) : Prop :=
  mv a1 fun t12 =>
  mv t12 fun t10 =>
  lp [t10, undef] w fun I1 μ1 => ∀ (x1 : Env) (w1 : World), I1 [x1 10, x1 11] w1 →
  mv (x1 10) fun t13 =>
  o1 Tryz.prog (bin .mul 3 (.const (.int .i64 2)) (.tmp 13) (.int .i64 2) t13) w1 fun t14 w =>
  o1 Tryz.prog (bin .add 3 (.tmp 14) (.const (.int .i64 1)) t14 (.int .i64 1)) w fun t15 w =>
  mv t15 fun t11 =>
  mv t11 fun t16 =>
  mv a2 fun t17 =>
  o1 Tryz.prog (bin .geq 3 (.tmp 16) (.tmp 17) t16 t17) w fun t18 w =>
  br t18 (fun _ =>
  k (.tuple #[]) w) (fun _ =>
  dr w.drew fun S1 =>
  mv t11 fun t19 =>
  tk Tryz.prog S1 (bin .add 3 (.tmp 19) (.const (.int .i64 1)) t19 (.int .i64 1)) fun t20 =>
  mv a2 fun t21 =>
  tk Tryz.prog S1 (bin .lss 3 (.tmp 20) (.tmp 21) t20 t21) fun t22 =>
  mv t22 fun t23 =>
  gdT t23 true (fun k1 => mv a4 k1) fun t24 =>
  gdT t23 true (fun k2 => mv a0 k2) fun t25 =>
  gdT t23 true (fun k3 => mv a3 k3) fun t26 =>
  gdT t23 true (fun k4 => mv t11 k4) fun t27 =>
  gdT t23 true (fun k5 => tk Tryz.prog S1 (bin .add 3 (.tmp 26) (.tmp 27) t26 t27) k5) fun t28 =>
  gdT t23 true (fun k6 => tk Tryz.prog S1 (Instr.indexAt 67 t25 t28) k6) fun t29 =>
  gdT t23 true (fun k7 => tk Tryz.prog S1 (Instr.loadAt 72 t29) k7) fun t30 =>
  gdT t23 true (fun k8 => mv a0 k8) fun t31 =>
  gdT t23 true (fun k9 => mv a3 k9) fun t32 =>
  gdT t23 true (fun k10 => mv t11 k10) fun t33 =>
  gdT t23 true (fun k11 => tk Tryz.prog S1 (bin .add 3 (.tmp 32) (.tmp 33) t32 t33) k11) fun t34 =>
  gdT t23 true (fun k12 => tk Tryz.prog S1 (bin .add 3 (.tmp 34) (.const (.int .i64 1)) t34 (.int .i64 1)) k12) fun t35 =>
  gdT t23 true (fun k13 => tk Tryz.prog S1 (Instr.indexAt 67 t31 t35) k13) fun t36 =>
  gdT t23 true (fun k14 => tk Tryz.prog S1 (Instr.loadAt 72 t36) k14) fun t37 =>
  gd t23 true (fun k15 => cv Tryz.prog t24 #[t30, t37] w.drew k15) w.drew fun t38 w =>
  S1 w ∧
  gdT t23 true (fun k16 => tk Tryz.prog S1 (bin .lss 3 (.tmp 38) (.const (.int .i64 0)) t38 (.int .i64 0)) k16) fun t39 =>
  pk t23 t39 (.bool false) fun t40 =>
  jn (fun x2 => [x2 11]) (fun k17 =>
  br t40 (fun _ =>
  mv t11 fun t41 =>
  o1 Tryz.prog (bin .add 3 (.tmp 41) (.const (.int .i64 1)) t41 (.int .i64 1)) w fun t42 w =>
  mv t42 fun t11_1 =>
  k17 [t11_1] w) (fun _ =>
  k17 [t11] w)) fun x2 w =>
  dr w.drew fun S2 =>
  mv a4 fun t43 =>
  mv a0 fun t44 =>
  mv a3 fun t45 =>
  mv (x1 10) fun t46 =>
  tk Tryz.prog S2 (bin .add 3 (.tmp 45) (.tmp 46) t45 t46) fun t47 =>
  tk Tryz.prog S2 (Instr.indexAt 67 t44 t47) fun t48 =>
  tk Tryz.prog S2 (Instr.loadAt 72 t48) fun t49 =>
  mv a0 fun t50 =>
  mv a3 fun t51 =>
  mv (x2 11) fun t52 =>
  tk Tryz.prog S2 (bin .add 3 (.tmp 51) (.tmp 52) t51 t52) fun t53 =>
  tk Tryz.prog S2 (Instr.indexAt 67 t50 t53) fun t54 =>
  tk Tryz.prog S2 (Instr.loadAt 72 t54) fun t55 =>
  cv Tryz.prog t43 #[t49, t55] w.drew fun t56 w =>
  S2 w ∧
  tk Tryz.prog S2 (bin .lss 3 (.tmp 56) (.const (.int .i64 0)) t56 (.int .i64 0)) fun t57 =>
  tk Tryz.prog S2 (Op.unary .not t57) fun t58 =>
  br t58 (fun _ =>
  k (.tuple #[]) w) (fun _ =>
  dr w.drew fun S3 =>
  mv a0 fun t59 =>
  mv a3 fun t60 =>
  mv (x1 10) fun t61 =>
  tk Tryz.prog S3 (bin .add 3 (.tmp 60) (.tmp 61) t60 t61) fun t62 =>
  mv a0 fun t63 =>
  mv a3 fun t64 =>
  mv (x2 11) fun t65 =>
  tk Tryz.prog S3 (bin .add 3 (.tmp 64) (.tmp 65) t64 t65) fun t66 =>
  mv a0 fun t67 =>
  mv a3 fun t68 =>
  mv (x2 11) fun t69 =>
  tk Tryz.prog S3 (bin .add 3 (.tmp 68) (.tmp 69) t68 t69) fun t70 =>
  tk Tryz.prog S3 (Instr.indexAt 67 t67 t70) fun t71 =>
  tk Tryz.prog S3 (Instr.loadAt 72 t71) fun t72 =>
  mv a0 fun t73 =>
  mv a3 fun t74 =>
  mv (x1 10) fun t75 =>
  tk Tryz.prog S3 (bin .add 3 (.tmp 74) (.tmp 75) t74 t75) fun t76 =>
  tk Tryz.prog S3 (Instr.indexAt 67 t73 t76) fun t77 =>
  tk Tryz.prog S3 (Instr.loadAt 72 t77) fun t78 =>
  tk Tryz.prog S3 (Instr.indexAt 67 t59 t62) fun t79 =>
  o0 Tryz.prog (Instr.storeAt 72 t79 t72) w.drew fun _ w =>
  S3 w ∧
  tk Tryz.prog S3 (Instr.indexAt 67 t63 t66) fun t80 =>
  o0 Tryz.prog (Instr.storeAt 72 t80 t78) w fun _ w =>
  mv (x2 11) fun t81 =>
  mv t81 fun t10_1 =>
  I1 [t10_1, (x2 11)] w ∧ μ1 [t10_1, (x2 11)] w < μ1 [x1 10, x1 11] w1))
theorem C.slices_siftDownCmpFunc_pool_item {k : Value → World → Prop} {a0 a1 a2 a3 a4 : Value} {w : World} (h : F.slices_siftDownCmpFunc_pool_item k a0 a1 a2 a3 a4 w) : C Tryz.prog N.slices_siftDownCmpFunc_pool_item #[a0, a1, a2, a3, a4] w k :=
  den_calls (H := { moves := [(3, (.take 0 (.take 1 (.take 2 (.take 3 (.take 4 (.take 5 (.take 6 (.take 7 (.take 8 (.take 9 (.take 10 (.take 11 (.take 12 (.take 13 (.take 14 (.take 15 (.take 16 (.take 17 (.take 18 (.force 19 (.take 20 (.take 21 .fin))))))))))))))))))))))), (5, (.take 0 (.take 1 (.take 2 (.take 3 (.take 4 (.take 5 (.take 6 (.take 7 (.take 8 (.take 9 (.take 10 (.take 11 (.take 12 (.force 13 (.take 14 (.take 15 .fin))))))))))))))))), (6, (.take 0 (.take 1 (.take 2 (.take 3 (.take 4 (.take 5 (.take 6 (.take 7 (.take 8 (.take 9 (.take 10 (.take 11 (.take 12 (.take 13 (.take 14 (.take 15 (.take 16 (.take 17 (.take 18 (.take 19 (.take 20 (.force 21 (.take 22 (.last 23)))))))))))))))))))))))))], vars := [10, 11] }) (args := [a0, a1, a2, a3, a4]) mixed Tryz.func82 (by kernel_rfl) (by kernel_rfl) (by kernel_rfl) h

-- slices.nextPowerOfTwo
def F.slices_nextPowerOfTwo (k : Value → World → Prop) (a0 : Value) (w : World) : Prop :=
  mv (.int .u64 0) fun t2 =>
  mv a0 fun t3 =>
  o1 Tryz.prog (convert 3 52 t3) w fun t4 w =>
  C Tryz.prog N.math_bits_Len #[t4] w fun t5 w =>
  o1 Tryz.prog (bin .shl 52 (.const (.int .u64 1)) (.tmp 5) (.int .u64 1) t5) w fun t6 w =>
  mv t6 fun t2_1 =>
  k t2_1 w
theorem C.slices_nextPowerOfTwo {k : Value → World → Prop} {a0 : Value} {w : World} (h : F.slices_nextPowerOfTwo k a0 w) : C Tryz.prog N.slices_nextPowerOfTwo #[a0] w k :=
  den_calls (H := { moves := [], vars := [2] }) (args := [a0]) mixed Tryz.func83 (by kernel_rfl) (by kernel_rfl) (by kernel_rfl) h

-- (*slices.xorshift).Next
def F.slices_xorshift_Next (k : Value → World → Prop) (a0 : Value) (w : World) : Prop :=
  mv (.int .u64 0) fun t2 =>
  dr w.drew fun S1 =>
  mv a0 fun t3 =>
  nilOk t3 = true ∧ mv t3 fun t4 =>
  tk Tryz.prog S1 (Instr.loadAt 151 t4) fun t5 =>
  mv a0 fun t6 =>
  nilOk t6 = true ∧ mv t6 fun t7 =>
  tk Tryz.prog S1 (Instr.loadAt 151 t7) fun t8 =>
  tk Tryz.prog S1 (bin .shl 151 (.tmp 8) (.const (.int .u64 13)) t8 (.int .u64 13)) fun t9 =>
  tk Tryz.prog S1 (bin .xor 151 (.tmp 5) (.tmp 9) t5 t9) fun t10 =>
  nilOk t3 = true ∧ mv t3 fun t11 =>
  o0 Tryz.prog (Instr.storeAt 151 t11 t10) w.drew fun _ w =>
  dr w.drew fun S2 =>
  mv a0 fun t12 =>
  nilOk t12 = true ∧ mv t12 fun t13 =>
  tk Tryz.prog S2 (Instr.loadAt 151 t13) fun t14 =>
  mv a0 fun t15 =>
  nilOk t15 = true ∧ mv t15 fun t16 =>
  tk Tryz.prog S2 (Instr.loadAt 151 t16) fun t17 =>
  tk Tryz.prog S2 (bin .shr 151 (.tmp 17) (.const (.int .u64 7)) t17 (.int .u64 7)) fun t18 =>
  tk Tryz.prog S2 (bin .xor 151 (.tmp 14) (.tmp 18) t14 t18) fun t19 =>
  nilOk t12 = true ∧ mv t12 fun t20 =>
  o0 Tryz.prog (Instr.storeAt 151 t20 t19) w.drew fun _ w =>
  dr w.drew fun S3 =>
  mv a0 fun t21 =>
  nilOk t21 = true ∧ mv t21 fun t22 =>
  tk Tryz.prog S3 (Instr.loadAt 151 t22) fun t23 =>
  mv a0 fun t24 =>
  nilOk t24 = true ∧ mv t24 fun t25 =>
  tk Tryz.prog S3 (Instr.loadAt 151 t25) fun t26 =>
  tk Tryz.prog S3 (bin .shl 151 (.tmp 26) (.const (.int .u64 17)) t26 (.int .u64 17)) fun t27 =>
  tk Tryz.prog S3 (bin .xor 151 (.tmp 23) (.tmp 27) t23 t27) fun t28 =>
  nilOk t21 = true ∧ mv t21 fun t29 =>
  o0 Tryz.prog (Instr.storeAt 151 t29 t28) w.drew fun _ w =>
  mv a0 fun t30 =>
  nilOk t30 = true ∧ mv t30 fun t31 =>
  o1 Tryz.prog (Instr.loadAt 151 t31) w fun t32 w =>
  mv t32 fun t2_1 =>
  k t2_1 w
theorem C.slices_xorshift_Next {k : Value → World → Prop} {a0 : Value} {w : World} (h : F.slices_xorshift_Next k a0 w) : C Tryz.prog N.slices_xorshift_Next #[a0] w k :=
  den_calls (H := { moves := [(1, (.take 0 (.take 1 (.take 2 (.take 3 (.take 4 (.take 5 (.take 6 (.take 7 (.take 8 (.last 9))))))))))), (2, (.take 0 (.take 1 (.take 2 (.take 3 (.take 4 (.take 5 (.take 6 (.take 7 (.take 8 (.last 9))))))))))), (3, (.take 0 (.take 1 (.take 2 (.take 3 (.take 4 (.take 5 (.take 6 (.take 7 (.take 8 (.last 9)))))))))))], vars := [2] }) (args := [a0]) mixed Tryz.func84 (by kernel_rfl) (by kernel_rfl) (by kernel_rfl) h

-- slices.medianAdjacentCmpFunc[isthmus/pool.item]
def F.slices_medianAdjacentCmpFunc_pool_item (k : Value → World → Prop) (a0 a1 a2 a3 : Value) (w : World) : Prop :=
  mv (.int .i64 0) fun t8 =>
  mv a0 fun t9 =>
  mv a1 fun t10 =>
  o1 Tryz.prog (bin .sub 3 (.tmp 10) (.const (.int .i64 1)) t10 (.int .i64 1)) w fun t11 w =>
  mv a1 fun t12 =>
  mv a1 fun t13 =>
  o1 Tryz.prog (bin .add 3 (.tmp 13) (.const (.int .i64 1)) t13 (.int .i64 1)) w fun t14 w =>
  mv a2 fun t15 =>
  mv a3 fun t16 =>
  C Tryz.prog N.slices_medianCmpFunc_pool_item #[t9, t11, t12, t14, t15, t16] w fun t17 w =>
  mv t17 fun t8_1 =>
  k t8_1 w
theorem C.slices_medianAdjacentCmpFunc_pool_item {k : Value → World → Prop} {a0 a1 a2 a3 : Value} {w : World} (h : F.slices_medianAdjacentCmpFunc_pool_item k a0 a1 a2 a3 w) : C Tryz.prog N.slices_medianAdjacentCmpFunc_pool_item #[a0, a1, a2, a3] w k :=
  den_calls (H := { moves := [], vars := [8] }) (args := [a0, a1, a2, a3]) mixed Tryz.func85 (by kernel_rfl) (by kernel_rfl) (by kernel_rfl) h

-- slices.medianCmpFunc[isthmus/pool.item]
def F.slices_medianCmpFunc_pool_item (k : Value → World → Prop) (a0 a1 a2 a3 a4 a5 : Value) (w : World) : Prop :=
  mv (.int .i64 0) fun t12 =>
  mv a0 fun t14 =>
  mv a1 fun t15 =>
  mv a2 fun t16 =>
  mv a4 fun t17 =>
  mv a5 fun t18 =>
  C Tryz.prog N.slices_order2CmpFunc_pool_item #[t14, t15, t16, t17, t18] w fun t19 w =>
  mv t19 fun t13 =>
  o1 Tryz.prog (Instr.extract t13 0) w fun t20 w =>
  o1 Tryz.prog (Instr.extract t13 1) w fun t21 w =>
  mv t20 fun t1 =>
  mv t21 fun t2 =>
  mv a0 fun t23 =>
  mv t2 fun t24 =>
  mv a3 fun t25 =>
  mv a4 fun t26 =>
  mv a5 fun t27 =>
  C Tryz.prog N.slices_order2CmpFunc_pool_item #[t23, t24, t25, t26, t27] w fun t28 w =>
  mv t28 fun t22 =>
  o1 Tryz.prog (Instr.extract t22 0) w fun t29 w =>
  o1 Tryz.prog (Instr.extract t22 1) w fun t30 w =>
  mv t29 fun t2_1 =>
  mv t30 fun t3 =>
  mv a0 fun t32 =>
  mv t1 fun t33 =>
  mv t2_1 fun t34 =>
  mv a4 fun t35 =>
  mv a5 fun t36 =>
  C Tryz.prog N.slices_order2CmpFunc_pool_item #[t32, t33, t34, t35, t36] w fun t37 w =>
  mv t37 fun t31 =>
  o1 Tryz.prog (Instr.extract t31 0) w fun t38 w =>
  o1 Tryz.prog (Instr.extract t31 1) w fun t39 w =>
  mv t38 fun t1_1 =>
  mv t39 fun t2_2 =>
  mv t2_2 fun t40 =>
  mv t40 fun t12_1 =>
  k t12_1 w
theorem C.slices_medianCmpFunc_pool_item {k : Value → World → Prop} {a0 a1 a2 a3 a4 a5 : Value} {w : World} (h : F.slices_medianCmpFunc_pool_item k a0 a1 a2 a3 a4 a5 w) : C Tryz.prog N.slices_medianCmpFunc_pool_item #[a0, a1, a2, a3, a4, a5] w k :=
  den_calls (H := { moves := [], vars := [1, 2, 3, 12] }) (args := [a0, a1, a2, a3, a4, a5]) mixed Tryz.func86 (by kernel_rfl) (by kernel_rfl) (by kernel_rfl) h

-- slices.order2CmpFunc[isthmus/pool.item]
def F.slices_order2CmpFunc_pool_item (k : Value → World → Prop) (a0 a1 a2 a3 a4 : Value) (w : World) : Prop :=
  mv (.int .i64 0) fun t10 =>
  mv (.int .i64 0) fun t11 =>
  dr w.drew fun S1 =>
  mv a4 fun t12 =>
  mv a0 fun t13 =>
  mv a2 fun t14 =>
  tk Tryz.prog S1 (Instr.indexAt 67 t13 t14) fun t15 =>
  tk Tryz.prog S1 (Instr.loadAt 72 t15) fun t16 =>
  mv a0 fun t17 =>
  mv a1 fun t18 =>
  tk Tryz.prog S1 (Instr.indexAt 67 t17 t18) fun t19 =>
  tk Tryz.prog S1 (Instr.loadAt 72 t19) fun t20 =>
  cv Tryz.prog t12 #[t16, t20] w.drew fun t21 w =>
  S1 w ∧
  tk Tryz.prog S1 (bin .lss 3 (.tmp 21) (.const (.int .i64 0)) t21 (.int .i64 0)) fun t22 =>
  br t22 (fun _ =>
  mv a3 fun t23 =>
  nilOk t23 = true ∧ mv t23 fun t24 =>
  o1 Tryz.prog (Instr.loadAt 3 t24) w fun t25 w =>
  o1 Tryz.prog (bin .add 3 (.tmp 25) (.const (.int .i64 1)) t25 (.int .i64 1)) w fun t26 w =>
  nilOk t23 = true ∧ mv t23 fun t27 =>
  o0 Tryz.prog (Instr.storeAt 3 t27 t26) w fun _ w =>
  mv a2 fun t28 =>
  mv a1 fun t29 =>
  mv t28 fun t10_1 =>
  mv t29 fun t11_1 =>
  k (.tuple #[t10_1, t11_1]) w) (fun _ =>
  mv a1 fun t30 =>
  mv a2 fun t31 =>
  mv t30 fun t10_2 =>
  mv t31 fun t11_2 =>
  k (.tuple #[t10_2, t11_2]) w)
theorem C.slices_order2CmpFunc_pool_item {k : Value → World → Prop} {a0 a1 a2 a3 a4 : Value} {w : World} (h : F.slices_order2CmpFunc_pool_item k a0 a1 a2 a3 a4 w) : C Tryz.prog N.slices_order2CmpFunc_pool_item #[a0, a1, a2, a3, a4] w k :=
  den_calls (H := { moves := [(1, (.take 0 (.take 1 (.take 2 (.take 3 (.take 4 (.take 5 (.take 6 (.take 7 (.take 8 (.force 9 (.take 10 .fin))))))))))))], vars := [10, 11] }) (args := [a0, a1, a2, a3, a4]) mixed Tryz.func87 (by kernel_rfl) (by kernel_rfl) (by kernel_rfl) h

-- (*isthmus/api.Fault).Unwrap
def F.api_Fault_Unwrap (k : Value → World → Prop) (a0 : Value) (w : World) : Prop :=
  mv .nilIface fun t2 =>
  mv a0 fun t3 =>
  nilOk t3 = true ∧ mv t3 fun t4 =>
  o1 Tryz.prog (Instr.fieldAt 89 t4 1) w fun t5 w =>
  o1 Tryz.prog (Instr.loadAt 27 t5) w fun t6 w =>
  mv t6 fun t2_1 =>
  k t2_1 w
theorem C.api_Fault_Unwrap {k : Value → World → Prop} {a0 : Value} {w : World} (h : F.api_Fault_Unwrap k a0 w) : C Tryz.prog N.api_Fault_Unwrap #[a0] w k :=
  den_calls (H := { moves := [], vars := [2] }) (args := [a0]) mixed Tryz.func107 (by kernel_rfl) (by kernel_rfl) (by kernel_rfl) h

-- gosem.cut.vars
end Go.Proofs.YtgagekffmamldaaGreatDoor
