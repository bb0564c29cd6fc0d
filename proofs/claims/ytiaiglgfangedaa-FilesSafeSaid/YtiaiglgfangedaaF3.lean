/- What each function asks: printed by hoas.py off the loaded program; each is held against the program by the kernel. -/
import Derived.Test.YtiaiglgfangedaaN
set_option linter.unusedVariables false
set_option linter.unusedSimpArgs false
set_option linter.unusedSectionVars false
namespace Go.Proofs.Ytiaiglgfangedaa
open Go Go.Isk
set_option maxRecDepth 100000
-- math/bits.Len32
def F.math_bits_Len32 (k : Value → World → Prop) (a0 : Value) (w : World) : Prop :=
  mv (.int .i64 0) fun t2 =>
  mv a0 fun t3 =>
  o1 Try.prog (bin .geq 83 (.tmp 3) (.const (.int .u32 65536)) t3 (.int .u32 65536)) w fun t4 w =>
  jn (fun x1 => [x1 0, x1 2]) (fun k1 =>
  br t4 (fun _ =>
  mv a0 fun t5 =>
  o1 Try.prog (bin .shr 83 (.tmp 5) (.const (.int .u64 16)) t5 (.int .u64 16)) w fun t6 w =>
  mv t6 fun t0 =>
  mv (.int .i64 16) fun t2_1 =>
  k1 [t0, t2_1] w) (fun _ =>
  k1 [a0, t2] w)) fun x1 w =>
  mv (x1 0) fun t7 =>
  o1 Try.prog (bin .geq 83 (.tmp 7) (.const (.int .u32 256)) t7 (.int .u32 256)) w fun t8 w =>
  jn (fun x2 => [x2 0, x2 2]) (fun k2 =>
  br t8 (fun _ =>
  mv (x1 0) fun t9 =>
  o1 Try.prog (bin .shr 83 (.tmp 9) (.const (.int .u64 8)) t9 (.int .u64 8)) w fun t10 w =>
  mv t10 fun t0_1 =>
  mv (x1 2) fun t11 =>
  o1 Try.prog (bin .add 3 (.tmp 11) (.const (.int .i64 8)) t11 (.int .i64 8)) w fun t12 w =>
  mv t12 fun t2_2 =>
  k2 [t0_1, t2_2] w) (fun _ =>
  k2 [(x1 0), (x1 2)] w)) fun x2 w =>
  mv (x2 2) fun t13 =>
  mv (x2 0) fun t14 =>
  o1 Try.prog (convert 83 5 t14) w fun t15 w =>
  o1 Try.prog (Instr.index 9 (.string ⟨#[0, 1, 2, 2, 3, 3, 3, 3, 4, 4, 4, 4, 4, 4, 4, 4, 5, 5, 5, 5, 5, 5, 5, 5, 5, 5, 5, 5, 5, 5, 5, 5, 6, 6, 6, 6, 6, 6, 6, 6, 6, 6, 6, 6, 6, 6, 6, 6, 6, 6, 6, 6, 6, 6, 6, 6, 6, 6, 6, 6, 6, 6, 6, 6, 7, 7, 7, 7, 7, 7, 7, 7, 7, 7, 7, 7, 7, 7, 7, 7, 7, 7, 7, 7, 7, 7, 7, 7, 7, 7, 7, 7, 7, 7, 7, 7, 7, 7, 7, 7, 7, 7, 7, 7, 7, 7, 7, 7, 7, 7, 7, 7, 7, 7, 7, 7, 7, 7, 7, 7, 7, 7, 7, 7, 7, 7, 7, 7, 8, 8, 8, 8, 8, 8, 8, 8, 8, 8, 8, 8, 8, 8, 8, 8, 8, 8, 8, 8, 8, 8, 8, 8, 8, 8, 8, 8, 8, 8, 8, 8, 8, 8, 8, 8, 8, 8, 8, 8, 8, 8, 8, 8, 8, 8, 8, 8, 8, 8, 8, 8, 8, 8, 8, 8, 8, 8, 8, 8, 8, 8, 8, 8, 8, 8, 8, 8, 8, 8, 8, 8, 8, 8, 8, 8, 8, 8, 8, 8, 8, 8, 8, 8, 8, 8, 8, 8, 8, 8, 8, 8, 8, 8, 8, 8, 8, 8, 8, 8, 8, 8, 8, 8, 8, 8, 8, 8, 8, 8, 8, 8, 8, 8, 8, 8, 8, 8, 8, 8, 8, 8, 8, 8, 8, 8, 8, 8]⟩) t15) w fun t16 w =>
  o1 Try.prog (convert 5 3 t16) w fun t17 w =>
  o1 Try.prog (bin .add 3 (.tmp 13) (.tmp 17) t13 t17) w fun t18 w =>
  mv t18 fun t2_3 =>
  k t2_3 w
theorem C.math_bits_Len32 {k : Value → World → Prop} {a0 : Value} {w : World} (h : F.math_bits_Len32 k a0 w) : C Try.prog N.math_bits_Len32 #[a0] w k :=
  den_calls (H := { moves := [], vars := [0, 2] }) (args := [a0]) mixed Try.func42 (by kernel_rfl) (by kernel_rfl) (by kernel_rfl) h

-- math/bits.Len64
def F.math_bits_Len64 (k : Value → World → Prop) (a0 : Value) (w : World) : Prop :=
  mv (.int .i64 0) fun t2 =>
  mv a0 fun t3 =>
  o1 Try.prog (bin .geq 85 (.tmp 3) (.const (.int .u64 4294967296)) t3 (.int .u64 4294967296)) w fun t4 w =>
  jn (fun x1 => [x1 0, x1 2]) (fun k1 =>
  br t4 (fun _ =>
  mv a0 fun t5 =>
  o1 Try.prog (bin .shr 85 (.tmp 5) (.const (.int .u64 32)) t5 (.int .u64 32)) w fun t6 w =>
  mv t6 fun t0 =>
  mv (.int .i64 32) fun t2_1 =>
  k1 [t0, t2_1] w) (fun _ =>
  k1 [a0, t2] w)) fun x1 w =>
  mv (x1 0) fun t7 =>
  o1 Try.prog (bin .geq 85 (.tmp 7) (.const (.int .u64 65536)) t7 (.int .u64 65536)) w fun t8 w =>
  jn (fun x2 => [x2 0, x2 2]) (fun k2 =>
  br t8 (fun _ =>
  mv (x1 0) fun t9 =>
  o1 Try.prog (bin .shr 85 (.tmp 9) (.const (.int .u64 16)) t9 (.int .u64 16)) w fun t10 w =>
  mv t10 fun t0_1 =>
  mv (x1 2) fun t11 =>
  o1 Try.prog (bin .add 3 (.tmp 11) (.const (.int .i64 16)) t11 (.int .i64 16)) w fun t12 w =>
  mv t12 fun t2_2 =>
  k2 [t0_1, t2_2] w) (fun _ =>
  k2 [(x1 0), (x1 2)] w)) fun x2 w =>
  mv (x2 0) fun t13 =>
  o1 Try.prog (bin .geq 85 (.tmp 13) (.const (.int .u64 256)) t13 (.int .u64 256)) w fun t14 w =>
  jn (fun x3 => [x3 0, x3 2]) (fun k3 =>
  br t14 (fun _ =>
  mv (x2 0) fun t15 =>
  o1 Try.prog (bin .shr 85 (.tmp 15) (.const (.int .u64 8)) t15 (.int .u64 8)) w fun t16 w =>
  mv t16 fun t0_2 =>
  mv (x2 2) fun t17 =>
  o1 Try.prog (bin .add 3 (.tmp 17) (.const (.int .i64 8)) t17 (.int .i64 8)) w fun t18 w =>
  mv t18 fun t2_3 =>
  k3 [t0_2, t2_3] w) (fun _ =>
  k3 [(x2 0), (x2 2)] w)) fun x3 w =>
  mv (x3 2) fun t19 =>
  mv (x3 0) fun t20 =>
  o1 Try.prog (convert 85 5 t20) w fun t21 w =>
  o1 Try.prog (Instr.index 9 (.string ⟨#[0, 1, 2, 2, 3, 3, 3, 3, 4, 4, 4, 4, 4, 4, 4, 4, 5, 5, 5, 5, 5, 5, 5, 5, 5, 5, 5, 5, 5, 5, 5, 5, 6, 6, 6, 6, 6, 6, 6, 6, 6, 6, 6, 6, 6, 6, 6, 6, 6, 6, 6, 6, 6, 6, 6, 6, 6, 6, 6, 6, 6, 6, 6, 6, 7, 7, 7, 7, 7, 7, 7, 7, 7, 7, 7, 7, 7, 7, 7, 7, 7, 7, 7, 7, 7, 7, 7, 7, 7, 7, 7, 7, 7, 7, 7, 7, 7, 7, 7, 7, 7, 7, 7, 7, 7, 7, 7, 7, 7, 7, 7, 7, 7, 7, 7, 7, 7, 7, 7, 7, 7, 7, 7, 7, 7, 7, 7, 7, 8, 8, 8, 8, 8, 8, 8, 8, 8, 8, 8, 8, 8, 8, 8, 8, 8, 8, 8, 8, 8, 8, 8, 8, 8, 8, 8, 8, 8, 8, 8, 8, 8, 8, 8, 8, 8, 8, 8, 8, 8, 8, 8, 8, 8, 8, 8, 8, 8, 8, 8, 8, 8, 8, 8, 8, 8, 8, 8, 8, 8, 8, 8, 8, 8, 8, 8, 8, 8, 8, 8, 8, 8, 8, 8, 8, 8, 8, 8, 8, 8, 8, 8, 8, 8, 8, 8, 8, 8, 8, 8, 8, 8, 8, 8, 8, 8, 8, 8, 8, 8, 8, 8, 8, 8, 8, 8, 8, 8, 8, 8, 8, 8, 8, 8, 8, 8, 8, 8, 8, 8, 8, 8, 8, 8, 8, 8, 8]⟩) t21) w fun t22 w =>
  o1 Try.prog (convert 5 3 t22) w fun t23 w =>
  o1 Try.prog (bin .add 3 (.tmp 19) (.tmp 23) t19 t23) w fun t24 w =>
  mv t24 fun t2_4 =>
  k t2_4 w
theorem C.math_bits_Len64 {k : Value → World → Prop} {a0 : Value} {w : World} (h : F.math_bits_Len64 k a0 w) : C Try.prog N.math_bits_Len64 #[a0] w k :=
  den_calls (H := { moves := [], vars := [0, 2] }) (args := [a0]) mixed Try.func43 (by kernel_rfl) (by kernel_rfl) (by kernel_rfl) h

-- slices.siftDownOrdered[string]
def F.slices_siftDownOrdered_string (k : Value → World → Prop) (a0 a1 a2 a3 : Value) (w : World) : Prop :=
  mv a1 fun t10 =>
  mv t10 fun t8 =>
  lp [t8, undef] w fun I1 μ1 => ∀ (x1 : Env) (w1 : World), I1 [x1 8, x1 9] w1 →
  mv (x1 8) fun t11 =>
  o1 Try.prog (bin .mul 3 (.const (.int .i64 2)) (.tmp 11) (.int .i64 2) t11) w1 fun t12 w =>
  o1 Try.prog (bin .add 3 (.tmp 12) (.const (.int .i64 1)) t12 (.int .i64 1)) w fun t13 w =>
  mv t13 fun t9 =>
  mv t9 fun t14 =>
  mv a2 fun t15 =>
  o1 Try.prog (bin .geq 3 (.tmp 14) (.tmp 15) t14 t15) w fun t16 w =>
  br t16 (fun _ =>
  k (.tuple #[]) w) (fun _ =>
  dr w.drew fun S1 =>
  mv t9 fun t17 =>
  tk Try.prog S1 (bin .add 3 (.tmp 17) (.const (.int .i64 1)) t17 (.int .i64 1)) fun t18 =>
  mv a2 fun t19 =>
  tk Try.prog S1 (bin .lss 3 (.tmp 18) (.tmp 19) t18 t19) fun t20 =>
  mv t20 fun t21 =>
  gdT t21 true (fun k1 => mv a0 k1) fun t22 =>
  gdT t21 true (fun k2 => mv a3 k2) fun t23 =>
  gdT t21 true (fun k3 => mv t9 k3) fun t24 =>
  gdT t21 true (fun k4 => tk Try.prog S1 (bin .add 3 (.tmp 23) (.tmp 24) t23 t24) k4) fun t25 =>
  gdT t21 true (fun k5 => tk Try.prog S1 (Instr.indexAt 53 t22 t25) k5) fun t26 =>
  gdT t21 true (fun k6 => tk Try.prog S1 (Instr.loadAt 9 t26) k6) fun t27 =>
  gdT t21 true (fun k7 => mv a0 k7) fun t28 =>
  gdT t21 true (fun k8 => mv a3 k8) fun t29 =>
  gdT t21 true (fun k9 => mv t9 k9) fun t30 =>
  gdT t21 true (fun k10 => tk Try.prog S1 (bin .add 3 (.tmp 29) (.tmp 30) t29 t30) k10) fun t31 =>
  gdT t21 true (fun k11 => tk Try.prog S1 (bin .add 3 (.tmp 31) (.const (.int .i64 1)) t31 (.int .i64 1)) k11) fun t32 =>
  gdT t21 true (fun k12 => tk Try.prog S1 (Instr.indexAt 53 t28 t32) k12) fun t33 =>
  gdT t21 true (fun k13 => tk Try.prog S1 (Instr.loadAt 9 t33) k13) fun t34 =>
  gd t21 true (fun k14 => C Try.prog N.cmp_Less_string #[t27, t34] w.drew k14) w.drew fun t35 w =>
  S1 w ∧
  pk t21 t35 (.bool false) fun t36 =>
  jn (fun x2 => [x2 9]) (fun k15 =>
  br t36 (fun _ =>
  mv t9 fun t37 =>
  o1 Try.prog (bin .add 3 (.tmp 37) (.const (.int .i64 1)) t37 (.int .i64 1)) w fun t38 w =>
  mv t38 fun t9_1 =>
  k15 [t9_1] w) (fun _ =>
  k15 [t9] w)) fun x2 w =>
  dr w.drew fun S2 =>
  mv a0 fun t39 =>
  mv a3 fun t40 =>
  mv (x1 8) fun t41 =>
  tk Try.prog S2 (bin .add 3 (.tmp 40) (.tmp 41) t40 t41) fun t42 =>
  tk Try.prog S2 (Instr.indexAt 53 t39 t42) fun t43 =>
  tk Try.prog S2 (Instr.loadAt 9 t43) fun t44 =>
  mv a0 fun t45 =>
  mv a3 fun t46 =>
  mv (x2 9) fun t47 =>
  tk Try.prog S2 (bin .add 3 (.tmp 46) (.tmp 47) t46 t47) fun t48 =>
  tk Try.prog S2 (Instr.indexAt 53 t45 t48) fun t49 =>
  tk Try.prog S2 (Instr.loadAt 9 t49) fun t50 =>
  C Try.prog N.cmp_Less_string #[t44, t50] w.drew fun t51 w =>
  S2 w ∧
  tk Try.prog S2 (Op.unary .not t51) fun t52 =>
  br t52 (fun _ =>
  k (.tuple #[]) w) (fun _ =>
  dr w.drew fun S3 =>
  mv a0 fun t53 =>
  mv a3 fun t54 =>
  mv (x1 8) fun t55 =>
  tk Try.prog S3 (bin .add 3 (.tmp 54) (.tmp 55) t54 t55) fun t56 =>
  mv a0 fun t57 =>
  mv a3 fun t58 =>
  mv (x2 9) fun t59 =>
  tk Try.prog S3 (bin .add 3 (.tmp 58) (.tmp 59) t58 t59) fun t60 =>
  mv a0 fun t61 =>
  mv a3 fun t62 =>
  mv (x2 9) fun t63 =>
  tk Try.prog S3 (bin .add 3 (.tmp 62) (.tmp 63) t62 t63) fun t64 =>
  tk Try.prog S3 (Instr.indexAt 53 t61 t64) fun t65 =>
  tk Try.prog S3 (Instr.loadAt 9 t65) fun t66 =>
  mv a0 fun t67 =>
  mv a3 fun t68 =>
  mv (x1 8) fun t69 =>
  tk Try.prog S3 (bin .add 3 (.tmp 68) (.tmp 69) t68 t69) fun t70 =>
  tk Try.prog S3 (Instr.indexAt 53 t67 t70) fun t71 =>
  tk Try.prog S3 (Instr.loadAt 9 t71) fun t72 =>
  tk Try.prog S3 (Instr.indexAt 53 t53 t56) fun t73 =>
  o0 Try.prog (Instr.storeAt 9 t73 t66) w.drew fun _ w =>
  S3 w ∧
  tk Try.prog S3 (Instr.indexAt 53 t57 t60) fun t74 =>
  o0 Try.prog (Instr.storeAt 9 t74 t72) w fun _ w =>
  mv (x2 9) fun t75 =>
  mv t75 fun t8_1 =>
  I1 [t8_1, (x2 9)] w ∧ μ1 [t8_1, (x2 9)] w < μ1 [x1 8, x1 9] w1))
theorem C.slices_siftDownOrdered_string {k : Value → World → Prop} {a0 a1 a2 a3 : Value} {w : World} (h : F.slices_siftDownOrdered_string k a0 a1 a2 a3 w) : C Try.prog N.slices_siftDownOrdered_string #[a0, a1, a2, a3] w k :=
  den_calls (H := { moves := [(3, (.take 0 (.take 1 (.take 2 (.take 3 (.take 4 (.take 5 (.take 6 (.take 7 (.take 8 (.take 9 (.take 10 (.take 11 (.take 12 (.take 13 (.take 14 (.take 15 (.take 16 (.take 17 (.force 18 (.take 19 .fin))))))))))))))))))))), (5, (.take 0 (.take 1 (.take 2 (.take 3 (.take 4 (.take 5 (.take 6 (.take 7 (.take 8 (.take 9 (.take 10 (.take 11 (.force 12 (.take 13 .fin))))))))))))))), (6, (.take 0 (.take 1 (.take 2 (.take 3 (.take 4 (.take 5 (.take 6 (.take 7 (.take 8 (.take 9 (.take 10 (.take 11 (.take 12 (.take 13 (.take 14 (.take 15 (.take 16 (.take 17 (.take 18 (.take 19 (.take 20 (.force 21 (.take 22 (.last 23)))))))))))))))))))))))))], vars := [8, 9] }) (args := [a0, a1, a2, a3]) mixed Try.func44 (by kernel_rfl) (by kernel_rfl) (by kernel_rfl) h

-- slices.nextPowerOfTwo
def F.slices_nextPowerOfTwo (k : Value → World → Prop) (a0 : Value) (w : World) : Prop :=
  mv (.int .u64 0) fun t2 =>
  mv a0 fun t3 =>
  o1 Try.prog (convert 3 34 t3) w fun t4 w =>
  C Try.prog N.math_bits_Len #[t4] w fun t5 w =>
  o1 Try.prog (bin .shl 34 (.const (.int .u64 1)) (.tmp 5) (.int .u64 1) t5) w fun t6 w =>
  mv t6 fun t2_1 =>
  k t2_1 w
theorem C.slices_nextPowerOfTwo {k : Value → World → Prop} {a0 : Value} {w : World} (h : F.slices_nextPowerOfTwo k a0 w) : C Try.prog N.slices_nextPowerOfTwo #[a0] w k :=
  den_calls (H := { moves := [], vars := [2] }) (args := [a0]) mixed Try.func45 (by kernel_rfl) (by kernel_rfl) (by kernel_rfl) h

-- (*slices.xorshift).Next
def F.slices_xorshift_Next (k : Value → World → Prop) (a0 : Value) (w : World) : Prop :=
  mv (.int .u64 0) fun t2 =>
  dr w.drew fun S1 =>
  mv a0 fun t3 =>
  nilOk t3 = true ∧ mv t3 fun t4 =>
  tk Try.prog S1 (Instr.loadAt 86 t4) fun t5 =>
  mv a0 fun t6 =>
  nilOk t6 = true ∧ mv t6 fun t7 =>
  tk Try.prog S1 (Instr.loadAt 86 t7) fun t8 =>
  tk Try.prog S1 (bin .shl 86 (.tmp 8) (.const (.int .u64 13)) t8 (.int .u64 13)) fun t9 =>
  tk Try.prog S1 (bin .xor 86 (.tmp 5) (.tmp 9) t5 t9) fun t10 =>
  nilOk t3 = true ∧ mv t3 fun t11 =>
  o0 Try.prog (Instr.storeAt 86 t11 t10) w.drew fun _ w =>
  dr w.drew fun S2 =>
  mv a0 fun t12 =>
  nilOk t12 = true ∧ mv t12 fun t13 =>
  tk Try.prog S2 (Instr.loadAt 86 t13) fun t14 =>
  mv a0 fun t15 =>
  nilOk t15 = true ∧ mv t15 fun t16 =>
  tk Try.prog S2 (Instr.loadAt 86 t16) fun t17 =>
  tk Try.prog S2 (bin .shr 86 (.tmp 17) (.const (.int .u64 7)) t17 (.int .u64 7)) fun t18 =>
  tk Try.prog S2 (bin .xor 86 (.tmp 14) (.tmp 18) t14 t18) fun t19 =>
  nilOk t12 = true ∧ mv t12 fun t20 =>
  o0 Try.prog (Instr.storeAt 86 t20 t19) w.drew fun _ w =>
  dr w.drew fun S3 =>
  mv a0 fun t21 =>
  nilOk t21 = true ∧ mv t21 fun t22 =>
  tk Try.prog S3 (Instr.loadAt 86 t22) fun t23 =>
  mv a0 fun t24 =>
  nilOk t24 = true ∧ mv t24 fun t25 =>
  tk Try.prog S3 (Instr.loadAt 86 t25) fun t26 =>
  tk Try.prog S3 (bin .shl 86 (.tmp 26) (.const (.int .u64 17)) t26 (.int .u64 17)) fun t27 =>
  tk Try.prog S3 (bin .xor 86 (.tmp 23) (.tmp 27) t23 t27) fun t28 =>
  nilOk t21 = true ∧ mv t21 fun t29 =>
  o0 Try.prog (Instr.storeAt 86 t29 t28) w.drew fun _ w =>
  mv a0 fun t30 =>
  nilOk t30 = true ∧ mv t30 fun t31 =>
  o1 Try.prog (Instr.loadAt 86 t31) w fun t32 w =>
  mv t32 fun t2_1 =>
  k t2_1 w
theorem C.slices_xorshift_Next {k : Value → World → Prop} {a0 : Value} {w : World} (h : F.slices_xorshift_Next k a0 w) : C Try.prog N.slices_xorshift_Next #[a0] w k :=
  den_calls (H := { moves := [(1, (.take 0 (.take 1 (.take 2 (.take 3 (.take 4 (.take 5 (.take 6 (.take 7 (.take 8 (.last 9))))))))))), (2, (.take 0 (.take 1 (.take 2 (.take 3 (.take 4 (.take 5 (.take 6 (.take 7 (.take 8 (.last 9))))))))))), (3, (.take 0 (.take 1 (.take 2 (.take 3 (.take 4 (.take 5 (.take 6 (.take 7 (.take 8 (.last 9)))))))))))], vars := [2] }) (args := [a0]) mixed Try.func46 (by kernel_rfl) (by kernel_rfl) (by kernel_rfl) h

-- slices.medianAdjacentOrdered[string]
def F.slices_medianAdjacentOrdered_string (k : Value → World → Prop) (a0 a1 a2 : Value) (w : World) : Prop :=
  mv (.int .i64 0) fun t6 =>
  mv a0 fun t7 =>
  mv a1 fun t8 =>
  o1 Try.prog (bin .sub 3 (.tmp 8) (.const (.int .i64 1)) t8 (.int .i64 1)) w fun t9 w =>
  mv a1 fun t10 =>
  mv a1 fun t11 =>
  o1 Try.prog (bin .add 3 (.tmp 11) (.const (.int .i64 1)) t11 (.int .i64 1)) w fun t12 w =>
  mv a2 fun t13 =>
  C Try.prog N.slices_medianOrdered_string #[t7, t9, t10, t12, t13] w fun t14 w =>
  mv t14 fun t6_1 =>
  k t6_1 w
theorem C.slices_medianAdjacentOrdered_string {k : Value → World → Prop} {a0 a1 a2 : Value} {w : World} (h : F.slices_medianAdjacentOrdered_string k a0 a1 a2 w) : C Try.prog N.slices_medianAdjacentOrdered_string #[a0, a1, a2] w k :=
  den_calls (H := { moves := [], vars := [6] }) (args := [a0, a1, a2]) mixed Try.func47 (by kernel_rfl) (by kernel_rfl) (by kernel_rfl) h

-- slices.medianOrdered[string]
def F.slices_medianOrdered_string (k : Value → World → Prop) (a0 a1 a2 a3 a4 : Value) (w : World) : Prop :=
  mv (.int .i64 0) fun t10 =>
  mv a0 fun t12 =>
  mv a1 fun t13 =>
  mv a2 fun t14 =>
  mv a4 fun t15 =>
  C Try.prog N.slices_order2Ordered_string #[t12, t13, t14, t15] w fun t16 w =>
  mv t16 fun t11 =>
  o1 Try.prog (Instr.extract t11 0) w fun t17 w =>
  o1 Try.prog (Instr.extract t11 1) w fun t18 w =>
  mv t17 fun t1 =>
  mv t18 fun t2 =>
  mv a0 fun t20 =>
  mv t2 fun t21 =>
  mv a3 fun t22 =>
  mv a4 fun t23 =>
  C Try.prog N.slices_order2Ordered_string #[t20, t21, t22, t23] w fun t24 w =>
  mv t24 fun t19 =>
  o1 Try.prog (Instr.extract t19 0) w fun t25 w =>
  o1 Try.prog (Instr.extract t19 1) w fun t26 w =>
  mv t25 fun t2_1 =>
  mv t26 fun t3 =>
  mv a0 fun t28 =>
  mv t1 fun t29 =>
  mv t2_1 fun t30 =>
  mv a4 fun t31 =>
  C Try.prog N.slices_order2Ordered_string #[t28, t29, t30, t31] w fun t32 w =>
  mv t32 fun t27 =>
  o1 Try.prog (Instr.extract t27 0) w fun t33 w =>
  o1 Try.prog (Instr.extract t27 1) w fun t34 w =>
  mv t33 fun t1_1 =>
  mv t34 fun t2_2 =>
  mv t2_2 fun t35 =>
  mv t35 fun t10_1 =>
  k t10_1 w
theorem C.slices_medianOrdered_string {k : Value → World → Prop} {a0 a1 a2 a3 a4 : Value} {w : World} (h : F.slices_medianOrdered_string k a0 a1 a2 a3 a4 w) : C Try.prog N.slices_medianOrdered_string #[a0, a1, a2, a3, a4] w k :=
  den_calls (H := { moves := [], vars := [1, 2, 3, 10] }) (args := [a0, a1, a2, a3, a4]) mixed Try.func48 (by kernel_rfl) (by kernel_rfl) (by kernel_rfl) h

-- cmp.isNaN[string]
def F.cmp_isNaN_string (k : Value → World → Prop) (a0 : Value) (w : World) : Prop :=
  mv (.bool false) fun t2 =>
  mv a0 fun t3 =>
  mv a0 fun t4 =>
  o1 Try.prog (bin .neq 9 (.tmp 3) (.tmp 4) t3 t4) w fun t5 w =>
  mv t5 fun t2_1 =>
  k t2_1 w
theorem C.cmp_isNaN_string {k : Value → World → Prop} {a0 : Value} {w : World} (h : F.cmp_isNaN_string k a0 w) : C Try.prog N.cmp_isNaN_string #[a0] w k :=
  den_calls (H := { moves := [], vars := [2] }) (args := [a0]) mixed Try.func49 (by kernel_rfl) (by kernel_rfl) (by kernel_rfl) h

-- slices.order2Ordered[string]
def F.slices_order2Ordered_string (k : Value → World → Prop) (a0 a1 a2 a3 : Value) (w : World) : Prop :=
  mv (.int .i64 0) fun t8 =>
  mv (.int .i64 0) fun t9 =>
  dr w.drew fun S1 =>
  mv a0 fun t10 =>
  mv a2 fun t11 =>
  tk Try.prog S1 (Instr.indexAt 53 t10 t11) fun t12 =>
  tk Try.prog S1 (Instr.loadAt 9 t12) fun t13 =>
  mv a0 fun t14 =>
  mv a1 fun t15 =>
  tk Try.prog S1 (Instr.indexAt 53 t14 t15) fun t16 =>
  tk Try.prog S1 (Instr.loadAt 9 t16) fun t17 =>
  C Try.prog N.cmp_Less_string #[t13, t17] w.drew fun t18 w =>
  br t18 (fun _ =>
  mv a3 fun t19 =>
  nilOk t19 = true ∧ mv t19 fun t20 =>
  o1 Try.prog (Instr.loadAt 3 t20) w fun t21 w =>
  o1 Try.prog (bin .add 3 (.tmp 21) (.const (.int .i64 1)) t21 (.int .i64 1)) w fun t22 w =>
  nilOk t19 = true ∧ mv t19 fun t23 =>
  o0 Try.prog (Instr.storeAt 3 t23 t22) w fun _ w =>
  mv a2 fun t24 =>
  mv a1 fun t25 =>
  mv t24 fun t8_1 =>
  mv t25 fun t9_1 =>
  k (.tuple #[t8_1, t9_1]) w) (fun _ =>
  mv a1 fun t26 =>
  mv a2 fun t27 =>
  mv t26 fun t8_2 =>
  mv t27 fun t9_2 =>
  k (.tuple #[t8_2, t9_2]) w)
theorem C.slices_order2Ordered_string {k : Value → World → Prop} {a0 a1 a2 a3 : Value} {w : World} (h : F.slices_order2Ordered_string k a0 a1 a2 a3 w) : C Try.prog N.slices_order2Ordered_string #[a0, a1, a2, a3] w k :=
  den_calls (H := { moves := [(1, (.take 0 (.take 1 (.take 2 (.take 3 (.take 4 (.take 5 (.take 6 (.take 7 (.last 8))))))))))], vars := [8, 9] }) (args := [a0, a1, a2, a3]) mixed Try.func50 (by kernel_rfl) (by kernel_rfl) (by kernel_rfl) h

end Go.Proofs.Ytiaiglgfangedaa
