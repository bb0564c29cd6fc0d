/- What each function asks: printed by hoas.py off the loaded program; each is held against the program by the kernel. -/
import Derived.Test.YtgagekffmamldaaDoorN
set_option linter.unusedVariables false
set_option linter.unusedSimpArgs false
set_option linter.unusedSectionVars false
namespace Go.Proofs.YtgagekffmamldaaDoor
open Go Go.Isk
set_option maxRecDepth 100000
-- cmp.Or[int]
def F.cmp_Or_int (k : Value → World → Prop) (a0 : Value) (w : World) : Prop :=
  mv (.int .i64 0) fun t2 =>
  mv (.int .i64 0) fun t3 =>
  mv a0 fun t6 =>
  o1 Tryd.prog (Builtin.len_ #[31] 3 #[t6]) w fun t7 w =>
  mv (.int .i64 0) fun t8 =>
  lp [t2, undef, t8] w fun I1 μ1 => ∀ (x1 : Env) (w1 : World), I1 [x1 2, x1 5, x1 8] w1 →
  o1 Tryd.prog (bin .lss 3 (.tmp 8) (.tmp 7) (x1 8) t7) w1 fun t9 w =>
  br t9 (fun _ =>
  o1 Tryd.prog (Instr.indexAt 31 t6 (x1 8)) w fun t10 w =>
  o1 Tryd.prog (Instr.loadAt 3 t10) w fun t11 w =>
  mv t11 fun t5 =>
  mv t5 fun t12 =>
  mv t3 fun t13 =>
  o1 Tryd.prog (bin .neq 3 (.tmp 12) (.tmp 13) t12 t13) w fun t14 w =>
  br t14 (fun _ =>
  mv t5 fun t15 =>
  mv t15 fun t2_1 =>
  k t2_1 w) (fun _ =>
  o1 Tryd.prog (bin .add 3 (.tmp 8) (.const (.int .i64 1)) (x1 8) (.int .i64 1)) w fun t16 w =>
  mv t16 fun t8_1 =>
  I1 [(x1 2), t5, t8_1] w ∧ μ1 [(x1 2), t5, t8_1] w < μ1 [x1 2, x1 5, x1 8] w1)) (fun _ =>
  mv t3 fun t17 =>
  mv t17 fun t2_2 =>
  k t2_2 w)
theorem C.cmp_Or_int {k : Value → World → Prop} {a0 : Value} {w : World} (h : F.cmp_Or_int k a0 w) : C Tryd.prog N.cmp_Or_int #[a0] w k :=
  den_calls (H := { moves := [], vars := [2, 3, 5, 8] }) (args := [a0]) mixed Tryd.func35 (by kernel_rfl) (by kernel_rfl) (by kernel_rfl) h

-- cmp.Compare[int]
def F.cmp_Compare_int (k : Value → World → Prop) (a0 a1 : Value) (w : World) : Prop :=
  mv (.int .i64 0) fun t4 =>
  mv a0 fun t7 =>
  C Tryd.prog N.cmp_isNaN_int #[t7] w fun t8 w =>
  mv t8 fun t5 =>
  mv a1 fun t9 =>
  C Tryd.prog N.cmp_isNaN_int #[t9] w fun t10 w =>
  mv t10 fun t6 =>
  mv t5 fun t11 =>
  br t11 (fun _ =>
  mv t6 fun t12 =>
  br t12 (fun _ =>
  mv (.int .i64 0) fun t4_1 =>
  k t4_1 w) (fun _ =>
  mv (.int .i64 (-1)) fun t4_2 =>
  k t4_2 w)) (fun _ =>
  mv t6 fun t13 =>
  br t13 (fun _ =>
  mv (.int .i64 1) fun t4_3 =>
  k t4_3 w) (fun _ =>
  mv a0 fun t14 =>
  mv a1 fun t15 =>
  o1 Tryd.prog (bin .lss 3 (.tmp 14) (.tmp 15) t14 t15) w fun t16 w =>
  br t16 (fun _ =>
  mv (.int .i64 (-1)) fun t4_4 =>
  k t4_4 w) (fun _ =>
  mv a0 fun t17 =>
  mv a1 fun t18 =>
  o1 Tryd.prog (bin .gtr 3 (.tmp 17) (.tmp 18) t17 t18) w fun t19 w =>
  br t19 (fun _ =>
  mv (.int .i64 1) fun t4_5 =>
  k t4_5 w) (fun _ =>
  mv (.int .i64 0) fun t4_6 =>
  k t4_6 w))))
theorem C.cmp_Compare_int {k : Value → World → Prop} {a0 a1 : Value} {w : World} (h : F.cmp_Compare_int k a0 a1 w) : C Tryd.prog N.cmp_Compare_int #[a0, a1] w k :=
  den_calls (H := { moves := [], vars := [4, 5, 6] }) (args := [a0, a1]) mixed Tryd.func36 (by kernel_rfl) (by kernel_rfl) (by kernel_rfl) h

-- slices.IndexFunc[[]isthmus/pool.item,isthmus/pool.item]
def F.slices_IndexFunc_pool_item_pool_item (k : Value → World → Prop) (a0 a1 : Value) (w : World) : Prop :=
  mv (.int .i64 0) fun t4 =>
  mv a0 fun t6 =>
  o1 Tryd.prog (Builtin.len_ #[56] 3 #[t6]) w fun t7 w =>
  mv (.int .i64 0) fun t8 =>
  lp [t4, undef, t8] w fun I1 μ1 => ∀ (x1 : Env) (w1 : World), I1 [x1 4, x1 5, x1 8] w1 →
  o1 Tryd.prog (bin .lss 3 (.tmp 8) (.tmp 7) (x1 8) t7) w1 fun t9 w =>
  br t9 (fun _ =>
  mv (x1 8) fun t10 =>
  mv t10 fun t5 =>
  mv a1 fun t11 =>
  mv a0 fun t12 =>
  mv t5 fun t13 =>
  o1 Tryd.prog (Instr.indexAt 56 t12 t13) w fun t14 w =>
  o1 Tryd.prog (Instr.loadAt 61 t14) w fun t15 w =>
  cv Tryd.prog t11 #[t15] w fun t16 w =>
  br t16 (fun _ =>
  mv t5 fun t17 =>
  mv t17 fun t4_1 =>
  k t4_1 w) (fun _ =>
  o1 Tryd.prog (bin .add 3 (.tmp 8) (.const (.int .i64 1)) (x1 8) (.int .i64 1)) w fun t18 w =>
  mv t18 fun t8_1 =>
  I1 [(x1 4), t5, t8_1] w ∧ μ1 [(x1 4), t5, t8_1] w < μ1 [x1 4, x1 5, x1 8] w1)) (fun _ =>
  mv (.int .i64 (-1)) fun t4_2 =>
  k t4_2 w)
theorem C.slices_IndexFunc_pool_item_pool_item {k : Value → World → Prop} {a0 a1 : Value} {w : World} (h : F.slices_IndexFunc_pool_item_pool_item k a0 a1 w) : C Tryd.prog N.slices_IndexFunc_pool_item_pool_item #[a0, a1] w k :=
  den_calls (H := { moves := [], vars := [4, 5, 8] }) (args := [a0, a1]) mixed Tryd.func37 (by kernel_rfl) (by kernel_rfl) (by kernel_rfl) h

-- isthmus/sha.start
def F.sha_start (k : Value → World → Prop) (w : World) : Prop :=
  o1 Tryd.prog (Instr.alloc 83 true (.tuple #[])) w fun t0 w =>
  o1 Tryd.prog (Instr.build 83 #[(0, .int .u32 1779033703), (1, .int .u32 3144134277), (2, .int .u32 1013904242), (3, .int .u32 2773480762), (4, .int .u32 1359893119), (5, .int .u32 2600822924), (6, .int .u32 528734635), (7, .int .u32 1541459225)]) w fun t1 w =>
  o0 Tryd.prog (Instr.storeAt 83 t0 t1) w fun _ w =>
  rc Tryd.prog 83 t0 w fun r0 =>
  k r0 w
theorem C.sha_start {k : Value → World → Prop} {w : World} (h : F.sha_start k  w) : C Tryd.prog N.sha_start #[] w k :=
  den_calls (H := { moves := [], vars := [] }) (args := []) mixed Tryd.func38 (by kernel_rfl) (by kernel_rfl) (by kernel_rfl) h

-- (*isthmus/sha.words).mix
def F.sha_words_mix (k : Value → World → Prop) (a0 a1 : Value) (w : World) : Prop :=
  o1 Tryd.prog (Instr.alloc 115 true (.tuple #[])) w fun t4 w =>
  mv (.int .i64 0) fun t24 =>
  lp [undef, t24] w fun I1 μ1 => ∀ (x1 : Env) (w1 : World), I1 [x1 5, x1 24] w1 →
  o1 Tryd.prog (bin .lss 3 (.tmp 24) (.const (.int .i64 16)) (x1 24) (.int .i64 16)) w1 fun t25 w =>
  br t25 (fun _ =>
  mv (x1 24) fun t26 =>
  mv t26 fun t5 =>
  dr w.drew fun S1 =>
  mv t5 fun t27 =>
  mv a1 fun t28 =>
  mv t5 fun t29 =>
  tk Tryd.prog S1 (bin .mul 3 (.const (.int .i64 4)) (.tmp 29) (.int .i64 4) t29) fun t30 =>
  tk Tryd.prog S1 (Instr.indexAt 33 t28 t30) fun t31 =>
  tk Tryd.prog S1 (Instr.loadAt 5 t31) fun t32 =>
  tk Tryd.prog S1 (convert 5 81 t32) fun t33 =>
  tk Tryd.prog S1 (bin .shl 81 (.tmp 33) (.const (.int .u64 24)) t33 (.int .u64 24)) fun t34 =>
  mv a1 fun t35 =>
  mv t5 fun t36 =>
  tk Tryd.prog S1 (bin .mul 3 (.const (.int .i64 4)) (.tmp 36) (.int .i64 4) t36) fun t37 =>
  tk Tryd.prog S1 (bin .add 3 (.tmp 37) (.const (.int .i64 1)) t37 (.int .i64 1)) fun t38 =>
  tk Tryd.prog S1 (Instr.indexAt 33 t35 t38) fun t39 =>
  tk Tryd.prog S1 (Instr.loadAt 5 t39) fun t40 =>
  tk Tryd.prog S1 (convert 5 81 t40) fun t41 =>
  tk Tryd.prog S1 (bin .shl 81 (.tmp 41) (.const (.int .u64 16)) t41 (.int .u64 16)) fun t42 =>
  tk Tryd.prog S1 (bin .or 81 (.tmp 34) (.tmp 42) t34 t42) fun t43 =>
  mv a1 fun t44 =>
  mv t5 fun t45 =>
  tk Tryd.prog S1 (bin .mul 3 (.const (.int .i64 4)) (.tmp 45) (.int .i64 4) t45) fun t46 =>
  tk Tryd.prog S1 (bin .add 3 (.tmp 46) (.const (.int .i64 2)) t46 (.int .i64 2)) fun t47 =>
  tk Tryd.prog S1 (Instr.indexAt 33 t44 t47) fun t48 =>
  tk Tryd.prog S1 (Instr.loadAt 5 t48) fun t49 =>
  tk Tryd.prog S1 (convert 5 81 t49) fun t50 =>
  tk Tryd.prog S1 (bin .shl 81 (.tmp 50) (.const (.int .u64 8)) t50 (.int .u64 8)) fun t51 =>
  tk Tryd.prog S1 (bin .or 81 (.tmp 43) (.tmp 51) t43 t51) fun t52 =>
  mv a1 fun t53 =>
  mv t5 fun t54 =>
  tk Tryd.prog S1 (bin .mul 3 (.const (.int .i64 4)) (.tmp 54) (.int .i64 4) t54) fun t55 =>
  tk Tryd.prog S1 (bin .add 3 (.tmp 55) (.const (.int .i64 3)) t55 (.int .i64 3)) fun t56 =>
  tk Tryd.prog S1 (Instr.indexAt 33 t53 t56) fun t57 =>
  tk Tryd.prog S1 (Instr.loadAt 5 t57) fun t58 =>
  tk Tryd.prog S1 (convert 5 81 t58) fun t59 =>
  tk Tryd.prog S1 (bin .or 81 (.tmp 52) (.tmp 59) t52 t59) fun t60 =>
  tk Tryd.prog S1 (Instr.indexAt 115 t4 t27) fun t61 =>
  o0 Tryd.prog (Instr.storeAt 81 t61 t60) w.drew fun _ w =>
  o1 Tryd.prog (bin .add 3 (.tmp 24) (.const (.int .i64 1)) (x1 24) (.int .i64 1)) w fun t62 w =>
  mv t62 fun t24_1 =>
  I1 [t5, t24_1] w ∧ μ1 [t5, t24_1] w < μ1 [x1 5, x1 24] w1) (fun _ =>
  mv (.int .i64 16) fun t6 =>
  lp [t6, undef, undef, undef, undef] w fun I2 μ2 => ∀ (x2 : Env) (w2 : World), I2 [x2 6, x2 7, x2 8, x2 9, x2 10] w2 →
  mv (x2 6) fun t63 =>
  o1 Tryd.prog (bin .lss 3 (.tmp 63) (.const (.int .i64 64)) t63 (.int .i64 64)) w2 fun t64 w =>
  br t64 (fun _ =>
  mv (x2 6) fun t67 =>
  tk Tryd.prog (fun w' => w' = w.drew) (bin .sub 3 (.tmp 67) (.const (.int .i64 15)) t67 (.int .i64 15)) fun t68 =>
  tk Tryd.prog (fun w' => w' = w.drew) (Instr.indexAt 115 t4 t68) fun t69 =>
  tk Tryd.prog (fun w' => w' = w.drew) (Instr.loadAt 81 t69) fun t70 =>
  mv (x2 6) fun t71 =>
  tk Tryd.prog (fun w' => w' = w.drew) (bin .sub 3 (.tmp 71) (.const (.int .i64 2)) t71 (.int .i64 2)) fun t72 =>
  tk Tryd.prog (fun w' => w' = w.drew) (Instr.indexAt 115 t4 t72) fun t73 =>
  tk Tryd.prog (fun w' => w' = w.drew) (Instr.loadAt 81 t73) fun t74 =>
  mv t70 fun t7 =>
  mv t74 fun t8 =>
  mv t7 fun t75 =>
  C Tryd.prog N.math_bits_RotateLeft32 #[t75, .int .i64 (-7)] w.drew fun t76 w =>
  mv t7 fun t77 =>
  C Tryd.prog N.math_bits_RotateLeft32 #[t77, .int .i64 (-18)] w fun t78 w =>
  o1 Tryd.prog (bin .xor 81 (.tmp 76) (.tmp 78) t76 t78) w fun t79 w =>
  mv t7 fun t80 =>
  o1 Tryd.prog (bin .shr 81 (.tmp 80) (.const (.int .u64 3)) t80 (.int .u64 3)) w fun t81 w =>
  o1 Tryd.prog (bin .xor 81 (.tmp 79) (.tmp 81) t79 t81) w fun t82 w =>
  mv t82 fun t9 =>
  mv t8 fun t83 =>
  C Tryd.prog N.math_bits_RotateLeft32 #[t83, .int .i64 (-17)] w fun t84 w =>
  mv t8 fun t85 =>
  C Tryd.prog N.math_bits_RotateLeft32 #[t85, .int .i64 (-19)] w fun t86 w =>
  o1 Tryd.prog (bin .xor 81 (.tmp 84) (.tmp 86) t84 t86) w fun t87 w =>
  mv t8 fun t88 =>
  o1 Tryd.prog (bin .shr 81 (.tmp 88) (.const (.int .u64 10)) t88 (.int .u64 10)) w fun t89 w =>
  o1 Tryd.prog (bin .xor 81 (.tmp 87) (.tmp 89) t87 t89) w fun t90 w =>
  mv t90 fun t10 =>
  dr w.drew fun S2 =>
  mv (x2 6) fun t91 =>
  mv (x2 6) fun t92 =>
  tk Tryd.prog S2 (bin .sub 3 (.tmp 92) (.const (.int .i64 16)) t92 (.int .i64 16)) fun t93 =>
  tk Tryd.prog S2 (Instr.indexAt 115 t4 t93) fun t94 =>
  tk Tryd.prog S2 (Instr.loadAt 81 t94) fun t95 =>
  mv t9 fun t96 =>
  tk Tryd.prog S2 (bin .add 81 (.tmp 95) (.tmp 96) t95 t96) fun t97 =>
  mv (x2 6) fun t98 =>
  tk Tryd.prog S2 (bin .sub 3 (.tmp 98) (.const (.int .i64 7)) t98 (.int .i64 7)) fun t99 =>
  tk Tryd.prog S2 (Instr.indexAt 115 t4 t99) fun t100 =>
  tk Tryd.prog S2 (Instr.loadAt 81 t100) fun t101 =>
  tk Tryd.prog S2 (bin .add 81 (.tmp 97) (.tmp 101) t97 t101) fun t102 =>
  mv t10 fun t103 =>
  tk Tryd.prog S2 (bin .add 81 (.tmp 102) (.tmp 103) t102 t103) fun t104 =>
  tk Tryd.prog S2 (Instr.indexAt 115 t4 t91) fun t105 =>
  o0 Tryd.prog (Instr.storeAt 81 t105 t104) w.drew fun _ w =>
  mv (x2 6) fun t65 =>
  o1 Tryd.prog (bin .add 3 (.tmp 65) (.const (.int .i64 1)) t65 (.int .i64 1)) w fun t66 w =>
  mv t66 fun t6_1 =>
  I2 [t6_1, t7, t8, t9, t10] w ∧ μ2 [t6_1, t7, t8, t9, t10] w < μ2 [x2 6, x2 7, x2 8, x2 9, x2 10] w2) (fun _ =>
  mv a0 fun t106 =>
  nilOk t106 = true ∧ mv t106 fun t107 =>
  tk Tryd.prog (fun w' => w' = w.drew) (Instr.indexAt 83 t107 (.int .i64 0)) fun t108 =>
  tk Tryd.prog (fun w' => w' = w.drew) (Instr.loadAt 81 t108) fun t109 =>
  mv a0 fun t110 =>
  nilOk t110 = true ∧ mv t110 fun t111 =>
  tk Tryd.prog (fun w' => w' = w.drew) (Instr.indexAt 83 t111 (.int .i64 1)) fun t112 =>
  tk Tryd.prog (fun w' => w' = w.drew) (Instr.loadAt 81 t112) fun t113 =>
  mv a0 fun t114 =>
  nilOk t114 = true ∧ mv t114 fun t115 =>
  tk Tryd.prog (fun w' => w' = w.drew) (Instr.indexAt 83 t115 (.int .i64 2)) fun t116 =>
  tk Tryd.prog (fun w' => w' = w.drew) (Instr.loadAt 81 t116) fun t117 =>
  mv a0 fun t118 =>
  nilOk t118 = true ∧ mv t118 fun t119 =>
  tk Tryd.prog (fun w' => w' = w.drew) (Instr.indexAt 83 t119 (.int .i64 3)) fun t120 =>
  tk Tryd.prog (fun w' => w' = w.drew) (Instr.loadAt 81 t120) fun t121 =>
  mv a0 fun t122 =>
  nilOk t122 = true ∧ mv t122 fun t123 =>
  tk Tryd.prog (fun w' => w' = w.drew) (Instr.indexAt 83 t123 (.int .i64 4)) fun t124 =>
  tk Tryd.prog (fun w' => w' = w.drew) (Instr.loadAt 81 t124) fun t125 =>
  mv a0 fun t126 =>
  nilOk t126 = true ∧ mv t126 fun t127 =>
  tk Tryd.prog (fun w' => w' = w.drew) (Instr.indexAt 83 t127 (.int .i64 5)) fun t128 =>
  tk Tryd.prog (fun w' => w' = w.drew) (Instr.loadAt 81 t128) fun t129 =>
  mv a0 fun t130 =>
  nilOk t130 = true ∧ mv t130 fun t131 =>
  tk Tryd.prog (fun w' => w' = w.drew) (Instr.indexAt 83 t131 (.int .i64 6)) fun t132 =>
  tk Tryd.prog (fun w' => w' = w.drew) (Instr.loadAt 81 t132) fun t133 =>
  mv a0 fun t134 =>
  nilOk t134 = true ∧ mv t134 fun t135 =>
  tk Tryd.prog (fun w' => w' = w.drew) (Instr.indexAt 83 t135 (.int .i64 7)) fun t136 =>
  tk Tryd.prog (fun w' => w' = w.drew) (Instr.loadAt 81 t136) fun t137 =>
  mv t109 fun t11 =>
  mv t113 fun t12 =>
  mv t117 fun t13 =>
  mv t121 fun t14 =>
  mv t125 fun t15 =>
  mv t129 fun t16 =>
  mv t133 fun t17 =>
  mv t137 fun t18 =>
  mv (.int .i64 0) fun t138 =>
  lp [t11, t12, t13, t14, t15, t16, t17, t18, undef, undef, undef, t138] w.drew fun I3 μ3 => ∀ (x3 : Env) (w3 : World), I3 [x3 11, x3 12, x3 13, x3 14, x3 15, x3 16, x3 17, x3 18, x3 19, x3 20, x3 21, x3 138] w3 →
  o1 Tryd.prog (bin .lss 3 (.tmp 138) (.const (.int .i64 64)) (x3 138) (.int .i64 64)) w3 fun t139 w =>
  br t139 (fun _ =>
  mv (x3 138) fun t140 =>
  mv t140 fun t19 =>
  dr w.drew fun S3 =>
  mv (x3 18) fun t141 =>
  mv (x3 15) fun t142 =>
  mv (x3 15) fun t144 =>
  mv (x3 15) fun t147 =>
  mv (x3 15) fun t151 =>
  mv (x3 16) fun t152 =>
  tk Tryd.prog S3 (bin .and 81 (.tmp 151) (.tmp 152) t151 t152) fun t153 =>
  mv (x3 15) fun t154 =>
  tk Tryd.prog S3 (Op.unary .xor t154) fun t155 =>
  mv (x3 17) fun t156 =>
  tk Tryd.prog S3 (bin .and 81 (.tmp 155) (.tmp 156) t155 t156) fun t157 =>
  tk Tryd.prog S3 (bin .xor 81 (.tmp 153) (.tmp 157) t153 t157) fun t158 =>
  mv t19 fun t160 =>
  tk Tryd.prog S3 (Instr.indexAt 115 (.pointer (some ⟨1, 0, none⟩)) t160) fun t161 =>
  tk Tryd.prog S3 (Instr.loadAt 81 t161) fun t162 =>
  mv t19 fun t164 =>
  tk Tryd.prog S3 (Instr.indexAt 115 t4 t164) fun t165 =>
  tk Tryd.prog S3 (Instr.loadAt 81 t165) fun t166 =>
  C Tryd.prog N.math_bits_RotateLeft32 #[t142, .int .i64 (-6)] w.drew fun t143 w =>
  S3 w ∧
  C Tryd.prog N.math_bits_RotateLeft32 #[t144, .int .i64 (-11)] w fun t145 w =>
  S3 w ∧
  tk Tryd.prog S3 (bin .xor 81 (.tmp 143) (.tmp 145) t143 t145) fun t146 =>
  C Tryd.prog N.math_bits_RotateLeft32 #[t147, .int .i64 (-25)] w fun t148 w =>
  S3 w ∧
  tk Tryd.prog S3 (bin .xor 81 (.tmp 146) (.tmp 148) t146 t148) fun t149 =>
  tk Tryd.prog S3 (bin .add 81 (.tmp 141) (.tmp 149) t141 t149) fun t150 =>
  tk Tryd.prog S3 (bin .add 81 (.tmp 150) (.tmp 158) t150 t158) fun t159 =>
  tk Tryd.prog S3 (bin .add 81 (.tmp 159) (.tmp 162) t159 t162) fun t163 =>
  tk Tryd.prog S3 (bin .add 81 (.tmp 163) (.tmp 166) t163 t166) fun t167 =>
  mv t167 fun t20 =>
  mv (x3 11) fun t168 =>
  C Tryd.prog N.math_bits_RotateLeft32 #[t168, .int .i64 (-2)] w fun t169 w =>
  mv (x3 11) fun t170 =>
  C Tryd.prog N.math_bits_RotateLeft32 #[t170, .int .i64 (-13)] w fun t171 w =>
  o1 Tryd.prog (bin .xor 81 (.tmp 169) (.tmp 171) t169 t171) w fun t172 w =>
  mv (x3 11) fun t173 =>
  C Tryd.prog N.math_bits_RotateLeft32 #[t173, .int .i64 (-22)] w fun t174 w =>
  o1 Tryd.prog (bin .xor 81 (.tmp 172) (.tmp 174) t172 t174) w fun t175 w =>
  mv (x3 11) fun t176 =>
  mv (x3 12) fun t177 =>
  o1 Tryd.prog (bin .and 81 (.tmp 176) (.tmp 177) t176 t177) w fun t178 w =>
  mv (x3 11) fun t179 =>
  mv (x3 13) fun t180 =>
  o1 Tryd.prog (bin .and 81 (.tmp 179) (.tmp 180) t179 t180) w fun t181 w =>
  o1 Tryd.prog (bin .xor 81 (.tmp 178) (.tmp 181) t178 t181) w fun t182 w =>
  mv (x3 12) fun t183 =>
  mv (x3 13) fun t184 =>
  o1 Tryd.prog (bin .and 81 (.tmp 183) (.tmp 184) t183 t184) w fun t185 w =>
  o1 Tryd.prog (bin .xor 81 (.tmp 182) (.tmp 185) t182 t185) w fun t186 w =>
  o1 Tryd.prog (bin .add 81 (.tmp 175) (.tmp 186) t175 t186) w fun t187 w =>
  mv t187 fun t21 =>
  mv (x3 17) fun t188 =>
  mv (x3 16) fun t189 =>
  mv (x3 15) fun t190 =>
  mv (x3 14) fun t191 =>
  mv t20 fun t192 =>
  o1 Tryd.prog (bin .add 81 (.tmp 191) (.tmp 192) t191 t192) w fun t193 w =>
  mv (x3 13) fun t194 =>
  mv (x3 12) fun t195 =>
  mv (x3 11) fun t196 =>
  mv t20 fun t197 =>
  mv t21 fun t198 =>
  o1 Tryd.prog (bin .add 81 (.tmp 197) (.tmp 198) t197 t198) w fun t199 w =>
  mv t188 fun t18_1 =>
  mv t189 fun t17_1 =>
  mv t190 fun t16_1 =>
  mv t193 fun t15_1 =>
  mv t194 fun t14_1 =>
  mv t195 fun t13_1 =>
  mv t196 fun t12_1 =>
  mv t199 fun t11_1 =>
  o1 Tryd.prog (bin .add 3 (.tmp 138) (.const (.int .i64 1)) (x3 138) (.int .i64 1)) w fun t200 w =>
  mv t200 fun t138_1 =>
  I3 [t11_1, t12_1, t13_1, t14_1, t15_1, t16_1, t17_1, t18_1, t19, t20, t21, t138_1] w ∧ μ3 [t11_1, t12_1, t13_1, t14_1, t15_1, t16_1, t17_1, t18_1, t19, t20, t21, t138_1] w < μ3 [x3 11, x3 12, x3 13, x3 14, x3 15, x3 16, x3 17, x3 18, x3 19, x3 20, x3 21, x3 138] w3) (fun _ =>
  mv (x3 11) fun t201 =>
  mv (x3 12) fun t202 =>
  mv (x3 13) fun t203 =>
  mv (x3 14) fun t204 =>
  mv (x3 15) fun t205 =>
  mv (x3 16) fun t206 =>
  mv (x3 17) fun t207 =>
  mv (x3 18) fun t208 =>
  o1 Tryd.prog (Instr.build 82 #[(0, t201), (1, t202), (2, t203), (3, t204), (4, t205), (5, t206), (6, t207), (7, t208)]) w fun t209 w =>
  mv (.int .i64 0) fun t210 =>
  lp [undef, undef, t210] w fun I4 μ4 => ∀ (x4 : Env) (w4 : World), I4 [x4 22, x4 23, x4 210] w4 →
  o1 Tryd.prog (bin .lss 3 (.tmp 210) (.const (.int .i64 8)) (x4 210) (.int .i64 8)) w4 fun t211 w =>
  br t211 (fun _ =>
  mv (x4 210) fun t212 =>
  o1 Tryd.prog (Instr.index 82 t209 (x4 210)) w fun t213 w =>
  mv t212 fun t22 =>
  mv t213 fun t23 =>
  dr w.drew fun S4 =>
  mv a0 fun t214 =>
  mv t22 fun t215 =>
  nilOk t214 = true ∧ mv t214 fun t216 =>
  tk Tryd.prog S4 (Instr.indexAt 83 t216 t215) fun t217 =>
  tk Tryd.prog S4 (Instr.loadAt 81 t217) fun t218 =>
  mv t23 fun t219 =>
  tk Tryd.prog S4 (bin .add 81 (.tmp 218) (.tmp 219) t218 t219) fun t220 =>
  nilOk t214 = true ∧ mv t214 fun t221 =>
  tk Tryd.prog S4 (Instr.indexAt 83 t221 t215) fun t222 =>
  o0 Tryd.prog (Instr.storeAt 81 t222 t220) w.drew fun _ w =>
  o1 Tryd.prog (bin .add 3 (.tmp 210) (.const (.int .i64 1)) (x4 210) (.int .i64 1)) w fun t223 w =>
  mv t223 fun t210_1 =>
  I4 [t22, t23, t210_1] w ∧ μ4 [t22, t23, t210_1] w < μ4 [x4 22, x4 23, x4 210] w4) (fun _ =>
  k (.tuple #[]) w))))
theorem C.sha_words_mix {k : Value → World → Prop} {a0 a1 : Value} {w : World} (h : F.sha_words_mix k a0 a1 w) : C Tryd.prog N.sha_words_mix #[a0, a1] w k :=
  den_calls (H := { moves := [(4, (.take 0 (.take 1 (.take 2 (.take 3 (.take 4 (.take 5 (.take 6 (.take 7 (.take 8 (.take 9 (.take 10 (.take 11 (.take 12 (.take 13 (.take 14 (.take 15 (.take 16 (.take 17 (.take 18 (.take 19 (.take 20 (.take 21 (.take 22 (.take 23 (.take 24 (.take 25 (.take 26 (.take 27 (.take 28 (.take 29 (.take 30 (.take 31 (.take 32 (.take 33 (.take 34 (.last 35))))))))))))))))))))))))))))))))))))), (9, (.take 0 (.take 1 (.take 2 (.take 3 (.take 4 (.take 5 (.take 6 (.take 7 (.take 8 (.take 9 .fin))))))))))), (12, (.take 0 (.take 1 (.take 2 (.take 3 (.take 4 (.take 5 (.take 6 (.take 7 (.take 8 (.take 9 (.take 10 (.take 11 (.take 12 (.take 13 (.take 14 (.last 15))))))))))))))))), (13, (.take 0 (.take 1 (.take 2 (.take 3 (.take 4 (.take 5 (.take 6 (.take 7 (.take 8 (.take 9 (.take 10 (.take 11 (.take 12 (.take 13 (.take 14 (.take 15 (.take 16 (.take 17 (.take 18 (.take 19 (.take 20 (.take 21 (.take 22 (.take 23 (.take 24 (.take 25 (.take 26 (.take 27 (.take 28 (.take 29 (.take 30 (.take 31 (.take 32 (.take 33 (.take 34 (.take 35 (.take 36 (.take 37 (.take 38 (.take 39 .fin))))))))))))))))))))))))))))))))))))))))), (17, (.take 0 (.take 1 (.take 3 (.take 6 (.take 10 (.take 11 (.take 12 (.take 13 (.take 14 (.take 15 (.take 16 (.take 17 (.take 19 (.take 20 (.take 21 (.take 23 (.take 24 (.take 25 (.force 2 (.force 4 (.take 5 (.force 7 (.take 8 (.take 9 (.take 18 (.take 22 (.take 26 (.take 27 .fin))))))))))))))))))))))))))))), (24, (.take 0 (.take 1 (.take 2 (.take 3 (.take 4 (.take 5 (.take 6 (.take 7 (.take 8 (.last 9)))))))))))], vars := [5, 6, 7, 8, 9, 10, 11, 12, 13, 14, 15, 16, 17, 18, 19, 20, 21, 22, 23, 24, 138, 210] }) (args := [a0, a1]) mixed Tryd.func39 (by kernel_rfl) (by kernel_rfl) (by kernel_rfl) h

-- (isthmus/sha.words).end
def F.sha_words_end (k : Value → World → Prop) (a0 a1 a2 : Value) (w : World) : Prop :=
  o1 Tryd.prog (Instr.box 83 a0) w fun t3 w =>
  o1 Tryd.prog (Instr.alloc 40 true (.tuple #[])) w fun t6 w =>
  o1 Tryd.prog (Instr.alloc 117 true (.tuple #[])) w fun t7 w =>
  o1 Tryd.prog (Instr.sliceAt 117 t7 none none none) w fun t16 w =>
  mv a1 fun t17 =>
  ob Tryd.prog (fun _ => Builtin.copy_ #[33, 33] 3 #[t16, t17]) w fun t18 w =>
  mv t18 fun t8 =>
  mv t8 fun t19 =>
  o1 Tryd.prog (Instr.indexAt 117 t7 t19) w fun t20 w =>
  o0 Tryd.prog (Instr.storeAt 5 t20 (.int .u8 128)) w fun _ w =>
  mv (.int .i64 64) fun t9 =>
  mv t8 fun t21 =>
  o1 Tryd.prog (bin .add 3 (.tmp 21) (.const (.int .i64 9)) t21 (.int .i64 9)) w fun t22 w =>
  o1 Tryd.prog (bin .gtr 3 (.tmp 22) (.const (.int .i64 64)) t22 (.int .i64 64)) w fun t23 w =>
  jn (fun x1 => [x1 9]) (fun k1 =>
  br t23 (fun _ =>
  mv (.int .i64 128) fun t9_1 =>
  k1 [t9_1] w) (fun _ =>
  k1 [t9] w)) fun x1 w =>
  mv (.int .i64 0) fun t24 =>
  lp [undef, t24] w fun I2 μ2 => ∀ (x2 : Env) (w1 : World), I2 [x2 10, x2 24] w1 →
  o1 Tryd.prog (bin .lss 3 (.tmp 24) (.const (.int .i64 8)) (x2 24) (.int .i64 8)) w1 fun t25 w =>
  br t25 (fun _ =>
  mv (x2 24) fun t26 =>
  mv t26 fun t10 =>
  mv (x1 9) fun t27 =>
  o1 Tryd.prog (bin .sub 3 (.tmp 27) (.const (.int .i64 1)) t27 (.int .i64 1)) w fun t28 w =>
  mv t10 fun t29 =>
  o1 Tryd.prog (bin .sub 3 (.tmp 28) (.tmp 29) t28 t29) w fun t30 w =>
  mv a2 fun t31 =>
  o1 Tryd.prog (bin .mul 85 (.tmp 31) (.const (.int .u64 8)) t31 (.int .u64 8)) w fun t32 w =>
  mv t10 fun t33 =>
  o1 Tryd.prog (bin .mul 3 (.const (.int .i64 8)) (.tmp 33) (.int .i64 8) t33) w fun t34 w =>
  o1 Tryd.prog (convert 3 25 t34) w fun t35 w =>
  o1 Tryd.prog (bin .shr 85 (.tmp 32) (.tmp 35) t32 t35) w fun t36 w =>
  o1 Tryd.prog (convert 85 5 t36) w fun t37 w =>
  o1 Tryd.prog (Instr.indexAt 117 t7 t30) w fun t38 w =>
  o0 Tryd.prog (Instr.storeAt 5 t38 t37) w fun _ w =>
  o1 Tryd.prog (bin .add 3 (.tmp 24) (.const (.int .i64 1)) (x2 24) (.int .i64 1)) w fun t39 w =>
  mv t39 fun t24_1 =>
  I2 [t10, t24_1] w ∧ μ2 [t10, t24_1] w < μ2 [x2 10, x2 24] w1) (fun _ =>
  mv (.int .i64 0) fun t11 =>
  lp [t11] w fun I3 μ3 => ∀ (x3 : Env) (w2 : World), I3 [x3 11] w2 →
  mv (x3 11) fun t40 =>
  mv (x1 9) fun t41 =>
  o1 Tryd.prog (bin .lss 3 (.tmp 40) (.tmp 41) t40 t41) w2 fun t42 w =>
  br t42 (fun _ =>
  mv (x3 11) fun t45 =>
  mv (x3 11) fun t46 =>
  o1 Tryd.prog (bin .add 3 (.tmp 46) (.const (.int .i64 64)) t46 (.int .i64 64)) w fun t47 w =>
  o1 Tryd.prog (Instr.sliceAt 117 t7 (some t45) (some t47) none) w fun t48 w =>
  C Tryd.prog N.sha_words_mix #[t3, t48] w fun t49 w =>
  mv (x3 11) fun t43 =>
  o1 Tryd.prog (bin .add 3 (.tmp 43) (.const (.int .i64 64)) t43 (.int .i64 64)) w fun t44 w =>
  mv t44 fun t11_1 =>
  I3 [t11_1] w ∧ μ3 [t11_1] w < μ3 [x3 11] w2) (fun _ =>
  o1 Tryd.prog (Instr.alloc 40 true (.tuple #[])) w fun t12 w =>
  o1 Tryd.prog (Instr.loadAt 83 t3) w fun t50 w =>
  mv (.int .i64 0) fun t51 =>
  lp [undef, undef, undef, t51, undef] w fun I4 μ4 => ∀ (x4 : Env) (w3 : World), I4 [x4 13, x4 14, x4 15, x4 51, x4 55] w3 →
  o1 Tryd.prog (bin .lss 3 (.tmp 51) (.const (.int .i64 8)) (x4 51) (.int .i64 8)) w3 fun t52 w =>
  br t52 (fun _ =>
  mv (x4 51) fun t53 =>
  o1 Tryd.prog (Instr.index 83 t50 (x4 51)) w fun t54 w =>
  mv t53 fun t13 =>
  mv t54 fun t14 =>
  mv (.int .i64 0) fun t55 =>
  lp [(x4 15), t55] w fun I5 μ5 => ∀ (x5 : Env) (w4 : World), I5 [x5 15, x5 55] w4 →
  o1 Tryd.prog (bin .lss 3 (.tmp 55) (.const (.int .i64 4)) (x5 55) (.int .i64 4)) w4 fun t56 w =>
  br t56 (fun _ =>
  mv (x5 55) fun t57 =>
  mv t57 fun t15 =>
  mv t13 fun t58 =>
  o1 Tryd.prog (bin .mul 3 (.const (.int .i64 4)) (.tmp 58) (.int .i64 4) t58) w fun t59 w =>
  mv t15 fun t60 =>
  o1 Tryd.prog (bin .add 3 (.tmp 59) (.tmp 60) t59 t60) w fun t61 w =>
  mv t14 fun t62 =>
  mv t15 fun t63 =>
  o1 Tryd.prog (bin .mul 3 (.const (.int .i64 8)) (.tmp 63) (.int .i64 8) t63) w fun t64 w =>
  o1 Tryd.prog (bin .sub 3 (.const (.int .i64 24)) (.tmp 64) (.int .i64 24) t64) w fun t65 w =>
  o1 Tryd.prog (convert 3 25 t65) w fun t66 w =>
  o1 Tryd.prog (bin .shr 81 (.tmp 62) (.tmp 66) t62 t66) w fun t67 w =>
  o1 Tryd.prog (convert 81 5 t67) w fun t68 w =>
  o1 Tryd.prog (Instr.indexAt 40 t12 t61) w fun t69 w =>
  o0 Tryd.prog (Instr.storeAt 5 t69 t68) w fun _ w =>
  o1 Tryd.prog (bin .add 3 (.tmp 55) (.const (.int .i64 1)) (x5 55) (.int .i64 1)) w fun t70 w =>
  mv t70 fun t55_1 =>
  I5 [t15, t55_1] w ∧ μ5 [t15, t55_1] w < μ5 [x5 15, x5 55] w4) (fun _ =>
  o1 Tryd.prog (bin .add 3 (.tmp 51) (.const (.int .i64 1)) (x4 51) (.int .i64 1)) w fun t71 w =>
  mv t71 fun t51_1 =>
  I4 [t13, t14, (x5 15), t51_1, (x5 55)] w ∧ μ4 [t13, t14, (x5 15), t51_1, (x5 55)] w < μ4 [x4 13, x4 14, x4 15, x4 51, x4 55] w3)) (fun _ =>
  o1 Tryd.prog (Instr.loadAt 40 t12) w fun t72 w =>
  o0 Tryd.prog (Instr.storeAt 40 t6 t72) w fun _ w =>
  rc Tryd.prog 40 t6 w fun r0 =>
  k r0 w)))
theorem C.sha_words_end {k : Value → World → Prop} {a0 a1 a2 : Value} {w : World} (h : F.sha_words_end k a0 a1 a2 w) : C Tryd.prog N.sha_words_end #[a0, a1, a2] w k :=
  den_calls (H := { moves := [], vars := [8, 9, 10, 11, 13, 14, 15, 24, 51, 55] }) (args := [a0, a1, a2]) mixed Tryd.func40 (by kernel_rfl) (by kernel_rfl) (by kernel_rfl) h

-- (*isthmus/pool.Pool).drop$1
def F.pool_Pool_drop_1 (k : Value → World → Prop) (a0 a1 : Value) (w : World) : Prop :=
  o1 Tryd.prog (Instr.box 61 a0) w fun t2 w =>
  mv (.bool false) fun t3 =>
  o1 Tryd.prog (Instr.fieldAt 61 t2 1) w fun t4 w =>
  o1 Tryd.prog (Instr.loadAt 40 t4) w fun t5 w =>
  o1 Tryd.prog (Instr.loadAt 40 a1) w fun t6 w =>
  o1 Tryd.prog (bin .eql 40 (.tmp 5) (.tmp 6) t5 t6) w fun t7 w =>
  mv t7 fun t3_1 =>
  k t3_1 w
theorem C.pool_Pool_drop_1 {k : Value → World → Prop} {a0 a1 : Value} {w : World} (h : F.pool_Pool_drop_1 k a0 a1 w) : C Tryd.prog N.pool_Pool_drop_1 #[a0, a1] w k :=
  den_calls (H := { moves := [], vars := [3] }) (args := [a0, a1]) mixed Tryd.func41 (by kernel_rfl) (by kernel_rfl) (by kernel_rfl) h

-- slices.Delete[[]isthmus/pool.item,isthmus/pool.item]
def F.slices_Delete_pool_item_pool_item (k : Value → World → Prop) (a0 a1 a2 : Value) (w : World) : Prop :=
  mv (.slice none 0 0) fun t6 =>
  mv a0 fun t8 =>
  mv a1 fun t9 =>
  mv a2 fun t10 =>
  mv a0 fun t11 =>
  o1 Tryd.prog (Builtin.len_ #[56] 3 #[t11]) w fun t12 w =>
  o1 Tryd.prog (Instr.sliceAt 56 t8 (some t9) (some t10) (some t12)) w fun t13 w =>
  mv a1 fun t14 =>
  mv a2 fun t15 =>
  o1 Tryd.prog (bin .eql 3 (.tmp 14) (.tmp 15) t14 t15) w fun t16 w =>
  br t16 (fun _ =>
  mv a0 fun t17 =>
  mv t17 fun t6_1 =>
  k t6_1 w) (fun _ =>
  mv a0 fun t18 =>
  o1 Tryd.prog (Builtin.len_ #[56] 3 #[t18]) w fun t19 w =>
  mv t19 fun t7 =>
  dr w.drew fun S1 =>
  mv a0 fun t20 =>
  mv a1 fun t21 =>
  tk Tryd.prog S1 (Instr.sliceAt 56 t20 none (some t21) none) fun t22 =>
  mv a0 fun t23 =>
  mv a2 fun t24 =>
  tk Tryd.prog S1 (Instr.sliceAt 56 t23 (some t24) none none) fun t25 =>
  ob Tryd.prog (fun _ => Builtin.append_ #[56, 56] 56 #[t22, t25]) w.drew fun t26 w =>
  S1 w ∧
  mv t26 fun t0 =>
  mv t0 fun t27 =>
  mv t0 fun t28 =>
  o1 Tryd.prog (Builtin.len_ #[56] 3 #[t28]) w fun t29 w =>
  mv t7 fun t30 =>
  o1 Tryd.prog (Instr.sliceAt 56 t27 (some t29) (some t30) none) w fun t31 w =>
  ob Tryd.prog (fun _ => Builtin.clear_ #[56] 0 #[t31]) w fun _ w =>
  mv t0 fun t32 =>
  mv t32 fun t6_2 =>
  k t6_2 w)
theorem C.slices_Delete_pool_item_pool_item {k : Value → World → Prop} {a0 a1 a2 : Value} {w : World} (h : F.slices_Delete_pool_item_pool_item k a0 a1 a2 w) : C Tryd.prog N.slices_Delete_pool_item_pool_item #[a0, a1, a2] w k :=
  den_calls (H := { moves := [(5, (.take 0 (.take 1 (.take 2 (.take 3 (.take 4 (.take 5 (.force 6 (.take 7 .fin)))))))))], vars := [0, 6, 7] }) (args := [a0, a1, a2]) mixed Tryd.func42 (by kernel_rfl) (by kernel_rfl) (by kernel_rfl) h

-- slices.Index[[]isthmus/api.Hash,isthmus/api.Hash]
def F.slices_Index_api_Hash_api_Hash (k : Value → World → Prop) (a0 a1 : Value) (w : World) : Prop :=
  o1 Tryd.prog (Instr.box 40 a1) w fun t3 w =>
  mv (.int .i64 0) fun t4 =>
  mv a0 fun t6 =>
  o1 Tryd.prog (Builtin.len_ #[32] 3 #[t6]) w fun t7 w =>
  mv (.int .i64 0) fun t8 =>
  lp [t4, undef, t8] w fun I1 μ1 => ∀ (x1 : Env) (w1 : World), I1 [x1 4, x1 5, x1 8] w1 →
  o1 Tryd.prog (bin .lss 3 (.tmp 8) (.tmp 7) (x1 8) t7) w1 fun t9 w =>
  br t9 (fun _ =>
  mv (x1 8) fun t10 =>
  mv t10 fun t5 =>
  tk Tryd.prog (fun w' => w' = w.drew) (Instr.loadAt 40 t3) fun t11 =>
  mv a0 fun t12 =>
  mv t5 fun t13 =>
  tk Tryd.prog (fun w' => w' = w.drew) (Instr.indexAt 32 t12 t13) fun t14 =>
  tk Tryd.prog (fun w' => w' = w.drew) (Instr.loadAt 40 t14) fun t15 =>
  tk Tryd.prog (fun w' => w' = w.drew) (bin .eql 40 (.tmp 11) (.tmp 15) t11 t15) fun t16 =>
  br t16 (fun _ =>
  mv t5 fun t17 =>
  mv t17 fun t4_1 =>
  k t4_1 w.drew) (fun _ =>
  o1 Tryd.prog (bin .add 3 (.tmp 8) (.const (.int .i64 1)) (x1 8) (.int .i64 1)) w.drew fun t18 w =>
  mv t18 fun t8_1 =>
  I1 [(x1 4), t5, t8_1] w ∧ μ1 [(x1 4), t5, t8_1] w < μ1 [x1 4, x1 5, x1 8] w1)) (fun _ =>
  mv (.int .i64 (-1)) fun t4_2 =>
  k t4_2 w)
theorem C.slices_Index_api_Hash_api_Hash {k : Value → World → Prop} {a0 a1 : Value} {w : World} (h : F.slices_Index_api_Hash_api_Hash k a0 a1 w) : C Tryd.prog N.slices_Index_api_Hash_api_Hash #[a0, a1] w k :=
  den_calls (H := { moves := [(4, (.take 0 (.take 1 (.take 2 (.take 3 (.take 4 (.take 5 .fin)))))))], vars := [4, 5, 8] }) (args := [a0, a1]) mixed Tryd.func43 (by kernel_rfl) (by kernel_rfl) (by kernel_rfl) h

-- errors.as
def F.errors_as (k : Value → World → Prop) (a0 a1 a2 a3 : Value) (w : World) : Prop :=
  o1 Tryd.prog (Instr.box 93 a2) w fun t6 w =>
  mv (.bool false) fun t8 =>
  lp [a0, t8, undef, undef, undef, undef, undef, undef, undef] w fun I1 μ1 => ∀ (x1 : Env) (w1 : World), I1 [x1 0, x1 8, x1 9, x1 10, x1 11, x1 12, x1 14, x1 15, x1 50] w1 →
  mv (x1 0) fun t16 =>
  oN Tryd.prog (callFunc N.internal_reflectlite_TypeOf #[t16]) w1 fun t17 w =>
  mv a3 fun t18 =>
  iv Tryd.prog t17 "AssignableTo" #[t18] w fun t19 w =>
  br t19 (fun _ =>
  o1 Tryd.prog (Instr.loadAt 93 t6) w fun t20 w =>
  oN Tryd.prog (callFunc N.internal_reflectlite_Value_Elem #[t20]) w fun t21 w =>
  mv (x1 0) fun t22 =>
  oN Tryd.prog (callFunc N.internal_reflectlite_ValueOf #[t22]) w fun t23 w =>
  oN Tryd.prog (callFunc N.internal_reflectlite_Value_Set #[t21, t23]) w fun t24 w =>
  mv (.bool true) fun t8_1 =>
  k t8_1 w) (fun _ =>
  mv (x1 0) fun t26 =>
  o1 Tryd.prog (Instr.typeAssert t26 28 124 true) w fun t27 w =>
  mv t27 fun t25 =>
  o1 Tryd.prog (Instr.extract t25 0) w fun t28 w =>
  o1 Tryd.prog (Instr.extract t25 1) w fun t29 w =>
  mv t28 fun t9 =>
  mv t29 fun t10 =>
  mv t10 fun t30 =>
  mv t30 fun t31 =>
  gd t31 true (fun k1 => mv t9 fun v => k1 v w) w fun t32 w =>
  gd t31 true (fun k2 => mv a1 fun v => k2 v w) w fun t33 w =>
  gd t31 true (fun k3 => iv Tryd.prog t32 "As" #[t33] w k3) w fun t34 w =>
  pk t31 t34 (.bool false) fun t35 =>
  br t35 (fun _ =>
  mv (.bool true) fun t8_2 =>
  k t8_2 w) (fun _ =>
  mv (x1 0) fun t36 =>
  o1 Tryd.prog (Instr.typeAssert t36 28 127 true) w fun t37 w =>
  o1 Tryd.prog (Instr.extract t37 1) w fun t38 w =>
  o1 Tryd.prog (Instr.extract t37 0) w fun t39 w =>
  br t38 (fun _ =>
  mv t39 fun t11 =>
  mv t11 fun t40 =>
  iv Tryd.prog t40 "Unwrap" #[] w fun t41 w =>
  mv t41 fun t0 =>
  mv t0 fun t42 =>
  o1 Tryd.prog (bin .eql 28 (.tmp 42) (.const .nilIface) t42 .nilIface) w fun t43 w =>
  br t43 (fun _ =>
  mv (.bool false) fun t8_3 =>
  k t8_3 w) (fun _ =>
  I1 [t0, (x1 8), t9, t10, t11, (x1 12), (x1 14), (x1 15), (x1 50)] w ∧ μ1 [t0, (x1 8), t9, t10, t11, (x1 12), (x1 14), (x1 15), (x1 50)] w < μ1 [x1 0, x1 8, x1 9, x1 10, x1 11, x1 12, x1 14, x1 15, x1 50] w1)) (fun _ =>
  o1 Tryd.prog (Instr.typeAssert t36 28 129 true) w fun t44 w =>
  o1 Tryd.prog (Instr.extract t44 1) w fun t45 w =>
  o1 Tryd.prog (Instr.extract t44 0) w fun t46 w =>
  br t45 (fun _ =>
  mv t46 fun t12 =>
  mv t12 fun t47 =>
  iv Tryd.prog t47 "Unwrap" #[] w fun t48 w =>
  o1 Tryd.prog (Builtin.len_ #[130] 3 #[t48]) w fun t49 w =>
  mv (.int .i64 0) fun t50 =>
  lp [(x1 8), (x1 14), t50] w fun I2 μ2 => ∀ (x2 : Env) (w2 : World), I2 [x2 8, x2 14, x2 50] w2 →
  o1 Tryd.prog (bin .lss 3 (.tmp 50) (.tmp 49) (x2 50) t49) w2 fun t51 w =>
  br t51 (fun _ =>
  jn (fun x3 => [x3 8, x3 14]) (fun k4 =>
  o1 Tryd.prog (Instr.indexAt 130 t48 (x2 50)) w fun t52 w =>
  o1 Tryd.prog (Instr.loadAt 28 t52) w fun t53 w =>
  mv t53 fun t14 =>
  mv t14 fun t54 =>
  o1 Tryd.prog (bin .eql 28 (.tmp 54) (.const .nilIface) t54 .nilIface) w fun t55 w =>
  br t55 (fun _ =>
  k4 [(x2 8), t14] w) (fun _ =>
  mv t14 fun t56 =>
  mv a1 fun t57 =>
  o1 Tryd.prog (Instr.loadAt 93 t6) w fun t58 w =>
  mv a3 fun t59 =>
  C Tryd.prog N.errors_as #[t56, t57, t58, t59] w fun t60 w =>
  br t60 (fun _ =>
  mv (.bool true) fun t8_4 =>
  k t8_4 w) (fun _ =>
  k4 [(x2 8), t14] w))) fun x3 w =>
  o1 Tryd.prog (bin .add 3 (.tmp 50) (.const (.int .i64 1)) (x2 50) (.int .i64 1)) w fun t61 w =>
  mv t61 fun t50_1 =>
  I2 [(x3 8), (x3 14), t50_1] w ∧ μ2 [(x3 8), (x3 14), t50_1] w < μ2 [x2 8, x2 14, x2 50] w2) (fun _ =>
  mv (.bool false) fun t8_5 =>
  k t8_5 w)) (fun _ =>
  mv t36 fun t15 =>
  mv (.bool false) fun t8_6 =>
  k t8_6 w))))
theorem C.errors_as {k : Value → World → Prop} {a0 a1 a2 a3 : Value} {w : World} (h : F.errors_as k a0 a1 a2 a3 w) : C Tryd.prog N.errors_as #[a0, a1, a2, a3] w k :=
  den_calls (H := { moves := [], vars := [0, 8, 9, 10, 11, 12, 14, 15, 50] }) (args := [a0, a1, a2, a3]) mixed Tryd.func47 (by kernel_rfl) (by kernel_rfl) (by kernel_rfl) h

-- slices.DeleteFunc[[]isthmus/api.Hash,isthmus/api.Hash]
def F.slices_DeleteFunc_api_Hash_api_Hash (k : Value → World → Prop) (a0 a1 : Value) (w : World) : Prop :=
  mv (.slice none 0 0) fun t4 =>
  mv a0 fun t8 =>
  mv a1 fun t9 =>
  C Tryd.prog N.slices_IndexFunc_api_Hash_api_Hash #[t8, t9] w fun t10 w =>
  mv t10 fun t5 =>
  mv t5 fun t11 =>
  o1 Tryd.prog (bin .eql 3 (.tmp 11) (.const (.int .i64 (-1))) t11 (.int .i64 (-1))) w fun t12 w =>
  br t12 (fun _ =>
  mv a0 fun t13 =>
  mv t13 fun t4_1 =>
  k t4_1 w) (fun _ =>
  mv t5 fun t14 =>
  o1 Tryd.prog (bin .add 3 (.tmp 14) (.const (.int .i64 1)) t14 (.int .i64 1)) w fun t15 w =>
  mv t15 fun t6 =>
  lp [t5, t6] w fun I1 μ1 => ∀ (x1 : Env) (w1 : World), I1 [x1 5, x1 6] w1 →
  mv (x1 6) fun t16 =>
  mv a0 fun t17 =>
  o1 Tryd.prog (Builtin.len_ #[32] 3 #[t17]) w1 fun t18 w =>
  o1 Tryd.prog (bin .lss 3 (.tmp 16) (.tmp 18) t16 t18) w fun t19 w =>
  br t19 (fun _ =>
  mv a0 fun t22 =>
  mv (x1 6) fun t23 =>
  o1 Tryd.prog (Instr.indexAt 32 t22 t23) w fun t24 w =>
  o1 Tryd.prog (Instr.loadAt 40 t24) w fun t25 w =>
  o1 Tryd.prog (Instr.alloc 40 true (.tuple #[])) w fun t7 w =>
  o0 Tryd.prog (Instr.storeAt 40 t7 t25) w fun _ w =>
  mv a1 fun t26 =>
  o1 Tryd.prog (Instr.loadAt 40 t7) w fun t27 w =>
  cv Tryd.prog t26 #[t27] w fun t28 w =>
  o1 Tryd.prog (Op.unary .not t28) w fun t29 w =>
  jn (fun x2 => [x2 5]) (fun k1 =>
  br t29 (fun _ =>
  mv a0 fun t30 =>
  mv (x1 5) fun t31 =>
  o1 Tryd.prog (Instr.loadAt 40 t7) w fun t32 w =>
  o1 Tryd.prog (Instr.indexAt 32 t30 t31) w fun t33 w =>
  o0 Tryd.prog (Instr.storeAt 40 t33 t32) w fun _ w =>
  mv (x1 5) fun t34 =>
  o1 Tryd.prog (bin .add 3 (.tmp 34) (.const (.int .i64 1)) t34 (.int .i64 1)) w fun t35 w =>
  mv t35 fun t5_1 =>
  k1 [t5_1] w) (fun _ =>
  k1 [(x1 5)] w)) fun x2 w =>
  mv (x1 6) fun t20 =>
  o1 Tryd.prog (bin .add 3 (.tmp 20) (.const (.int .i64 1)) t20 (.int .i64 1)) w fun t21 w =>
  mv t21 fun t6_1 =>
  I1 [(x2 5), t6_1] w ∧ μ1 [(x2 5), t6_1] w < μ1 [x1 5, x1 6] w1) (fun _ =>
  mv a0 fun t36 =>
  mv (x1 5) fun t37 =>
  o1 Tryd.prog (Instr.sliceAt 32 t36 (some t37) none none) w fun t38 w =>
  ob Tryd.prog (fun _ => Builtin.clear_ #[32] 0 #[t38]) w fun _ w =>
  mv a0 fun t39 =>
  mv (x1 5) fun t40 =>
  o1 Tryd.prog (Instr.sliceAt 32 t39 none (some t40) none) w fun t41 w =>
  mv t41 fun t4_2 =>
  k t4_2 w))
theorem C.slices_DeleteFunc_api_Hash_api_Hash {k : Value → World → Prop} {a0 a1 : Value} {w : World} (h : F.slices_DeleteFunc_api_Hash_api_Hash k a0 a1 w) : C Tryd.prog N.slices_DeleteFunc_api_Hash_api_Hash #[a0, a1] w k :=
  den_calls (H := { moves := [], vars := [4, 5, 6] }) (args := [a0, a1]) mixed Tryd.func48 (by kernel_rfl) (by kernel_rfl) (by kernel_rfl) h

-- slices.Clone[[]isthmus/api.Hash,isthmus/api.Hash]
def F.slices_Clone_api_Hash_api_Hash (k : Value → World → Prop) (a0 : Value) (w : World) : Prop :=
  mv (.slice none 0 0) fun t2 =>
  mv a0 fun t3 =>
  o1 Tryd.prog (bin .eql 32 (.tmp 3) (.const (.slice none 0 0)) t3 (.slice none 0 0)) w fun t4 w =>
  br t4 (fun _ =>
  mv (.slice none 0 0) fun t2_1 =>
  k t2_1 w) (fun _ =>
  o1 Tryd.prog (Instr.buildSlice 32 0 #[]) w fun t5 w =>
  mv a0 fun t6 =>
  ob Tryd.prog (fun _ => Builtin.append_ #[32, 32] 32 #[t5, t6]) w fun t7 w =>
  mv t7 fun t2_2 =>
  k t2_2 w)
theorem C.slices_Clone_api_Hash_api_Hash {k : Value → World → Prop} {a0 : Value} {w : World} (h : F.slices_Clone_api_Hash_api_Hash k a0 w) : C Tryd.prog N.slices_Clone_api_Hash_api_Hash #[a0] w k :=
  den_calls (H := { moves := [], vars := [2] }) (args := [a0]) mixed Tryd.func49 (by kernel_rfl) (by kernel_rfl) (by kernel_rfl) h

-- (*isthmus/pool.Pool).forget$1
def F.pool_Pool_forget_1 (k : Value → World → Prop) (a0 a1 : Value) (w : World) : Prop :=
  o1 Tryd.prog (Instr.box 40 a0) w fun t2 w =>
  mv (.bool false) fun t3 =>
  o1 Tryd.prog (Instr.loadAt 40 t2) w fun t4 w =>
  o1 Tryd.prog (Instr.loadAt 40 a1) w fun t5 w =>
  o1 Tryd.prog (bin .eql 40 (.tmp 4) (.tmp 5) t4 t5) w fun t6 w =>
  mv t6 fun t3_1 =>
  k t3_1 w
theorem C.pool_Pool_forget_1 {k : Value → World → Prop} {a0 a1 : Value} {w : World} (h : F.pool_Pool_forget_1 k a0 a1 w) : C Tryd.prog N.pool_Pool_forget_1 #[a0, a1] w k :=
  den_calls (H := { moves := [], vars := [3] }) (args := [a0, a1]) mixed Tryd.func50 (by kernel_rfl) (by kernel_rfl) (by kernel_rfl) h

-- slices.insertionSortCmpFunc[isthmus/pool.item]
def F.slices_insertionSortCmpFunc_pool_item (k : Value → World → Prop) (a0 a1 a2 a3 : Value) (w : World) : Prop :=
  mv a1 fun t10 =>
  o1 Tryd.prog (bin .add 3 (.tmp 10) (.const (.int .i64 1)) t10 (.int .i64 1)) w fun t11 w =>
  mv t11 fun t8 =>
  lp [t8, undef] w fun I1 μ1 => ∀ (x1 : Env) (w1 : World), I1 [x1 8, x1 9] w1 →
  mv (x1 8) fun t12 =>
  mv a2 fun t13 =>
  o1 Tryd.prog (bin .lss 3 (.tmp 12) (.tmp 13) t12 t13) w1 fun t14 w =>
  br t14 (fun _ =>
  mv (x1 8) fun t17 =>
  mv t17 fun t9 =>
  lp [t9] w fun I2 μ2 => ∀ (x2 : Env) (w2 : World), I2 [x2 9] w2 →
  dr w2.drew fun S1 =>
  mv (x2 9) fun t18 =>
  mv a1 fun t19 =>
  tk Tryd.prog S1 (bin .gtr 3 (.tmp 18) (.tmp 19) t18 t19) fun t20 =>
  mv t20 fun t21 =>
  gdT t21 true (fun k1 => mv a3 k1) fun t22 =>
  gdT t21 true (fun k2 => mv a0 k2) fun t23 =>
  gdT t21 true (fun k3 => mv (x2 9) k3) fun t24 =>
  gdT t21 true (fun k4 => tk Tryd.prog S1 (Instr.indexAt 56 t23 t24) k4) fun t25 =>
  gdT t21 true (fun k5 => tk Tryd.prog S1 (Instr.loadAt 61 t25) k5) fun t26 =>
  gdT t21 true (fun k6 => mv a0 k6) fun t27 =>
  gdT t21 true (fun k7 => mv (x2 9) k7) fun t28 =>
  gdT t21 true (fun k8 => tk Tryd.prog S1 (bin .sub 3 (.tmp 28) (.const (.int .i64 1)) t28 (.int .i64 1)) k8) fun t29 =>
  gdT t21 true (fun k9 => tk Tryd.prog S1 (Instr.indexAt 56 t27 t29) k9) fun t30 =>
  gdT t21 true (fun k10 => tk Tryd.prog S1 (Instr.loadAt 61 t30) k10) fun t31 =>
  gd t21 true (fun k11 => cv Tryd.prog t22 #[t26, t31] w2.drew k11) w2.drew fun t32 w =>
  S1 w ∧
  gdT t21 true (fun k12 => tk Tryd.prog S1 (bin .lss 3 (.tmp 32) (.const (.int .i64 0)) t32 (.int .i64 0)) k12) fun t33 =>
  pk t21 t33 (.bool false) fun t34 =>
  br t34 (fun _ =>
  dr w.drew fun S2 =>
  mv a0 fun t37 =>
  mv (x2 9) fun t38 =>
  mv a0 fun t39 =>
  mv (x2 9) fun t40 =>
  tk Tryd.prog S2 (bin .sub 3 (.tmp 40) (.const (.int .i64 1)) t40 (.int .i64 1)) fun t41 =>
  mv a0 fun t42 =>
  mv (x2 9) fun t43 =>
  tk Tryd.prog S2 (bin .sub 3 (.tmp 43) (.const (.int .i64 1)) t43 (.int .i64 1)) fun t44 =>
  tk Tryd.prog S2 (Instr.indexAt 56 t42 t44) fun t45 =>
  tk Tryd.prog S2 (Instr.loadAt 61 t45) fun t46 =>
  mv a0 fun t47 =>
  mv (x2 9) fun t48 =>
  tk Tryd.prog S2 (Instr.indexAt 56 t47 t48) fun t49 =>
  tk Tryd.prog S2 (Instr.loadAt 61 t49) fun t50 =>
  tk Tryd.prog S2 (Instr.indexAt 56 t37 t38) fun t51 =>
  o0 Tryd.prog (Instr.storeAt 61 t51 t46) w.drew fun _ w =>
  S2 w ∧
  tk Tryd.prog S2 (Instr.indexAt 56 t39 t41) fun t52 =>
  o0 Tryd.prog (Instr.storeAt 61 t52 t50) w fun _ w =>
  mv (x2 9) fun t35 =>
  o1 Tryd.prog (bin .sub 3 (.tmp 35) (.const (.int .i64 1)) t35 (.int .i64 1)) w fun t36 w =>
  mv t36 fun t9_1 =>
  I2 [t9_1] w ∧ μ2 [t9_1] w < μ2 [x2 9] w2) (fun _ =>
  mv (x1 8) fun t15 =>
  o1 Tryd.prog (bin .add 3 (.tmp 15) (.const (.int .i64 1)) t15 (.int .i64 1)) w fun t16 w =>
  mv t16 fun t8_1 =>
  I1 [t8_1, (x2 9)] w ∧ μ1 [t8_1, (x2 9)] w < μ1 [x1 8, x1 9] w1)) (fun _ =>
  k (.tuple #[]) w)
theorem C.slices_insertionSortCmpFunc_pool_item {k : Value → World → Prop} {a0 a1 a2 a3 : Value} {w : World} (h : F.slices_insertionSortCmpFunc_pool_item k a0 a1 a2 a3 w) : C Tryd.prog N.slices_insertionSortCmpFunc_pool_item #[a0, a1, a2, a3] w k :=
  den_calls (H := { moves := [(4, (.take 0 (.take 1 (.take 2 (.take 3 (.take 4 (.take 5 (.take 6 (.take 7 (.take 8 (.take 9 (.take 10 (.take 11 (.take 12 (.take 13 (.force 14 (.take 15 (.take 16 .fin)))))))))))))))))), (6, (.take 0 (.take 1 (.take 2 (.take 3 (.take 4 (.take 5 (.take 6 (.take 7 (.take 8 (.take 9 (.take 10 (.take 11 (.take 12 (.take 13 (.take 14 (.force 15 (.take 16 (.last 17)))))))))))))))))))], vars := [8, 9] }) (args := [a0, a1, a2, a3]) mixed Tryd.func51 (by kernel_rfl) (by kernel_rfl) (by kernel_rfl) h

-- slices.heapSortCmpFunc[isthmus/pool.item]
def F.slices_heapSortCmpFunc_pool_item (k : Value → World → Prop) (a0 a1 a2 a3 : Value) (w : World) : Prop :=
  mv a1 fun t13 =>
  mv t13 fun t8 =>
  mv (.int .i64 0) fun t9 =>
  mv a2 fun t14 =>
  mv a1 fun t15 =>
  o1 Tryd.prog (bin .sub 3 (.tmp 14) (.tmp 15) t14 t15) w fun t16 w =>
  mv t16 fun t10 =>
  mv t10 fun t17 =>
  o1 Tryd.prog (bin .sub 3 (.tmp 17) (.const (.int .i64 1)) t17 (.int .i64 1)) w fun t18 w =>
  o1 Tryd.prog (bin .quo 3 (.tmp 18) (.const (.int .i64 2)) t18 (.int .i64 2)) w fun t19 w =>
  mv t19 fun t11 =>
  lp [t11] w fun I1 μ1 => ∀ (x1 : Env) (w1 : World), I1 [x1 11] w1 →
  mv (x1 11) fun t20 =>
  o1 Tryd.prog (bin .geq 3 (.tmp 20) (.const (.int .i64 0)) t20 (.int .i64 0)) w1 fun t21 w =>
  br t21 (fun _ =>
  mv a0 fun t24 =>
  mv (x1 11) fun t25 =>
  mv t10 fun t26 =>
  mv t8 fun t27 =>
  mv a3 fun t28 =>
  C Tryd.prog N.slices_siftDownCmpFunc_pool_item #[t24, t25, t26, t27, t28] w fun t29 w =>
  mv (x1 11) fun t22 =>
  o1 Tryd.prog (bin .sub 3 (.tmp 22) (.const (.int .i64 1)) t22 (.int .i64 1)) w fun t23 w =>
  mv t23 fun t11_1 =>
  I1 [t11_1] w ∧ μ1 [t11_1] w < μ1 [x1 11] w1) (fun _ =>
  mv t10 fun t30 =>
  o1 Tryd.prog (bin .sub 3 (.tmp 30) (.const (.int .i64 1)) t30 (.int .i64 1)) w fun t31 w =>
  mv t31 fun t12 =>
  lp [t12] w fun I2 μ2 => ∀ (x2 : Env) (w2 : World), I2 [x2 12] w2 →
  mv (x2 12) fun t32 =>
  o1 Tryd.prog (bin .geq 3 (.tmp 32) (.const (.int .i64 0)) t32 (.int .i64 0)) w2 fun t33 w =>
  br t33 (fun _ =>
  dr w.drew fun S1 =>
  mv a0 fun t36 =>
  mv t8 fun t37 =>
  mv a0 fun t38 =>
  mv t8 fun t39 =>
  mv (x2 12) fun t40 =>
  tk Tryd.prog S1 (bin .add 3 (.tmp 39) (.tmp 40) t39 t40) fun t41 =>
  mv a0 fun t42 =>
  mv t8 fun t43 =>
  mv (x2 12) fun t44 =>
  tk Tryd.prog S1 (bin .add 3 (.tmp 43) (.tmp 44) t43 t44) fun t45 =>
  tk Tryd.prog S1 (Instr.indexAt 56 t42 t45) fun t46 =>
  tk Tryd.prog S1 (Instr.loadAt 61 t46) fun t47 =>
  mv a0 fun t48 =>
  mv t8 fun t49 =>
  tk Tryd.prog S1 (Instr.indexAt 56 t48 t49) fun t50 =>
  tk Tryd.prog S1 (Instr.loadAt 61 t50) fun t51 =>
  tk Tryd.prog S1 (Instr.indexAt 56 t36 t37) fun t52 =>
  o0 Tryd.prog (Instr.storeAt 61 t52 t47) w.drew fun _ w =>
  S1 w ∧
  tk Tryd.prog S1 (Instr.indexAt 56 t38 t41) fun t53 =>
  o0 Tryd.prog (Instr.storeAt 61 t53 t51) w fun _ w =>
  mv a0 fun t54 =>
  mv t9 fun t55 =>
  mv (x2 12) fun t56 =>
  mv t8 fun t57 =>
  mv a3 fun t58 =>
  C Tryd.prog N.slices_siftDownCmpFunc_pool_item #[t54, t55, t56, t57, t58] w fun t59 w =>
  mv (x2 12) fun t34 =>
  o1 Tryd.prog (bin .sub 3 (.tmp 34) (.const (.int .i64 1)) t34 (.int .i64 1)) w fun t35 w =>
  mv t35 fun t12_1 =>
  I2 [t12_1] w ∧ μ2 [t12_1] w < μ2 [x2 12] w2) (fun _ =>
  k (.tuple #[]) w))
theorem C.slices_heapSortCmpFunc_pool_item {k : Value → World → Prop} {a0 a1 a2 a3 : Value} {w : World} (h : F.slices_heapSortCmpFunc_pool_item k a0 a1 a2 a3 w) : C Tryd.prog N.slices_heapSortCmpFunc_pool_item #[a0, a1, a2, a3] w k :=
  den_calls (H := { moves := [(10, (.take 0 (.take 1 (.take 2 (.take 3 (.take 4 (.take 5 (.take 6 (.take 7 (.take 8 (.take 9 (.take 10 (.take 11 (.take 12 (.take 13 (.take 14 (.take 15 (.take 16 (.force 17 (.take 18 (.last 19)))))))))))))))))))))], vars := [8, 9, 10, 11, 12] }) (args := [a0, a1, a2, a3]) mixed Tryd.func52 (by kernel_rfl) (by kernel_rfl) (by kernel_rfl) h

-- slices.breakPatternsCmpFunc[isthmus/pool.item]
def F.slices_breakPatternsCmpFunc_pool_item (k : Value → World → Prop) (a0 a1 a2 a3 : Value) (w : World) : Prop :=
  mv a2 fun t13 =>
  mv a1 fun t14 =>
  o1 Tryd.prog (bin .sub 3 (.tmp 13) (.tmp 14) t13 t14) w fun t15 w =>
  mv t15 fun t8 =>
  mv t8 fun t16 =>
  o1 Tryd.prog (bin .geq 3 (.tmp 16) (.const (.int .i64 8)) t16 (.int .i64 8)) w fun t17 w =>
  jn (fun x1 => [x1 10, x1 11, x1 12]) (fun k1 =>
  br t17 (fun _ =>
  mv t8 fun t18 =>
  o1 Tryd.prog (convert 3 133 t18) w fun t19 w =>
  o1 Tryd.prog (Instr.alloc 133 true (.tuple #[])) w fun t9 w =>
  o0 Tryd.prog (Instr.storeAt 133 t9 t19) w fun _ w =>
  mv t8 fun t20 =>
  C Tryd.prog N.slices_nextPowerOfTwo #[t20] w fun t21 w =>
  mv t21 fun t10 =>
  mv a1 fun t22 =>
  mv t8 fun t23 =>
  o1 Tryd.prog (bin .quo 3 (.tmp 23) (.const (.int .i64 4)) t23 (.int .i64 4)) w fun t24 w =>
  o1 Tryd.prog (bin .mul 3 (.tmp 24) (.const (.int .i64 2)) t24 (.int .i64 2)) w fun t25 w =>
  o1 Tryd.prog (bin .add 3 (.tmp 22) (.tmp 25) t22 t25) w fun t26 w =>
  o1 Tryd.prog (bin .sub 3 (.tmp 26) (.const (.int .i64 1)) t26 (.int .i64 1)) w fun t27 w =>
  mv t27 fun t11 =>
  lp [t11, undef] w fun I2 μ2 => ∀ (x2 : Env) (w1 : World), I2 [x2 11, x2 12] w1 →
  mv (x2 11) fun t28 =>
  mv a1 fun t29 =>
  mv t8 fun t30 =>
  o1 Tryd.prog (bin .quo 3 (.tmp 30) (.const (.int .i64 4)) t30 (.int .i64 4)) w1 fun t31 w =>
  o1 Tryd.prog (bin .mul 3 (.tmp 31) (.const (.int .i64 2)) t31 (.int .i64 2)) w fun t32 w =>
  o1 Tryd.prog (bin .add 3 (.tmp 29) (.tmp 32) t29 t32) w fun t33 w =>
  o1 Tryd.prog (bin .add 3 (.tmp 33) (.const (.int .i64 1)) t33 (.int .i64 1)) w fun t34 w =>
  o1 Tryd.prog (bin .leq 3 (.tmp 28) (.tmp 34) t28 t34) w fun t35 w =>
  br t35 (fun _ =>
  C Tryd.prog N.slices_xorshift_Next #[t9] w fun t38 w =>
  mv t10 fun t39 =>
  o1 Tryd.prog (bin .sub 25 (.tmp 39) (.const (.int .u64 1)) t39 (.int .u64 1)) w fun t40 w =>
  o1 Tryd.prog (bin .and 25 (.tmp 38) (.tmp 40) t38 t40) w fun t41 w =>
  o1 Tryd.prog (convert 25 3 t41) w fun t42 w =>
  mv t42 fun t12 =>
  mv t12 fun t43 =>
  mv t8 fun t44 =>
  o1 Tryd.prog (bin .geq 3 (.tmp 43) (.tmp 44) t43 t44) w fun t45 w =>
  jn (fun x3 => [x3 12]) (fun k2 =>
  br t45 (fun _ =>
  mv t12 fun t46 =>
  mv t8 fun t47 =>
  o1 Tryd.prog (bin .sub 3 (.tmp 46) (.tmp 47) t46 t47) w fun t48 w =>
  mv t48 fun t12_1 =>
  k2 [t12_1] w) (fun _ =>
  k2 [t12] w)) fun x3 w =>
  dr w.drew fun S1 =>
  mv a0 fun t49 =>
  mv (x2 11) fun t50 =>
  mv a0 fun t51 =>
  mv a1 fun t52 =>
  mv (x3 12) fun t53 =>
  tk Tryd.prog S1 (bin .add 3 (.tmp 52) (.tmp 53) t52 t53) fun t54 =>
  mv a0 fun t55 =>
  mv a1 fun t56 =>
  mv (x3 12) fun t57 =>
  tk Tryd.prog S1 (bin .add 3 (.tmp 56) (.tmp 57) t56 t57) fun t58 =>
  tk Tryd.prog S1 (Instr.indexAt 56 t55 t58) fun t59 =>
  tk Tryd.prog S1 (Instr.loadAt 61 t59) fun t60 =>
  mv a0 fun t61 =>
  mv (x2 11) fun t62 =>
  tk Tryd.prog S1 (Instr.indexAt 56 t61 t62) fun t63 =>
  tk Tryd.prog S1 (Instr.loadAt 61 t63) fun t64 =>
  tk Tryd.prog S1 (Instr.indexAt 56 t49 t50) fun t65 =>
  o0 Tryd.prog (Instr.storeAt 61 t65 t60) w.drew fun _ w =>
  S1 w ∧
  tk Tryd.prog S1 (Instr.indexAt 56 t51 t54) fun t66 =>
  o0 Tryd.prog (Instr.storeAt 61 t66 t64) w fun _ w =>
  mv (x2 11) fun t36 =>
  o1 Tryd.prog (bin .add 3 (.tmp 36) (.const (.int .i64 1)) t36 (.int .i64 1)) w fun t37 w =>
  mv t37 fun t11_1 =>
  I2 [t11_1, (x3 12)] w ∧ μ2 [t11_1, (x3 12)] w < μ2 [x2 11, x2 12] w1) (fun _ =>
  k1 [t10, (x2 11), (x2 12)] w)) (fun _ =>
  k1 [undef, undef, undef] w)) fun x1 w =>
  k (.tuple #[]) w
theorem C.slices_breakPatternsCmpFunc_pool_item {k : Value → World → Prop} {a0 a1 a2 a3 : Value} {w : World} (h : F.slices_breakPatternsCmpFunc_pool_item k a0 a1 a2 a3 w) : C Tryd.prog N.slices_breakPatternsCmpFunc_pool_item #[a0, a1, a2, a3] w k :=
  den_calls (H := { moves := [(10, (.take 0 (.take 1 (.take 2 (.take 3 (.take 4 (.take 5 (.take 6 (.take 7 (.take 8 (.take 9 (.take 10 (.take 11 (.take 12 (.take 13 (.take 14 (.take 15 (.take 16 (.force 17 (.take 18 (.last 19)))))))))))))))))))))], vars := [8, 10, 11, 12] }) (args := [a0, a1, a2, a3]) mixed Tryd.func53 (by kernel_rfl) (by kernel_rfl) (by kernel_rfl) h

-- slices.choosePivotCmpFunc[isthmus/pool.item]
def F.slices_choosePivotCmpFunc_pool_item (k : Value → World → Prop) (a0 a1 a2 a3 : Value) (w : World) : Prop :=
  mv (.int .i64 0) fun t8 =>
  mv (.int .i64 0) fun t9 =>
  mv a2 fun t15 =>
  mv a1 fun t16 =>
  o1 Tryd.prog (bin .sub 3 (.tmp 15) (.tmp 16) t15 t16) w fun t17 w =>
  mv t17 fun t10 =>
  o1 Tryd.prog (Instr.alloc 3 true (.tuple #[])) w fun t11 w =>
  mv a1 fun t18 =>
  mv t10 fun t19 =>
  o1 Tryd.prog (bin .quo 3 (.tmp 19) (.const (.int .i64 4)) t19 (.int .i64 4)) w fun t20 w =>
  o1 Tryd.prog (bin .mul 3 (.tmp 20) (.const (.int .i64 1)) t20 (.int .i64 1)) w fun t21 w =>
  o1 Tryd.prog (bin .add 3 (.tmp 18) (.tmp 21) t18 t21) w fun t22 w =>
  mv t22 fun t12 =>
  mv a1 fun t23 =>
  mv t10 fun t24 =>
  o1 Tryd.prog (bin .quo 3 (.tmp 24) (.const (.int .i64 4)) t24 (.int .i64 4)) w fun t25 w =>
  o1 Tryd.prog (bin .mul 3 (.tmp 25) (.const (.int .i64 2)) t25 (.int .i64 2)) w fun t26 w =>
  o1 Tryd.prog (bin .add 3 (.tmp 23) (.tmp 26) t23 t26) w fun t27 w =>
  mv t27 fun t13 =>
  mv a1 fun t28 =>
  mv t10 fun t29 =>
  o1 Tryd.prog (bin .quo 3 (.tmp 29) (.const (.int .i64 4)) t29 (.int .i64 4)) w fun t30 w =>
  o1 Tryd.prog (bin .mul 3 (.tmp 30) (.const (.int .i64 3)) t30 (.int .i64 3)) w fun t31 w =>
  o1 Tryd.prog (bin .add 3 (.tmp 28) (.tmp 31) t28 t31) w fun t32 w =>
  mv t32 fun t14 =>
  mv t10 fun t33 =>
  o1 Tryd.prog (bin .geq 3 (.tmp 33) (.const (.int .i64 8)) t33 (.int .i64 8)) w fun t34 w =>
  jn (fun x1 => [x1 12, x1 13, x1 14]) (fun k1 =>
  br t34 (fun _ =>
  mv t10 fun t35 =>
  o1 Tryd.prog (bin .geq 3 (.tmp 35) (.const (.int .i64 50)) t35 (.int .i64 50)) w fun t36 w =>
  jn (fun x2 => [x2 12, x2 13, x2 14]) (fun k2 =>
  br t36 (fun _ =>
  mv a0 fun t37 =>
  mv t12 fun t38 =>
  mv a3 fun t39 =>
  C Tryd.prog N.slices_medianAdjacentCmpFunc_pool_item #[t37, t38, t11, t39] w fun t40 w =>
  mv t40 fun t12_1 =>
  mv a0 fun t41 =>
  mv t13 fun t42 =>
  mv a3 fun t43 =>
  C Tryd.prog N.slices_medianAdjacentCmpFunc_pool_item #[t41, t42, t11, t43] w fun t44 w =>
  mv t44 fun t13_1 =>
  mv a0 fun t45 =>
  mv t14 fun t46 =>
  mv a3 fun t47 =>
  C Tryd.prog N.slices_medianAdjacentCmpFunc_pool_item #[t45, t46, t11, t47] w fun t48 w =>
  mv t48 fun t14_1 =>
  k2 [t12_1, t13_1, t14_1] w) (fun _ =>
  k2 [t12, t13, t14] w)) fun x2 w =>
  mv a0 fun t49 =>
  mv (x2 12) fun t50 =>
  mv (x2 13) fun t51 =>
  mv (x2 14) fun t52 =>
  mv a3 fun t53 =>
  C Tryd.prog N.slices_medianCmpFunc_pool_item #[t49, t50, t51, t52, t11, t53] w fun t54 w =>
  mv t54 fun t13_2 =>
  k1 [(x2 12), t13_2, (x2 14)] w) (fun _ =>
  k1 [t12, t13, t14] w)) fun x1 w =>
  o1 Tryd.prog (Instr.loadAt 3 t11) w fun t55 w =>
  o1 Tryd.prog (bin .eql 3 (.tmp 55) (.const (.int .i64 0)) t55 (.int .i64 0)) w fun t58 w =>
  mv t58 fun t57 =>
  br t57 (fun _ =>
  mv (x1 13) fun t59 =>
  mv t59 fun t8_1 =>
  mv (.int .i64 1) fun t9_1 =>
  k (.tuple #[t8_1, t9_1]) w) (fun _ =>
  o1 Tryd.prog (bin .eql 3 (.tmp 55) (.const (.int .i64 12)) t55 (.int .i64 12)) w fun t61 w =>
  mv t61 fun t60 =>
  br t60 (fun _ =>
  mv (x1 13) fun t62 =>
  mv t62 fun t8_2 =>
  mv (.int .i64 2) fun t9_2 =>
  k (.tuple #[t8_2, t9_2]) w) (fun _ =>
  mv (x1 13) fun t56 =>
  mv t56 fun t8_3 =>
  mv (.int .i64 0) fun t9_3 =>
  k (.tuple #[t8_3, t9_3]) w))
theorem C.slices_choosePivotCmpFunc_pool_item {k : Value → World → Prop} {a0 a1 a2 a3 : Value} {w : World} (h : F.slices_choosePivotCmpFunc_pool_item k a0 a1 a2 a3 w) : C Tryd.prog N.slices_choosePivotCmpFunc_pool_item #[a0, a1, a2, a3] w k :=
  den_calls (H := { moves := [], vars := [8, 9, 10, 12, 13, 14, 57, 60] }) (args := [a0, a1, a2, a3]) mixed Tryd.func54 (by kernel_rfl) (by kernel_rfl) (by kernel_rfl) h

-- slices.reverseRangeCmpFunc[isthmus/pool.item]
def F.slices_reverseRangeCmpFunc_pool_item (k : Value → World → Prop) (a0 a1 a2 a3 : Value) (w : World) : Prop :=
  mv a1 fun t10 =>
  mv t10 fun t8 =>
  mv a2 fun t11 =>
  o1 Tryd.prog (bin .sub 3 (.tmp 11) (.const (.int .i64 1)) t11 (.int .i64 1)) w fun t12 w =>
  mv t12 fun t9 =>
  lp [t8, t9] w fun I1 μ1 => ∀ (x1 : Env) (w1 : World), I1 [x1 8, x1 9] w1 →
  mv (x1 8) fun t13 =>
  mv (x1 9) fun t14 =>
  o1 Tryd.prog (bin .lss 3 (.tmp 13) (.tmp 14) t13 t14) w1 fun t15 w =>
  br t15 (fun _ =>
  dr w.drew fun S1 =>
  mv a0 fun t16 =>
  mv (x1 8) fun t17 =>
  mv a0 fun t18 =>
  mv (x1 9) fun t19 =>
  mv a0 fun t20 =>
  mv (x1 9) fun t21 =>
  tk Tryd.prog S1 (Instr.indexAt 56 t20 t21) fun t22 =>
  tk Tryd.prog S1 (Instr.loadAt 61 t22) fun t23 =>
  mv a0 fun t24 =>
  mv (x1 8) fun t25 =>
  tk Tryd.prog S1 (Instr.indexAt 56 t24 t25) fun t26 =>
  tk Tryd.prog S1 (Instr.loadAt 61 t26) fun t27 =>
  tk Tryd.prog S1 (Instr.indexAt 56 t16 t17) fun t28 =>
  o0 Tryd.prog (Instr.storeAt 61 t28 t23) w.drew fun _ w =>
  S1 w ∧
  tk Tryd.prog S1 (Instr.indexAt 56 t18 t19) fun t29 =>
  o0 Tryd.prog (Instr.storeAt 61 t29 t27) w fun _ w =>
  mv (x1 8) fun t30 =>
  o1 Tryd.prog (bin .add 3 (.tmp 30) (.const (.int .i64 1)) t30 (.int .i64 1)) w fun t31 w =>
  mv t31 fun t8_1 =>
  mv (x1 9) fun t32 =>
  o1 Tryd.prog (bin .sub 3 (.tmp 32) (.const (.int .i64 1)) t32 (.int .i64 1)) w fun t33 w =>
  mv t33 fun t9_1 =>
  I1 [t8_1, t9_1] w ∧ μ1 [t8_1, t9_1] w < μ1 [x1 8, x1 9] w1) (fun _ =>
  k (.tuple #[]) w)
theorem C.slices_reverseRangeCmpFunc_pool_item {k : Value → World → Prop} {a0 a1 a2 a3 : Value} {w : World} (h : F.slices_reverseRangeCmpFunc_pool_item k a0 a1 a2 a3 w) : C Tryd.prog N.slices_reverseRangeCmpFunc_pool_item #[a0, a1, a2, a3] w k :=
  den_calls (H := { moves := [(3, (.take 0 (.take 1 (.take 2 (.take 3 (.take 4 (.take 5 (.take 6 (.take 7 (.take 8 (.take 9 (.take 10 (.take 11 (.take 12 (.force 13 (.take 14 (.last 15)))))))))))))))))], vars := [8, 9] }) (args := [a0, a1, a2, a3]) mixed Tryd.func55 (by kernel_rfl) (by kernel_rfl) (by kernel_rfl) h

end Go.Proofs.YtgagekffmamldaaDoor
