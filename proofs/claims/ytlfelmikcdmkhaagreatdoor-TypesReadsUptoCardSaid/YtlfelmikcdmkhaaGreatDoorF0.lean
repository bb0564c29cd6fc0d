/- What each function asks: printed by hoas.py off the loaded program; each is held against the program by the kernel. -/
import Derived.Test.YtlfelmikcdmkhaaGreatDoorN
set_option linter.unusedVariables false
set_option linter.unusedSimpArgs false
set_option linter.unusedSectionVars false
namespace Go.Proofs.YtlfelmikcdmkhaaGreatDoor
open Go Go.Isk
set_option maxRecDepth 100000
-- isthmus/isthmuslaw11.TypesReads
def F.isthmuslaw11_TypesReads (k : Value → World → Prop) (a0 : Value) (w : World) : Prop :=
  mv (.bool false) fun t2 =>
  mv (.slice none 0 0) fun t3 =>
  mv t3 fun t20 =>
  mv a0 fun t21 =>
  ob Tryz.prog (fun _ => Builtin.append_ #[39, 39] 39 #[t20, t21]) w fun t22 w =>
  mv t22 fun t3_1 =>
  mv t3_1 fun t24 =>
  C Tryz.prog N.types_DecodeVote #[t24] w fun t25 w =>
  mv t25 fun t23 =>
  o1 Tryz.prog (Instr.extract t23 0) w fun t26 w =>
  o1 Tryz.prog (Instr.extract t23 1) w fun t27 w =>
  o1 Tryz.prog (Instr.alloc 49 true (.tuple #[])) w fun t4 w =>
  o0 Tryz.prog (Instr.storeAt 49 t4 t26) w fun _ w =>
  mv t27 fun t5 =>
  mv a0 fun t29 =>
  C Tryz.prog N.isthmusref11_DecodeVote #[t29] w fun t30 w =>
  mv t30 fun t28 =>
  o1 Tryz.prog (Instr.extract t28 0) w fun t31 w =>
  o1 Tryz.prog (Instr.extract t28 1) w fun t32 w =>
  o1 Tryz.prog (Instr.alloc 49 true (.tuple #[])) w fun t6 w =>
  o0 Tryz.prog (Instr.storeAt 49 t6 t31) w fun _ w =>
  mv t32 fun t7 =>
  mv t3_1 fun t34 =>
  C Tryz.prog N.types_DecodeCommit #[t34] w fun t35 w =>
  mv t35 fun t33 =>
  o1 Tryz.prog (Instr.extract t33 0) w fun t36 w =>
  o1 Tryz.prog (Instr.extract t33 1) w fun t37 w =>
  o1 Tryz.prog (Instr.alloc 29 true (.tuple #[])) w fun t8 w =>
  o0 Tryz.prog (Instr.storeAt 29 t8 t36) w fun _ w =>
  mv t37 fun t9 =>
  mv a0 fun t39 =>
  C Tryz.prog N.isthmusref11_DecodeCommit #[t39] w fun t40 w =>
  mv t40 fun t38 =>
  o1 Tryz.prog (Instr.extract t38 0) w fun t41 w =>
  o1 Tryz.prog (Instr.extract t38 1) w fun t42 w =>
  o1 Tryz.prog (Instr.alloc 29 true (.tuple #[])) w fun t10 w =>
  o0 Tryz.prog (Instr.storeAt 29 t10 t41) w fun _ w =>
  mv t42 fun t11 =>
  mv t3_1 fun t44 =>
  C Tryz.prog N.types_DecodeHeader #[t44] w fun t45 w =>
  mv t45 fun t43 =>
  o1 Tryz.prog (Instr.extract t43 0) w fun t46 w =>
  o1 Tryz.prog (Instr.extract t43 1) w fun t47 w =>
  o1 Tryz.prog (Instr.alloc 25 true (.tuple #[])) w fun t12 w =>
  o0 Tryz.prog (Instr.storeAt 25 t12 t46) w fun _ w =>
  mv t47 fun t13 =>
  mv a0 fun t49 =>
  C Tryz.prog N.isthmusref11_DecodeHeader #[t49] w fun t50 w =>
  mv t50 fun t48 =>
  o1 Tryz.prog (Instr.extract t48 0) w fun t51 w =>
  o1 Tryz.prog (Instr.extract t48 1) w fun t52 w =>
  o1 Tryz.prog (Instr.alloc 25 true (.tuple #[])) w fun t14 w =>
  o0 Tryz.prog (Instr.storeAt 25 t14 t51) w fun _ w =>
  mv t52 fun t15 =>
  mv t3_1 fun t54 =>
  C Tryz.prog N.types_DecodeBlock #[t54] w fun t55 w =>
  mv t55 fun t53 =>
  o1 Tryz.prog (Instr.extract t53 0) w fun t56 w =>
  o1 Tryz.prog (Instr.extract t53 1) w fun t57 w =>
  o1 Tryz.prog (Instr.alloc 31 true (.tuple #[])) w fun t16 w =>
  o0 Tryz.prog (Instr.storeAt 31 t16 t56) w fun _ w =>
  mv t57 fun t17 =>
  mv a0 fun t59 =>
  C Tryz.prog N.isthmusref11_DecodeBlock #[t59] w fun t60 w =>
  mv t60 fun t58 =>
  o1 Tryz.prog (Instr.extract t58 0) w fun t61 w =>
  o1 Tryz.prog (Instr.extract t58 1) w fun t62 w =>
  o1 Tryz.prog (Instr.alloc 31 true (.tuple #[])) w fun t18 w =>
  o0 Tryz.prog (Instr.storeAt 31 t18 t61) w fun _ w =>
  mv t62 fun t19 =>
  o1 Tryz.prog (Instr.loadAt 49 t4) w fun t63 w =>
  o1 Tryz.prog (Instr.buildSlice 27 1 #[(0, t63)]) w fun t64 w =>
  o1 Tryz.prog (Instr.loadAt 49 t6) w fun t65 w =>
  o1 Tryz.prog (Instr.buildSlice 27 1 #[(0, t65)]) w fun t66 w =>
  C Tryz.prog N.isthmuslaw11_votes #[t64, t66] w fun t67 w =>
  mv t67 fun t68 =>
  gd t68 true (fun k1 => mv t5 fun v => k1 v w) w fun t69 w =>
  gd t68 true (fun k2 => C Tryz.prog N.isthmuslaw11_num #[t69] w k2) w fun t70 w =>
  gd t68 true (fun k3 => mv t7 fun v => k3 v w) w fun t71 w =>
  gd t68 true (fun k4 => o1 Tryz.prog (bin .eql 3 (.tmp 70) (.tmp 71) t70 t71) w k4) w fun t72 w =>
  pk t68 t72 (.bool false) fun t73 =>
  mv t73 fun t74 =>
  gd t74 true (fun k5 => o1 Tryz.prog (Instr.loadAt 29 t8) w k5) w fun t75 w =>
  gd t74 true (fun k6 => o1 Tryz.prog (Instr.loadAt 29 t10) w k6) w fun t76 w =>
  gd t74 true (fun k7 => C Tryz.prog N.isthmuslaw11_commit #[t75, t76] w k7) w fun t77 w =>
  pk t74 t77 (.bool false) fun t78 =>
  mv t78 fun t79 =>
  gd t79 true (fun k8 => mv t9 fun v => k8 v w) w fun t80 w =>
  gd t79 true (fun k9 => C Tryz.prog N.isthmuslaw11_num #[t80] w k9) w fun t81 w =>
  gd t79 true (fun k10 => mv t11 fun v => k10 v w) w fun t82 w =>
  gd t79 true (fun k11 => o1 Tryz.prog (bin .eql 3 (.tmp 81) (.tmp 82) t81 t82) w k11) w fun t83 w =>
  pk t79 t83 (.bool false) fun t84 =>
  mv t84 fun t85 =>
  gd t85 true (fun k12 => o1 Tryz.prog (Instr.loadAt 25 t12) w k12) w fun t86 w =>
  gd t85 true (fun k13 => o1 Tryz.prog (Instr.loadAt 25 t14) w k13) w fun t87 w =>
  gd t85 true (fun k14 => o1 Tryz.prog (bin .eql 25 (.tmp 86) (.tmp 87) t86 t87) w k14) w fun t88 w =>
  pk t85 t88 (.bool false) fun t89 =>
  mv t89 fun t90 =>
  gd t90 true (fun k15 => mv t13 fun v => k15 v w) w fun t91 w =>
  gd t90 true (fun k16 => C Tryz.prog N.isthmuslaw11_num #[t91] w k16) w fun t92 w =>
  gd t90 true (fun k17 => mv t15 fun v => k17 v w) w fun t93 w =>
  gd t90 true (fun k18 => o1 Tryz.prog (bin .eql 3 (.tmp 92) (.tmp 93) t92 t93) w k18) w fun t94 w =>
  pk t90 t94 (.bool false) fun t95 =>
  mv t95 fun t96 =>
  gd t96 true (fun k19 => o1 Tryz.prog (Instr.fieldAt 31 t16 0) w k19) w fun t97 w =>
  gd t96 true (fun k20 => o1 Tryz.prog (Instr.loadAt 25 t97) w k20) w fun t98 w =>
  gd t96 true (fun k21 => o1 Tryz.prog (Instr.fieldAt 31 t18 0) w k21) w fun t99 w =>
  gd t96 true (fun k22 => o1 Tryz.prog (Instr.loadAt 25 t99) w k22) w fun t100 w =>
  gd t96 true (fun k23 => o1 Tryz.prog (bin .eql 25 (.tmp 98) (.tmp 100) t98 t100) w k23) w fun t101 w =>
  pk t96 t101 (.bool false) fun t102 =>
  mv t102 fun t103 =>
  gd t103 true (fun k24 => o1 Tryz.prog (Instr.fieldAt 31 t16 1) w k24) w fun t104 w =>
  gd t103 true (fun k25 => o1 Tryz.prog (Instr.loadAt 26 t104) w k25) w fun t105 w =>
  gd t103 true (fun k26 => o1 Tryz.prog (Instr.fieldAt 31 t18 1) w k26) w fun t106 w =>
  gd t103 true (fun k27 => o1 Tryz.prog (Instr.loadAt 26 t106) w k27) w fun t107 w =>
  gd t103 true (fun k28 => C Tryz.prog N.isthmuslaw11_lists #[t105, t107] w k28) w fun t108 w =>
  pk t103 t108 (.bool false) fun t109 =>
  mv t109 fun t110 =>
  gd t110 true (fun k29 => o1 Tryz.prog (Instr.fieldAt 31 t16 2) w k29) w fun t111 w =>
  gd t110 true (fun k30 => o1 Tryz.prog (Instr.loadAt 29 t111) w k30) w fun t112 w =>
  gd t110 true (fun k31 => o1 Tryz.prog (Instr.fieldAt 31 t18 2) w k31) w fun t113 w =>
  gd t110 true (fun k32 => o1 Tryz.prog (Instr.loadAt 29 t113) w k32) w fun t114 w =>
  gd t110 true (fun k33 => C Tryz.prog N.isthmuslaw11_commit #[t112, t114] w k33) w fun t115 w =>
  pk t110 t115 (.bool false) fun t116 =>
  mv t116 fun t117 =>
  gd t117 true (fun k34 => mv t17 fun v => k34 v w) w fun t118 w =>
  gd t117 true (fun k35 => C Tryz.prog N.isthmuslaw11_num #[t118] w k35) w fun t119 w =>
  gd t117 true (fun k36 => mv t19 fun v => k36 v w) w fun t120 w =>
  gd t117 true (fun k37 => o1 Tryz.prog (bin .eql 3 (.tmp 119) (.tmp 120) t119 t120) w k37) w fun t121 w =>
  pk t117 t121 (.bool false) fun t122 =>
  mv t122 fun t123 =>
  gd t123 true (fun k38 => mv t3_1 fun v => k38 v w) w fun t124 w =>
  gd t123 true (fun k39 => o1 Tryz.prog (convert 39 9 t124) w k39) w fun t125 w =>
  gd t123 true (fun k40 => mv a0 fun v => k40 v w) w fun t126 w =>
  gd t123 true (fun k41 => o1 Tryz.prog (convert 39 9 t126) w k41) w fun t127 w =>
  gd t123 true (fun k42 => o1 Tryz.prog (bin .eql 9 (.tmp 125) (.tmp 127) t125 t127) w k42) w fun t128 w =>
  pk t123 t128 (.bool false) fun t129 =>
  mv t129 fun t130 =>
  gd t130 true (fun k43 => C Tryz.prog N.isthmuslaw11_sure #[] w k43) w fun t131 w =>
  pk t130 t131 (.bool false) fun t132 =>
  mv t132 fun t2_1 =>
  k t2_1 w
theorem C.isthmuslaw11_TypesReads {k : Value → World → Prop} {a0 : Value} {w : World} (h : F.isthmuslaw11_TypesReads k a0 w) : C Tryz.prog N.isthmuslaw11_TypesReads #[a0] w k :=
  den_calls (H := { moves := [], vars := [2, 3, 5, 7, 9, 11, 13, 15, 17, 19] }) (args := [a0]) mixed Tryz.func4 (by kernel_rfl) (by kernel_rfl) (by kernel_rfl) h

-- isthmus/isthmuslaw11.num
def F.isthmuslaw11_num (k : Value → World → Prop) (a0 : Value) (w : World) : Prop :=
  mv (.int .i64 0) fun t2 =>
  o1 Tryz.prog (Instr.alloc 93 true (.tuple #[])) w fun t3 w =>
  mv a0 fun t4 =>
  o1 Tryz.prog (bin .eql 34 (.tmp 4) (.const .nilIface) t4 .nilIface) w fun t5 w =>
  br t5 (fun _ =>
  mv (.int .i64 0) fun t2_1 =>
  k t2_1 w) (fun _ =>
  mv a0 fun t6 =>
  o1 Tryz.prog (Instr.makeInterface 95 t3) w fun t7 w =>
  C Tryz.prog N.errors_As #[t6, t7] w fun t8 w =>
  br t8 (fun _ =>
  o1 Tryz.prog (Instr.loadAt 93 t3) w fun t9 w =>
  mv t9 fun t2_2 =>
  k t2_2 w) (fun _ =>
  mv (.int .i64 (-1)) fun t2_3 =>
  k t2_3 w))
theorem C.isthmuslaw11_num {k : Value → World → Prop} {a0 : Value} {w : World} (h : F.isthmuslaw11_num k a0 w) : C Tryz.prog N.isthmuslaw11_num #[a0] w k :=
  den_calls (H := { moves := [], vars := [2] }) (args := [a0]) mixed Tryz.func7 (by kernel_rfl) (by kernel_rfl) (by kernel_rfl) h

-- isthmus/types.EncodeBlock
def F.types_EncodeBlock (k : Value → World → Prop) (a0 : Value) (w : World) : Prop :=
  o1 Tryz.prog (Instr.box 31 a0) w fun t1 w =>
  mv (.slice none 0 0) fun t2 =>
  o1 Tryz.prog (Instr.loadAt 31 t1) w fun t3 w =>
  C Tryz.prog N.types_encode_api_Block #[t3, .func (.func 62) #[] #[]] w fun t4 w =>
  mv t4 fun t2_1 =>
  k t2_1 w
theorem C.types_EncodeBlock {k : Value → World → Prop} {a0 : Value} {w : World} (h : F.types_EncodeBlock k a0 w) : C Tryz.prog N.types_EncodeBlock #[a0] w k :=
  den_calls (H := { moves := [], vars := [2] }) (args := [a0]) mixed Tryz.func14 (by kernel_rfl) (by kernel_rfl) (by kernel_rfl) h

-- isthmus/isthmusref11.Block
def F.isthmusref11_Block (k : Value → World → Prop) (a0 a1 : Value) (w : World) : Prop :=
  o1 Tryz.prog (Instr.box 31 a1) w fun t3 w =>
  mv (.slice none 0 0) fun t4 =>
  dr w.drew fun S1 =>
  mv a0 fun t6 =>
  tk Tryz.prog S1 (Instr.fieldAt 31 t3 0) fun t7 =>
  tk Tryz.prog S1 (Instr.loadAt 25 t7) fun t8 =>
  tk Tryz.prog S1 (Instr.fieldAt 31 t3 1) fun t10 =>
  tk Tryz.prog S1 (Instr.loadAt 26 t10) fun t11 =>
  tk Tryz.prog S1 (Builtin.len_ #[26] 3 #[t11]) fun t12 =>
  tk Tryz.prog S1 (convert 3 105 t12) fun t13 =>
  C Tryz.prog N.isthmusref11_Header #[t6, t8] w.drew fun t9 w =>
  S1 w ∧
  C Tryz.prog N.isthmusref02_Uint #[t9, t13] w fun t14 w =>
  S1 w ∧
  mv t14 fun t0 =>
  mv (.int .i64 0) fun t5 =>
  lp [t0, t5] w fun I1 μ1 => ∀ (x1 : Env) (w1 : World), I1 [x1 0, x1 5] w1 →
  mv (x1 5) fun t15 =>
  o1 Tryz.prog (Instr.fieldAt 31 t3 1) w1 fun t16 w =>
  o1 Tryz.prog (Instr.loadAt 26 t16) w fun t17 w =>
  o1 Tryz.prog (Builtin.len_ #[26] 3 #[t17]) w fun t18 w =>
  o1 Tryz.prog (bin .lss 3 (.tmp 15) (.tmp 18) t15 t18) w fun t19 w =>
  br t19 (fun _ =>
  mv (x1 0) fun t22 =>
  o1 Tryz.prog (Instr.fieldAt 31 t3 1) w fun t23 w =>
  o1 Tryz.prog (Instr.loadAt 26 t23) w fun t24 w =>
  mv (x1 5) fun t25 =>
  o1 Tryz.prog (Instr.indexAt 26 t24 t25) w fun t26 w =>
  o1 Tryz.prog (Instr.loadAt 39 t26) w fun t27 w =>
  C Tryz.prog N.isthmusref02_Bytes #[t22, t27] w fun t28 w =>
  mv t28 fun t0_1 =>
  mv (x1 5) fun t20 =>
  o1 Tryz.prog (bin .add 3 (.tmp 20) (.const (.int .i64 1)) t20 (.int .i64 1)) w fun t21 w =>
  mv t21 fun t5_1 =>
  I1 [t0_1, t5_1] w ∧ μ1 [t0_1, t5_1] w < μ1 [x1 0, x1 5] w1) (fun _ =>
  mv (x1 0) fun t29 =>
  o1 Tryz.prog (Instr.fieldAt 31 t3 2) w fun t30 w =>
  o1 Tryz.prog (Instr.loadAt 29 t30) w fun t31 w =>
  C Tryz.prog N.isthmusref11_Commit #[t29, t31] w fun t32 w =>
  mv t32 fun t4_1 =>
  k t4_1 w)
theorem C.isthmusref11_Block {k : Value → World → Prop} {a0 a1 : Value} {w : World} (h : F.isthmusref11_Block k a0 a1 w) : C Tryz.prog N.isthmusref11_Block #[a0, a1] w k :=
  den_calls (H := { moves := [(1, (.take 0 (.take 1 (.take 2 (.take 4 (.take 5 (.take 6 (.take 7 (.force 3 (.force 8 (.take 9 .fin)))))))))))], vars := [0, 4, 5] }) (args := [a0, a1]) mixed Tryz.func15 (by kernel_rfl) (by kernel_rfl) (by kernel_rfl) h

-- isthmus/types.EncodeHeader
def F.types_EncodeHeader (k : Value → World → Prop) (a0 : Value) (w : World) : Prop :=
  o1 Tryz.prog (Instr.box 25 a0) w fun t1 w =>
  mv (.slice none 0 0) fun t2 =>
  o1 Tryz.prog (Instr.loadAt 25 t1) w fun t3 w =>
  C Tryz.prog N.types_encode_api_Header #[t3, .func (.func 66) #[] #[]] w fun t4 w =>
  mv t4 fun t2_1 =>
  k t2_1 w
theorem C.types_EncodeHeader {k : Value → World → Prop} {a0 : Value} {w : World} (h : F.types_EncodeHeader k a0 w) : C Tryz.prog N.types_EncodeHeader #[a0] w k :=
  den_calls (H := { moves := [], vars := [2] }) (args := [a0]) mixed Tryz.func16 (by kernel_rfl) (by kernel_rfl) (by kernel_rfl) h

-- isthmus/isthmusref11.Header
def F.isthmusref11_Header (k : Value → World → Prop) (a0 a1 : Value) (w : World) : Prop :=
  o1 Tryz.prog (Instr.box 25 a1) w fun t3 w =>
  mv (.slice none 0 0) fun t4 =>
  dr w.drew fun S1 =>
  mv a0 fun t5 =>
  tk Tryz.prog S1 (Instr.fieldAt 25 t3 0) fun t6 =>
  tk Tryz.prog S1 (Instr.loadAt 9 t6) fun t7 =>
  tk Tryz.prog S1 (Instr.fieldAt 25 t3 1) fun t9 =>
  tk Tryz.prog S1 (Instr.loadAt 3 t9) fun t10 =>
  tk Tryz.prog S1 (Instr.fieldAt 25 t3 2) fun t12 =>
  tk Tryz.prog S1 (Instr.loadAt 3 t12) fun t13 =>
  C Tryz.prog N.isthmusref02_Text #[t5, t7] w.drew fun t8 w =>
  S1 w ∧
  C Tryz.prog N.isthmusref02_Int #[t8, t10] w fun t11 w =>
  S1 w ∧
  C Tryz.prog N.isthmusref02_Int #[t11, t13] w fun t14 w =>
  S1 w ∧
  mv t14 fun t0 =>
  dr w.drew fun S2 =>
  mv t0 fun t15 =>
  tk Tryz.prog S2 (Instr.fieldAt 25 t3 3) fun t16 =>
  tk Tryz.prog S2 (Instr.loadAt 23 t16) fun t17 =>
  tk Tryz.prog S2 (Instr.fieldAt 25 t3 4) fun t19 =>
  tk Tryz.prog S2 (Instr.loadAt 23 t19) fun t20 =>
  tk Tryz.prog S2 (Instr.fieldAt 25 t3 5) fun t22 =>
  tk Tryz.prog S2 (Instr.loadAt 23 t22) fun t23 =>
  tk Tryz.prog S2 (Instr.fieldAt 25 t3 6) fun t25 =>
  tk Tryz.prog S2 (Instr.loadAt 23 t25) fun t26 =>
  tk Tryz.prog S2 (Instr.fieldAt 25 t3 7) fun t28 =>
  tk Tryz.prog S2 (Instr.loadAt 23 t28) fun t29 =>
  C Tryz.prog N.isthmusref02_Hash #[t15, t17] w.drew fun t18 w =>
  S2 w ∧
  C Tryz.prog N.isthmusref02_Hash #[t18, t20] w fun t21 w =>
  S2 w ∧
  C Tryz.prog N.isthmusref02_Hash #[t21, t23] w fun t24 w =>
  S2 w ∧
  C Tryz.prog N.isthmusref02_Hash #[t24, t26] w fun t27 w =>
  S2 w ∧
  C Tryz.prog N.isthmusref02_Hash #[t27, t29] w fun t30 w =>
  S2 w ∧
  mv t30 fun t0_1 =>
  mv t0_1 fun t31 =>
  o1 Tryz.prog (Instr.fieldAt 25 t3 8) w fun t32 w =>
  o1 Tryz.prog (Instr.loadAt 3 t32) w fun t33 w =>
  C Tryz.prog N.isthmusref02_Int #[t31, t33] w fun t34 w =>
  mv t34 fun t4_1 =>
  k t4_1 w
theorem C.isthmusref11_Header {k : Value → World → Prop} {a0 a1 : Value} {w : World} (h : F.isthmusref11_Header k a0 a1 w) : C Tryz.prog N.isthmusref11_Header #[a0, a1] w k :=
  den_calls (H := { moves := [(1, (.take 0 (.take 1 (.take 2 (.take 4 (.take 5 (.take 7 (.take 8 (.force 3 (.force 6 (.force 9 (.take 10 .fin)))))))))))), (2, (.take 0 (.take 1 (.take 2 (.take 4 (.take 5 (.take 7 (.take 8 (.take 10 (.take 11 (.take 13 (.take 14 (.force 3 (.force 6 (.force 9 (.force 12 (.force 15 (.take 16 .fin))))))))))))))))))], vars := [0, 4] }) (args := [a0, a1]) mixed Tryz.func17 (by kernel_rfl) (by kernel_rfl) (by kernel_rfl) h

-- isthmus/types.EncodeCommit
def F.types_EncodeCommit (k : Value → World → Prop) (a0 : Value) (w : World) : Prop :=
  o1 Tryz.prog (Instr.box 29 a0) w fun t1 w =>
  mv (.slice none 0 0) fun t2 =>
  o1 Tryz.prog (Instr.loadAt 29 t1) w fun t3 w =>
  C Tryz.prog N.types_encode_api_Commit #[t3, .func (.func 71) #[] #[]] w fun t4 w =>
  mv t4 fun t2_1 =>
  k t2_1 w
theorem C.types_EncodeCommit {k : Value → World → Prop} {a0 : Value} {w : World} (h : F.types_EncodeCommit k a0 w) : C Tryz.prog N.types_EncodeCommit #[a0] w k :=
  den_calls (H := { moves := [], vars := [2] }) (args := [a0]) mixed Tryz.func18 (by kernel_rfl) (by kernel_rfl) (by kernel_rfl) h

-- isthmus/isthmusref11.Commit
def F.isthmusref11_Commit (k : Value → World → Prop) (a0 a1 : Value) (w : World) : Prop :=
  o1 Tryz.prog (Instr.box 29 a1) w fun t3 w =>
  mv (.slice none 0 0) fun t4 =>
  dr w.drew fun S1 =>
  mv a0 fun t6 =>
  tk Tryz.prog S1 (Instr.fieldAt 29 t3 0) fun t7 =>
  tk Tryz.prog S1 (Instr.loadAt 3 t7) fun t8 =>
  tk Tryz.prog S1 (Instr.fieldAt 29 t3 1) fun t10 =>
  tk Tryz.prog S1 (Instr.loadAt 3 t10) fun t11 =>
  tk Tryz.prog S1 (Instr.fieldAt 29 t3 2) fun t13 =>
  tk Tryz.prog S1 (Instr.loadAt 23 t13) fun t14 =>
  tk Tryz.prog S1 (Instr.fieldAt 29 t3 3) fun t16 =>
  tk Tryz.prog S1 (Instr.loadAt 27 t16) fun t17 =>
  tk Tryz.prog S1 (Builtin.len_ #[27] 3 #[t17]) fun t18 =>
  tk Tryz.prog S1 (convert 3 105 t18) fun t19 =>
  C Tryz.prog N.isthmusref02_Int #[t6, t8] w.drew fun t9 w =>
  S1 w ∧
  C Tryz.prog N.isthmusref02_Int #[t9, t11] w fun t12 w =>
  S1 w ∧
  C Tryz.prog N.isthmusref02_Hash #[t12, t14] w fun t15 w =>
  S1 w ∧
  C Tryz.prog N.isthmusref02_Uint #[t15, t19] w fun t20 w =>
  S1 w ∧
  mv t20 fun t0 =>
  mv (.int .i64 0) fun t5 =>
  lp [t0, t5] w fun I1 μ1 => ∀ (x1 : Env) (w1 : World), I1 [x1 0, x1 5] w1 →
  mv (x1 5) fun t21 =>
  o1 Tryz.prog (Instr.fieldAt 29 t3 3) w1 fun t22 w =>
  o1 Tryz.prog (Instr.loadAt 27 t22) w fun t23 w =>
  o1 Tryz.prog (Builtin.len_ #[27] 3 #[t23]) w fun t24 w =>
  o1 Tryz.prog (bin .lss 3 (.tmp 21) (.tmp 24) t21 t24) w fun t25 w =>
  br t25 (fun _ =>
  mv (x1 0) fun t28 =>
  o1 Tryz.prog (Instr.fieldAt 29 t3 3) w fun t29 w =>
  o1 Tryz.prog (Instr.loadAt 27 t29) w fun t30 w =>
  mv (x1 5) fun t31 =>
  o1 Tryz.prog (Instr.indexAt 27 t30 t31) w fun t32 w =>
  o1 Tryz.prog (Instr.loadAt 49 t32) w fun t33 w =>
  C Tryz.prog N.isthmusref11_Vote #[t28, t33] w fun t34 w =>
  mv t34 fun t0_1 =>
  mv (x1 5) fun t26 =>
  o1 Tryz.prog (bin .add 3 (.tmp 26) (.const (.int .i64 1)) t26 (.int .i64 1)) w fun t27 w =>
  mv t27 fun t5_1 =>
  I1 [t0_1, t5_1] w ∧ μ1 [t0_1, t5_1] w < μ1 [x1 0, x1 5] w1) (fun _ =>
  mv (x1 0) fun t35 =>
  mv t35 fun t4_1 =>
  k t4_1 w)
theorem C.isthmusref11_Commit {k : Value → World → Prop} {a0 a1 : Value} {w : World} (h : F.isthmusref11_Commit k a0 a1 w) : C Tryz.prog N.isthmusref11_Commit #[a0, a1] w k :=
  den_calls (H := { moves := [(1, (.take 0 (.take 1 (.take 2 (.take 4 (.take 5 (.take 7 (.take 8 (.take 10 (.take 11 (.take 12 (.take 13 (.force 3 (.force 6 (.force 9 (.force 14 (.take 15 .fin)))))))))))))))))], vars := [0, 4, 5] }) (args := [a0, a1]) mixed Tryz.func19 (by kernel_rfl) (by kernel_rfl) (by kernel_rfl) h

-- isthmus/isthmuslaw11.sure
def F.isthmuslaw11_sure (k : Value → World → Prop) (w : World) : Prop :=
  mv (.bool false) fun t0 =>
  o1 Tryz.prog (Instr.build 76 #[(0, .string ⟨#[97]⟩), (2, .int .i64 3)]) w fun t2 w =>
  o1 Tryz.prog (Instr.build 76 #[(0, .string ⟨#[98]⟩), (2, .int .i64 1)]) w fun t3 w =>
  o1 Tryz.prog (Instr.buildSlice 70 2 #[(0, t2), (1, t3)]) w fun t4 w =>
  mv t4 fun t1 =>
  mv t1 fun t5 =>
  C Tryz.prog N.types_CheckSet #[t5] w fun t6 w =>
  o1 Tryz.prog (bin .eql 34 (.tmp 6) (.const .nilIface) t6 .nilIface) w fun t7 w =>
  mv t7 fun t8 =>
  gd t8 true (fun k1 => mv t1 fun v => k1 v w) w fun t9 w =>
  gd t8 true (fun k2 => C Tryz.prog N.types_Total #[t9] w k2) w fun t10 w =>
  gd t8 true (fun k3 => o1 Tryz.prog (bin .eql 3 (.tmp 10) (.const (.int .i64 4)) t10 (.int .i64 4)) w k3) w fun t11 w =>
  pk t8 t11 (.bool false) fun t12 =>
  mv t12 fun t13 =>
  gd t13 true (fun k4 => mv t1 fun v => k4 v w) w fun t14 w =>
  gd t13 true (fun k5 => mv t1 fun v => k5 v w) w fun t15 w =>
  gd t13 true (fun k6 => o1 Tryz.prog (Instr.build 49 #[(4, .int .i64 1)]) w k6) w fun t16 w =>
  gd t13 true (fun k7 => o1 Tryz.prog (Instr.buildSlice 27 1 #[(0, t16)]) w k7) w fun t17 w =>
  gd t13 true (fun k8 => o1 Tryz.prog (Instr.build 29 #[(3, t17)]) w k8) w fun t18 w =>
  gd t13 true (fun k9 => C Tryz.prog N.types_VerifyTrust #[t14, t15, t18] w k9) w fun t19 w =>
  gd t13 true (fun k10 => C Tryz.prog N.isthmuslaw11_num #[t19] w k10) w fun t20 w =>
  gd t13 true (fun k11 => o1 Tryz.prog (bin .eql 3 (.tmp 20) (.const (.int .i64 32)) t20 (.int .i64 32)) w k11) w fun t21 w =>
  pk t13 t21 (.bool false) fun t22 =>
  mv t22 fun t23 =>
  gd t23 true (fun k12 => mv t1 fun v => k12 v w) w fun t24 w =>
  gd t23 true (fun k13 => mv t1 fun v => k13 v w) w fun t25 w =>
  gd t23 true (fun k14 => o1 Tryz.prog (Instr.build 49 #[(4, .int .i64 0)]) w k14) w fun t26 w =>
  gd t23 true (fun k15 => o1 Tryz.prog (Instr.buildSlice 27 1 #[(0, t26)]) w k15) w fun t27 w =>
  gd t23 true (fun k16 => o1 Tryz.prog (Instr.build 29 #[(3, t27)]) w k16) w fun t28 w =>
  gd t23 true (fun k17 => C Tryz.prog N.types_VerifyTrust #[t24, t25, t28] w k17) w fun t29 w =>
  gd t23 true (fun k18 => o1 Tryz.prog (bin .eql 34 (.tmp 29) (.const .nilIface) t29 .nilIface) w k18) w fun t30 w =>
  pk t23 t30 (.bool false) fun t31 =>
  mv t31 fun t0_1 =>
  k t0_1 w
theorem C.isthmuslaw11_sure {k : Value → World → Prop} {w : World} (h : F.isthmuslaw11_sure k  w) : C Tryz.prog N.isthmuslaw11_sure #[] w k :=
  den_calls (H := { moves := [], vars := [0, 1] }) (args := []) mixed Tryz.func20 (by kernel_rfl) (by kernel_rfl) (by kernel_rfl) h

-- isthmus/types.DecodeVote
def F.types_DecodeVote (k : Value → World → Prop) (a0 : Value) (w : World) : Prop :=
  o1 Tryz.prog (Instr.alloc 49 true (.tuple #[])) w fun t2 w =>
  mv .nilIface fun t3 =>
  mv a0 fun t4 =>
  C Tryz.prog N.types_decode_api_Vote #[t4, .func (.func 75) #[] #[]] w fun t5 w =>
  o1 Tryz.prog (Instr.extract t5 0) w fun t6 w =>
  o1 Tryz.prog (Instr.extract t5 1) w fun t7 w =>
  o0 Tryz.prog (Instr.storeAt 49 t2 t6) w fun _ w =>
  mv t7 fun t3_1 =>
  rc Tryz.prog 49 t2 w fun r0 =>
  k (.tuple #[r0, t3_1]) w
theorem C.types_DecodeVote {k : Value → World → Prop} {a0 : Value} {w : World} (h : F.types_DecodeVote k a0 w) : C Tryz.prog N.types_DecodeVote #[a0] w k :=
  den_calls (H := { moves := [], vars := [3] }) (args := [a0]) mixed Tryz.func21 (by kernel_rfl) (by kernel_rfl) (by kernel_rfl) h

-- isthmus/isthmusref11.DecodeVote
def F.isthmusref11_DecodeVote (k : Value → World → Prop) (a0 : Value) (w : World) : Prop :=
  o1 Tryz.prog (Instr.alloc 49 true (.tuple #[])) w fun t2 w =>
  mv (.int .i64 0) fun t3 =>
  mv a0 fun t7 =>
  o1 Tryz.prog (Instr.build 119 #[(0, t7)]) w fun t8 w =>
  C Tryz.prog N.isthmusref11_ReadVote #[t8] w fun t9 w =>
  mv t9 fun t6 =>
  o1 Tryz.prog (Instr.extract t6 0) w fun t10 w =>
  o1 Tryz.prog (Instr.extract t6 1) w fun t11 w =>
  o1 Tryz.prog (Instr.alloc 119 true (.tuple #[])) w fun t4 w =>
  o1 Tryz.prog (Instr.alloc 49 true (.tuple #[])) w fun t5 w =>
  o0 Tryz.prog (Instr.storeAt 119 t4 t10) w fun _ w =>
  o0 Tryz.prog (Instr.storeAt 49 t5 t11) w fun _ w =>
  o1 Tryz.prog (Instr.loadAt 119 t4) w fun t12 w =>
  C Tryz.prog N.isthmusref02_Done #[t12] w fun t13 w =>
  o1 Tryz.prog (bin .neq 3 (.tmp 13) (.const (.int .i64 0)) t13 (.int .i64 0)) w fun t14 w =>
  br t14 (fun _ =>
  o1 Tryz.prog (Instr.build 49 #[]) w fun t15 w =>
  o0 Tryz.prog (Instr.storeAt 49 t2 t15) w fun _ w =>
  mv (.int .i64 3) fun t3_1 =>
  rc Tryz.prog 49 t2 w fun r0 =>
  k (.tuple #[r0, t3_1]) w) (fun _ =>
  o1 Tryz.prog (Instr.loadAt 49 t5) w fun t16 w =>
  o0 Tryz.prog (Instr.storeAt 49 t2 t16) w fun _ w =>
  mv (.int .i64 0) fun t3_2 =>
  rc Tryz.prog 49 t2 w fun r0 =>
  k (.tuple #[r0, t3_2]) w)
theorem C.isthmusref11_DecodeVote {k : Value → World → Prop} {a0 : Value} {w : World} (h : F.isthmusref11_DecodeVote k a0 w) : C Tryz.prog N.isthmusref11_DecodeVote #[a0] w k :=
  den_calls (H := { moves := [], vars := [3] }) (args := [a0]) mixed Tryz.func22 (by kernel_rfl) (by kernel_rfl) (by kernel_rfl) h

-- isthmus/types.DecodeCommit
def F.types_DecodeCommit (k : Value → World → Prop) (a0 : Value) (w : World) : Prop :=
  o1 Tryz.prog (Instr.alloc 29 true (.tuple #[])) w fun t2 w =>
  mv .nilIface fun t3 =>
  mv a0 fun t4 =>
  C Tryz.prog N.types_decode_api_Commit #[t4, .func (.func 79) #[] #[]] w fun t5 w =>
  o1 Tryz.prog (Instr.extract t5 0) w fun t6 w =>
  o1 Tryz.prog (Instr.extract t5 1) w fun t7 w =>
  o0 Tryz.prog (Instr.storeAt 29 t2 t6) w fun _ w =>
  mv t7 fun t3_1 =>
  rc Tryz.prog 29 t2 w fun r0 =>
  k (.tuple #[r0, t3_1]) w
theorem C.types_DecodeCommit {k : Value → World → Prop} {a0 : Value} {w : World} (h : F.types_DecodeCommit k a0 w) : C Tryz.prog N.types_DecodeCommit #[a0] w k :=
  den_calls (H := { moves := [], vars := [3] }) (args := [a0]) mixed Tryz.func23 (by kernel_rfl) (by kernel_rfl) (by kernel_rfl) h

-- isthmus/isthmusref11.DecodeCommit
def F.isthmusref11_DecodeCommit (k : Value → World → Prop) (a0 : Value) (w : World) : Prop :=
  o1 Tryz.prog (Instr.alloc 29 true (.tuple #[])) w fun t2 w =>
  mv (.int .i64 0) fun t3 =>
  mv a0 fun t7 =>
  o1 Tryz.prog (Instr.build 119 #[(0, t7)]) w fun t8 w =>
  C Tryz.prog N.isthmusref11_ReadCommit #[t8] w fun t9 w =>
  mv t9 fun t6 =>
  o1 Tryz.prog (Instr.extract t6 0) w fun t10 w =>
  o1 Tryz.prog (Instr.extract t6 1) w fun t11 w =>
  o1 Tryz.prog (Instr.alloc 119 true (.tuple #[])) w fun t4 w =>
  o1 Tryz.prog (Instr.alloc 29 true (.tuple #[])) w fun t5 w =>
  o0 Tryz.prog (Instr.storeAt 119 t4 t10) w fun _ w =>
  o0 Tryz.prog (Instr.storeAt 29 t5 t11) w fun _ w =>
  o1 Tryz.prog (Instr.loadAt 119 t4) w fun t12 w =>
  C Tryz.prog N.isthmusref02_Done #[t12] w fun t13 w =>
  o1 Tryz.prog (bin .neq 3 (.tmp 13) (.const (.int .i64 0)) t13 (.int .i64 0)) w fun t14 w =>
  br t14 (fun _ =>
  o1 Tryz.prog (Instr.build 29 #[]) w fun t15 w =>
  o0 Tryz.prog (Instr.storeAt 29 t2 t15) w fun _ w =>
  mv (.int .i64 3) fun t3_1 =>
  rc Tryz.prog 29 t2 w fun r0 =>
  k (.tuple #[r0, t3_1]) w) (fun _ =>
  o1 Tryz.prog (Instr.loadAt 29 t5) w fun t16 w =>
  o0 Tryz.prog (Instr.storeAt 29 t2 t16) w fun _ w =>
  mv (.int .i64 0) fun t3_2 =>
  rc Tryz.prog 29 t2 w fun r0 =>
  k (.tuple #[r0, t3_2]) w)
theorem C.isthmusref11_DecodeCommit {k : Value → World → Prop} {a0 : Value} {w : World} (h : F.isthmusref11_DecodeCommit k a0 w) : C Tryz.prog N.isthmusref11_DecodeCommit #[a0] w k :=
  den_calls (H := { moves := [], vars := [3] }) (args := [a0]) mixed Tryz.func24 (by kernel_rfl) (by kernel_rfl) (by kernel_rfl) h

-- isthmus/types.DecodeHeader
def F.types_DecodeHeader (k : Value → World → Prop) (a0 : Value) (w : World) : Prop :=
  o1 Tryz.prog (Instr.alloc 25 true (.tuple #[])) w fun t2 w =>
  mv .nilIface fun t3 =>
  mv a0 fun t4 =>
  C Tryz.prog N.types_decode_api_Header #[t4, .func (.func 82) #[] #[]] w fun t5 w =>
  o1 Tryz.prog (Instr.extract t5 0) w fun t6 w =>
  o1 Tryz.prog (Instr.extract t5 1) w fun t7 w =>
  o0 Tryz.prog (Instr.storeAt 25 t2 t6) w fun _ w =>
  mv t7 fun t3_1 =>
  rc Tryz.prog 25 t2 w fun r0 =>
  k (.tuple #[r0, t3_1]) w
theorem C.types_DecodeHeader {k : Value → World → Prop} {a0 : Value} {w : World} (h : F.types_DecodeHeader k a0 w) : C Tryz.prog N.types_DecodeHeader #[a0] w k :=
  den_calls (H := { moves := [], vars := [3] }) (args := [a0]) mixed Tryz.func25 (by kernel_rfl) (by kernel_rfl) (by kernel_rfl) h

-- isthmus/isthmusref11.DecodeHeader
def F.isthmusref11_DecodeHeader (k : Value → World → Prop) (a0 : Value) (w : World) : Prop :=
  o1 Tryz.prog (Instr.alloc 25 true (.tuple #[])) w fun t2 w =>
  mv (.int .i64 0) fun t3 =>
  mv a0 fun t7 =>
  o1 Tryz.prog (Instr.build 119 #[(0, t7)]) w fun t8 w =>
  C Tryz.prog N.isthmusref11_ReadHeader #[t8] w fun t9 w =>
  mv t9 fun t6 =>
  o1 Tryz.prog (Instr.extract t6 0) w fun t10 w =>
  o1 Tryz.prog (Instr.extract t6 1) w fun t11 w =>
  o1 Tryz.prog (Instr.alloc 119 true (.tuple #[])) w fun t4 w =>
  o1 Tryz.prog (Instr.alloc 25 true (.tuple #[])) w fun t5 w =>
  o0 Tryz.prog (Instr.storeAt 119 t4 t10) w fun _ w =>
  o0 Tryz.prog (Instr.storeAt 25 t5 t11) w fun _ w =>
  o1 Tryz.prog (Instr.loadAt 119 t4) w fun t12 w =>
  C Tryz.prog N.isthmusref02_Done #[t12] w fun t13 w =>
  o1 Tryz.prog (bin .neq 3 (.tmp 13) (.const (.int .i64 0)) t13 (.int .i64 0)) w fun t14 w =>
  br t14 (fun _ =>
  o1 Tryz.prog (Instr.build 25 #[]) w fun t15 w =>
  o0 Tryz.prog (Instr.storeAt 25 t2 t15) w fun _ w =>
  mv (.int .i64 3) fun t3_1 =>
  rc Tryz.prog 25 t2 w fun r0 =>
  k (.tuple #[r0, t3_1]) w) (fun _ =>
  o1 Tryz.prog (Instr.loadAt 25 t5) w fun t16 w =>
  o0 Tryz.prog (Instr.storeAt 25 t2 t16) w fun _ w =>
  mv (.int .i64 0) fun t3_2 =>
  rc Tryz.prog 25 t2 w fun r0 =>
  k (.tuple #[r0, t3_2]) w)
theorem C.isthmusref11_DecodeHeader {k : Value → World → Prop} {a0 : Value} {w : World} (h : F.isthmusref11_DecodeHeader k a0 w) : C Tryz.prog N.isthmusref11_DecodeHeader #[a0] w k :=
  den_calls (H := { moves := [], vars := [3] }) (args := [a0]) mixed Tryz.func26 (by kernel_rfl) (by kernel_rfl) (by kernel_rfl) h

-- isthmus/types.DecodeBlock
def F.types_DecodeBlock (k : Value → World → Prop) (a0 : Value) (w : World) : Prop :=
  o1 Tryz.prog (Instr.alloc 31 true (.tuple #[])) w fun t2 w =>
  mv .nilIface fun t3 =>
  mv a0 fun t4 =>
  C Tryz.prog N.types_decode_api_Block #[t4, .func (.func 85) #[] #[]] w fun t5 w =>
  o1 Tryz.prog (Instr.extract t5 0) w fun t6 w =>
  o1 Tryz.prog (Instr.extract t5 1) w fun t7 w =>
  o0 Tryz.prog (Instr.storeAt 31 t2 t6) w fun _ w =>
  mv t7 fun t3_1 =>
  rc Tryz.prog 31 t2 w fun r0 =>
  k (.tuple #[r0, t3_1]) w
theorem C.types_DecodeBlock {k : Value → World → Prop} {a0 : Value} {w : World} (h : F.types_DecodeBlock k a0 w) : C Tryz.prog N.types_DecodeBlock #[a0] w k :=
  den_calls (H := { moves := [], vars := [3] }) (args := [a0]) mixed Tryz.func27 (by kernel_rfl) (by kernel_rfl) (by kernel_rfl) h

-- isthmus/isthmusref11.DecodeBlock
def F.isthmusref11_DecodeBlock (k : Value → World → Prop) (a0 : Value) (w : World) : Prop :=
  o1 Tryz.prog (Instr.alloc 31 true (.tuple #[])) w fun t2 w =>
  mv (.int .i64 0) fun t3 =>
  mv a0 fun t7 =>
  o1 Tryz.prog (Instr.build 119 #[(0, t7)]) w fun t8 w =>
  C Tryz.prog N.isthmusref11_ReadBlock #[t8] w fun t9 w =>
  mv t9 fun t6 =>
  o1 Tryz.prog (Instr.extract t6 0) w fun t10 w =>
  o1 Tryz.prog (Instr.extract t6 1) w fun t11 w =>
  o1 Tryz.prog (Instr.alloc 119 true (.tuple #[])) w fun t4 w =>
  o1 Tryz.prog (Instr.alloc 31 true (.tuple #[])) w fun t5 w =>
  o0 Tryz.prog (Instr.storeAt 119 t4 t10) w fun _ w =>
  o0 Tryz.prog (Instr.storeAt 31 t5 t11) w fun _ w =>
  o1 Tryz.prog (Instr.loadAt 119 t4) w fun t12 w =>
  C Tryz.prog N.isthmusref02_Done #[t12] w fun t13 w =>
  o1 Tryz.prog (bin .neq 3 (.tmp 13) (.const (.int .i64 0)) t13 (.int .i64 0)) w fun t14 w =>
  br t14 (fun _ =>
  o1 Tryz.prog (Instr.build 31 #[]) w fun t15 w =>
  o0 Tryz.prog (Instr.storeAt 31 t2 t15) w fun _ w =>
  mv (.int .i64 3) fun t3_1 =>
  rc Tryz.prog 31 t2 w fun r0 =>
  k (.tuple #[r0, t3_1]) w) (fun _ =>
  o1 Tryz.prog (Instr.loadAt 31 t5) w fun t16 w =>
  o0 Tryz.prog (Instr.storeAt 31 t2 t16) w fun _ w =>
  mv (.int .i64 0) fun t3_2 =>
  rc Tryz.prog 31 t2 w fun r0 =>
  k (.tuple #[r0, t3_2]) w)
theorem C.isthmusref11_DecodeBlock {k : Value → World → Prop} {a0 : Value} {w : World} (h : F.isthmusref11_DecodeBlock k a0 w) : C Tryz.prog N.isthmusref11_DecodeBlock #[a0] w k :=
  den_calls (H := { moves := [], vars := [3] }) (args := [a0]) mixed Tryz.func28 (by kernel_rfl) (by kernel_rfl) (by kernel_rfl) h

-- isthmus/isthmuslaw11.votes
def F.isthmuslaw11_votes (k : Value → World → Prop) (a0 a1 : Value) (w : World) : Prop :=
  mv (.bool false) fun t4 =>
  mv a0 fun t6 =>
  o1 Tryz.prog (Builtin.len_ #[27] 3 #[t6]) w fun t7 w =>
  mv a1 fun t8 =>
  o1 Tryz.prog (Builtin.len_ #[27] 3 #[t8]) w fun t9 w =>
  o1 Tryz.prog (bin .neq 3 (.tmp 7) (.tmp 9) t7 t9) w fun t10 w =>
  br t10 (fun _ =>
  mv (.bool false) fun t4_1 =>
  k t4_1 w) (fun _ =>
  mv (.int .i64 0) fun t5 =>
  lp [t4, t5] w fun I1 μ1 => ∀ (x1 : Env) (w1 : World), I1 [x1 4, x1 5] w1 →
  mv (x1 5) fun t11 =>
  mv a0 fun t12 =>
  o1 Tryz.prog (Builtin.len_ #[27] 3 #[t12]) w1 fun t13 w =>
  o1 Tryz.prog (bin .lss 3 (.tmp 11) (.tmp 13) t11 t13) w fun t14 w =>
  br t14 (fun _ =>
  dr w.drew fun S1 =>
  mv a0 fun t17 =>
  mv (x1 5) fun t18 =>
  tk Tryz.prog S1 (Instr.indexAt 27 t17 t18) fun t19 =>
  tk Tryz.prog S1 (Instr.loadAt 49 t19) fun t20 =>
  mv a1 fun t23 =>
  mv (x1 5) fun t24 =>
  tk Tryz.prog S1 (Instr.indexAt 27 t23 t24) fun t25 =>
  tk Tryz.prog S1 (Instr.loadAt 49 t25) fun t26 =>
  C Tryz.prog N.types_EncodeVote #[t20] w.drew fun t21 w =>
  S1 w ∧
  nS S1 w fun S2 =>
  tk Tryz.prog S2 (convert 39 9 t21) fun t22 =>
  C Tryz.prog N.isthmusref11_Vote #[.slice none 0 0, t26] w fun t27 w =>
  S2 w ∧
  nS S2 w fun S3 =>
  tk Tryz.prog S3 (convert 39 9 t27) fun t28 =>
  tk Tryz.prog S3 (bin .neq 9 (.tmp 22) (.tmp 28) t22 t28) fun t29 =>
  br t29 (fun _ =>
  mv (.bool false) fun t4_2 =>
  k t4_2 w) (fun _ =>
  mv (x1 5) fun t15 =>
  o1 Tryz.prog (bin .add 3 (.tmp 15) (.const (.int .i64 1)) t15 (.int .i64 1)) w fun t16 w =>
  mv t16 fun t5_1 =>
  I1 [(x1 4), t5_1] w ∧ μ1 [(x1 4), t5_1] w < μ1 [x1 4, x1 5] w1)) (fun _ =>
  mv (.bool true) fun t4_3 =>
  k t4_3 w))
theorem C.isthmuslaw11_votes {k : Value → World → Prop} {a0 a1 : Value} {w : World} (h : F.isthmuslaw11_votes k a0 a1 w) : C Tryz.prog N.isthmuslaw11_votes #[a0, a1] w k :=
  den_calls (H := { moves := [(6, (.take 0 (.take 1 (.take 2 (.take 3 (.take 6 (.take 7 (.take 8 (.take 9 (.force 4 (.renew (.take 5 (.force 10 (.renew (.take 11 (.take 12 .fin))))))))))))))))], vars := [4, 5] }) (args := [a0, a1]) mixed Tryz.func29 (by kernel_rfl) (by kernel_rfl) (by kernel_rfl) h

-- isthmus/isthmuslaw11.commit
def F.isthmuslaw11_commit (k : Value → World → Prop) (a0 a1 : Value) (w : World) : Prop :=
  o1 Tryz.prog (Instr.box 29 a0) w fun t2 w =>
  o1 Tryz.prog (Instr.box 29 a1) w fun t3 w =>
  mv (.bool false) fun t4 =>
  o1 Tryz.prog (Instr.fieldAt 29 t2 0) w fun t5 w =>
  o1 Tryz.prog (Instr.loadAt 3 t5) w fun t6 w =>
  o1 Tryz.prog (Instr.fieldAt 29 t3 0) w fun t7 w =>
  o1 Tryz.prog (Instr.loadAt 3 t7) w fun t8 w =>
  o1 Tryz.prog (bin .eql 3 (.tmp 6) (.tmp 8) t6 t8) w fun t9 w =>
  mv t9 fun t10 =>
  gd t10 true (fun k1 => o1 Tryz.prog (Instr.fieldAt 29 t2 1) w k1) w fun t11 w =>
  gd t10 true (fun k2 => o1 Tryz.prog (Instr.loadAt 3 t11) w k2) w fun t12 w =>
  gd t10 true (fun k3 => o1 Tryz.prog (Instr.fieldAt 29 t3 1) w k3) w fun t13 w =>
  gd t10 true (fun k4 => o1 Tryz.prog (Instr.loadAt 3 t13) w k4) w fun t14 w =>
  gd t10 true (fun k5 => o1 Tryz.prog (bin .eql 3 (.tmp 12) (.tmp 14) t12 t14) w k5) w fun t15 w =>
  pk t10 t15 (.bool false) fun t16 =>
  mv t16 fun t17 =>
  gd t17 true (fun k6 => o1 Tryz.prog (Instr.fieldAt 29 t2 2) w k6) w fun t18 w =>
  gd t17 true (fun k7 => o1 Tryz.prog (Instr.loadAt 23 t18) w k7) w fun t19 w =>
  gd t17 true (fun k8 => o1 Tryz.prog (Instr.fieldAt 29 t3 2) w k8) w fun t20 w =>
  gd t17 true (fun k9 => o1 Tryz.prog (Instr.loadAt 23 t20) w k9) w fun t21 w =>
  gd t17 true (fun k10 => o1 Tryz.prog (bin .eql 23 (.tmp 19) (.tmp 21) t19 t21) w k10) w fun t22 w =>
  pk t17 t22 (.bool false) fun t23 =>
  mv t23 fun t24 =>
  gd t24 true (fun k11 => o1 Tryz.prog (Instr.fieldAt 29 t2 3) w k11) w fun t25 w =>
  gd t24 true (fun k12 => o1 Tryz.prog (Instr.loadAt 27 t25) w k12) w fun t26 w =>
  gd t24 true (fun k13 => o1 Tryz.prog (Instr.fieldAt 29 t3 3) w k13) w fun t27 w =>
  gd t24 true (fun k14 => o1 Tryz.prog (Instr.loadAt 27 t27) w k14) w fun t28 w =>
  gd t24 true (fun k15 => C Tryz.prog N.isthmuslaw11_votes #[t26, t28] w k15) w fun t29 w =>
  pk t24 t29 (.bool false) fun t30 =>
  mv t30 fun t4_1 =>
  k t4_1 w
theorem C.isthmuslaw11_commit {k : Value → World → Prop} {a0 a1 : Value} {w : World} (h : F.isthmuslaw11_commit k a0 a1 w) : C Tryz.prog N.isthmuslaw11_commit #[a0, a1] w k :=
  den_calls (H := { moves := [], vars := [4] }) (args := [a0, a1]) mixed Tryz.func30 (by kernel_rfl) (by kernel_rfl) (by kernel_rfl) h

-- isthmus/isthmuslaw11.lists
def F.isthmuslaw11_lists (k : Value → World → Prop) (a0 a1 : Value) (w : World) : Prop :=
  mv (.bool false) fun t4 =>
  mv a0 fun t6 =>
  o1 Tryz.prog (Builtin.len_ #[26] 3 #[t6]) w fun t7 w =>
  mv a1 fun t8 =>
  o1 Tryz.prog (Builtin.len_ #[26] 3 #[t8]) w fun t9 w =>
  o1 Tryz.prog (bin .neq 3 (.tmp 7) (.tmp 9) t7 t9) w fun t10 w =>
  br t10 (fun _ =>
  mv (.bool false) fun t4_1 =>
  k t4_1 w) (fun _ =>
  mv (.int .i64 0) fun t5 =>
  lp [t4, t5] w fun I1 μ1 => ∀ (x1 : Env) (w1 : World), I1 [x1 4, x1 5] w1 →
  mv (x1 5) fun t11 =>
  mv a0 fun t12 =>
  o1 Tryz.prog (Builtin.len_ #[26] 3 #[t12]) w1 fun t13 w =>
  o1 Tryz.prog (bin .lss 3 (.tmp 11) (.tmp 13) t11 t13) w fun t14 w =>
  br t14 (fun _ =>
  mv a0 fun t17 =>
  mv (x1 5) fun t18 =>
  tk Tryz.prog (fun w' => w' = w.drew) (Instr.indexAt 26 t17 t18) fun t19 =>
  tk Tryz.prog (fun w' => w' = w.drew) (Instr.loadAt 39 t19) fun t20 =>
  tk Tryz.prog (fun w' => w' = w.drew) (convert 39 9 t20) fun t21 =>
  mv a1 fun t22 =>
  mv (x1 5) fun t23 =>
  tk Tryz.prog (fun w' => w' = w.drew) (Instr.indexAt 26 t22 t23) fun t24 =>
  tk Tryz.prog (fun w' => w' = w.drew) (Instr.loadAt 39 t24) fun t25 =>
  tk Tryz.prog (fun w' => w' = w.drew) (convert 39 9 t25) fun t26 =>
  tk Tryz.prog (fun w' => w' = w.drew) (bin .neq 9 (.tmp 21) (.tmp 26) t21 t26) fun t27 =>
  br t27 (fun _ =>
  mv (.bool false) fun t4_2 =>
  k t4_2 w.drew) (fun _ =>
  mv (x1 5) fun t15 =>
  o1 Tryz.prog (bin .add 3 (.tmp 15) (.const (.int .i64 1)) t15 (.int .i64 1)) w.drew fun t16 w =>
  mv t16 fun t5_1 =>
  I1 [(x1 4), t5_1] w ∧ μ1 [(x1 4), t5_1] w < μ1 [x1 4, x1 5] w1)) (fun _ =>
  mv (.bool true) fun t4_3 =>
  k t4_3 w))
theorem C.isthmuslaw11_lists {k : Value → World → Prop} {a0 a1 : Value} {w : World} (h : F.isthmuslaw11_lists k a0 a1 w) : C Tryz.prog N.isthmuslaw11_lists #[a0, a1] w k :=
  den_calls (H := { moves := [(6, (.take 0 (.take 1 (.take 2 (.take 3 (.take 4 (.take 5 (.take 6 (.take 7 (.take 8 (.take 9 (.take 10 .fin))))))))))))], vars := [4, 5] }) (args := [a0, a1]) mixed Tryz.func31 (by kernel_rfl) (by kernel_rfl) (by kernel_rfl) h

-- isthmus/types.CheckSet
def F.types_CheckSet (k : Value → World → Prop) (a0 : Value) (w : World) : Prop :=
  mv .nilIface fun t2 =>
  mv a0 fun t7 =>
  o1 Tryz.prog (Builtin.len_ #[70] 3 #[t7]) w fun t8 w =>
  o1 Tryz.prog (bin .eql 3 (.tmp 8) (.const (.int .i64 0)) t8 (.int .i64 0)) w fun t9 w =>
  mv t9 fun t10 =>
  gd t10 false (fun k1 => mv a0 fun v => k1 v w) w fun t11 w =>
  gd t10 false (fun k2 => o1 Tryz.prog (Builtin.len_ #[70] 3 #[t11]) w k2) w fun t12 w =>
  gd t10 false (fun k3 => o1 Tryz.prog (bin .gtr 3 (.tmp 12) (.const (.int .i64 32)) t12 (.int .i64 32)) w k3) w fun t13 w =>
  pk t10 (.bool true) t13 fun t14 =>
  br t14 (fun _ =>
  C Tryz.prog N.types_fault #[.string ⟨#[115, 101, 116]⟩, .int .i64 30] w fun t15 w =>
  mv t15 fun t2_1 =>
  k t2_1 w) (fun _ =>
  mv (.int .i64 1099511627776) fun t3 =>
  mv a0 fun t16 =>
  o1 Tryz.prog (Builtin.len_ #[70] 3 #[t16]) w fun t17 w =>
  mv (.int .i64 0) fun t18 =>
  lp [t2, t3, undef, undef, t18] w fun I1 μ1 => ∀ (x1 : Env) (w1 : World), I1 [x1 2, x1 3, x1 4, x1 6, x1 18] w1 →
  o1 Tryz.prog (bin .lss 3 (.tmp 18) (.tmp 17) (x1 18) t17) w1 fun t19 w =>
  br t19 (fun _ =>
  mv (x1 18) fun t20 =>
  o1 Tryz.prog (Instr.indexAt 70 t16 (x1 18)) w fun t21 w =>
  o1 Tryz.prog (Instr.loadAt 76 t21) w fun t22 w =>
  o1 Tryz.prog (Instr.alloc 76 true (.tuple #[])) w fun t5 w =>
  mv t20 fun t4 =>
  o0 Tryz.prog (Instr.storeAt 76 t5 t22) w fun _ w =>
  mv a0 fun t23 =>
  mv t4 fun t24 =>
  o1 Tryz.prog (Instr.sliceAt 70 t23 none (some t24) none) w fun t25 w =>
  o1 Tryz.prog (Instr.makeFunc (.func 92) #[] #[t5]) w fun t26 w =>
  C Tryz.prog N.slices_ContainsFunc_api_Validator_api_Validator #[t25, t26] w fun t27 w =>
  mv t27 fun t6 =>
  o1 Tryz.prog (Instr.fieldAt 76 t5 0) w fun t28 w =>
  o1 Tryz.prog (Instr.loadAt 9 t28) w fun t29 w =>
  C Tryz.prog N.types_named #[t29] w fun t30 w =>
  o1 Tryz.prog (Op.unary .not t30) w fun t31 w =>
  mv t31 fun t32 =>
  gd t32 false (fun k4 => mv t6 fun v => k4 v w) w fun t33 w =>
  pk t32 (.bool true) t33 fun t34 =>
  mv t34 fun t35 =>
  gd t35 false (fun k5 => o1 Tryz.prog (Instr.fieldAt 76 t5 2) w k5) w fun t36 w =>
  gd t35 false (fun k6 => o1 Tryz.prog (Instr.loadAt 3 t36) w k6) w fun t37 w =>
  gd t35 false (fun k7 => o1 Tryz.prog (bin .lss 3 (.tmp 37) (.const (.int .i64 1)) t37 (.int .i64 1)) w k7) w fun t38 w =>
  pk t35 (.bool true) t38 fun t39 =>
  mv t39 fun t40 =>
  gd t40 false (fun k8 => o1 Tryz.prog (Instr.fieldAt 76 t5 2) w k8) w fun t41 w =>
  gd t40 false (fun k9 => o1 Tryz.prog (Instr.loadAt 3 t41) w k9) w fun t42 w =>
  gd t40 false (fun k10 => mv (x1 3) fun v => k10 v w) w fun t43 w =>
  gd t40 false (fun k11 => o1 Tryz.prog (bin .gtr 3 (.tmp 42) (.tmp 43) t42 t43) w k11) w fun t44 w =>
  pk t40 (.bool true) t44 fun t45 =>
  br t45 (fun _ =>
  C Tryz.prog N.types_fault #[.string ⟨#[118, 97, 108, 105, 100, 97, 116, 111, 114]⟩, .int .i64 30] w fun t46 w =>
  mv t46 fun t2_2 =>
  k t2_2 w) (fun _ =>
  mv (x1 3) fun t47 =>
  o1 Tryz.prog (Instr.fieldAt 76 t5 2) w fun t48 w =>
  o1 Tryz.prog (Instr.loadAt 3 t48) w fun t49 w =>
  o1 Tryz.prog (bin .sub 3 (.tmp 47) (.tmp 49) t47 t49) w fun t50 w =>
  mv t50 fun t3_1 =>
  o1 Tryz.prog (bin .add 3 (.tmp 18) (.const (.int .i64 1)) (x1 18) (.int .i64 1)) w fun t51 w =>
  mv t51 fun t18_1 =>
  I1 [(x1 2), t3_1, t4, t6, t18_1] w ∧ μ1 [(x1 2), t3_1, t4, t6, t18_1] w < μ1 [x1 2, x1 3, x1 4, x1 6, x1 18] w1)) (fun _ =>
  mv .nilIface fun t2_3 =>
  k t2_3 w))
theorem C.types_CheckSet {k : Value → World → Prop} {a0 : Value} {w : World} (h : F.types_CheckSet k a0 w) : C Tryz.prog N.types_CheckSet #[a0] w k :=
  den_calls (H := { moves := [], vars := [2, 3, 4, 6, 18] }) (args := [a0]) mixed Tryz.func34 (by kernel_rfl) (by kernel_rfl) (by kernel_rfl) h

end Go.Proofs.YtlfelmikcdmkhaaGreatDoor
