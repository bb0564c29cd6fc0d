/- What each function asks: printed by hoas.py off the loaded program; each is held against the program by the kernel. -/
import Derived.Test.YtlfelmikcdmkhaaDoorN
set_option linter.unusedVariables false
set_option linter.unusedSimpArgs false
set_option linter.unusedSectionVars false
namespace Go.Proofs.YtlfelmikcdmkhaaDoor
open Go Go.Isk
set_option maxRecDepth 100000
-- gosem.cut.init
-- isthmus/isthmuslaw11.TypesBack
def F.isthmuslaw11_TypesBack (k : Value → World → Prop) (a0 : Value) (w : World) : Prop :=
  o1 Tryd.prog (Instr.box 31 a0) w fun t1 w =>
  mv (.bool false) fun t2 =>
  o1 Tryd.prog (Instr.fieldAt 31 t1 1) w fun t12 w =>
  o1 Tryd.prog (Instr.loadAt 26 t12) w fun t13 w =>
  o1 Tryd.prog (Builtin.len_ #[26] 3 #[t13]) w fun t14 w =>
  o1 Tryd.prog (bin .gtr 3 (.tmp 14) (.const (.int .i64 64)) t14 (.int .i64 64)) w fun t15 w =>
  mv t15 fun t16 =>
  gd t16 false (fun k1 => o1 Tryd.prog (Instr.fieldAt 31 t1 2) w k1) w fun t17 w =>
  gd t16 false (fun k2 => o1 Tryd.prog (Instr.fieldAt 29 t17 3) w k2) w fun t18 w =>
  gd t16 false (fun k3 => o1 Tryd.prog (Instr.loadAt 27 t18) w k3) w fun t19 w =>
  gd t16 false (fun k4 => o1 Tryd.prog (Builtin.len_ #[27] 3 #[t19]) w k4) w fun t20 w =>
  gd t16 false (fun k5 => o1 Tryd.prog (bin .gtr 3 (.tmp 20) (.const (.int .i64 32)) t20 (.int .i64 32)) w k5) w fun t21 w =>
  pk t16 (.bool true) t21 fun t22 =>
  mv t22 fun t23 =>
  gd t23 false (fun k6 => o1 Tryd.prog (Instr.fieldAt 31 t1 0) w k6) w fun t24 w =>
  gd t23 false (fun k7 => o1 Tryd.prog (Instr.fieldAt 25 t24 0) w k7) w fun t25 w =>
  gd t23 false (fun k8 => o1 Tryd.prog (Instr.loadAt 9 t25) w k8) w fun t26 w =>
  gd t23 false (fun k9 => o1 Tryd.prog (Builtin.len_ #[9] 3 #[t26]) w k9) w fun t27 w =>
  gd t23 false (fun k10 => o1 Tryd.prog (bin .gtr 3 (.tmp 27) (.const (.int .i64 64)) t27 (.int .i64 64)) w k10) w fun t28 w =>
  pk t23 (.bool true) t28 fun t29 =>
  br t29 (fun _ =>
  C Tryd.prog N.isthmuslaw11_sure #[] w fun t30 w =>
  mv t30 fun t2_1 =>
  k t2_1 w) (fun _ =>
  mv (.int .i64 0) fun t3 =>
  lp [t2, t3] w fun I1 μ1 => ∀ (x1 : Env) (w1 : World), I1 [x1 2, x1 3] w1 →
  mv (x1 3) fun t31 =>
  o1 Tryd.prog (Instr.fieldAt 31 t1 1) w1 fun t32 w =>
  o1 Tryd.prog (Instr.loadAt 26 t32) w fun t33 w =>
  o1 Tryd.prog (Builtin.len_ #[26] 3 #[t33]) w fun t34 w =>
  o1 Tryd.prog (bin .lss 3 (.tmp 31) (.tmp 34) t31 t34) w fun t35 w =>
  br t35 (fun _ =>
  o1 Tryd.prog (Instr.fieldAt 31 t1 1) w fun t38 w =>
  o1 Tryd.prog (Instr.loadAt 26 t38) w fun t39 w =>
  mv (x1 3) fun t40 =>
  o1 Tryd.prog (Instr.indexAt 26 t39 t40) w fun t41 w =>
  o1 Tryd.prog (Instr.loadAt 33 t41) w fun t42 w =>
  o1 Tryd.prog (Builtin.len_ #[33] 3 #[t42]) w fun t43 w =>
  o1 Tryd.prog (bin .gtr 3 (.tmp 43) (.const (.int .i64 65536)) t43 (.int .i64 65536)) w fun t44 w =>
  br t44 (fun _ =>
  C Tryd.prog N.isthmuslaw11_sure #[] w fun t45 w =>
  mv t45 fun t2_2 =>
  k t2_2 w) (fun _ =>
  mv (x1 3) fun t36 =>
  o1 Tryd.prog (bin .add 3 (.tmp 36) (.const (.int .i64 1)) t36 (.int .i64 1)) w fun t37 w =>
  mv t37 fun t3_1 =>
  I1 [(x1 2), t3_1] w ∧ μ1 [(x1 2), t3_1] w < μ1 [x1 2, x1 3] w1)) (fun _ =>
  mv (.int .i64 0) fun t4 =>
  lp [(x1 2), t4, undef] w fun I2 μ2 => ∀ (x2 : Env) (w2 : World), I2 [x2 2, x2 4, x2 7] w2 →
  mv (x2 4) fun t46 =>
  o1 Tryd.prog (Instr.fieldAt 31 t1 2) w2 fun t47 w =>
  o1 Tryd.prog (Instr.fieldAt 29 t47 3) w fun t48 w =>
  o1 Tryd.prog (Instr.loadAt 27 t48) w fun t49 w =>
  o1 Tryd.prog (Builtin.len_ #[27] 3 #[t49]) w fun t50 w =>
  o1 Tryd.prog (bin .lss 3 (.tmp 46) (.tmp 50) t46 t50) w fun t51 w =>
  br t51 (fun _ =>
  o1 Tryd.prog (Instr.fieldAt 31 t1 2) w fun t54 w =>
  o1 Tryd.prog (Instr.fieldAt 29 t54 3) w fun t55 w =>
  o1 Tryd.prog (Instr.loadAt 27 t55) w fun t56 w =>
  mv (x2 4) fun t57 =>
  o1 Tryd.prog (Instr.indexAt 27 t56 t57) w fun t58 w =>
  o1 Tryd.prog (Instr.loadAt 35 t58) w fun t59 w =>
  o1 Tryd.prog (Instr.alloc 35 true (.tuple #[])) w fun t5 w =>
  o0 Tryd.prog (Instr.storeAt 35 t5 t59) w fun _ w =>
  o1 Tryd.prog (Instr.fieldAt 35 t5 5) w fun t60 w =>
  o1 Tryd.prog (Instr.loadAt 33 t60) w fun t61 w =>
  o1 Tryd.prog (Builtin.len_ #[33] 3 #[t61]) w fun t62 w =>
  o1 Tryd.prog (bin .gtr 3 (.tmp 62) (.const (.int .i64 65536)) t62 (.int .i64 65536)) w fun t63 w =>
  br t63 (fun _ =>
  C Tryd.prog N.isthmuslaw11_sure #[] w fun t64 w =>
  mv t64 fun t2_3 =>
  k t2_3 w) (fun _ =>
  o1 Tryd.prog (Instr.loadAt 35 t5) w fun t66 w =>
  C Tryd.prog N.types_EncodeVote #[t66] w fun t67 w =>
  C Tryd.prog N.types_DecodeVote #[t67] w fun t68 w =>
  mv t68 fun t65 =>
  o1 Tryd.prog (Instr.extract t65 0) w fun t69 w =>
  o1 Tryd.prog (Instr.extract t65 1) w fun t70 w =>
  o1 Tryd.prog (Instr.alloc 35 true (.tuple #[])) w fun t6 w =>
  o0 Tryd.prog (Instr.storeAt 35 t6 t69) w fun _ w =>
  mv t70 fun t7 =>
  mv t7 fun t71 =>
  o1 Tryd.prog (bin .neq 37 (.tmp 71) (.const .nilIface) t71 .nilIface) w fun t72 w =>
  mv t72 fun t73 =>
  gd t73 false (fun k11 => o1 Tryd.prog (Instr.loadAt 35 t6) w k11) w fun t74 w =>
  gd t73 false (fun k12 => o1 Tryd.prog (Instr.buildSlice 27 1 #[(0, t74)]) w k12) w fun t75 w =>
  gd t73 false (fun k13 => o1 Tryd.prog (Instr.loadAt 35 t5) w k13) w fun t76 w =>
  gd t73 false (fun k14 => o1 Tryd.prog (Instr.buildSlice 27 1 #[(0, t76)]) w k14) w fun t77 w =>
  gd t73 false (fun k15 => C Tryd.prog N.isthmuslaw11_votes #[t75, t77] w k15) w fun t78 w =>
  gd t73 false (fun k16 => o1 Tryd.prog (Op.unary .not t78) w k16) w fun t79 w =>
  pk t73 (.bool true) t79 fun t80 =>
  br t80 (fun _ =>
  mv (.bool false) fun t2_4 =>
  k t2_4 w) (fun _ =>
  mv (x2 4) fun t52 =>
  o1 Tryd.prog (bin .add 3 (.tmp 52) (.const (.int .i64 1)) t52 (.int .i64 1)) w fun t53 w =>
  mv t53 fun t4_1 =>
  I2 [(x2 2), t4_1, t7] w ∧ μ2 [(x2 2), t4_1, t7] w < μ2 [x2 2, x2 4, x2 7] w2))) (fun _ =>
  o1 Tryd.prog (Instr.loadAt 31 t1) w fun t82 w =>
  C Tryd.prog N.types_EncodeBlock #[t82] w fun t83 w =>
  C Tryd.prog N.types_DecodeBlock #[t83] w fun t84 w =>
  mv t84 fun t81 =>
  o1 Tryd.prog (Instr.extract t81 0) w fun t85 w =>
  o1 Tryd.prog (Instr.extract t81 1) w fun t86 w =>
  o1 Tryd.prog (Instr.alloc 31 true (.tuple #[])) w fun t8 w =>
  o0 Tryd.prog (Instr.storeAt 31 t8 t85) w fun _ w =>
  mv t86 fun t9 =>
  o1 Tryd.prog (Instr.fieldAt 31 t1 0) w fun t88 w =>
  o1 Tryd.prog (Instr.loadAt 25 t88) w fun t89 w =>
  C Tryd.prog N.types_EncodeHeader #[t89] w fun t90 w =>
  C Tryd.prog N.types_DecodeHeader #[t90] w fun t91 w =>
  mv t91 fun t87 =>
  o1 Tryd.prog (Instr.extract t87 0) w fun t92 w =>
  o1 Tryd.prog (Instr.extract t87 1) w fun t93 w =>
  o1 Tryd.prog (Instr.alloc 25 true (.tuple #[])) w fun t10 w =>
  o0 Tryd.prog (Instr.storeAt 25 t10 t92) w fun _ w =>
  mv t93 fun t11 =>
  mv t9 fun t94 =>
  o1 Tryd.prog (bin .eql 37 (.tmp 94) (.const .nilIface) t94 .nilIface) w fun t95 w =>
  mv t95 fun t96 =>
  gd t96 true (fun k17 => mv t11 fun v => k17 v w) w fun t97 w =>
  gd t96 true (fun k18 => o1 Tryd.prog (bin .eql 37 (.tmp 97) (.const .nilIface) t97 .nilIface) w k18) w fun t98 w =>
  pk t96 t98 (.bool false) fun t99 =>
  mv t99 fun t100 =>
  gd t100 true (fun k19 => o1 Tryd.prog (Instr.loadAt 25 t10) w k19) w fun t101 w =>
  gd t100 true (fun k20 => o1 Tryd.prog (Instr.fieldAt 31 t1 0) w k20) w fun t102 w =>
  gd t100 true (fun k21 => o1 Tryd.prog (Instr.loadAt 25 t102) w k21) w fun t103 w =>
  gd t100 true (fun k22 => o1 Tryd.prog (bin .eql 25 (.tmp 101) (.tmp 103) t101 t103) w k22) w fun t104 w =>
  pk t100 t104 (.bool false) fun t105 =>
  mv t105 fun t106 =>
  gd t106 true (fun k23 => o1 Tryd.prog (Instr.fieldAt 31 t8 0) w k23) w fun t107 w =>
  gd t106 true (fun k24 => o1 Tryd.prog (Instr.loadAt 25 t107) w k24) w fun t108 w =>
  gd t106 true (fun k25 => o1 Tryd.prog (Instr.fieldAt 31 t1 0) w k25) w fun t109 w =>
  gd t106 true (fun k26 => o1 Tryd.prog (Instr.loadAt 25 t109) w k26) w fun t110 w =>
  gd t106 true (fun k27 => o1 Tryd.prog (bin .eql 25 (.tmp 108) (.tmp 110) t108 t110) w k27) w fun t111 w =>
  pk t106 t111 (.bool false) fun t112 =>
  mv t112 fun t113 =>
  gd t113 true (fun k28 => o1 Tryd.prog (Instr.fieldAt 31 t8 1) w k28) w fun t114 w =>
  gd t113 true (fun k29 => o1 Tryd.prog (Instr.loadAt 26 t114) w k29) w fun t115 w =>
  gd t113 true (fun k30 => o1 Tryd.prog (Instr.fieldAt 31 t1 1) w k30) w fun t116 w =>
  gd t113 true (fun k31 => o1 Tryd.prog (Instr.loadAt 26 t116) w k31) w fun t117 w =>
  gd t113 true (fun k32 => C Tryd.prog N.isthmuslaw11_lists #[t115, t117] w k32) w fun t118 w =>
  pk t113 t118 (.bool false) fun t119 =>
  mv t119 fun t120 =>
  gd t120 true (fun k33 => o1 Tryd.prog (Instr.fieldAt 31 t8 2) w k33) w fun t121 w =>
  gd t120 true (fun k34 => o1 Tryd.prog (Instr.loadAt 29 t121) w k34) w fun t122 w =>
  gd t120 true (fun k35 => o1 Tryd.prog (Instr.fieldAt 31 t1 2) w k35) w fun t123 w =>
  gd t120 true (fun k36 => o1 Tryd.prog (Instr.loadAt 29 t123) w k36) w fun t124 w =>
  gd t120 true (fun k37 => C Tryd.prog N.isthmuslaw11_commit #[t122, t124] w k37) w fun t125 w =>
  pk t120 t125 (.bool false) fun t126 =>
  mv t126 fun t127 =>
  gd t127 true (fun k38 => C Tryd.prog N.isthmuslaw11_sure #[] w k38) w fun t128 w =>
  pk t127 t128 (.bool false) fun t129 =>
  mv t129 fun t2_5 =>
  k t2_5 w)))
theorem C.isthmuslaw11_TypesBack {k : Value → World → Prop} {a0 : Value} {w : World} (h : F.isthmuslaw11_TypesBack k a0 w) : C Tryd.prog N.isthmuslaw11_TypesBack #[a0] w k :=
  den_calls (H := { moves := [], vars := [2, 3, 4, 7, 9, 11] }) (args := [a0]) mixed Tryd.func3 (by kernel_rfl) (by kernel_rfl) (by kernel_rfl) h

-- isthmus/isthmuslaw11.TypesThird
-- isthmus/isthmuslaw11.TypesTrust
-- isthmus/isthmuslaw11.sure
def F.isthmuslaw11_sure (k : Value → World → Prop) (w : World) : Prop :=
  mv (.bool false) fun t0 =>
  o1 Tryd.prog (Instr.build 59 #[(0, .string ⟨#[97]⟩), (2, .int .i64 3)]) w fun t2 w =>
  o1 Tryd.prog (Instr.build 59 #[(0, .string ⟨#[98]⟩), (2, .int .i64 1)]) w fun t3 w =>
  o1 Tryd.prog (Instr.buildSlice 51 2 #[(0, t2), (1, t3)]) w fun t4 w =>
  mv t4 fun t1 =>
  mv t1 fun t5 =>
  C Tryd.prog N.types_CheckSet #[t5] w fun t6 w =>
  o1 Tryd.prog (bin .eql 37 (.tmp 6) (.const .nilIface) t6 .nilIface) w fun t7 w =>
  mv t7 fun t8 =>
  gd t8 true (fun k1 => mv t1 fun v => k1 v w) w fun t9 w =>
  gd t8 true (fun k2 => C Tryd.prog N.types_Total #[t9] w k2) w fun t10 w =>
  gd t8 true (fun k3 => o1 Tryd.prog (bin .eql 3 (.tmp 10) (.const (.int .i64 4)) t10 (.int .i64 4)) w k3) w fun t11 w =>
  pk t8 t11 (.bool false) fun t12 =>
  mv t12 fun t13 =>
  gd t13 true (fun k4 => mv t1 fun v => k4 v w) w fun t14 w =>
  gd t13 true (fun k5 => mv t1 fun v => k5 v w) w fun t15 w =>
  gd t13 true (fun k6 => o1 Tryd.prog (Instr.build 35 #[(4, .int .i64 1)]) w k6) w fun t16 w =>
  gd t13 true (fun k7 => o1 Tryd.prog (Instr.buildSlice 27 1 #[(0, t16)]) w k7) w fun t17 w =>
  gd t13 true (fun k8 => o1 Tryd.prog (Instr.build 29 #[(3, t17)]) w k8) w fun t18 w =>
  gd t13 true (fun k9 => C Tryd.prog N.types_VerifyTrust #[t14, t15, t18] w k9) w fun t19 w =>
  gd t13 true (fun k10 => C Tryd.prog N.isthmuslaw11_num #[t19] w k10) w fun t20 w =>
  gd t13 true (fun k11 => o1 Tryd.prog (bin .eql 3 (.tmp 20) (.const (.int .i64 32)) t20 (.int .i64 32)) w k11) w fun t21 w =>
  pk t13 t21 (.bool false) fun t22 =>
  mv t22 fun t23 =>
  gd t23 true (fun k12 => mv t1 fun v => k12 v w) w fun t24 w =>
  gd t23 true (fun k13 => mv t1 fun v => k13 v w) w fun t25 w =>
  gd t23 true (fun k14 => o1 Tryd.prog (Instr.build 35 #[(4, .int .i64 0)]) w k14) w fun t26 w =>
  gd t23 true (fun k15 => o1 Tryd.prog (Instr.buildSlice 27 1 #[(0, t26)]) w k15) w fun t27 w =>
  gd t23 true (fun k16 => o1 Tryd.prog (Instr.build 29 #[(3, t27)]) w k16) w fun t28 w =>
  gd t23 true (fun k17 => C Tryd.prog N.types_VerifyTrust #[t24, t25, t28] w k17) w fun t29 w =>
  gd t23 true (fun k18 => o1 Tryd.prog (bin .eql 37 (.tmp 29) (.const .nilIface) t29 .nilIface) w k18) w fun t30 w =>
  pk t23 t30 (.bool false) fun t31 =>
  mv t31 fun t0_1 =>
  k t0_1 w
theorem C.isthmuslaw11_sure {k : Value → World → Prop} {w : World} (h : F.isthmuslaw11_sure k  w) : C Tryd.prog N.isthmuslaw11_sure #[] w k :=
  den_calls (H := { moves := [], vars := [0, 1] }) (args := []) mixed Tryd.func6 (by kernel_rfl) (by kernel_rfl) (by kernel_rfl) h

-- isthmus/types.DecodeVote
def F.types_DecodeVote (k : Value → World → Prop) (a0 : Value) (w : World) : Prop :=
  o1 Tryd.prog (Instr.alloc 35 true (.tuple #[])) w fun t2 w =>
  mv .nilIface fun t3 =>
  mv a0 fun t4 =>
  C Tryd.prog N.types_decode_api_Vote #[t4, .func (.func 23) #[] #[]] w fun t5 w =>
  o1 Tryd.prog (Instr.extract t5 0) w fun t6 w =>
  o1 Tryd.prog (Instr.extract t5 1) w fun t7 w =>
  o0 Tryd.prog (Instr.storeAt 35 t2 t6) w fun _ w =>
  mv t7 fun t3_1 =>
  rc Tryd.prog 35 t2 w fun r0 =>
  k (.tuple #[r0, t3_1]) w
theorem C.types_DecodeVote {k : Value → World → Prop} {a0 : Value} {w : World} (h : F.types_DecodeVote k a0 w) : C Tryd.prog N.types_DecodeVote #[a0] w k :=
  den_calls (H := { moves := [], vars := [3] }) (args := [a0]) mixed Tryd.func7 (by kernel_rfl) (by kernel_rfl) (by kernel_rfl) h

-- isthmus/types.EncodeVote
def F.types_EncodeVote (k : Value → World → Prop) (a0 : Value) (w : World) : Prop :=
  o1 Tryd.prog (Instr.box 35 a0) w fun t1 w =>
  mv (.slice none 0 0) fun t2 =>
  o1 Tryd.prog (Instr.loadAt 35 t1) w fun t3 w =>
  C Tryd.prog N.types_encode_api_Vote #[t3, .func (.func 25) #[] #[]] w fun t4 w =>
  mv t4 fun t2_1 =>
  k t2_1 w
theorem C.types_EncodeVote {k : Value → World → Prop} {a0 : Value} {w : World} (h : F.types_EncodeVote k a0 w) : C Tryd.prog N.types_EncodeVote #[a0] w k :=
  den_calls (H := { moves := [], vars := [2] }) (args := [a0]) mixed Tryd.func8 (by kernel_rfl) (by kernel_rfl) (by kernel_rfl) h

-- isthmus/isthmuslaw11.votes
def F.isthmuslaw11_votes (k : Value → World → Prop) (a0 a1 : Value) (w : World) : Prop :=
  mv (.bool false) fun t4 =>
  mv a0 fun t6 =>
  o1 Tryd.prog (Builtin.len_ #[27] 3 #[t6]) w fun t7 w =>
  mv a1 fun t8 =>
  o1 Tryd.prog (Builtin.len_ #[27] 3 #[t8]) w fun t9 w =>
  o1 Tryd.prog (bin .neq 3 (.tmp 7) (.tmp 9) t7 t9) w fun t10 w =>
  br t10 (fun _ =>
  mv (.bool false) fun t4_1 =>
  k t4_1 w) (fun _ =>
  mv (.int .i64 0) fun t5 =>
  lp [t4, t5] w fun I1 μ1 => ∀ (x1 : Env) (w1 : World), I1 [x1 4, x1 5] w1 →
  mv (x1 5) fun t11 =>
  mv a0 fun t12 =>
  o1 Tryd.prog (Builtin.len_ #[27] 3 #[t12]) w1 fun t13 w =>
  o1 Tryd.prog (bin .lss 3 (.tmp 11) (.tmp 13) t11 t13) w fun t14 w =>
  br t14 (fun _ =>
  dr w.drew fun S1 =>
  mv a0 fun t17 =>
  mv (x1 5) fun t18 =>
  tk Tryd.prog S1 (Instr.indexAt 27 t17 t18) fun t19 =>
  tk Tryd.prog S1 (Instr.loadAt 35 t19) fun t20 =>
  mv a1 fun t23 =>
  mv (x1 5) fun t24 =>
  tk Tryd.prog S1 (Instr.indexAt 27 t23 t24) fun t25 =>
  tk Tryd.prog S1 (Instr.loadAt 35 t25) fun t26 =>
  C Tryd.prog N.types_EncodeVote #[t20] w.drew fun t21 w =>
  S1 w ∧
  nS S1 w fun S2 =>
  tk Tryd.prog S2 (convert 33 9 t21) fun t22 =>
  C Tryd.prog N.isthmusref11_Vote #[.slice none 0 0, t26] w fun t27 w =>
  S2 w ∧
  nS S2 w fun S3 =>
  tk Tryd.prog S3 (convert 33 9 t27) fun t28 =>
  tk Tryd.prog S3 (bin .neq 9 (.tmp 22) (.tmp 28) t22 t28) fun t29 =>
  br t29 (fun _ =>
  mv (.bool false) fun t4_2 =>
  k t4_2 w) (fun _ =>
  mv (x1 5) fun t15 =>
  o1 Tryd.prog (bin .add 3 (.tmp 15) (.const (.int .i64 1)) t15 (.int .i64 1)) w fun t16 w =>
  mv t16 fun t5_1 =>
  I1 [(x1 4), t5_1] w ∧ μ1 [(x1 4), t5_1] w < μ1 [x1 4, x1 5] w1)) (fun _ =>
  mv (.bool true) fun t4_3 =>
  k t4_3 w))
theorem C.isthmuslaw11_votes {k : Value → World → Prop} {a0 a1 : Value} {w : World} (h : F.isthmuslaw11_votes k a0 a1 w) : C Tryd.prog N.isthmuslaw11_votes #[a0, a1] w k :=
  den_calls (H := { moves := [(6, (.take 0 (.take 1 (.take 2 (.take 3 (.take 6 (.take 7 (.take 8 (.take 9 (.force 4 (.renew (.take 5 (.force 10 (.renew (.take 11 (.take 12 .fin))))))))))))))))], vars := [4, 5] }) (args := [a0, a1]) mixed Tryd.func9 (by kernel_rfl) (by kernel_rfl) (by kernel_rfl) h

-- isthmus/types.DecodeBlock
def F.types_DecodeBlock (k : Value → World → Prop) (a0 : Value) (w : World) : Prop :=
  o1 Tryd.prog (Instr.alloc 31 true (.tuple #[])) w fun t2 w =>
  mv .nilIface fun t3 =>
  mv a0 fun t4 =>
  C Tryd.prog N.types_decode_api_Block #[t4, .func (.func 28) #[] #[]] w fun t5 w =>
  o1 Tryd.prog (Instr.extract t5 0) w fun t6 w =>
  o1 Tryd.prog (Instr.extract t5 1) w fun t7 w =>
  o0 Tryd.prog (Instr.storeAt 31 t2 t6) w fun _ w =>
  mv t7 fun t3_1 =>
  rc Tryd.prog 31 t2 w fun r0 =>
  k (.tuple #[r0, t3_1]) w
theorem C.types_DecodeBlock {k : Value → World → Prop} {a0 : Value} {w : World} (h : F.types_DecodeBlock k a0 w) : C Tryd.prog N.types_DecodeBlock #[a0] w k :=
  den_calls (H := { moves := [], vars := [3] }) (args := [a0]) mixed Tryd.func10 (by kernel_rfl) (by kernel_rfl) (by kernel_rfl) h

-- isthmus/types.EncodeBlock
def F.types_EncodeBlock (k : Value → World → Prop) (a0 : Value) (w : World) : Prop :=
  o1 Tryd.prog (Instr.box 31 a0) w fun t1 w =>
  mv (.slice none 0 0) fun t2 =>
  o1 Tryd.prog (Instr.loadAt 31 t1) w fun t3 w =>
  C Tryd.prog N.types_encode_api_Block #[t3, .func (.func 30) #[] #[]] w fun t4 w =>
  mv t4 fun t2_1 =>
  k t2_1 w
theorem C.types_EncodeBlock {k : Value → World → Prop} {a0 : Value} {w : World} (h : F.types_EncodeBlock k a0 w) : C Tryd.prog N.types_EncodeBlock #[a0] w k :=
  den_calls (H := { moves := [], vars := [2] }) (args := [a0]) mixed Tryd.func11 (by kernel_rfl) (by kernel_rfl) (by kernel_rfl) h

-- isthmus/types.DecodeHeader
def F.types_DecodeHeader (k : Value → World → Prop) (a0 : Value) (w : World) : Prop :=
  o1 Tryd.prog (Instr.alloc 25 true (.tuple #[])) w fun t2 w =>
  mv .nilIface fun t3 =>
  mv a0 fun t4 =>
  C Tryd.prog N.types_decode_api_Header #[t4, .func (.func 32) #[] #[]] w fun t5 w =>
  o1 Tryd.prog (Instr.extract t5 0) w fun t6 w =>
  o1 Tryd.prog (Instr.extract t5 1) w fun t7 w =>
  o0 Tryd.prog (Instr.storeAt 25 t2 t6) w fun _ w =>
  mv t7 fun t3_1 =>
  rc Tryd.prog 25 t2 w fun r0 =>
  k (.tuple #[r0, t3_1]) w
theorem C.types_DecodeHeader {k : Value → World → Prop} {a0 : Value} {w : World} (h : F.types_DecodeHeader k a0 w) : C Tryd.prog N.types_DecodeHeader #[a0] w k :=
  den_calls (H := { moves := [], vars := [3] }) (args := [a0]) mixed Tryd.func12 (by kernel_rfl) (by kernel_rfl) (by kernel_rfl) h

-- isthmus/types.EncodeHeader
def F.types_EncodeHeader (k : Value → World → Prop) (a0 : Value) (w : World) : Prop :=
  o1 Tryd.prog (Instr.box 25 a0) w fun t1 w =>
  mv (.slice none 0 0) fun t2 =>
  o1 Tryd.prog (Instr.loadAt 25 t1) w fun t3 w =>
  C Tryd.prog N.types_encode_api_Header #[t3, .func (.func 34) #[] #[]] w fun t4 w =>
  mv t4 fun t2_1 =>
  k t2_1 w
theorem C.types_EncodeHeader {k : Value → World → Prop} {a0 : Value} {w : World} (h : F.types_EncodeHeader k a0 w) : C Tryd.prog N.types_EncodeHeader #[a0] w k :=
  den_calls (H := { moves := [], vars := [2] }) (args := [a0]) mixed Tryd.func13 (by kernel_rfl) (by kernel_rfl) (by kernel_rfl) h

-- isthmus/isthmuslaw11.lists
def F.isthmuslaw11_lists (k : Value → World → Prop) (a0 a1 : Value) (w : World) : Prop :=
  mv (.bool false) fun t4 =>
  mv a0 fun t6 =>
  o1 Tryd.prog (Builtin.len_ #[26] 3 #[t6]) w fun t7 w =>
  mv a1 fun t8 =>
  o1 Tryd.prog (Builtin.len_ #[26] 3 #[t8]) w fun t9 w =>
  o1 Tryd.prog (bin .neq 3 (.tmp 7) (.tmp 9) t7 t9) w fun t10 w =>
  br t10 (fun _ =>
  mv (.bool false) fun t4_1 =>
  k t4_1 w) (fun _ =>
  mv (.int .i64 0) fun t5 =>
  lp [t4, t5] w fun I1 μ1 => ∀ (x1 : Env) (w1 : World), I1 [x1 4, x1 5] w1 →
  mv (x1 5) fun t11 =>
  mv a0 fun t12 =>
  o1 Tryd.prog (Builtin.len_ #[26] 3 #[t12]) w1 fun t13 w =>
  o1 Tryd.prog (bin .lss 3 (.tmp 11) (.tmp 13) t11 t13) w fun t14 w =>
  br t14 (fun _ =>
  mv a0 fun t17 =>
  mv (x1 5) fun t18 =>
  tk Tryd.prog (fun w' => w' = w.drew) (Instr.indexAt 26 t17 t18) fun t19 =>
  tk Tryd.prog (fun w' => w' = w.drew) (Instr.loadAt 33 t19) fun t20 =>
  tk Tryd.prog (fun w' => w' = w.drew) (convert 33 9 t20) fun t21 =>
  mv a1 fun t22 =>
  mv (x1 5) fun t23 =>
  tk Tryd.prog (fun w' => w' = w.drew) (Instr.indexAt 26 t22 t23) fun t24 =>
  tk Tryd.prog (fun w' => w' = w.drew) (Instr.loadAt 33 t24) fun t25 =>
  tk Tryd.prog (fun w' => w' = w.drew) (convert 33 9 t25) fun t26 =>
  tk Tryd.prog (fun w' => w' = w.drew) (bin .neq 9 (.tmp 21) (.tmp 26) t21 t26) fun t27 =>
  br t27 (fun _ =>
  mv (.bool false) fun t4_2 =>
  k t4_2 w.drew) (fun _ =>
  mv (x1 5) fun t15 =>
  o1 Tryd.prog (bin .add 3 (.tmp 15) (.const (.int .i64 1)) t15 (.int .i64 1)) w.drew fun t16 w =>
  mv t16 fun t5_1 =>
  I1 [(x1 4), t5_1] w ∧ μ1 [(x1 4), t5_1] w < μ1 [x1 4, x1 5] w1)) (fun _ =>
  mv (.bool true) fun t4_3 =>
  k t4_3 w))
theorem C.isthmuslaw11_lists {k : Value → World → Prop} {a0 a1 : Value} {w : World} (h : F.isthmuslaw11_lists k a0 a1 w) : C Tryd.prog N.isthmuslaw11_lists #[a0, a1] w k :=
  den_calls (H := { moves := [(6, (.take 0 (.take 1 (.take 2 (.take 3 (.take 4 (.take 5 (.take 6 (.take 7 (.take 8 (.take 9 (.take 10 .fin))))))))))))], vars := [4, 5] }) (args := [a0, a1]) mixed Tryd.func14 (by kernel_rfl) (by kernel_rfl) (by kernel_rfl) h

-- isthmus/isthmuslaw11.commit
def F.isthmuslaw11_commit (k : Value → World → Prop) (a0 a1 : Value) (w : World) : Prop :=
  o1 Tryd.prog (Instr.box 29 a0) w fun t2 w =>
  o1 Tryd.prog (Instr.box 29 a1) w fun t3 w =>
  mv (.bool false) fun t4 =>
  o1 Tryd.prog (Instr.fieldAt 29 t2 0) w fun t5 w =>
  o1 Tryd.prog (Instr.loadAt 3 t5) w fun t6 w =>
  o1 Tryd.prog (Instr.fieldAt 29 t3 0) w fun t7 w =>
  o1 Tryd.prog (Instr.loadAt 3 t7) w fun t8 w =>
  o1 Tryd.prog (bin .eql 3 (.tmp 6) (.tmp 8) t6 t8) w fun t9 w =>
  mv t9 fun t10 =>
  gd t10 true (fun k1 => o1 Tryd.prog (Instr.fieldAt 29 t2 1) w k1) w fun t11 w =>
  gd t10 true (fun k2 => o1 Tryd.prog (Instr.loadAt 3 t11) w k2) w fun t12 w =>
  gd t10 true (fun k3 => o1 Tryd.prog (Instr.fieldAt 29 t3 1) w k3) w fun t13 w =>
  gd t10 true (fun k4 => o1 Tryd.prog (Instr.loadAt 3 t13) w k4) w fun t14 w =>
  gd t10 true (fun k5 => o1 Tryd.prog (bin .eql 3 (.tmp 12) (.tmp 14) t12 t14) w k5) w fun t15 w =>
  pk t10 t15 (.bool false) fun t16 =>
  mv t16 fun t17 =>
  gd t17 true (fun k6 => o1 Tryd.prog (Instr.fieldAt 29 t2 2) w k6) w fun t18 w =>
  gd t17 true (fun k7 => o1 Tryd.prog (Instr.loadAt 23 t18) w k7) w fun t19 w =>
  gd t17 true (fun k8 => o1 Tryd.prog (Instr.fieldAt 29 t3 2) w k8) w fun t20 w =>
  gd t17 true (fun k9 => o1 Tryd.prog (Instr.loadAt 23 t20) w k9) w fun t21 w =>
  gd t17 true (fun k10 => o1 Tryd.prog (bin .eql 23 (.tmp 19) (.tmp 21) t19 t21) w k10) w fun t22 w =>
  pk t17 t22 (.bool false) fun t23 =>
  mv t23 fun t24 =>
  gd t24 true (fun k11 => o1 Tryd.prog (Instr.fieldAt 29 t2 3) w k11) w fun t25 w =>
  gd t24 true (fun k12 => o1 Tryd.prog (Instr.loadAt 27 t25) w k12) w fun t26 w =>
  gd t24 true (fun k13 => o1 Tryd.prog (Instr.fieldAt 29 t3 3) w k13) w fun t27 w =>
  gd t24 true (fun k14 => o1 Tryd.prog (Instr.loadAt 27 t27) w k14) w fun t28 w =>
  gd t24 true (fun k15 => C Tryd.prog N.isthmuslaw11_votes #[t26, t28] w k15) w fun t29 w =>
  pk t24 t29 (.bool false) fun t30 =>
  mv t30 fun t4_1 =>
  k t4_1 w
theorem C.isthmuslaw11_commit {k : Value → World → Prop} {a0 a1 : Value} {w : World} (h : F.isthmuslaw11_commit k a0 a1 w) : C Tryd.prog N.isthmuslaw11_commit #[a0, a1] w k :=
  den_calls (H := { moves := [], vars := [4] }) (args := [a0, a1]) mixed Tryd.func15 (by kernel_rfl) (by kernel_rfl) (by kernel_rfl) h

-- isthmus/isthmuslaw11.cut
-- isthmus/types.VerifyCommit
-- isthmus/types.Total
def F.types_Total (k : Value → World → Prop) (a0 : Value) (w : World) : Prop :=
  mv (.int .i64 0) fun t2 =>
  mv (.int .i64 0) fun t3 =>
  mv a0 fun t6 =>
  o1 Tryd.prog (Builtin.len_ #[51] 3 #[t6]) w fun t7 w =>
  mv (.int .i64 0) fun t8 =>
  lp [t3, t8] w fun I1 μ1 => ∀ (x1 : Env) (w1 : World), I1 [x1 3, x1 8] w1 →
  o1 Tryd.prog (bin .lss 3 (.tmp 8) (.tmp 7) (x1 8) t7) w1 fun t9 w =>
  br t9 (fun _ =>
  o1 Tryd.prog (Instr.indexAt 51 t6 (x1 8)) w fun t10 w =>
  o1 Tryd.prog (Instr.loadAt 59 t10) w fun t11 w =>
  o1 Tryd.prog (Instr.alloc 59 true (.tuple #[])) w fun t5 w =>
  o0 Tryd.prog (Instr.storeAt 59 t5 t11) w fun _ w =>
  mv (x1 3) fun t12 =>
  o1 Tryd.prog (Instr.fieldAt 59 t5 2) w fun t13 w =>
  o1 Tryd.prog (Instr.loadAt 3 t13) w fun t14 w =>
  o1 Tryd.prog (bin .add 3 (.tmp 12) (.tmp 14) t12 t14) w fun t15 w =>
  mv t15 fun t3_1 =>
  o1 Tryd.prog (bin .add 3 (.tmp 8) (.const (.int .i64 1)) (x1 8) (.int .i64 1)) w fun t16 w =>
  mv t16 fun t8_1 =>
  I1 [t3_1, t8_1] w ∧ μ1 [t3_1, t8_1] w < μ1 [x1 3, x1 8] w1) (fun _ =>
  mv (x1 3) fun t17 =>
  mv t17 fun t2_1 =>
  k t2_1 w)
theorem C.types_Total {k : Value → World → Prop} {a0 : Value} {w : World} (h : F.types_Total k a0 w) : C Tryd.prog N.types_Total #[a0] w k :=
  den_calls (H := { moves := [], vars := [2, 3, 8] }) (args := [a0]) mixed Tryd.func18 (by kernel_rfl) (by kernel_rfl) (by kernel_rfl) h

-- isthmus/types.VerifyTrust
def F.types_VerifyTrust (k : Value → World → Prop) (a0 a1 a2 : Value) (w : World) : Prop :=
  o1 Tryd.prog (Instr.box 51 a1) w fun t4 w =>
  o1 Tryd.prog (Instr.box 29 a2) w fun t5 w =>
  mv .nilIface fun t6 =>
  o1 Tryd.prog (Instr.makeFunc (.func 37) #[] #[t5, t4]) w fun t11 w =>
  mv t11 fun t7 =>
  mv (.int .i64 0) fun t8 =>
  mv a0 fun t12 =>
  o1 Tryd.prog (Builtin.len_ #[51] 3 #[t12]) w fun t13 w =>
  mv (.int .i64 0) fun t14 =>
  lp [t8, t14] w fun I1 μ1 => ∀ (x1 : Env) (w1 : World), I1 [x1 8, x1 14] w1 →
  o1 Tryd.prog (bin .lss 3 (.tmp 14) (.tmp 13) (x1 14) t13) w1 fun t15 w =>
  br t15 (fun _ =>
  o1 Tryd.prog (Instr.indexAt 51 t12 (x1 14)) w fun t16 w =>
  o1 Tryd.prog (Instr.loadAt 59 t16) w fun t17 w =>
  o1 Tryd.prog (Instr.alloc 59 true (.tuple #[])) w fun t10 w =>
  o0 Tryd.prog (Instr.storeAt 59 t10 t17) w fun _ w =>
  mv t7 fun t18 =>
  o1 Tryd.prog (Instr.loadAt 59 t10) w fun t19 w =>
  cv Tryd.prog t18 #[t19] w fun t20 w =>
  jn (fun x2 => [x2 8]) (fun k1 =>
  br t20 (fun _ =>
  mv (x1 8) fun t21 =>
  o1 Tryd.prog (Instr.fieldAt 59 t10 2) w fun t22 w =>
  o1 Tryd.prog (Instr.loadAt 3 t22) w fun t23 w =>
  o1 Tryd.prog (bin .add 3 (.tmp 21) (.tmp 23) t21 t23) w fun t24 w =>
  mv t24 fun t8_1 =>
  k1 [t8_1] w) (fun _ =>
  k1 [(x1 8)] w)) fun x2 w =>
  o1 Tryd.prog (bin .add 3 (.tmp 14) (.const (.int .i64 1)) (x1 14) (.int .i64 1)) w fun t25 w =>
  mv t25 fun t14_1 =>
  I1 [(x2 8), t14_1] w ∧ μ1 [(x2 8), t14_1] w < μ1 [x1 8, x1 14] w1) (fun _ =>
  mv (x1 8) fun t26 =>
  o1 Tryd.prog (bin .mul 3 (.const (.int .i64 3)) (.tmp 26) (.int .i64 3) t26) w fun t27 w =>
  mv a0 fun t28 =>
  C Tryd.prog N.types_Total #[t28] w fun t29 w =>
  o1 Tryd.prog (bin .leq 3 (.tmp 27) (.tmp 29) t27 t29) w fun t30 w =>
  br t30 (fun _ =>
  C Tryd.prog N.types_fault #[.string ⟨#[116, 114, 117, 115, 116]⟩, .int .i64 32] w fun t31 w =>
  mv t31 fun t6_1 =>
  k t6_1 w) (fun _ =>
  mv .nilIface fun t6_2 =>
  k t6_2 w))
theorem C.types_VerifyTrust {k : Value → World → Prop} {a0 a1 a2 : Value} {w : World} (h : F.types_VerifyTrust k a0 a1 a2 w) : C Tryd.prog N.types_VerifyTrust #[a0, a1, a2] w k :=
  den_calls (H := { moves := [], vars := [6, 7, 8, 14] }) (args := [a0, a1, a2]) mixed Tryd.func19 (by kernel_rfl) (by kernel_rfl) (by kernel_rfl) h

-- isthmus/types.CheckSet
def F.types_CheckSet (k : Value → World → Prop) (a0 : Value) (w : World) : Prop :=
  mv .nilIface fun t2 =>
  mv a0 fun t7 =>
  o1 Tryd.prog (Builtin.len_ #[51] 3 #[t7]) w fun t8 w =>
  o1 Tryd.prog (bin .eql 3 (.tmp 8) (.const (.int .i64 0)) t8 (.int .i64 0)) w fun t9 w =>
  mv t9 fun t10 =>
  gd t10 false (fun k1 => mv a0 fun v => k1 v w) w fun t11 w =>
  gd t10 false (fun k2 => o1 Tryd.prog (Builtin.len_ #[51] 3 #[t11]) w k2) w fun t12 w =>
  gd t10 false (fun k3 => o1 Tryd.prog (bin .gtr 3 (.tmp 12) (.const (.int .i64 32)) t12 (.int .i64 32)) w k3) w fun t13 w =>
  pk t10 (.bool true) t13 fun t14 =>
  br t14 (fun _ =>
  C Tryd.prog N.types_fault #[.string ⟨#[115, 101, 116]⟩, .int .i64 30] w fun t15 w =>
  mv t15 fun t2_1 =>
  k t2_1 w) (fun _ =>
  mv (.int .i64 1099511627776) fun t3 =>
  mv a0 fun t16 =>
  o1 Tryd.prog (Builtin.len_ #[51] 3 #[t16]) w fun t17 w =>
  mv (.int .i64 0) fun t18 =>
  lp [t2, t3, undef, undef, t18] w fun I1 μ1 => ∀ (x1 : Env) (w1 : World), I1 [x1 2, x1 3, x1 4, x1 6, x1 18] w1 →
  o1 Tryd.prog (bin .lss 3 (.tmp 18) (.tmp 17) (x1 18) t17) w1 fun t19 w =>
  br t19 (fun _ =>
  mv (x1 18) fun t20 =>
  o1 Tryd.prog (Instr.indexAt 51 t16 (x1 18)) w fun t21 w =>
  o1 Tryd.prog (Instr.loadAt 59 t21) w fun t22 w =>
  o1 Tryd.prog (Instr.alloc 59 true (.tuple #[])) w fun t5 w =>
  mv t20 fun t4 =>
  o0 Tryd.prog (Instr.storeAt 59 t5 t22) w fun _ w =>
  mv a0 fun t23 =>
  mv t4 fun t24 =>
  o1 Tryd.prog (Instr.sliceAt 51 t23 none (some t24) none) w fun t25 w =>
  o1 Tryd.prog (Instr.makeFunc (.func 41) #[] #[t5]) w fun t26 w =>
  C Tryd.prog N.slices_ContainsFunc_api_Validator_api_Validator #[t25, t26] w fun t27 w =>
  mv t27 fun t6 =>
  o1 Tryd.prog (Instr.fieldAt 59 t5 0) w fun t28 w =>
  o1 Tryd.prog (Instr.loadAt 9 t28) w fun t29 w =>
  C Tryd.prog N.types_named #[t29] w fun t30 w =>
  o1 Tryd.prog (Op.unary .not t30) w fun t31 w =>
  mv t31 fun t32 =>
  gd t32 false (fun k4 => mv t6 fun v => k4 v w) w fun t33 w =>
  pk t32 (.bool true) t33 fun t34 =>
  mv t34 fun t35 =>
  gd t35 false (fun k5 => o1 Tryd.prog (Instr.fieldAt 59 t5 2) w k5) w fun t36 w =>
  gd t35 false (fun k6 => o1 Tryd.prog (Instr.loadAt 3 t36) w k6) w fun t37 w =>
  gd t35 false (fun k7 => o1 Tryd.prog (bin .lss 3 (.tmp 37) (.const (.int .i64 1)) t37 (.int .i64 1)) w k7) w fun t38 w =>
  pk t35 (.bool true) t38 fun t39 =>
  mv t39 fun t40 =>
  gd t40 false (fun k8 => o1 Tryd.prog (Instr.fieldAt 59 t5 2) w k8) w fun t41 w =>
  gd t40 false (fun k9 => o1 Tryd.prog (Instr.loadAt 3 t41) w k9) w fun t42 w =>
  gd t40 false (fun k10 => mv (x1 3) fun v => k10 v w) w fun t43 w =>
  gd t40 false (fun k11 => o1 Tryd.prog (bin .gtr 3 (.tmp 42) (.tmp 43) t42 t43) w k11) w fun t44 w =>
  pk t40 (.bool true) t44 fun t45 =>
  br t45 (fun _ =>
  C Tryd.prog N.types_fault #[.string ⟨#[118, 97, 108, 105, 100, 97, 116, 111, 114]⟩, .int .i64 30] w fun t46 w =>
  mv t46 fun t2_2 =>
  k t2_2 w) (fun _ =>
  mv (x1 3) fun t47 =>
  o1 Tryd.prog (Instr.fieldAt 59 t5 2) w fun t48 w =>
  o1 Tryd.prog (Instr.loadAt 3 t48) w fun t49 w =>
  o1 Tryd.prog (bin .sub 3 (.tmp 47) (.tmp 49) t47 t49) w fun t50 w =>
  mv t50 fun t3_1 =>
  o1 Tryd.prog (bin .add 3 (.tmp 18) (.const (.int .i64 1)) (x1 18) (.int .i64 1)) w fun t51 w =>
  mv t51 fun t18_1 =>
  I1 [(x1 2), t3_1, t4, t6, t18_1] w ∧ μ1 [(x1 2), t3_1, t4, t6, t18_1] w < μ1 [x1 2, x1 3, x1 4, x1 6, x1 18] w1)) (fun _ =>
  mv .nilIface fun t2_3 =>
  k t2_3 w))
theorem C.types_CheckSet {k : Value → World → Prop} {a0 : Value} {w : World} (h : F.types_CheckSet k a0 w) : C Tryd.prog N.types_CheckSet #[a0] w k :=
  den_calls (H := { moves := [], vars := [2, 3, 4, 6, 18] }) (args := [a0]) mixed Tryd.func20 (by kernel_rfl) (by kernel_rfl) (by kernel_rfl) h

-- isthmus/isthmuslaw11.num
def F.isthmuslaw11_num (k : Value → World → Prop) (a0 : Value) (w : World) : Prop :=
  mv (.int .i64 0) fun t2 =>
  o1 Tryd.prog (Instr.alloc 80 true (.tuple #[])) w fun t3 w =>
  mv a0 fun t4 =>
  o1 Tryd.prog (bin .eql 37 (.tmp 4) (.const .nilIface) t4 .nilIface) w fun t5 w =>
  br t5 (fun _ =>
  mv (.int .i64 0) fun t2_1 =>
  k t2_1 w) (fun _ =>
  mv a0 fun t6 =>
  o1 Tryd.prog (Instr.makeInterface 88 t3) w fun t7 w =>
  C Tryd.prog N.errors_As #[t6, t7] w fun t8 w =>
  br t8 (fun _ =>
  o1 Tryd.prog (Instr.loadAt 80 t3) w fun t9 w =>
  mv t9 fun t2_2 =>
  k t2_2 w) (fun _ =>
  mv (.int .i64 (-1)) fun t2_3 =>
  k t2_3 w))
theorem C.isthmuslaw11_num {k : Value → World → Prop} {a0 : Value} {w : World} (h : F.isthmuslaw11_num k a0 w) : C Tryd.prog N.isthmuslaw11_num #[a0] w k :=
  den_calls (H := { moves := [], vars := [2] }) (args := [a0]) mixed Tryd.func21 (by kernel_rfl) (by kernel_rfl) (by kernel_rfl) h

-- isthmus/types.decode[isthmus/api.Vote]
def F.types_decode_api_Vote (k : Value → World → Prop) (a0 a1 : Value) (w : World) : Prop :=
  o1 Tryd.prog (Instr.alloc 35 true (.tuple #[])) w fun t4 w =>
  mv .nilIface fun t5 =>
  mv a0 fun t9 =>
  C Tryd.prog N.pack_Read #[t9] w fun t10 w =>
  mv t10 fun t6 =>
  mv a1 fun t11 =>
  mv t6 fun t12 =>
  cv Tryd.prog t11 #[t12] w fun t13 w =>
  o1 Tryd.prog (Instr.alloc 35 true (.tuple #[])) w fun t7 w =>
  o0 Tryd.prog (Instr.storeAt 35 t7 t13) w fun _ w =>
  mv t6 fun t14 =>
  C Tryd.prog N.pack_Reader_Done #[t14] w fun t15 w =>
  o1 Tryd.prog (bin .neq 37 (.tmp 15) (.const .nilIface) t15 .nilIface) w fun t16 w =>
  br t16 (fun _ =>
  o1 Tryd.prog (Instr.alloc 35 true (.tuple #[])) w fun t8 w =>
  dr w.drew fun S1 =>
  tk Tryd.prog S1 (Instr.loadAt 35 t8) fun t17 =>
  C Tryd.prog N.types_fault #[.string ⟨#[98, 121, 116, 101, 115]⟩, .int .i64 3] w.drew fun t18 w =>
  S1 w ∧
  o0 Tryd.prog (Instr.storeAt 35 t4 t17) w fun _ w =>
  S1 w ∧
  mv t18 fun t5_1 =>
  rc Tryd.prog 35 t4 w fun r0 =>
  k (.tuple #[r0, t5_1]) w) (fun _ =>
  o1 Tryd.prog (Instr.loadAt 35 t7) w fun t19 w =>
  o0 Tryd.prog (Instr.storeAt 35 t4 t19) w fun _ w =>
  mv .nilIface fun t5_2 =>
  rc Tryd.prog 35 t4 w fun r0 =>
  k (.tuple #[r0, t5_2]) w)
theorem C.types_decode_api_Vote {k : Value → World → Prop} {a0 a1 : Value} {w : World} (h : F.types_decode_api_Vote k a0 a1 w) : C Tryd.prog N.types_decode_api_Vote #[a0, a1] w k :=
  den_calls (H := { moves := [(5, (.take 0 (.force 1 (.force 2 (.take 3 .fin)))))], vars := [5, 6] }) (args := [a0, a1]) mixed Tryd.func22 (by kernel_rfl) (by kernel_rfl) (by kernel_rfl) h

end Go.Proofs.YtlfelmikcdmkhaaDoor
