/- Blocks: whether one may be, in the document. -/
import Derived.Test.YtlfelmikcdmkhaaGreatDoorB2
set_option linter.unusedVariables false
set_option linter.unusedSimpArgs false
set_option linter.unusedSectionVars false
namespace Go.Proofs.YtlfelmikcdmkhaaGreatDoor
open Go Go.Isk Go.RowKit
set_option maxRecDepth 20000
def F.isthmusref11_CheckBlock_rA (k : Value → World → Prop) (t1 t2 t3 t4 : Value) (w : World) : Prop :=
  dr w.drew fun S2 =>
  tk Tryz.prog S2 (Instr.fieldAt 25 t3 0) fun t11 =>
  tk Tryz.prog S2 (Instr.loadAt 9 t11) fun t12 =>
  C Tryz.prog N.isthmusref11_Named #[t12] w.drew fun t13 w =>
  S2 w ∧
  tk Tryz.prog S2 (Op.unary .not t13) fun t14 =>
  mv t14 fun t15 =>
  gdT t15 false (fun k1 => tk Tryz.prog S2 (Instr.fieldAt 25 t3 1) k1) fun t16 =>
  nS S2 w fun S3 =>
  gdT t15 false (fun k2 => tk Tryz.prog S3 (Instr.loadAt 3 t16) k2) fun t17 =>
  gdT t15 false (fun k3 => tk Tryz.prog S3 (bin .lss 3 (.tmp 17) (.const (.int .i64 1)) t17 (.int .i64 1)) k3) fun t18 =>
  pk t15 (.bool true) t18 fun t19 =>
  mv t19 fun t20 =>
  gdT t20 false (fun k4 => tk Tryz.prog S3 (Instr.fieldAt 25 t3 1) k4) fun t21 =>
  gdT t20 false (fun k5 => tk Tryz.prog S3 (Instr.loadAt 3 t21) k5) fun t22 =>
  gdT t20 false (fun k6 => tk Tryz.prog S3 (bin .gtr 3 (.tmp 22) (.const (.int .i64 1099511627776)) t22 (.int .i64 1099511627776)) k6) fun t23 =>
  pk t20 (.bool true) t23 fun t24 =>
  mv t24 fun t25 =>
  gdT t25 false (fun k7 => tk Tryz.prog S3 (Instr.fieldAt 25 t3 2) k7) fun t26 =>
  gdT t25 false (fun k8 => tk Tryz.prog S3 (Instr.loadAt 3 t26) k8) fun t27 =>
  gdT t25 false (fun k9 => tk Tryz.prog S3 (bin .lss 3 (.tmp 27) (.const (.int .i64 0)) t27 (.int .i64 0)) k9) fun t28 =>
  pk t25 (.bool true) t28 fun t29 =>
  mv t29 fun t30 =>
  gdT t30 false (fun k10 => tk Tryz.prog S3 (Instr.fieldAt 25 t3 2) k10) fun t31 =>
  gdT t30 false (fun k11 => tk Tryz.prog S3 (Instr.loadAt 3 t31) k11) fun t32 =>
  gdT t30 false (fun k12 => tk Tryz.prog S3 (bin .gtr 3 (.tmp 32) (.const (.int .i64 1099511627776)) t32 (.int .i64 1099511627776)) k12) fun t33 =>
  pk t30 (.bool true) t33 fun t34 =>
  mv t34 fun t35 =>
  gdT t35 false (fun k13 => tk Tryz.prog S3 (Instr.fieldAt 25 t3 8) k13) fun t36 =>
  gdT t35 false (fun k14 => tk Tryz.prog S3 (Instr.loadAt 3 t36) k14) fun t37 =>
  gdT t35 false (fun k15 => tk Tryz.prog S3 (bin .lss 3 (.tmp 37) (.const (.int .i64 0)) t37 (.int .i64 0)) k15) fun t38 =>
  pk t35 (.bool true) t38 fun t39 =>
  mv t39 fun t40 =>
  gdT t40 false (fun k16 => tk Tryz.prog S3 (Instr.fieldAt 31 t1 1) k16) fun t41 =>
  gdT t40 false (fun k17 => tk Tryz.prog S3 (Instr.loadAt 26 t41) k17) fun t42 =>
  gdT t40 false (fun k18 => tk Tryz.prog S3 (Builtin.len_ #[26] 3 #[t42]) k18) fun t43 =>
  gdT t40 false (fun k19 => tk Tryz.prog S3 (bin .gtr 3 (.tmp 43) (.const (.int .i64 64)) t43 (.int .i64 64)) k19) fun t44 =>
  pk t40 (.bool true) t44 fun t45 =>
  mv t45 fun t46 =>
  gdT t46 false (fun k20 => tk Tryz.prog S3 (Instr.fieldAt 25 t3 5) k20) fun t47 =>
  gdT t46 false (fun k21 => tk Tryz.prog S3 (Instr.loadAt 23 t47) k21) fun t48 =>
  gdT t46 false (fun k22 => tk Tryz.prog S3 (Instr.fieldAt 31 t1 1) k22) fun t49 =>
  gdT t46 false (fun k23 => tk Tryz.prog S3 (Instr.loadAt 26 t49) k23) fun t50 =>
  gd t46 false (fun k24 => C Tryz.prog N.isthmusref11_TxsHash #[t50] w k24) w fun t51 w =>
  S3 w ∧
  gdT t46 false (fun k25 => tk Tryz.prog S3 (bin .neq 23 (.tmp 48) (.tmp 51) t48 t51) k25) fun t52 =>
  pk t46 (.bool true) t52 fun t53 =>
  br t53 (fun _ =>
  mv (.int .i64 34) fun t2_1 =>
  k t2_1 w) (fun _ =>
  mv (.int .i64 0) fun t5 =>
  lp [t2, t5] w fun I1 μ1 => ∀ (x1 : Env) (w1 : World), I1 [x1 2, x1 5] w1 →
  mv (x1 5) fun t54 =>
  o1 Tryz.prog (Instr.fieldAt 31 t1 1) w1 fun t55 w =>
  o1 Tryz.prog (Instr.loadAt 26 t55) w fun t56 w =>
  o1 Tryz.prog (Builtin.len_ #[26] 3 #[t56]) w fun t57 w =>
  o1 Tryz.prog (bin .lss 3 (.tmp 54) (.tmp 57) t54 t57) w fun t58 w =>
  br t58 (fun _ =>
  o1 Tryz.prog (Instr.fieldAt 31 t1 1) w fun t61 w =>
  o1 Tryz.prog (Instr.loadAt 26 t61) w fun t62 w =>
  mv (x1 5) fun t63 =>
  o1 Tryz.prog (Instr.indexAt 26 t62 t63) w fun t64 w =>
  o1 Tryz.prog (Instr.loadAt 39 t64) w fun t65 w =>
  o1 Tryz.prog (Builtin.len_ #[39] 3 #[t65]) w fun t66 w =>
  o1 Tryz.prog (bin .gtr 3 (.tmp 66) (.const (.int .i64 65536)) t66 (.int .i64 65536)) w fun t67 w =>
  br t67 (fun _ =>
  mv (.int .i64 34) fun t2_2 =>
  k t2_2 w) (fun _ =>
  mv (x1 5) fun t59 =>
  o1 Tryz.prog (bin .add 3 (.tmp 59) (.const (.int .i64 1)) t59 (.int .i64 1)) w fun t60 w =>
  mv t60 fun t5_1 =>
  I1 [(x1 2), t5_1] w ∧ μ1 [(x1 2), t5_1] w < μ1 [x1 2, x1 5] w1)) (fun _ =>
  o1 Tryz.prog (Instr.build 23 #[]) w fun t68 w =>
  o1 Tryz.prog (Instr.alloc 23 true (.tuple #[])) w fun t6 w =>
  o0 Tryz.prog (Instr.storeAt 23 t6 t68) w fun _ w =>
  o1 Tryz.prog (Instr.fieldAt 25 t3 1) w fun t69 w =>
  o1 Tryz.prog (Instr.loadAt 3 t69) w fun t70 w =>
  o1 Tryz.prog (bin .eql 3 (.tmp 70) (.const (.int .i64 1)) t70 (.int .i64 1)) w fun t71 w =>
  mv t71 fun t72 =>
  gd t72 true (fun k26 => o1 Tryz.prog (Instr.fieldAt 25 t3 3) w k26) w fun t73 w =>
  gd t72 true (fun k27 => o1 Tryz.prog (Instr.loadAt 23 t73) w k27) w fun t74 w =>
  gd t72 true (fun k28 => o1 Tryz.prog (Instr.loadAt 23 t6) w k28) w fun t75 w =>
  gd t72 true (fun k29 => o1 Tryz.prog (bin .neq 23 (.tmp 74) (.tmp 75) t74 t75) w k29) w fun t76 w =>
  gd t72 true (fun k30 => mv t76 fun v => k30 v w) w fun t77 w =>
  gd t77 false (fun k31 => o1 Tryz.prog (Instr.fieldAt 29 t4 0) w k31) w fun t78 w =>
  gd t77 false (fun k32 => o1 Tryz.prog (Instr.loadAt 3 t78) w k32) w fun t79 w =>
  gd t77 false (fun k33 => o1 Tryz.prog (bin .neq 3 (.tmp 79) (.const (.int .i64 0)) t79 (.int .i64 0)) w k33) w fun t80 w =>
  gd t72 true (fun k34 => pk t77 (.bool true) t80 fun v => k34 v w) w fun t81 w =>
  gd t72 true (fun k35 => mv t81 fun v => k35 v w) w fun t82 w =>
  gd t82 false (fun k36 => o1 Tryz.prog (Instr.fieldAt 29 t4 1) w k36) w fun t83 w =>
  gd t82 false (fun k37 => o1 Tryz.prog (Instr.loadAt 3 t83) w k37) w fun t84 w =>
  gd t82 false (fun k38 => o1 Tryz.prog (bin .neq 3 (.tmp 84) (.const (.int .i64 0)) t84 (.int .i64 0)) w k38) w fun t85 w =>
  gd t72 true (fun k39 => pk t82 (.bool true) t85 fun v => k39 v w) w fun t86 w =>
  gd t72 true (fun k40 => mv t86 fun v => k40 v w) w fun t87 w =>
  gd t87 false (fun k41 => o1 Tryz.prog (Instr.fieldAt 29 t4 2) w k41) w fun t88 w =>
  gd t87 false (fun k42 => o1 Tryz.prog (Instr.loadAt 23 t88) w k42) w fun t89 w =>
  gd t87 false (fun k43 => o1 Tryz.prog (Instr.loadAt 23 t6) w k43) w fun t90 w =>
  gd t87 false (fun k44 => o1 Tryz.prog (bin .neq 23 (.tmp 89) (.tmp 90) t89 t90) w k44) w fun t91 w =>
  gd t72 true (fun k45 => pk t87 (.bool true) t91 fun v => k45 v w) w fun t92 w =>
  gd t72 true (fun k46 => mv t92 fun v => k46 v w) w fun t93 w =>
  gd t93 false (fun k47 => o1 Tryz.prog (Instr.fieldAt 29 t4 3) w k47) w fun t94 w =>
  gd t93 false (fun k48 => o1 Tryz.prog (Instr.loadAt 27 t94) w k48) w fun t95 w =>
  gd t93 false (fun k49 => o1 Tryz.prog (Builtin.len_ #[27] 3 #[t95]) w k49) w fun t96 w =>
  gd t93 false (fun k50 => o1 Tryz.prog (bin .gtr 3 (.tmp 96) (.const (.int .i64 0)) t96 (.int .i64 0)) w k50) w fun t97 w =>
  gd t72 true (fun k51 => pk t93 (.bool true) t97 fun v => k51 v w) w fun t98 w =>
  pk t72 t98 (.bool false) fun t99 =>
  br t99 (fun _ =>
  mv (.int .i64 34) fun t2_3 =>
  k t2_3 w) (fun _ =>
  o1 Tryz.prog (Instr.fieldAt 25 t3 1) w fun t100 w =>
  o1 Tryz.prog (Instr.loadAt 3 t100) w fun t101 w =>
  o1 Tryz.prog (bin .gtr 3 (.tmp 101) (.const (.int .i64 1)) t101 (.int .i64 1)) w fun t102 w =>
  mv t102 fun t103 =>
  gd t103 true (fun k52 => o1 Tryz.prog (Instr.fieldAt 25 t3 3) w k52) w fun t104 w =>
  gd t103 true (fun k53 => o1 Tryz.prog (Instr.loadAt 23 t104) w k53) w fun t105 w =>
  gd t103 true (fun k54 => o1 Tryz.prog (Instr.loadAt 23 t6) w k54) w fun t106 w =>
  gd t103 true (fun k55 => o1 Tryz.prog (bin .eql 23 (.tmp 105) (.tmp 106) t105 t106) w k55) w fun t107 w =>
  gd t103 true (fun k56 => mv t107 fun v => k56 v w) w fun t108 w =>
  gd t108 false (fun k57 => o1 Tryz.prog (Instr.fieldAt 29 t4 0) w k57) w fun t109 w =>
  gd t108 false (fun k58 => o1 Tryz.prog (Instr.loadAt 3 t109) w k58) w fun t110 w =>
  gd t108 false (fun k59 => o1 Tryz.prog (bin .add 3 (.tmp 110) (.const (.int .i64 1)) t110 (.int .i64 1)) w k59) w fun t111 w =>
  gd t108 false (fun k60 => o1 Tryz.prog (Instr.fieldAt 25 t3 1) w k60) w fun t112 w =>
  gd t108 false (fun k61 => o1 Tryz.prog (Instr.loadAt 3 t112) w k61) w fun t113 w =>
  gd t108 false (fun k62 => o1 Tryz.prog (bin .neq 3 (.tmp 111) (.tmp 113) t111 t113) w k62) w fun t114 w =>
  gd t103 true (fun k63 => pk t108 (.bool true) t114 fun v => k63 v w) w fun t115 w =>
  gd t103 true (fun k64 => mv t115 fun v => k64 v w) w fun t116 w =>
  gd t116 false (fun k65 => o1 Tryz.prog (Instr.fieldAt 29 t4 2) w k65) w fun t117 w =>
  gd t116 false (fun k66 => o1 Tryz.prog (Instr.loadAt 23 t117) w k66) w fun t118 w =>
  gd t116 false (fun k67 => o1 Tryz.prog (Instr.fieldAt 25 t3 3) w k67) w fun t119 w =>
  gd t116 false (fun k68 => o1 Tryz.prog (Instr.loadAt 23 t119) w k68) w fun t120 w =>
  gd t116 false (fun k69 => o1 Tryz.prog (bin .neq 23 (.tmp 118) (.tmp 120) t118 t120) w k69) w fun t121 w =>
  gd t103 true (fun k70 => pk t116 (.bool true) t121 fun v => k70 v w) w fun t122 w =>
  pk t103 t122 (.bool false) fun t123 =>
  br t123 (fun _ =>
  mv (.int .i64 34) fun t2_4 =>
  k t2_4 w) (fun _ =>
  mv (.int .i64 0) fun t2_5 =>
  k t2_5 w))))
def F.isthmusref11_CheckBlock_rB (k : Value → World → Prop) (t1 t2 t3 t4 t5 : Value) (w : World) : Prop :=
  lp [t2, t5] w fun I1 μ1 => ∀ (x1 : Env) (w1 : World), I1 [x1 2, x1 5] w1 →
  mv (x1 5) fun t54 =>
  o1 Tryz.prog (Instr.fieldAt 31 t1 1) w1 fun t55 w =>
  o1 Tryz.prog (Instr.loadAt 26 t55) w fun t56 w =>
  o1 Tryz.prog (Builtin.len_ #[26] 3 #[t56]) w fun t57 w =>
  o1 Tryz.prog (bin .lss 3 (.tmp 54) (.tmp 57) t54 t57) w fun t58 w =>
  br t58 (fun _ =>
  o1 Tryz.prog (Instr.fieldAt 31 t1 1) w fun t61 w =>
  o1 Tryz.prog (Instr.loadAt 26 t61) w fun t62 w =>
  mv (x1 5) fun t63 =>
  o1 Tryz.prog (Instr.indexAt 26 t62 t63) w fun t64 w =>
  o1 Tryz.prog (Instr.loadAt 39 t64) w fun t65 w =>
  o1 Tryz.prog (Builtin.len_ #[39] 3 #[t65]) w fun t66 w =>
  o1 Tryz.prog (bin .gtr 3 (.tmp 66) (.const (.int .i64 65536)) t66 (.int .i64 65536)) w fun t67 w =>
  br t67 (fun _ =>
  mv (.int .i64 34) fun t2_2 =>
  k t2_2 w) (fun _ =>
  mv (x1 5) fun t59 =>
  o1 Tryz.prog (bin .add 3 (.tmp 59) (.const (.int .i64 1)) t59 (.int .i64 1)) w fun t60 w =>
  mv t60 fun t5_1 =>
  I1 [(x1 2), t5_1] w ∧ μ1 [(x1 2), t5_1] w < μ1 [x1 2, x1 5] w1)) (fun _ =>
  o1 Tryz.prog (Instr.build 23 #[]) w fun t68 w =>
  o1 Tryz.prog (Instr.alloc 23 true (.tuple #[])) w fun t6 w =>
  o0 Tryz.prog (Instr.storeAt 23 t6 t68) w fun _ w =>
  o1 Tryz.prog (Instr.fieldAt 25 t3 1) w fun t69 w =>
  o1 Tryz.prog (Instr.loadAt 3 t69) w fun t70 w =>
  o1 Tryz.prog (bin .eql 3 (.tmp 70) (.const (.int .i64 1)) t70 (.int .i64 1)) w fun t71 w =>
  mv t71 fun t72 =>
  gd t72 true (fun k26 => o1 Tryz.prog (Instr.fieldAt 25 t3 3) w k26) w fun t73 w =>
  gd t72 true (fun k27 => o1 Tryz.prog (Instr.loadAt 23 t73) w k27) w fun t74 w =>
  gd t72 true (fun k28 => o1 Tryz.prog (Instr.loadAt 23 t6) w k28) w fun t75 w =>
  gd t72 true (fun k29 => o1 Tryz.prog (bin .neq 23 (.tmp 74) (.tmp 75) t74 t75) w k29) w fun t76 w =>
  gd t72 true (fun k30 => mv t76 fun v => k30 v w) w fun t77 w =>
  gd t77 false (fun k31 => o1 Tryz.prog (Instr.fieldAt 29 t4 0) w k31) w fun t78 w =>
  gd t77 false (fun k32 => o1 Tryz.prog (Instr.loadAt 3 t78) w k32) w fun t79 w =>
  gd t77 false (fun k33 => o1 Tryz.prog (bin .neq 3 (.tmp 79) (.const (.int .i64 0)) t79 (.int .i64 0)) w k33) w fun t80 w =>
  gd t72 true (fun k34 => pk t77 (.bool true) t80 fun v => k34 v w) w fun t81 w =>
  gd t72 true (fun k35 => mv t81 fun v => k35 v w) w fun t82 w =>
  gd t82 false (fun k36 => o1 Tryz.prog (Instr.fieldAt 29 t4 1) w k36) w fun t83 w =>
  gd t82 false (fun k37 => o1 Tryz.prog (Instr.loadAt 3 t83) w k37) w fun t84 w =>
  gd t82 false (fun k38 => o1 Tryz.prog (bin .neq 3 (.tmp 84) (.const (.int .i64 0)) t84 (.int .i64 0)) w k38) w fun t85 w =>
  gd t72 true (fun k39 => pk t82 (.bool true) t85 fun v => k39 v w) w fun t86 w =>
  gd t72 true (fun k40 => mv t86 fun v => k40 v w) w fun t87 w =>
  gd t87 false (fun k41 => o1 Tryz.prog (Instr.fieldAt 29 t4 2) w k41) w fun t88 w =>
  gd t87 false (fun k42 => o1 Tryz.prog (Instr.loadAt 23 t88) w k42) w fun t89 w =>
  gd t87 false (fun k43 => o1 Tryz.prog (Instr.loadAt 23 t6) w k43) w fun t90 w =>
  gd t87 false (fun k44 => o1 Tryz.prog (bin .neq 23 (.tmp 89) (.tmp 90) t89 t90) w k44) w fun t91 w =>
  gd t72 true (fun k45 => pk t87 (.bool true) t91 fun v => k45 v w) w fun t92 w =>
  gd t72 true (fun k46 => mv t92 fun v => k46 v w) w fun t93 w =>
  gd t93 false (fun k47 => o1 Tryz.prog (Instr.fieldAt 29 t4 3) w k47) w fun t94 w =>
  gd t93 false (fun k48 => o1 Tryz.prog (Instr.loadAt 27 t94) w k48) w fun t95 w =>
  gd t93 false (fun k49 => o1 Tryz.prog (Builtin.len_ #[27] 3 #[t95]) w k49) w fun t96 w =>
  gd t93 false (fun k50 => o1 Tryz.prog (bin .gtr 3 (.tmp 96) (.const (.int .i64 0)) t96 (.int .i64 0)) w k50) w fun t97 w =>
  gd t72 true (fun k51 => pk t93 (.bool true) t97 fun v => k51 v w) w fun t98 w =>
  pk t72 t98 (.bool false) fun t99 =>
  br t99 (fun _ =>
  mv (.int .i64 34) fun t2_3 =>
  k t2_3 w) (fun _ =>
  o1 Tryz.prog (Instr.fieldAt 25 t3 1) w fun t100 w =>
  o1 Tryz.prog (Instr.loadAt 3 t100) w fun t101 w =>
  o1 Tryz.prog (bin .gtr 3 (.tmp 101) (.const (.int .i64 1)) t101 (.int .i64 1)) w fun t102 w =>
  mv t102 fun t103 =>
  gd t103 true (fun k52 => o1 Tryz.prog (Instr.fieldAt 25 t3 3) w k52) w fun t104 w =>
  gd t103 true (fun k53 => o1 Tryz.prog (Instr.loadAt 23 t104) w k53) w fun t105 w =>
  gd t103 true (fun k54 => o1 Tryz.prog (Instr.loadAt 23 t6) w k54) w fun t106 w =>
  gd t103 true (fun k55 => o1 Tryz.prog (bin .eql 23 (.tmp 105) (.tmp 106) t105 t106) w k55) w fun t107 w =>
  gd t103 true (fun k56 => mv t107 fun v => k56 v w) w fun t108 w =>
  gd t108 false (fun k57 => o1 Tryz.prog (Instr.fieldAt 29 t4 0) w k57) w fun t109 w =>
  gd t108 false (fun k58 => o1 Tryz.prog (Instr.loadAt 3 t109) w k58) w fun t110 w =>
  gd t108 false (fun k59 => o1 Tryz.prog (bin .add 3 (.tmp 110) (.const (.int .i64 1)) t110 (.int .i64 1)) w k59) w fun t111 w =>
  gd t108 false (fun k60 => o1 Tryz.prog (Instr.fieldAt 25 t3 1) w k60) w fun t112 w =>
  gd t108 false (fun k61 => o1 Tryz.prog (Instr.loadAt 3 t112) w k61) w fun t113 w =>
  gd t108 false (fun k62 => o1 Tryz.prog (bin .neq 3 (.tmp 111) (.tmp 113) t111 t113) w k62) w fun t114 w =>
  gd t103 true (fun k63 => pk t108 (.bool true) t114 fun v => k63 v w) w fun t115 w =>
  gd t103 true (fun k64 => mv t115 fun v => k64 v w) w fun t116 w =>
  gd t116 false (fun k65 => o1 Tryz.prog (Instr.fieldAt 29 t4 2) w k65) w fun t117 w =>
  gd t116 false (fun k66 => o1 Tryz.prog (Instr.loadAt 23 t117) w k66) w fun t118 w =>
  gd t116 false (fun k67 => o1 Tryz.prog (Instr.fieldAt 25 t3 3) w k67) w fun t119 w =>
  gd t116 false (fun k68 => o1 Tryz.prog (Instr.loadAt 23 t119) w k68) w fun t120 w =>
  gd t116 false (fun k69 => o1 Tryz.prog (bin .neq 23 (.tmp 118) (.tmp 120) t118 t120) w k69) w fun t121 w =>
  gd t103 true (fun k70 => pk t116 (.bool true) t121 fun v => k70 v w) w fun t122 w =>
  pk t103 t122 (.bool false) fun t123 =>
  br t123 (fun _ =>
  mv (.int .i64 34) fun t2_4 =>
  k t2_4 w) (fun _ =>
  mv (.int .i64 0) fun t2_5 =>
  k t2_5 w)))
def F.isthmusref11_CheckBlock_rC (k : Value → World → Prop) (t3 t4 t68 : Value) (w : World) : Prop :=
  o1 Tryz.prog (Instr.alloc 23 true (.tuple #[])) w fun t6 w =>
  o0 Tryz.prog (Instr.storeAt 23 t6 t68) w fun _ w =>
  o1 Tryz.prog (Instr.fieldAt 25 t3 1) w fun t69 w =>
  o1 Tryz.prog (Instr.loadAt 3 t69) w fun t70 w =>
  o1 Tryz.prog (bin .eql 3 (.tmp 70) (.const (.int .i64 1)) t70 (.int .i64 1)) w fun t71 w =>
  mv t71 fun t72 =>
  gd t72 true (fun k26 => o1 Tryz.prog (Instr.fieldAt 25 t3 3) w k26) w fun t73 w =>
  gd t72 true (fun k27 => o1 Tryz.prog (Instr.loadAt 23 t73) w k27) w fun t74 w =>
  gd t72 true (fun k28 => o1 Tryz.prog (Instr.loadAt 23 t6) w k28) w fun t75 w =>
  gd t72 true (fun k29 => o1 Tryz.prog (bin .neq 23 (.tmp 74) (.tmp 75) t74 t75) w k29) w fun t76 w =>
  gd t72 true (fun k30 => mv t76 fun v => k30 v w) w fun t77 w =>
  gd t77 false (fun k31 => o1 Tryz.prog (Instr.fieldAt 29 t4 0) w k31) w fun t78 w =>
  gd t77 false (fun k32 => o1 Tryz.prog (Instr.loadAt 3 t78) w k32) w fun t79 w =>
  gd t77 false (fun k33 => o1 Tryz.prog (bin .neq 3 (.tmp 79) (.const (.int .i64 0)) t79 (.int .i64 0)) w k33) w fun t80 w =>
  gd t72 true (fun k34 => pk t77 (.bool true) t80 fun v => k34 v w) w fun t81 w =>
  gd t72 true (fun k35 => mv t81 fun v => k35 v w) w fun t82 w =>
  gd t82 false (fun k36 => o1 Tryz.prog (Instr.fieldAt 29 t4 1) w k36) w fun t83 w =>
  gd t82 false (fun k37 => o1 Tryz.prog (Instr.loadAt 3 t83) w k37) w fun t84 w =>
  gd t82 false (fun k38 => o1 Tryz.prog (bin .neq 3 (.tmp 84) (.const (.int .i64 0)) t84 (.int .i64 0)) w k38) w fun t85 w =>
  gd t72 true (fun k39 => pk t82 (.bool true) t85 fun v => k39 v w) w fun t86 w =>
  gd t72 true (fun k40 => mv t86 fun v => k40 v w) w fun t87 w =>
  gd t87 false (fun k41 => o1 Tryz.prog (Instr.fieldAt 29 t4 2) w k41) w fun t88 w =>
  gd t87 false (fun k42 => o1 Tryz.prog (Instr.loadAt 23 t88) w k42) w fun t89 w =>
  gd t87 false (fun k43 => o1 Tryz.prog (Instr.loadAt 23 t6) w k43) w fun t90 w =>
  gd t87 false (fun k44 => o1 Tryz.prog (bin .neq 23 (.tmp 89) (.tmp 90) t89 t90) w k44) w fun t91 w =>
  gd t72 true (fun k45 => pk t87 (.bool true) t91 fun v => k45 v w) w fun t92 w =>
  gd t72 true (fun k46 => mv t92 fun v => k46 v w) w fun t93 w =>
  gd t93 false (fun k47 => o1 Tryz.prog (Instr.fieldAt 29 t4 3) w k47) w fun t94 w =>
  gd t93 false (fun k48 => o1 Tryz.prog (Instr.loadAt 27 t94) w k48) w fun t95 w =>
  gd t93 false (fun k49 => o1 Tryz.prog (Builtin.len_ #[27] 3 #[t95]) w k49) w fun t96 w =>
  gd t93 false (fun k50 => o1 Tryz.prog (bin .gtr 3 (.tmp 96) (.const (.int .i64 0)) t96 (.int .i64 0)) w k50) w fun t97 w =>
  gd t72 true (fun k51 => pk t93 (.bool true) t97 fun v => k51 v w) w fun t98 w =>
  pk t72 t98 (.bool false) fun t99 =>
  br t99 (fun _ =>
  mv (.int .i64 34) fun t2_3 =>
  k t2_3 w) (fun _ =>
  o1 Tryz.prog (Instr.fieldAt 25 t3 1) w fun t100 w =>
  o1 Tryz.prog (Instr.loadAt 3 t100) w fun t101 w =>
  o1 Tryz.prog (bin .gtr 3 (.tmp 101) (.const (.int .i64 1)) t101 (.int .i64 1)) w fun t102 w =>
  mv t102 fun t103 =>
  gd t103 true (fun k52 => o1 Tryz.prog (Instr.fieldAt 25 t3 3) w k52) w fun t104 w =>
  gd t103 true (fun k53 => o1 Tryz.prog (Instr.loadAt 23 t104) w k53) w fun t105 w =>
  gd t103 true (fun k54 => o1 Tryz.prog (Instr.loadAt 23 t6) w k54) w fun t106 w =>
  gd t103 true (fun k55 => o1 Tryz.prog (bin .eql 23 (.tmp 105) (.tmp 106) t105 t106) w k55) w fun t107 w =>
  gd t103 true (fun k56 => mv t107 fun v => k56 v w) w fun t108 w =>
  gd t108 false (fun k57 => o1 Tryz.prog (Instr.fieldAt 29 t4 0) w k57) w fun t109 w =>
  gd t108 false (fun k58 => o1 Tryz.prog (Instr.loadAt 3 t109) w k58) w fun t110 w =>
  gd t108 false (fun k59 => o1 Tryz.prog (bin .add 3 (.tmp 110) (.const (.int .i64 1)) t110 (.int .i64 1)) w k59) w fun t111 w =>
  gd t108 false (fun k60 => o1 Tryz.prog (Instr.fieldAt 25 t3 1) w k60) w fun t112 w =>
  gd t108 false (fun k61 => o1 Tryz.prog (Instr.loadAt 3 t112) w k61) w fun t113 w =>
  gd t108 false (fun k62 => o1 Tryz.prog (bin .neq 3 (.tmp 111) (.tmp 113) t111 t113) w k62) w fun t114 w =>
  gd t103 true (fun k63 => pk t108 (.bool true) t114 fun v => k63 v w) w fun t115 w =>
  gd t103 true (fun k64 => mv t115 fun v => k64 v w) w fun t116 w =>
  gd t116 false (fun k65 => o1 Tryz.prog (Instr.fieldAt 29 t4 2) w k65) w fun t117 w =>
  gd t116 false (fun k66 => o1 Tryz.prog (Instr.loadAt 23 t117) w k66) w fun t118 w =>
  gd t116 false (fun k67 => o1 Tryz.prog (Instr.fieldAt 25 t3 3) w k67) w fun t119 w =>
  gd t116 false (fun k68 => o1 Tryz.prog (Instr.loadAt 23 t119) w k68) w fun t120 w =>
  gd t116 false (fun k69 => o1 Tryz.prog (bin .neq 23 (.tmp 118) (.tmp 120) t118 t120) w k69) w fun t121 w =>
  gd t103 true (fun k70 => pk t116 (.bool true) t121 fun v => k70 v w) w fun t122 w =>
  pk t103 t122 (.bool false) fun t123 =>
  br t123 (fun _ =>
  mv (.int .i64 34) fun t2_4 =>
  k t2_4 w) (fun _ =>
  mv (.int .i64 0) fun t2_5 =>
  k t2_5 w))
section
variable {b : Base} {w : World} {L R : List It} {g : Nat} {v sv : Value} {cs : List Value}
theorem wrap_succ_eq {m h : Int} (hm : I64 m) (h1 : 1 ≤ h) (h2 : h ≤ 1099511627776) : (IntKind.i64.wrap (m + 1) = h) ↔ m = h - 1 := by
  obtain ⟨q1, q2⟩ := hm
  simp only [IntKind.wrap, IntKind.signed, IntKind.bits]
  simp
  omega
theorem cbR_C {x : Block} {g3 g4 : Nat} {A2 : Option Addr} {c2 : Nat} {K : Value → World → Prop} (hh : x.header.ok) (hc : x.last.ok) (hK : ∀ w', Isk.Sep b w' L → K (.int .i64 (checkBlock x)) w') (hT : okT x = true)
    (hs : Isk.Sep b w (blkI g4 T.api_Commit (ccC x.last A2 c2) :: blkI g3 T.api_Header (hcC x.header) :: L)) :
    F.isthmusref11_CheckBlock_rC K (.pointer (some ⟨g3, 0, none⟩)) (.pointer (some ⟨g4, 0, none⟩)) (.agg (u8s zero32).toArray) w := by
  have e1 := u8s_len hh.last; have e2 := u8s_len hh.app; have e3 := u8s_len hh.txs; have e4 := u8s_len hh.validators; have e5 := u8s_len hh.next
  have e6 := u8s_len hc.block
  have z : zero32.length = 32 := by decide
  have hA : okA x = true := by
    have := hT
    simp [okT] at this
    exact this.1
  have hge : 1 ≤ x.header.height ∧ x.header.height ≤ 1099511627776 := by
    simp [okA] at hA
    exact ⟨hA.2.1, hA.2.2.1⟩
  have h0 : okL x = true → checkBlock x = 0 := fun h => by rw [checkBlock, hT, h]; rfl
  have h34 : okL x = false → checkBlock x = 34 := fun h => by rw [checkBlock, hT, h]; rfl
  unfold F.isthmusref11_CheckBlock_rC
  unfold hcC ccC at hs
  refine sp_newr hs (by kernel_rfl) fun g6 w hs => ?_
  refine sp_setr hs .hd (by kernel_rfl) z32 (u8s_one _) fun w hs => ?_
  repeat (first
   | (with_reducible refine head.a0 ?_)
   | ((with_reducible apply head.r0 hs); (· (with_reducible (repeat (first | exact .blk | exact .rng | apply Rng.tl)))))
   | (with_reducible refine head.c0 ?_)
   | ((with_reducible apply head.e0); (· first | exact hS | exact hid); (· (with_reducible (repeat (first | exact .blk | exact .rng | apply Rng.tl)))))
   | (with_reducible refine head.a1 ?_)
   | ((with_reducible apply head.r1 hs); (· (with_reducible (repeat (first | exact .blk | exact .rng | apply Rng.tl)))))
   | (with_reducible refine head.c1 ?_)
   | ((with_reducible apply head.e1); (· first | exact hS | exact hid); (· (with_reducible (repeat (first | exact .blk | exact .rng | apply Rng.tl)))))
   | (with_reducible refine head.a2 ?_)
   | ((with_reducible apply head.r2 hs); (· (with_reducible (repeat (first | exact .blk | exact .rng | apply Rng.tl)))))
   | (with_reducible refine head.c2 ?_)
   | ((with_reducible apply head.e2); (· first | exact hS | exact hid); (· (with_reducible (repeat (first | exact .blk | exact .rng | apply Rng.tl)))))
   | (with_reducible refine head.a3 ?_)
   | ((with_reducible apply head.r3 hs); (· (with_reducible (repeat (first | exact .blk | exact .rng | apply Rng.tl)))); (· (with_reducible (first | assumption | exact z32 | exact u8s_len (by assumption)))))
   | (with_reducible refine head.c3 ?_)
   | ((with_reducible apply head.e3); (· first | exact hS | exact hid); (· (with_reducible (repeat (first | exact .blk | exact .rng | apply Rng.tl)))); (· (with_reducible (first | assumption | exact z32 | exact u8s_len (by assumption)))))
   | (with_reducible refine head.a4 ?_)
   | ((with_reducible apply head.r4 hs); (· (with_reducible (repeat (first | exact .blk | exact .rng | apply Rng.tl)))); (repeat (· (with_reducible (first | assumption | exact z32 | exact u8s_len (by assumption))))))
   | (with_reducible refine head.c4 ?_)
   | ((with_reducible apply head.e4); (· first | exact hS | exact hid); (· (with_reducible (repeat (first | exact .blk | exact .rng | apply Rng.tl)))); (repeat (· (with_reducible (first | assumption | exact z32 | exact u8s_len (by assumption))))))
   | (with_reducible refine head.a5 ?_)
   | ((with_reducible apply head.r5 hs); (· (with_reducible (repeat (first | exact .blk | exact .rng | apply Rng.tl)))); (repeat (· (with_reducible (first | assumption | exact z32 | exact u8s_len (by assumption))))))
   | (with_reducible refine head.c5 ?_)
   | ((with_reducible apply head.e5); (· first | exact hS | exact hid); (· (with_reducible (repeat (first | exact .blk | exact .rng | apply Rng.tl)))); (repeat (· (with_reducible (first | assumption | exact z32 | exact u8s_len (by assumption))))))
   | (with_reducible refine head.a6 ?_)
   | ((with_reducible apply head.r6 hs); (· (with_reducible (repeat (first | exact .blk | exact .rng | apply Rng.tl)))); (repeat (· (with_reducible (first | assumption | exact z32 | exact u8s_len (by assumption))))))
   | (with_reducible refine head.c6 ?_)
   | ((with_reducible apply head.e6); (· first | exact hS | exact hid); (· (with_reducible (repeat (first | exact .blk | exact .rng | apply Rng.tl)))); (repeat (· (with_reducible (first | assumption | exact z32 | exact u8s_len (by assumption))))))
   | (with_reducible refine head.a7 ?_)
   | ((with_reducible apply head.r7 hs); (· (with_reducible (repeat (first | exact .blk | exact .rng | apply Rng.tl)))); (repeat (· (with_reducible (first | assumption | exact z32 | exact u8s_len (by assumption))))))
   | (with_reducible refine head.c7 ?_)
   | ((with_reducible apply head.e7); (· first | exact hS | exact hid); (· (with_reducible (repeat (first | exact .blk | exact .rng | apply Rng.tl)))); (repeat (· (with_reducible (first | assumption | exact z32 | exact u8s_len (by assumption))))))
   | (with_reducible refine head.a8 ?_)
   | ((with_reducible apply head.r8 hs); (· (with_reducible (repeat (first | exact .blk | exact .rng | apply Rng.tl)))); (repeat (· (with_reducible (first | assumption | exact z32 | exact u8s_len (by assumption))))))
   | (with_reducible refine head.c8 ?_)
   | ((with_reducible apply head.e8); (· first | exact hS | exact hid); (· (with_reducible (repeat (first | exact .blk | exact .rng | apply Rng.tl)))); (repeat (· (with_reducible (first | assumption | exact z32 | exact u8s_len (by assumption))))))
   | (with_reducible (first | refine st_lens ?_ | refine st_eqls ?_ | refine st_nels ?_ | refine tk_eqls ?_ | refine tk_nels ?_ | refine mv.mk ?_ | refine nk_p ?_ | refine gdT_i ?_ | refine gdT_ft ?_ | refine gdT_tf ?_ | refine gdT_u ?_ | refine gd_u ?_ | refine gd_ft ?_ | refine gd_tf ?_ | refine gd_i ?_ | refine pk_t ?_ | refine pk_f ?_ | refine br_t ?_ | refine br_f ?_ | refine sp_boxa hs fun g w hs => ?_))
   | (with_reducible ((first | apply st_bin | apply st_ext | apply st_len | apply st_un | apply st_conv | apply st_mki | apply st_fld | apply st_cap | apply st_max | apply st_min | apply st_ixv | apply st_mkf); intro k' hk; simp [go_sem, thenR_ok, bin]; refine hk _ _ ?_; clear hk k'))
   | ((with_reducible (first | apply tk_bin | apply tk_ext | apply tk_len | apply tk_un)); (· intro w; simp [go_sem, bin]; rfl))
   | ((with_reducible apply sp_newr hs); (· kernel_rfl); intro g w hs))
  by_cases h1 : x.header.height = 1
  · rw [show (x.header.height == 1) = true by simpa using h1]
    have hgt : ¬ (1 < x.header.height) := by omega
    repeat (first
     | (with_reducible refine head.a0 ?_)
     | ((with_reducible apply head.r0 hs); (· (with_reducible (repeat (first | exact .blk | exact .rng | apply Rng.tl)))))
     | (with_reducible refine head.c0 ?_)
     | ((with_reducible apply head.e0); (· first | exact hS | exact hid); (· (with_reducible (repeat (first | exact .blk | exact .rng | apply Rng.tl)))))
     | (with_reducible refine head.a1 ?_)
     | ((with_reducible apply head.r1 hs); (· (with_reducible (repeat (first | exact .blk | exact .rng | apply Rng.tl)))))
     | (with_reducible refine head.c1 ?_)
     | ((with_reducible apply head.e1); (· first | exact hS | exact hid); (· (with_reducible (repeat (first | exact .blk | exact .rng | apply Rng.tl)))))
     | (with_reducible refine head.a2 ?_)
     | ((with_reducible apply head.r2 hs); (· (with_reducible (repeat (first | exact .blk | exact .rng | apply Rng.tl)))))
     | (with_reducible refine head.c2 ?_)
     | ((with_reducible apply head.e2); (· first | exact hS | exact hid); (· (with_reducible (repeat (first | exact .blk | exact .rng | apply Rng.tl)))))
     | (with_reducible refine head.a3 ?_)
     | ((with_reducible apply head.r3 hs); (· (with_reducible (repeat (first | exact .blk | exact .rng | apply Rng.tl)))); (· (with_reducible (first | assumption | exact z32 | exact u8s_len (by assumption)))))
     | (with_reducible refine head.c3 ?_)
     | ((with_reducible apply head.e3); (· first | exact hS | exact hid); (· (with_reducible (repeat (first | exact .blk | exact .rng | apply Rng.tl)))); (· (with_reducible (first | assumption | exact z32 | exact u8s_len (by assumption)))))
     | (with_reducible refine head.a4 ?_)
     | ((with_reducible apply head.r4 hs); (· (with_reducible (repeat (first | exact .blk | exact .rng | apply Rng.tl)))); (repeat (· (with_reducible (first | assumption | exact z32 | exact u8s_len (by assumption))))))
     | (with_reducible refine head.c4 ?_)
     | ((with_reducible apply head.e4); (· first | exact hS | exact hid); (· (with_reducible (repeat (first | exact .blk | exact .rng | apply Rng.tl)))); (repeat (· (with_reducible (first | assumption | exact z32 | exact u8s_len (by assumption))))))
     | (with_reducible refine head.a5 ?_)
     | ((with_reducible apply head.r5 hs); (· (with_reducible (repeat (first | exact .blk | exact .rng | apply Rng.tl)))); (repeat (· (with_reducible (first | assumption | exact z32 | exact u8s_len (by assumption))))))
     | (with_reducible refine head.c5 ?_)
     | ((with_reducible apply head.e5); (· first | exact hS | exact hid); (· (with_reducible (repeat (first | exact .blk | exact .rng | apply Rng.tl)))); (repeat (· (with_reducible (first | assumption | exact z32 | exact u8s_len (by assumption))))))
     | (with_reducible refine head.a6 ?_)
     | ((with_reducible apply head.r6 hs); (· (with_reducible (repeat (first | exact .blk | exact .rng | apply Rng.tl)))); (repeat (· (with_reducible (first | assumption | exact z32 | exact u8s_len (by assumption))))))
     | (with_reducible refine head.c6 ?_)
     | ((with_reducible apply head.e6); (· first | exact hS | exact hid); (· (with_reducible (repeat (first | exact .blk | exact .rng | apply Rng.tl)))); (repeat (· (with_reducible (first | assumption | exact z32 | exact u8s_len (by assumption))))))
     | (with_reducible refine head.a7 ?_)
     | ((with_reducible apply head.r7 hs); (· (with_reducible (repeat (first | exact .blk | exact .rng | apply Rng.tl)))); (repeat (· (with_reducible (first | assumption | exact z32 | exact u8s_len (by assumption))))))
     | (with_reducible refine head.c7 ?_)
     | ((with_reducible apply head.e7); (· first | exact hS | exact hid); (· (with_reducible (repeat (first | exact .blk | exact .rng | apply Rng.tl)))); (repeat (· (with_reducible (first | assumption | exact z32 | exact u8s_len (by assumption))))))
     | (with_reducible refine head.a8 ?_)
     | ((with_reducible apply head.r8 hs); (· (with_reducible (repeat (first | exact .blk | exact .rng | apply Rng.tl)))); (repeat (· (with_reducible (first | assumption | exact z32 | exact u8s_len (by assumption))))))
     | (with_reducible refine head.c8 ?_)
     | ((with_reducible apply head.e8); (· first | exact hS | exact hid); (· (with_reducible (repeat (first | exact .blk | exact .rng | apply Rng.tl)))); (repeat (· (with_reducible (first | assumption | exact z32 | exact u8s_len (by assumption))))))
     | (with_reducible (first | refine st_lens ?_ | refine st_eqls ?_ | refine st_nels ?_ | refine tk_eqls ?_ | refine tk_nels ?_ | refine mv.mk ?_ | refine nk_p ?_ | refine gdT_i ?_ | refine gdT_ft ?_ | refine gdT_tf ?_ | refine gdT_u ?_ | refine gd_u ?_ | refine gd_ft ?_ | refine gd_tf ?_ | refine gd_i ?_ | refine pk_t ?_ | refine pk_f ?_ | refine br_t ?_ | refine br_f ?_ | refine sp_boxa hs fun g w hs => ?_))
     | (with_reducible ((first | apply st_bin | apply st_ext | apply st_len | apply st_un | apply st_conv | apply st_mki | apply st_fld | apply st_cap | apply st_max | apply st_min | apply st_ixv | apply st_mkf); intro k' hk; simp [go_sem, thenR_ok, bin]; refine hk _ _ ?_; clear hk k'))
     | ((with_reducible (first | apply tk_bin | apply tk_ext | apply tk_len | apply tk_un)); (· intro w; simp [go_sem, bin]; rfl))
     | ((with_reducible apply sp_newr hs); (· kernel_rfl); intro g w hs))
    refine sp_ldn hs (by repeat (first | with_reducible exact Rng.blk | with_reducible exact Rng.rng | with_reducible apply Rng.tl)) (by kernel_rfl) z32 ?_
    repeat (first
     | (with_reducible (first | refine st_lens ?_ | refine st_eqls ?_ | refine st_nels ?_ | refine tk_eqls ?_ | refine tk_nels ?_ | refine mv.mk ?_ | refine nk_p ?_ | refine gdT_i ?_ | refine gdT_ft ?_ | refine gdT_tf ?_ | refine gdT_u ?_ | refine gd_u ?_ | refine gd_ft ?_ | refine gd_tf ?_ | refine gd_i ?_ | refine pk_t ?_ | refine pk_f ?_ | refine br_t ?_ | refine br_f ?_ | refine sp_boxa hs fun g w hs => ?_))
     | (with_reducible ((first | apply st_bin | apply st_ext | apply st_len | apply st_un | apply st_conv | apply st_mki | apply st_fld | apply st_cap | apply st_max | apply st_min | apply st_ixv | apply st_mkf); intro k' hk; simp [go_sem, thenR_ok, bin]; refine hk _ _ ?_; clear hk k'))
     | ((with_reducible (first | apply tk_bin | apply tk_ext | apply tk_len | apply tk_un)); (· intro w; simp [go_sem, bin]; rfl))
     | ((with_reducible apply sp_newr hs); (· kernel_rfl); intro g w hs))
    refine st_of (hash_ne hh.last z _ _ _) ?_
    by_cases c3 : x.header.last = zero32
    rotate_left
    · rw [show (!decide (x.header.last = zero32)) = true by simpa using c3]
      repeat (first
       | (with_reducible (first | refine st_lens ?_ | refine st_eqls ?_ | refine st_nels ?_ | refine tk_eqls ?_ | refine tk_nels ?_ | refine mv.mk ?_ | refine nk_p ?_ | refine gdT_i ?_ | refine gdT_ft ?_ | refine gdT_tf ?_ | refine gdT_u ?_ | refine gd_u ?_ | refine gd_ft ?_ | refine gd_tf ?_ | refine gd_i ?_ | refine pk_t ?_ | refine pk_f ?_ | refine br_t ?_ | refine br_f ?_ | refine sp_boxa hs fun g w hs => ?_))
       | (with_reducible ((first | apply st_bin | apply st_ext | apply st_len | apply st_un | apply st_conv | apply st_mki | apply st_fld | apply st_cap | apply st_max | apply st_min | apply st_ixv | apply st_mkf); intro k' hk; simp [go_sem, thenR_ok, bin]; refine hk _ _ ?_; clear hk k'))
       | ((with_reducible (first | apply tk_bin | apply tk_ext | apply tk_len | apply tk_un)); (· intro w; simp [go_sem, bin]; rfl))
       | ((with_reducible apply sp_newr hs); (· kernel_rfl); intro g w hs))
      have := hK _ (hs.sbl (.drop (.drop (.drop .all))))
      rw [h34 (by simp [okL, h1, c3])] at this
      exact this
    rw [show (!decide (x.header.last = zero32)) = false by simpa using c3]
    repeat (first
     | (with_reducible refine comm.a0 ?_)
     | ((with_reducible apply comm.r0 hs); (· (with_reducible (repeat (first | exact .blk | exact .rng | apply Rng.tl)))))
     | (with_reducible refine comm.c0 ?_)
     | ((with_reducible apply comm.e0); (· first | exact hS | exact hid); (· (with_reducible (repeat (first | exact .blk | exact .rng | apply Rng.tl)))))
     | (with_reducible refine comm.a1 ?_)
     | ((with_reducible apply comm.r1 hs); (· (with_reducible (repeat (first | exact .blk | exact .rng | apply Rng.tl)))))
     | (with_reducible refine comm.c1 ?_)
     | ((with_reducible apply comm.e1); (· first | exact hS | exact hid); (· (with_reducible (repeat (first | exact .blk | exact .rng | apply Rng.tl)))))
     | (with_reducible refine comm.a2 ?_)
     | ((with_reducible apply comm.r2 hs); (· (with_reducible (repeat (first | exact .blk | exact .rng | apply Rng.tl)))); (· (with_reducible (first | assumption | exact z32 | exact u8s_len (by assumption)))))
     | (with_reducible refine comm.c2 ?_)
     | ((with_reducible apply comm.e2); (· first | exact hS | exact hid); (· (with_reducible (repeat (first | exact .blk | exact .rng | apply Rng.tl)))); (· (with_reducible (first | assumption | exact z32 | exact u8s_len (by assumption)))))
     | (with_reducible refine comm.a3 ?_)
     | ((with_reducible apply comm.r3 hs); (· (with_reducible (repeat (first | exact .blk | exact .rng | apply Rng.tl)))); (· (with_reducible (first | assumption | exact z32 | exact u8s_len (by assumption)))))
     | (with_reducible refine comm.c3 ?_)
     | ((with_reducible apply comm.e3); (· first | exact hS | exact hid); (· (with_reducible (repeat (first | exact .blk | exact .rng | apply Rng.tl)))); (· (with_reducible (first | assumption | exact z32 | exact u8s_len (by assumption)))))
     | (with_reducible (first | refine st_lens ?_ | refine st_eqls ?_ | refine st_nels ?_ | refine tk_eqls ?_ | refine tk_nels ?_ | refine mv.mk ?_ | refine nk_p ?_ | refine gdT_i ?_ | refine gdT_ft ?_ | refine gdT_tf ?_ | refine gdT_u ?_ | refine gd_u ?_ | refine gd_ft ?_ | refine gd_tf ?_ | refine gd_i ?_ | refine pk_t ?_ | refine pk_f ?_ | refine br_t ?_ | refine br_f ?_ | refine sp_boxa hs fun g w hs => ?_))
     | (with_reducible ((first | apply st_bin | apply st_ext | apply st_len | apply st_un | apply st_conv | apply st_mki | apply st_fld | apply st_cap | apply st_max | apply st_min | apply st_ixv | apply st_mkf); intro k' hk; simp [go_sem, thenR_ok, bin]; refine hk _ _ ?_; clear hk k'))
     | ((with_reducible (first | apply tk_bin | apply tk_ext | apply tk_len | apply tk_un)); (· intro w; simp [go_sem, bin]; rfl))
     | ((with_reducible apply sp_newr hs); (· kernel_rfl); intro g w hs))
    by_cases c4 : x.last.height = 0
    rotate_left
    · rw [show (x.last.height != 0) = true by simpa using c4]
      repeat (first
       | (with_reducible (first | refine st_lens ?_ | refine st_eqls ?_ | refine st_nels ?_ | refine tk_eqls ?_ | refine tk_nels ?_ | refine mv.mk ?_ | refine nk_p ?_ | refine gdT_i ?_ | refine gdT_ft ?_ | refine gdT_tf ?_ | refine gdT_u ?_ | refine gd_u ?_ | refine gd_ft ?_ | refine gd_tf ?_ | refine gd_i ?_ | refine pk_t ?_ | refine pk_f ?_ | refine br_t ?_ | refine br_f ?_ | refine sp_boxa hs fun g w hs => ?_))
       | (with_reducible ((first | apply st_bin | apply st_ext | apply st_len | apply st_un | apply st_conv | apply st_mki | apply st_fld | apply st_cap | apply st_max | apply st_min | apply st_ixv | apply st_mkf); intro k' hk; simp [go_sem, thenR_ok, bin]; refine hk _ _ ?_; clear hk k'))
       | ((with_reducible (first | apply tk_bin | apply tk_ext | apply tk_len | apply tk_un)); (· intro w; simp [go_sem, bin]; rfl))
       | ((with_reducible apply sp_newr hs); (· kernel_rfl); intro g w hs))
      have := hK _ (hs.sbl (.drop (.drop (.drop .all))))
      rw [h34 (by simp [okL, h1, c3, c4])] at this
      exact this
    rw [show (x.last.height != 0) = false by simpa using c4]
    repeat (first
     | (with_reducible refine comm.a0 ?_)
     | ((with_reducible apply comm.r0 hs); (· (with_reducible (repeat (first | exact .blk | exact .rng | apply Rng.tl)))))
     | (with_reducible refine comm.c0 ?_)
     | ((with_reducible apply comm.e0); (· first | exact hS | exact hid); (· (with_reducible (repeat (first | exact .blk | exact .rng | apply Rng.tl)))))
     | (with_reducible refine comm.a1 ?_)
     | ((with_reducible apply comm.r1 hs); (· (with_reducible (repeat (first | exact .blk | exact .rng | apply Rng.tl)))))
     | (with_reducible refine comm.c1 ?_)
     | ((with_reducible apply comm.e1); (· first | exact hS | exact hid); (· (with_reducible (repeat (first | exact .blk | exact .rng | apply Rng.tl)))))
     | (with_reducible refine comm.a2 ?_)
     | ((with_reducible apply comm.r2 hs); (· (with_reducible (repeat (first | exact .blk | exact .rng | apply Rng.tl)))); (· (with_reducible (first | assumption | exact z32 | exact u8s_len (by assumption)))))
     | (with_reducible refine comm.c2 ?_)
     | ((with_reducible apply comm.e2); (· first | exact hS | exact hid); (· (with_reducible (repeat (first | exact .blk | exact .rng | apply Rng.tl)))); (· (with_reducible (first | assumption | exact z32 | exact u8s_len (by assumption)))))
     | (with_reducible refine comm.a3 ?_)
     | ((with_reducible apply comm.r3 hs); (· (with_reducible (repeat (first | exact .blk | exact .rng | apply Rng.tl)))); (· (with_reducible (first | assumption | exact z32 | exact u8s_len (by assumption)))))
     | (with_reducible refine comm.c3 ?_)
     | ((with_reducible apply comm.e3); (· first | exact hS | exact hid); (· (with_reducible (repeat (first | exact .blk | exact .rng | apply Rng.tl)))); (· (with_reducible (first | assumption | exact z32 | exact u8s_len (by assumption)))))
     | (with_reducible (first | refine st_lens ?_ | refine st_eqls ?_ | refine st_nels ?_ | refine tk_eqls ?_ | refine tk_nels ?_ | refine mv.mk ?_ | refine nk_p ?_ | refine gdT_i ?_ | refine gdT_ft ?_ | refine gdT_tf ?_ | refine gdT_u ?_ | refine gd_u ?_ | refine gd_ft ?_ | refine gd_tf ?_ | refine gd_i ?_ | refine pk_t ?_ | refine pk_f ?_ | refine br_t ?_ | refine br_f ?_ | refine sp_boxa hs fun g w hs => ?_))
     | (with_reducible ((first | apply st_bin | apply st_ext | apply st_len | apply st_un | apply st_conv | apply st_mki | apply st_fld | apply st_cap | apply st_max | apply st_min | apply st_ixv | apply st_mkf); intro k' hk; simp [go_sem, thenR_ok, bin]; refine hk _ _ ?_; clear hk k'))
     | ((with_reducible (first | apply tk_bin | apply tk_ext | apply tk_len | apply tk_un)); (· intro w; simp [go_sem, bin]; rfl))
     | ((with_reducible apply sp_newr hs); (· kernel_rfl); intro g w hs))
    by_cases c5 : x.last.round = 0
    rotate_left
    · rw [show (x.last.round != 0) = true by simpa using c5]
      repeat (first
       | (with_reducible (first | refine st_lens ?_ | refine st_eqls ?_ | refine st_nels ?_ | refine tk_eqls ?_ | refine tk_nels ?_ | refine mv.mk ?_ | refine nk_p ?_ | refine gdT_i ?_ | refine gdT_ft ?_ | refine gdT_tf ?_ | refine gdT_u ?_ | refine gd_u ?_ | refine gd_ft ?_ | refine gd_tf ?_ | refine gd_i ?_ | refine pk_t ?_ | refine pk_f ?_ | refine br_t ?_ | refine br_f ?_ | refine sp_boxa hs fun g w hs => ?_))
       | (with_reducible ((first | apply st_bin | apply st_ext | apply st_len | apply st_un | apply st_conv | apply st_mki | apply st_fld | apply st_cap | apply st_max | apply st_min | apply st_ixv | apply st_mkf); intro k' hk; simp [go_sem, thenR_ok, bin]; refine hk _ _ ?_; clear hk k'))
       | ((with_reducible (first | apply tk_bin | apply tk_ext | apply tk_len | apply tk_un)); (· intro w; simp [go_sem, bin]; rfl))
       | ((with_reducible apply sp_newr hs); (· kernel_rfl); intro g w hs))
      have := hK _ (hs.sbl (.drop (.drop (.drop .all))))
      rw [h34 (by simp [okL, h1, c3, c4, c5])] at this
      exact this
    rw [show (x.last.round != 0) = false by simpa using c5]
    repeat (first
     | (with_reducible refine comm.a0 ?_)
     | ((with_reducible apply comm.r0 hs); (· (with_reducible (repeat (first | exact .blk | exact .rng | apply Rng.tl)))))
     | (with_reducible refine comm.c0 ?_)
     | ((with_reducible apply comm.e0); (· first | exact hS | exact hid); (· (with_reducible (repeat (first | exact .blk | exact .rng | apply Rng.tl)))))
     | (with_reducible refine comm.a1 ?_)
     | ((with_reducible apply comm.r1 hs); (· (with_reducible (repeat (first | exact .blk | exact .rng | apply Rng.tl)))))
     | (with_reducible refine comm.c1 ?_)
     | ((with_reducible apply comm.e1); (· first | exact hS | exact hid); (· (with_reducible (repeat (first | exact .blk | exact .rng | apply Rng.tl)))))
     | (with_reducible refine comm.a2 ?_)
     | ((with_reducible apply comm.r2 hs); (· (with_reducible (repeat (first | exact .blk | exact .rng | apply Rng.tl)))); (· (with_reducible (first | assumption | exact z32 | exact u8s_len (by assumption)))))
     | (with_reducible refine comm.c2 ?_)
     | ((with_reducible apply comm.e2); (· first | exact hS | exact hid); (· (with_reducible (repeat (first | exact .blk | exact .rng | apply Rng.tl)))); (· (with_reducible (first | assumption | exact z32 | exact u8s_len (by assumption)))))
     | (with_reducible refine comm.a3 ?_)
     | ((with_reducible apply comm.r3 hs); (· (with_reducible (repeat (first | exact .blk | exact .rng | apply Rng.tl)))); (· (with_reducible (first | assumption | exact z32 | exact u8s_len (by assumption)))))
     | (with_reducible refine comm.c3 ?_)
     | ((with_reducible apply comm.e3); (· first | exact hS | exact hid); (· (with_reducible (repeat (first | exact .blk | exact .rng | apply Rng.tl)))); (· (with_reducible (first | assumption | exact z32 | exact u8s_len (by assumption)))))
     | (with_reducible (first | refine st_lens ?_ | refine st_eqls ?_ | refine st_nels ?_ | refine tk_eqls ?_ | refine tk_nels ?_ | refine mv.mk ?_ | refine nk_p ?_ | refine gdT_i ?_ | refine gdT_ft ?_ | refine gdT_tf ?_ | refine gdT_u ?_ | refine gd_u ?_ | refine gd_ft ?_ | refine gd_tf ?_ | refine gd_i ?_ | refine pk_t ?_ | refine pk_f ?_ | refine br_t ?_ | refine br_f ?_ | refine sp_boxa hs fun g w hs => ?_))
     | (with_reducible ((first | apply st_bin | apply st_ext | apply st_len | apply st_un | apply st_conv | apply st_mki | apply st_fld | apply st_cap | apply st_max | apply st_min | apply st_ixv | apply st_mkf); intro k' hk; simp [go_sem, thenR_ok, bin]; refine hk _ _ ?_; clear hk k'))
     | ((with_reducible (first | apply tk_bin | apply tk_ext | apply tk_len | apply tk_un)); (· intro w; simp [go_sem, bin]; rfl))
     | ((with_reducible apply sp_newr hs); (· kernel_rfl); intro g w hs))
    refine sp_ldn hs (by repeat (first | with_reducible exact Rng.blk | with_reducible exact Rng.rng | with_reducible apply Rng.tl)) (by kernel_rfl) z32 ?_
    repeat (first
     | (with_reducible (first | refine st_lens ?_ | refine st_eqls ?_ | refine st_nels ?_ | refine tk_eqls ?_ | refine tk_nels ?_ | refine mv.mk ?_ | refine nk_p ?_ | refine gdT_i ?_ | refine gdT_ft ?_ | refine gdT_tf ?_ | refine gdT_u ?_ | refine gd_u ?_ | refine gd_ft ?_ | refine gd_tf ?_ | refine gd_i ?_ | refine pk_t ?_ | refine pk_f ?_ | refine br_t ?_ | refine br_f ?_ | refine sp_boxa hs fun g w hs => ?_))
     | (with_reducible ((first | apply st_bin | apply st_ext | apply st_len | apply st_un | apply st_conv | apply st_mki | apply st_fld | apply st_cap | apply st_max | apply st_min | apply st_ixv | apply st_mkf); intro k' hk; simp [go_sem, thenR_ok, bin]; refine hk _ _ ?_; clear hk k'))
     | ((with_reducible (first | apply tk_bin | apply tk_ext | apply tk_len | apply tk_un)); (· intro w; simp [go_sem, bin]; rfl))
     | ((with_reducible apply sp_newr hs); (· kernel_rfl); intro g w hs))
    refine st_of (hash_ne hc.block z _ _ _) ?_
    by_cases c6 : x.last.block = zero32
    rotate_left
    · rw [show (!decide (x.last.block = zero32)) = true by simpa using c6]
      repeat (first
       | (with_reducible (first | refine st_lens ?_ | refine st_eqls ?_ | refine st_nels ?_ | refine tk_eqls ?_ | refine tk_nels ?_ | refine mv.mk ?_ | refine nk_p ?_ | refine gdT_i ?_ | refine gdT_ft ?_ | refine gdT_tf ?_ | refine gdT_u ?_ | refine gd_u ?_ | refine gd_ft ?_ | refine gd_tf ?_ | refine gd_i ?_ | refine pk_t ?_ | refine pk_f ?_ | refine br_t ?_ | refine br_f ?_ | refine sp_boxa hs fun g w hs => ?_))
       | (with_reducible ((first | apply st_bin | apply st_ext | apply st_len | apply st_un | apply st_conv | apply st_mki | apply st_fld | apply st_cap | apply st_max | apply st_min | apply st_ixv | apply st_mkf); intro k' hk; simp [go_sem, thenR_ok, bin]; refine hk _ _ ?_; clear hk k'))
       | ((with_reducible (first | apply tk_bin | apply tk_ext | apply tk_len | apply tk_un)); (· intro w; simp [go_sem, bin]; rfl))
       | ((with_reducible apply sp_newr hs); (· kernel_rfl); intro g w hs))
      have := hK _ (hs.sbl (.drop (.drop (.drop .all))))
      rw [h34 (by simp [okL, h1, c3, c4, c5, c6])] at this
      exact this
    rw [show (!decide (x.last.block = zero32)) = false by simpa using c6]
    repeat (first
     | (with_reducible refine comm.a0 ?_)
     | ((with_reducible apply comm.r0 hs); (· (with_reducible (repeat (first | exact .blk | exact .rng | apply Rng.tl)))))
     | (with_reducible refine comm.c0 ?_)
     | ((with_reducible apply comm.e0); (· first | exact hS | exact hid); (· (with_reducible (repeat (first | exact .blk | exact .rng | apply Rng.tl)))))
     | (with_reducible refine comm.a1 ?_)
     | ((with_reducible apply comm.r1 hs); (· (with_reducible (repeat (first | exact .blk | exact .rng | apply Rng.tl)))))
     | (with_reducible refine comm.c1 ?_)
     | ((with_reducible apply comm.e1); (· first | exact hS | exact hid); (· (with_reducible (repeat (first | exact .blk | exact .rng | apply Rng.tl)))))
     | (with_reducible refine comm.a2 ?_)
     | ((with_reducible apply comm.r2 hs); (· (with_reducible (repeat (first | exact .blk | exact .rng | apply Rng.tl)))); (· (with_reducible (first | assumption | exact z32 | exact u8s_len (by assumption)))))
     | (with_reducible refine comm.c2 ?_)
     | ((with_reducible apply comm.e2); (· first | exact hS | exact hid); (· (with_reducible (repeat (first | exact .blk | exact .rng | apply Rng.tl)))); (· (with_reducible (first | assumption | exact z32 | exact u8s_len (by assumption)))))
     | (with_reducible refine comm.a3 ?_)
     | ((with_reducible apply comm.r3 hs); (· (with_reducible (repeat (first | exact .blk | exact .rng | apply Rng.tl)))); (· (with_reducible (first | assumption | exact z32 | exact u8s_len (by assumption)))))
     | (with_reducible refine comm.c3 ?_)
     | ((with_reducible apply comm.e3); (· first | exact hS | exact hid); (· (with_reducible (repeat (first | exact .blk | exact .rng | apply Rng.tl)))); (· (with_reducible (first | assumption | exact z32 | exact u8s_len (by assumption)))))
     | (with_reducible (first | refine st_lens ?_ | refine st_eqls ?_ | refine st_nels ?_ | refine tk_eqls ?_ | refine tk_nels ?_ | refine mv.mk ?_ | refine nk_p ?_ | refine gdT_i ?_ | refine gdT_ft ?_ | refine gdT_tf ?_ | refine gdT_u ?_ | refine gd_u ?_ | refine gd_ft ?_ | refine gd_tf ?_ | refine gd_i ?_ | refine pk_t ?_ | refine pk_f ?_ | refine br_t ?_ | refine br_f ?_ | refine sp_boxa hs fun g w hs => ?_))
     | (with_reducible ((first | apply st_bin | apply st_ext | apply st_len | apply st_un | apply st_conv | apply st_mki | apply st_fld | apply st_cap | apply st_max | apply st_min | apply st_ixv | apply st_mkf); intro k' hk; simp [go_sem, thenR_ok, bin]; refine hk _ _ ?_; clear hk k'))
     | ((with_reducible (first | apply tk_bin | apply tk_ext | apply tk_len | apply tk_un)); (· intro w; simp [go_sem, bin]; rfl))
     | ((with_reducible apply sp_newr hs); (· kernel_rfl); intro g w hs))
    by_cases c7 : x.last.votes.length = 0
    rotate_left
    · rw [decide_eq_true (show 0 < x.last.votes.length by omega)]
      repeat (first
       | (with_reducible (first | refine st_lens ?_ | refine st_eqls ?_ | refine st_nels ?_ | refine tk_eqls ?_ | refine tk_nels ?_ | refine mv.mk ?_ | refine nk_p ?_ | refine gdT_i ?_ | refine gdT_ft ?_ | refine gdT_tf ?_ | refine gdT_u ?_ | refine gd_u ?_ | refine gd_ft ?_ | refine gd_tf ?_ | refine gd_i ?_ | refine pk_t ?_ | refine pk_f ?_ | refine br_t ?_ | refine br_f ?_ | refine sp_boxa hs fun g w hs => ?_))
       | (with_reducible ((first | apply st_bin | apply st_ext | apply st_len | apply st_un | apply st_conv | apply st_mki | apply st_fld | apply st_cap | apply st_max | apply st_min | apply st_ixv | apply st_mkf); intro k' hk; simp [go_sem, thenR_ok, bin]; refine hk _ _ ?_; clear hk k'))
       | ((with_reducible (first | apply tk_bin | apply tk_ext | apply tk_len | apply tk_un)); (· intro w; simp [go_sem, bin]; rfl))
       | ((with_reducible apply sp_newr hs); (· kernel_rfl); intro g w hs))
      have := hK _ (hs.sbl (.drop (.drop (.drop .all))))
      rw [h34 (by simp [okL, h1, c3, c4, c5, c6, c7])] at this
      exact this
    rw [decide_eq_false (show ¬ 0 < x.last.votes.length by omega)]
    repeat (first
     | (with_reducible refine head.a0 ?_)
     | ((with_reducible apply head.r0 hs); (· (with_reducible (repeat (first | exact .blk | exact .rng | apply Rng.tl)))))
     | (with_reducible refine head.c0 ?_)
     | ((with_reducible apply head.e0); (· first | exact hS | exact hid); (· (with_reducible (repeat (first | exact .blk | exact .rng | apply Rng.tl)))))
     | (with_reducible refine head.a1 ?_)
     | ((with_reducible apply head.r1 hs); (· (with_reducible (repeat (first | exact .blk | exact .rng | apply Rng.tl)))))
     | (with_reducible refine head.c1 ?_)
     | ((with_reducible apply head.e1); (· first | exact hS | exact hid); (· (with_reducible (repeat (first | exact .blk | exact .rng | apply Rng.tl)))))
     | (with_reducible refine head.a2 ?_)
     | ((with_reducible apply head.r2 hs); (· (with_reducible (repeat (first | exact .blk | exact .rng | apply Rng.tl)))))
     | (with_reducible refine head.c2 ?_)
     | ((with_reducible apply head.e2); (· first | exact hS | exact hid); (· (with_reducible (repeat (first | exact .blk | exact .rng | apply Rng.tl)))))
     | (with_reducible refine head.a3 ?_)
     | ((with_reducible apply head.r3 hs); (· (with_reducible (repeat (first | exact .blk | exact .rng | apply Rng.tl)))); (· (with_reducible (first | assumption | exact z32 | exact u8s_len (by assumption)))))
     | (with_reducible refine head.c3 ?_)
     | ((with_reducible apply head.e3); (· first | exact hS | exact hid); (· (with_reducible (repeat (first | exact .blk | exact .rng | apply Rng.tl)))); (· (with_reducible (first | assumption | exact z32 | exact u8s_len (by assumption)))))
     | (with_reducible refine head.a4 ?_)
     | ((with_reducible apply head.r4 hs); (· (with_reducible (repeat (first | exact .blk | exact .rng | apply Rng.tl)))); (repeat (· (with_reducible (first | assumption | exact z32 | exact u8s_len (by assumption))))))
     | (with_reducible refine head.c4 ?_)
     | ((with_reducible apply head.e4); (· first | exact hS | exact hid); (· (with_reducible (repeat (first | exact .blk | exact .rng | apply Rng.tl)))); (repeat (· (with_reducible (first | assumption | exact z32 | exact u8s_len (by assumption))))))
     | (with_reducible refine head.a5 ?_)
     | ((with_reducible apply head.r5 hs); (· (with_reducible (repeat (first | exact .blk | exact .rng | apply Rng.tl)))); (repeat (· (with_reducible (first | assumption | exact z32 | exact u8s_len (by assumption))))))
     | (with_reducible refine head.c5 ?_)
     | ((with_reducible apply head.e5); (· first | exact hS | exact hid); (· (with_reducible (repeat (first | exact .blk | exact .rng | apply Rng.tl)))); (repeat (· (with_reducible (first | assumption | exact z32 | exact u8s_len (by assumption))))))
     | (with_reducible refine head.a6 ?_)
     | ((with_reducible apply head.r6 hs); (· (with_reducible (repeat (first | exact .blk | exact .rng | apply Rng.tl)))); (repeat (· (with_reducible (first | assumption | exact z32 | exact u8s_len (by assumption))))))
     | (with_reducible refine head.c6 ?_)
     | ((with_reducible apply head.e6); (· first | exact hS | exact hid); (· (with_reducible (repeat (first | exact .blk | exact .rng | apply Rng.tl)))); (repeat (· (with_reducible (first | assumption | exact z32 | exact u8s_len (by assumption))))))
     | (with_reducible refine head.a7 ?_)
     | ((with_reducible apply head.r7 hs); (· (with_reducible (repeat (first | exact .blk | exact .rng | apply Rng.tl)))); (repeat (· (with_reducible (first | assumption | exact z32 | exact u8s_len (by assumption))))))
     | (with_reducible refine head.c7 ?_)
     | ((with_reducible apply head.e7); (· first | exact hS | exact hid); (· (with_reducible (repeat (first | exact .blk | exact .rng | apply Rng.tl)))); (repeat (· (with_reducible (first | assumption | exact z32 | exact u8s_len (by assumption))))))
     | (with_reducible refine head.a8 ?_)
     | ((with_reducible apply head.r8 hs); (· (with_reducible (repeat (first | exact .blk | exact .rng | apply Rng.tl)))); (repeat (· (with_reducible (first | assumption | exact z32 | exact u8s_len (by assumption))))))
     | (with_reducible refine head.c8 ?_)
     | ((with_reducible apply head.e8); (· first | exact hS | exact hid); (· (with_reducible (repeat (first | exact .blk | exact .rng | apply Rng.tl)))); (repeat (· (with_reducible (first | assumption | exact z32 | exact u8s_len (by assumption))))))
     | (with_reducible (first | refine st_lens ?_ | refine st_eqls ?_ | refine st_nels ?_ | refine tk_eqls ?_ | refine tk_nels ?_ | refine mv.mk ?_ | refine nk_p ?_ | refine gdT_i ?_ | refine gdT_ft ?_ | refine gdT_tf ?_ | refine gdT_u ?_ | refine gd_u ?_ | refine gd_ft ?_ | refine gd_tf ?_ | refine gd_i ?_ | refine pk_t ?_ | refine pk_f ?_ | refine br_t ?_ | refine br_f ?_ | refine sp_boxa hs fun g w hs => ?_))
     | (with_reducible ((first | apply st_bin | apply st_ext | apply st_len | apply st_un | apply st_conv | apply st_mki | apply st_fld | apply st_cap | apply st_max | apply st_min | apply st_ixv | apply st_mkf); intro k' hk; simp [go_sem, thenR_ok, bin]; refine hk _ _ ?_; clear hk k'))
     | ((with_reducible (first | apply tk_bin | apply tk_ext | apply tk_len | apply tk_un)); (· intro w; simp [go_sem, bin]; rfl))
     | ((with_reducible apply sp_newr hs); (· kernel_rfl); intro g w hs))
    rw [decide_eq_false hgt]
    repeat (first
     | (with_reducible (first | refine st_lens ?_ | refine st_eqls ?_ | refine st_nels ?_ | refine tk_eqls ?_ | refine tk_nels ?_ | refine mv.mk ?_ | refine nk_p ?_ | refine gdT_i ?_ | refine gdT_ft ?_ | refine gdT_tf ?_ | refine gdT_u ?_ | refine gd_u ?_ | refine gd_ft ?_ | refine gd_tf ?_ | refine gd_i ?_ | refine pk_t ?_ | refine pk_f ?_ | refine br_t ?_ | refine br_f ?_ | refine sp_boxa hs fun g w hs => ?_))
     | (with_reducible ((first | apply st_bin | apply st_ext | apply st_len | apply st_un | apply st_conv | apply st_mki | apply st_fld | apply st_cap | apply st_max | apply st_min | apply st_ixv | apply st_mkf); intro k' hk; simp [go_sem, thenR_ok, bin]; refine hk _ _ ?_; clear hk k'))
     | ((with_reducible (first | apply tk_bin | apply tk_ext | apply tk_len | apply tk_un)); (· intro w; simp [go_sem, bin]; rfl))
     | ((with_reducible apply sp_newr hs); (· kernel_rfl); intro g w hs))
    have := hK _ (hs.sbl (.drop (.drop (.drop .all))))
    rw [h0 (by simp [okL, h1, c3, c4, c5, c6, c7])] at this
    exact this
  rw [show (x.header.height == 1) = false by simpa using h1]
  have hgt : 1 < x.header.height := by omega
  repeat (first
   | (with_reducible refine head.a0 ?_)
   | ((with_reducible apply head.r0 hs); (· (with_reducible (repeat (first | exact .blk | exact .rng | apply Rng.tl)))))
   | (with_reducible refine head.c0 ?_)
   | ((with_reducible apply head.e0); (· first | exact hS | exact hid); (· (with_reducible (repeat (first | exact .blk | exact .rng | apply Rng.tl)))))
   | (with_reducible refine head.a1 ?_)
   | ((with_reducible apply head.r1 hs); (· (with_reducible (repeat (first | exact .blk | exact .rng | apply Rng.tl)))))
   | (with_reducible refine head.c1 ?_)
   | ((with_reducible apply head.e1); (· first | exact hS | exact hid); (· (with_reducible (repeat (first | exact .blk | exact .rng | apply Rng.tl)))))
   | (with_reducible refine head.a2 ?_)
   | ((with_reducible apply head.r2 hs); (· (with_reducible (repeat (first | exact .blk | exact .rng | apply Rng.tl)))))
   | (with_reducible refine head.c2 ?_)
   | ((with_reducible apply head.e2); (· first | exact hS | exact hid); (· (with_reducible (repeat (first | exact .blk | exact .rng | apply Rng.tl)))))
   | (with_reducible refine head.a3 ?_)
   | ((with_reducible apply head.r3 hs); (· (with_reducible (repeat (first | exact .blk | exact .rng | apply Rng.tl)))); (· (with_reducible (first | assumption | exact z32 | exact u8s_len (by assumption)))))
   | (with_reducible refine head.c3 ?_)
   | ((with_reducible apply head.e3); (· first | exact hS | exact hid); (· (with_reducible (repeat (first | exact .blk | exact .rng | apply Rng.tl)))); (· (with_reducible (first | assumption | exact z32 | exact u8s_len (by assumption)))))
   | (with_reducible refine head.a4 ?_)
   | ((with_reducible apply head.r4 hs); (· (with_reducible (repeat (first | exact .blk | exact .rng | apply Rng.tl)))); (repeat (· (with_reducible (first | assumption | exact z32 | exact u8s_len (by assumption))))))
   | (with_reducible refine head.c4 ?_)
   | ((with_reducible apply head.e4); (· first | exact hS | exact hid); (· (with_reducible (repeat (first | exact .blk | exact .rng | apply Rng.tl)))); (repeat (· (with_reducible (first | assumption | exact z32 | exact u8s_len (by assumption))))))
   | (with_reducible refine head.a5 ?_)
   | ((with_reducible apply head.r5 hs); (· (with_reducible (repeat (first | exact .blk | exact .rng | apply Rng.tl)))); (repeat (· (with_reducible (first | assumption | exact z32 | exact u8s_len (by assumption))))))
   | (with_reducible refine head.c5 ?_)
   | ((with_reducible apply head.e5); (· first | exact hS | exact hid); (· (with_reducible (repeat (first | exact .blk | exact .rng | apply Rng.tl)))); (repeat (· (with_reducible (first | assumption | exact z32 | exact u8s_len (by assumption))))))
   | (with_reducible refine head.a6 ?_)
   | ((with_reducible apply head.r6 hs); (· (with_reducible (repeat (first | exact .blk | exact .rng | apply Rng.tl)))); (repeat (· (with_reducible (first | assumption | exact z32 | exact u8s_len (by assumption))))))
   | (with_reducible refine head.c6 ?_)
   | ((with_reducible apply head.e6); (· first | exact hS | exact hid); (· (with_reducible (repeat (first | exact .blk | exact .rng | apply Rng.tl)))); (repeat (· (with_reducible (first | assumption | exact z32 | exact u8s_len (by assumption))))))
   | (with_reducible refine head.a7 ?_)
   | ((with_reducible apply head.r7 hs); (· (with_reducible (repeat (first | exact .blk | exact .rng | apply Rng.tl)))); (repeat (· (with_reducible (first | assumption | exact z32 | exact u8s_len (by assumption))))))
   | (with_reducible refine head.c7 ?_)
   | ((with_reducible apply head.e7); (· first | exact hS | exact hid); (· (with_reducible (repeat (first | exact .blk | exact .rng | apply Rng.tl)))); (repeat (· (with_reducible (first | assumption | exact z32 | exact u8s_len (by assumption))))))
   | (with_reducible refine head.a8 ?_)
   | ((with_reducible apply head.r8 hs); (· (with_reducible (repeat (first | exact .blk | exact .rng | apply Rng.tl)))); (repeat (· (with_reducible (first | assumption | exact z32 | exact u8s_len (by assumption))))))
   | (with_reducible refine head.c8 ?_)
   | ((with_reducible apply head.e8); (· first | exact hS | exact hid); (· (with_reducible (repeat (first | exact .blk | exact .rng | apply Rng.tl)))); (repeat (· (with_reducible (first | assumption | exact z32 | exact u8s_len (by assumption))))))
   | (with_reducible (first | refine st_lens ?_ | refine st_eqls ?_ | refine st_nels ?_ | refine tk_eqls ?_ | refine tk_nels ?_ | refine mv.mk ?_ | refine nk_p ?_ | refine gdT_i ?_ | refine gdT_ft ?_ | refine gdT_tf ?_ | refine gdT_u ?_ | refine gd_u ?_ | refine gd_ft ?_ | refine gd_tf ?_ | refine gd_i ?_ | refine pk_t ?_ | refine pk_f ?_ | refine br_t ?_ | refine br_f ?_ | refine sp_boxa hs fun g w hs => ?_))
   | (with_reducible ((first | apply st_bin | apply st_ext | apply st_len | apply st_un | apply st_conv | apply st_mki | apply st_fld | apply st_cap | apply st_max | apply st_min | apply st_ixv | apply st_mkf); intro k' hk; simp [go_sem, thenR_ok, bin]; refine hk _ _ ?_; clear hk k'))
   | ((with_reducible (first | apply tk_bin | apply tk_ext | apply tk_len | apply tk_un)); (· intro w; simp [go_sem, bin]; rfl))
   | ((with_reducible apply sp_newr hs); (· kernel_rfl); intro g w hs))
  rw [decide_eq_true hgt]
  repeat (first
   | (with_reducible refine head.a0 ?_)
   | ((with_reducible apply head.r0 hs); (· (with_reducible (repeat (first | exact .blk | exact .rng | apply Rng.tl)))))
   | (with_reducible refine head.c0 ?_)
   | ((with_reducible apply head.e0); (· first | exact hS | exact hid); (· (with_reducible (repeat (first | exact .blk | exact .rng | apply Rng.tl)))))
   | (with_reducible refine head.a1 ?_)
   | ((with_reducible apply head.r1 hs); (· (with_reducible (repeat (first | exact .blk | exact .rng | apply Rng.tl)))))
   | (with_reducible refine head.c1 ?_)
   | ((with_reducible apply head.e1); (· first | exact hS | exact hid); (· (with_reducible (repeat (first | exact .blk | exact .rng | apply Rng.tl)))))
   | (with_reducible refine head.a2 ?_)
   | ((with_reducible apply head.r2 hs); (· (with_reducible (repeat (first | exact .blk | exact .rng | apply Rng.tl)))))
   | (with_reducible refine head.c2 ?_)
   | ((with_reducible apply head.e2); (· first | exact hS | exact hid); (· (with_reducible (repeat (first | exact .blk | exact .rng | apply Rng.tl)))))
   | (with_reducible refine head.a3 ?_)
   | ((with_reducible apply head.r3 hs); (· (with_reducible (repeat (first | exact .blk | exact .rng | apply Rng.tl)))); (· (with_reducible (first | assumption | exact z32 | exact u8s_len (by assumption)))))
   | (with_reducible refine head.c3 ?_)
   | ((with_reducible apply head.e3); (· first | exact hS | exact hid); (· (with_reducible (repeat (first | exact .blk | exact .rng | apply Rng.tl)))); (· (with_reducible (first | assumption | exact z32 | exact u8s_len (by assumption)))))
   | (with_reducible refine head.a4 ?_)
   | ((with_reducible apply head.r4 hs); (· (with_reducible (repeat (first | exact .blk | exact .rng | apply Rng.tl)))); (repeat (· (with_reducible (first | assumption | exact z32 | exact u8s_len (by assumption))))))
   | (with_reducible refine head.c4 ?_)
   | ((with_reducible apply head.e4); (· first | exact hS | exact hid); (· (with_reducible (repeat (first | exact .blk | exact .rng | apply Rng.tl)))); (repeat (· (with_reducible (first | assumption | exact z32 | exact u8s_len (by assumption))))))
   | (with_reducible refine head.a5 ?_)
   | ((with_reducible apply head.r5 hs); (· (with_reducible (repeat (first | exact .blk | exact .rng | apply Rng.tl)))); (repeat (· (with_reducible (first | assumption | exact z32 | exact u8s_len (by assumption))))))
   | (with_reducible refine head.c5 ?_)
   | ((with_reducible apply head.e5); (· first | exact hS | exact hid); (· (with_reducible (repeat (first | exact .blk | exact .rng | apply Rng.tl)))); (repeat (· (with_reducible (first | assumption | exact z32 | exact u8s_len (by assumption))))))
   | (with_reducible refine head.a6 ?_)
   | ((with_reducible apply head.r6 hs); (· (with_reducible (repeat (first | exact .blk | exact .rng | apply Rng.tl)))); (repeat (· (with_reducible (first | assumption | exact z32 | exact u8s_len (by assumption))))))
   | (with_reducible refine head.c6 ?_)
   | ((with_reducible apply head.e6); (· first | exact hS | exact hid); (· (with_reducible (repeat (first | exact .blk | exact .rng | apply Rng.tl)))); (repeat (· (with_reducible (first | assumption | exact z32 | exact u8s_len (by assumption))))))
   | (with_reducible refine head.a7 ?_)
   | ((with_reducible apply head.r7 hs); (· (with_reducible (repeat (first | exact .blk | exact .rng | apply Rng.tl)))); (repeat (· (with_reducible (first | assumption | exact z32 | exact u8s_len (by assumption))))))
   | (with_reducible refine head.c7 ?_)
   | ((with_reducible apply head.e7); (· first | exact hS | exact hid); (· (with_reducible (repeat (first | exact .blk | exact .rng | apply Rng.tl)))); (repeat (· (with_reducible (first | assumption | exact z32 | exact u8s_len (by assumption))))))
   | (with_reducible refine head.a8 ?_)
   | ((with_reducible apply head.r8 hs); (· (with_reducible (repeat (first | exact .blk | exact .rng | apply Rng.tl)))); (repeat (· (with_reducible (first | assumption | exact z32 | exact u8s_len (by assumption))))))
   | (with_reducible refine head.c8 ?_)
   | ((with_reducible apply head.e8); (· first | exact hS | exact hid); (· (with_reducible (repeat (first | exact .blk | exact .rng | apply Rng.tl)))); (repeat (· (with_reducible (first | assumption | exact z32 | exact u8s_len (by assumption))))))
   | (with_reducible (first | refine st_lens ?_ | refine st_eqls ?_ | refine st_nels ?_ | refine tk_eqls ?_ | refine tk_nels ?_ | refine mv.mk ?_ | refine nk_p ?_ | refine gdT_i ?_ | refine gdT_ft ?_ | refine gdT_tf ?_ | refine gdT_u ?_ | refine gd_u ?_ | refine gd_ft ?_ | refine gd_tf ?_ | refine gd_i ?_ | refine pk_t ?_ | refine pk_f ?_ | refine br_t ?_ | refine br_f ?_ | refine sp_boxa hs fun g w hs => ?_))
   | (with_reducible ((first | apply st_bin | apply st_ext | apply st_len | apply st_un | apply st_conv | apply st_mki | apply st_fld | apply st_cap | apply st_max | apply st_min | apply st_ixv | apply st_mkf); intro k' hk; simp [go_sem, thenR_ok, bin]; refine hk _ _ ?_; clear hk k'))
   | ((with_reducible (first | apply tk_bin | apply tk_ext | apply tk_len | apply tk_un)); (· intro w; simp [go_sem, bin]; rfl))
   | ((with_reducible apply sp_newr hs); (· kernel_rfl); intro g w hs))
  refine sp_ldn hs (by repeat (first | with_reducible exact Rng.blk | with_reducible exact Rng.rng | with_reducible apply Rng.tl)) (by kernel_rfl) z32 ?_
  repeat (first
   | (with_reducible (first | refine st_lens ?_ | refine st_eqls ?_ | refine st_nels ?_ | refine tk_eqls ?_ | refine tk_nels ?_ | refine mv.mk ?_ | refine nk_p ?_ | refine gdT_i ?_ | refine gdT_ft ?_ | refine gdT_tf ?_ | refine gdT_u ?_ | refine gd_u ?_ | refine gd_ft ?_ | refine gd_tf ?_ | refine gd_i ?_ | refine pk_t ?_ | refine pk_f ?_ | refine br_t ?_ | refine br_f ?_ | refine sp_boxa hs fun g w hs => ?_))
   | (with_reducible ((first | apply st_bin | apply st_ext | apply st_len | apply st_un | apply st_conv | apply st_mki | apply st_fld | apply st_cap | apply st_max | apply st_min | apply st_ixv | apply st_mkf); intro k' hk; simp [go_sem, thenR_ok, bin]; refine hk _ _ ?_; clear hk k'))
   | ((with_reducible (first | apply tk_bin | apply tk_ext | apply tk_len | apply tk_un)); (· intro w; simp [go_sem, bin]; rfl))
   | ((with_reducible apply sp_newr hs); (· kernel_rfl); intro g w hs))
  refine st_of (hash_eq hh.last z _ _ _) ?_
  by_cases c3 : ¬ x.header.last = zero32
  rotate_left
  · rw [decide_eq_true (Decidable.not_not.1 c3)]
    repeat (first
     | (with_reducible (first | refine st_lens ?_ | refine st_eqls ?_ | refine st_nels ?_ | refine tk_eqls ?_ | refine tk_nels ?_ | refine mv.mk ?_ | refine nk_p ?_ | refine gdT_i ?_ | refine gdT_ft ?_ | refine gdT_tf ?_ | refine gdT_u ?_ | refine gd_u ?_ | refine gd_ft ?_ | refine gd_tf ?_ | refine gd_i ?_ | refine pk_t ?_ | refine pk_f ?_ | refine br_t ?_ | refine br_f ?_ | refine sp_boxa hs fun g w hs => ?_))
     | (with_reducible ((first | apply st_bin | apply st_ext | apply st_len | apply st_un | apply st_conv | apply st_mki | apply st_fld | apply st_cap | apply st_max | apply st_min | apply st_ixv | apply st_mkf); intro k' hk; simp [go_sem, thenR_ok, bin]; refine hk _ _ ?_; clear hk k'))
     | ((with_reducible (first | apply tk_bin | apply tk_ext | apply tk_len | apply tk_un)); (· intro w; simp [go_sem, bin]; rfl))
     | ((with_reducible apply sp_newr hs); (· kernel_rfl); intro g w hs))
    have := hK _ (hs.sbl (.drop (.drop (.drop .all))))
    rw [h34 (by simp [okL, h1, Decidable.not_not.1 c3])] at this
    exact this
  rw [decide_eq_false c3]
  repeat (first
   | (with_reducible refine comm.a0 ?_)
   | ((with_reducible apply comm.r0 hs); (· (with_reducible (repeat (first | exact .blk | exact .rng | apply Rng.tl)))))
   | (with_reducible refine comm.c0 ?_)
   | ((with_reducible apply comm.e0); (· first | exact hS | exact hid); (· (with_reducible (repeat (first | exact .blk | exact .rng | apply Rng.tl)))))
   | (with_reducible refine comm.a1 ?_)
   | ((with_reducible apply comm.r1 hs); (· (with_reducible (repeat (first | exact .blk | exact .rng | apply Rng.tl)))))
   | (with_reducible refine comm.c1 ?_)
   | ((with_reducible apply comm.e1); (· first | exact hS | exact hid); (· (with_reducible (repeat (first | exact .blk | exact .rng | apply Rng.tl)))))
   | (with_reducible refine comm.a2 ?_)
   | ((with_reducible apply comm.r2 hs); (· (with_reducible (repeat (first | exact .blk | exact .rng | apply Rng.tl)))); (· (with_reducible (first | assumption | exact z32 | exact u8s_len (by assumption)))))
   | (with_reducible refine comm.c2 ?_)
   | ((with_reducible apply comm.e2); (· first | exact hS | exact hid); (· (with_reducible (repeat (first | exact .blk | exact .rng | apply Rng.tl)))); (· (with_reducible (first | assumption | exact z32 | exact u8s_len (by assumption)))))
   | (with_reducible refine comm.a3 ?_)
   | ((with_reducible apply comm.r3 hs); (· (with_reducible (repeat (first | exact .blk | exact .rng | apply Rng.tl)))); (· (with_reducible (first | assumption | exact z32 | exact u8s_len (by assumption)))))
   | (with_reducible refine comm.c3 ?_)
   | ((with_reducible apply comm.e3); (· first | exact hS | exact hid); (· (with_reducible (repeat (first | exact .blk | exact .rng | apply Rng.tl)))); (· (with_reducible (first | assumption | exact z32 | exact u8s_len (by assumption)))))
   | (with_reducible refine head.a0 ?_)
   | ((with_reducible apply head.r0 hs); (· (with_reducible (repeat (first | exact .blk | exact .rng | apply Rng.tl)))))
   | (with_reducible refine head.c0 ?_)
   | ((with_reducible apply head.e0); (· first | exact hS | exact hid); (· (with_reducible (repeat (first | exact .blk | exact .rng | apply Rng.tl)))))
   | (with_reducible refine head.a1 ?_)
   | ((with_reducible apply head.r1 hs); (· (with_reducible (repeat (first | exact .blk | exact .rng | apply Rng.tl)))))
   | (with_reducible refine head.c1 ?_)
   | ((with_reducible apply head.e1); (· first | exact hS | exact hid); (· (with_reducible (repeat (first | exact .blk | exact .rng | apply Rng.tl)))))
   | (with_reducible refine head.a2 ?_)
   | ((with_reducible apply head.r2 hs); (· (with_reducible (repeat (first | exact .blk | exact .rng | apply Rng.tl)))))
   | (with_reducible refine head.c2 ?_)
   | ((with_reducible apply head.e2); (· first | exact hS | exact hid); (· (with_reducible (repeat (first | exact .blk | exact .rng | apply Rng.tl)))))
   | (with_reducible refine head.a3 ?_)
   | ((with_reducible apply head.r3 hs); (· (with_reducible (repeat (first | exact .blk | exact .rng | apply Rng.tl)))); (· (with_reducible (first | assumption | exact z32 | exact u8s_len (by assumption)))))
   | (with_reducible refine head.c3 ?_)
   | ((with_reducible apply head.e3); (· first | exact hS | exact hid); (· (with_reducible (repeat (first | exact .blk | exact .rng | apply Rng.tl)))); (· (with_reducible (first | assumption | exact z32 | exact u8s_len (by assumption)))))
   | (with_reducible refine head.a4 ?_)
   | ((with_reducible apply head.r4 hs); (· (with_reducible (repeat (first | exact .blk | exact .rng | apply Rng.tl)))); (repeat (· (with_reducible (first | assumption | exact z32 | exact u8s_len (by assumption))))))
   | (with_reducible refine head.c4 ?_)
   | ((with_reducible apply head.e4); (· first | exact hS | exact hid); (· (with_reducible (repeat (first | exact .blk | exact .rng | apply Rng.tl)))); (repeat (· (with_reducible (first | assumption | exact z32 | exact u8s_len (by assumption))))))
   | (with_reducible refine head.a5 ?_)
   | ((with_reducible apply head.r5 hs); (· (with_reducible (repeat (first | exact .blk | exact .rng | apply Rng.tl)))); (repeat (· (with_reducible (first | assumption | exact z32 | exact u8s_len (by assumption))))))
   | (with_reducible refine head.c5 ?_)
   | ((with_reducible apply head.e5); (· first | exact hS | exact hid); (· (with_reducible (repeat (first | exact .blk | exact .rng | apply Rng.tl)))); (repeat (· (with_reducible (first | assumption | exact z32 | exact u8s_len (by assumption))))))
   | (with_reducible refine head.a6 ?_)
   | ((with_reducible apply head.r6 hs); (· (with_reducible (repeat (first | exact .blk | exact .rng | apply Rng.tl)))); (repeat (· (with_reducible (first | assumption | exact z32 | exact u8s_len (by assumption))))))
   | (with_reducible refine head.c6 ?_)
   | ((with_reducible apply head.e6); (· first | exact hS | exact hid); (· (with_reducible (repeat (first | exact .blk | exact .rng | apply Rng.tl)))); (repeat (· (with_reducible (first | assumption | exact z32 | exact u8s_len (by assumption))))))
   | (with_reducible refine head.a7 ?_)
   | ((with_reducible apply head.r7 hs); (· (with_reducible (repeat (first | exact .blk | exact .rng | apply Rng.tl)))); (repeat (· (with_reducible (first | assumption | exact z32 | exact u8s_len (by assumption))))))
   | (with_reducible refine head.c7 ?_)
   | ((with_reducible apply head.e7); (· first | exact hS | exact hid); (· (with_reducible (repeat (first | exact .blk | exact .rng | apply Rng.tl)))); (repeat (· (with_reducible (first | assumption | exact z32 | exact u8s_len (by assumption))))))
   | (with_reducible refine head.a8 ?_)
   | ((with_reducible apply head.r8 hs); (· (with_reducible (repeat (first | exact .blk | exact .rng | apply Rng.tl)))); (repeat (· (with_reducible (first | assumption | exact z32 | exact u8s_len (by assumption))))))
   | (with_reducible refine head.c8 ?_)
   | ((with_reducible apply head.e8); (· first | exact hS | exact hid); (· (with_reducible (repeat (first | exact .blk | exact .rng | apply Rng.tl)))); (repeat (· (with_reducible (first | assumption | exact z32 | exact u8s_len (by assumption))))))
   | (with_reducible (first | refine st_lens ?_ | refine st_eqls ?_ | refine st_nels ?_ | refine tk_eqls ?_ | refine tk_nels ?_ | refine mv.mk ?_ | refine nk_p ?_ | refine gdT_i ?_ | refine gdT_ft ?_ | refine gdT_tf ?_ | refine gdT_u ?_ | refine gd_u ?_ | refine gd_ft ?_ | refine gd_tf ?_ | refine gd_i ?_ | refine pk_t ?_ | refine pk_f ?_ | refine br_t ?_ | refine br_f ?_ | refine sp_boxa hs fun g w hs => ?_))
   | (with_reducible ((first | apply st_bin | apply st_ext | apply st_len | apply st_un | apply st_conv | apply st_mki | apply st_fld | apply st_cap | apply st_max | apply st_min | apply st_ixv | apply st_mkf); intro k' hk; simp [go_sem, thenR_ok, bin]; refine hk _ _ ?_; clear hk k'))
   | ((with_reducible (first | apply tk_bin | apply tk_ext | apply tk_len | apply tk_un)); (· intro w; simp [go_sem, bin]; rfl))
   | ((with_reducible apply sp_newr hs); (· kernel_rfl); intro g w hs))
  have hw := wrap_succ_eq hc.height hge.1 hge.2
  by_cases c4 : x.last.height = x.header.height - 1
  rotate_left
  · rw [show (IntKind.i64.wrap (x.last.height + 1) != x.header.height) = true by simpa using fun h => c4 (hw.1 h)]
    repeat (first
     | (with_reducible (first | refine st_lens ?_ | refine st_eqls ?_ | refine st_nels ?_ | refine tk_eqls ?_ | refine tk_nels ?_ | refine mv.mk ?_ | refine nk_p ?_ | refine gdT_i ?_ | refine gdT_ft ?_ | refine gdT_tf ?_ | refine gdT_u ?_ | refine gd_u ?_ | refine gd_ft ?_ | refine gd_tf ?_ | refine gd_i ?_ | refine pk_t ?_ | refine pk_f ?_ | refine br_t ?_ | refine br_f ?_ | refine sp_boxa hs fun g w hs => ?_))
     | (with_reducible ((first | apply st_bin | apply st_ext | apply st_len | apply st_un | apply st_conv | apply st_mki | apply st_fld | apply st_cap | apply st_max | apply st_min | apply st_ixv | apply st_mkf); intro k' hk; simp [go_sem, thenR_ok, bin]; refine hk _ _ ?_; clear hk k'))
     | ((with_reducible (first | apply tk_bin | apply tk_ext | apply tk_len | apply tk_un)); (· intro w; simp [go_sem, bin]; rfl))
     | ((with_reducible apply sp_newr hs); (· kernel_rfl); intro g w hs))
    have := hK _ (hs.sbl (.drop (.drop (.drop .all))))
    rw [h34 (by simp [okL, h1, c3, c4])] at this
    exact this
  rw [show (IntKind.i64.wrap (x.last.height + 1) != x.header.height) = false by simpa using hw.2 c4]
  repeat (first
   | (with_reducible refine comm.a0 ?_)
   | ((with_reducible apply comm.r0 hs); (· (with_reducible (repeat (first | exact .blk | exact .rng | apply Rng.tl)))))
   | (with_reducible refine comm.c0 ?_)
   | ((with_reducible apply comm.e0); (· first | exact hS | exact hid); (· (with_reducible (repeat (first | exact .blk | exact .rng | apply Rng.tl)))))
   | (with_reducible refine comm.a1 ?_)
   | ((with_reducible apply comm.r1 hs); (· (with_reducible (repeat (first | exact .blk | exact .rng | apply Rng.tl)))))
   | (with_reducible refine comm.c1 ?_)
   | ((with_reducible apply comm.e1); (· first | exact hS | exact hid); (· (with_reducible (repeat (first | exact .blk | exact .rng | apply Rng.tl)))))
   | (with_reducible refine comm.a2 ?_)
   | ((with_reducible apply comm.r2 hs); (· (with_reducible (repeat (first | exact .blk | exact .rng | apply Rng.tl)))); (· (with_reducible (first | assumption | exact z32 | exact u8s_len (by assumption)))))
   | (with_reducible refine comm.c2 ?_)
   | ((with_reducible apply comm.e2); (· first | exact hS | exact hid); (· (with_reducible (repeat (first | exact .blk | exact .rng | apply Rng.tl)))); (· (with_reducible (first | assumption | exact z32 | exact u8s_len (by assumption)))))
   | (with_reducible refine comm.a3 ?_)
   | ((with_reducible apply comm.r3 hs); (· (with_reducible (repeat (first | exact .blk | exact .rng | apply Rng.tl)))); (· (with_reducible (first | assumption | exact z32 | exact u8s_len (by assumption)))))
   | (with_reducible refine comm.c3 ?_)
   | ((with_reducible apply comm.e3); (· first | exact hS | exact hid); (· (with_reducible (repeat (first | exact .blk | exact .rng | apply Rng.tl)))); (· (with_reducible (first | assumption | exact z32 | exact u8s_len (by assumption)))))
   | (with_reducible refine head.a0 ?_)
   | ((with_reducible apply head.r0 hs); (· (with_reducible (repeat (first | exact .blk | exact .rng | apply Rng.tl)))))
   | (with_reducible refine head.c0 ?_)
   | ((with_reducible apply head.e0); (· first | exact hS | exact hid); (· (with_reducible (repeat (first | exact .blk | exact .rng | apply Rng.tl)))))
   | (with_reducible refine head.a1 ?_)
   | ((with_reducible apply head.r1 hs); (· (with_reducible (repeat (first | exact .blk | exact .rng | apply Rng.tl)))))
   | (with_reducible refine head.c1 ?_)
   | ((with_reducible apply head.e1); (· first | exact hS | exact hid); (· (with_reducible (repeat (first | exact .blk | exact .rng | apply Rng.tl)))))
   | (with_reducible refine head.a2 ?_)
   | ((with_reducible apply head.r2 hs); (· (with_reducible (repeat (first | exact .blk | exact .rng | apply Rng.tl)))))
   | (with_reducible refine head.c2 ?_)
   | ((with_reducible apply head.e2); (· first | exact hS | exact hid); (· (with_reducible (repeat (first | exact .blk | exact .rng | apply Rng.tl)))))
   | (with_reducible refine head.a3 ?_)
   | ((with_reducible apply head.r3 hs); (· (with_reducible (repeat (first | exact .blk | exact .rng | apply Rng.tl)))); (· (with_reducible (first | assumption | exact z32 | exact u8s_len (by assumption)))))
   | (with_reducible refine head.c3 ?_)
   | ((with_reducible apply head.e3); (· first | exact hS | exact hid); (· (with_reducible (repeat (first | exact .blk | exact .rng | apply Rng.tl)))); (· (with_reducible (first | assumption | exact z32 | exact u8s_len (by assumption)))))
   | (with_reducible refine head.a4 ?_)
   | ((with_reducible apply head.r4 hs); (· (with_reducible (repeat (first | exact .blk | exact .rng | apply Rng.tl)))); (repeat (· (with_reducible (first | assumption | exact z32 | exact u8s_len (by assumption))))))
   | (with_reducible refine head.c4 ?_)
   | ((with_reducible apply head.e4); (· first | exact hS | exact hid); (· (with_reducible (repeat (first | exact .blk | exact .rng | apply Rng.tl)))); (repeat (· (with_reducible (first | assumption | exact z32 | exact u8s_len (by assumption))))))
   | (with_reducible refine head.a5 ?_)
   | ((with_reducible apply head.r5 hs); (· (with_reducible (repeat (first | exact .blk | exact .rng | apply Rng.tl)))); (repeat (· (with_reducible (first | assumption | exact z32 | exact u8s_len (by assumption))))))
   | (with_reducible refine head.c5 ?_)
   | ((with_reducible apply head.e5); (· first | exact hS | exact hid); (· (with_reducible (repeat (first | exact .blk | exact .rng | apply Rng.tl)))); (repeat (· (with_reducible (first | assumption | exact z32 | exact u8s_len (by assumption))))))
   | (with_reducible refine head.a6 ?_)
   | ((with_reducible apply head.r6 hs); (· (with_reducible (repeat (first | exact .blk | exact .rng | apply Rng.tl)))); (repeat (· (with_reducible (first | assumption | exact z32 | exact u8s_len (by assumption))))))
   | (with_reducible refine head.c6 ?_)
   | ((with_reducible apply head.e6); (· first | exact hS | exact hid); (· (with_reducible (repeat (first | exact .blk | exact .rng | apply Rng.tl)))); (repeat (· (with_reducible (first | assumption | exact z32 | exact u8s_len (by assumption))))))
   | (with_reducible refine head.a7 ?_)
   | ((with_reducible apply head.r7 hs); (· (with_reducible (repeat (first | exact .blk | exact .rng | apply Rng.tl)))); (repeat (· (with_reducible (first | assumption | exact z32 | exact u8s_len (by assumption))))))
   | (with_reducible refine head.c7 ?_)
   | ((with_reducible apply head.e7); (· first | exact hS | exact hid); (· (with_reducible (repeat (first | exact .blk | exact .rng | apply Rng.tl)))); (repeat (· (with_reducible (first | assumption | exact z32 | exact u8s_len (by assumption))))))
   | (with_reducible refine head.a8 ?_)
   | ((with_reducible apply head.r8 hs); (· (with_reducible (repeat (first | exact .blk | exact .rng | apply Rng.tl)))); (repeat (· (with_reducible (first | assumption | exact z32 | exact u8s_len (by assumption))))))
   | (with_reducible refine head.c8 ?_)
   | ((with_reducible apply head.e8); (· first | exact hS | exact hid); (· (with_reducible (repeat (first | exact .blk | exact .rng | apply Rng.tl)))); (repeat (· (with_reducible (first | assumption | exact z32 | exact u8s_len (by assumption))))))
   | (with_reducible (first | refine st_lens ?_ | refine st_eqls ?_ | refine st_nels ?_ | refine tk_eqls ?_ | refine tk_nels ?_ | refine mv.mk ?_ | refine nk_p ?_ | refine gdT_i ?_ | refine gdT_ft ?_ | refine gdT_tf ?_ | refine gdT_u ?_ | refine gd_u ?_ | refine gd_ft ?_ | refine gd_tf ?_ | refine gd_i ?_ | refine pk_t ?_ | refine pk_f ?_ | refine br_t ?_ | refine br_f ?_ | refine sp_boxa hs fun g w hs => ?_))
   | (with_reducible ((first | apply st_bin | apply st_ext | apply st_len | apply st_un | apply st_conv | apply st_mki | apply st_fld | apply st_cap | apply st_max | apply st_min | apply st_ixv | apply st_mkf); intro k' hk; simp [go_sem, thenR_ok, bin]; refine hk _ _ ?_; clear hk k'))
   | ((with_reducible (first | apply tk_bin | apply tk_ext | apply tk_len | apply tk_un)); (· intro w; simp [go_sem, bin]; rfl))
   | ((with_reducible apply sp_newr hs); (· kernel_rfl); intro g w hs))
  refine st_of (hash_ne hc.block hh.last _ _ _) ?_
  by_cases c5 : x.last.block = x.header.last
  rotate_left
  · rw [show (!decide (x.last.block = x.header.last)) = true by simpa using c5]
    repeat (first
     | (with_reducible (first | refine st_lens ?_ | refine st_eqls ?_ | refine st_nels ?_ | refine tk_eqls ?_ | refine tk_nels ?_ | refine mv.mk ?_ | refine nk_p ?_ | refine gdT_i ?_ | refine gdT_ft ?_ | refine gdT_tf ?_ | refine gdT_u ?_ | refine gd_u ?_ | refine gd_ft ?_ | refine gd_tf ?_ | refine gd_i ?_ | refine pk_t ?_ | refine pk_f ?_ | refine br_t ?_ | refine br_f ?_ | refine sp_boxa hs fun g w hs => ?_))
     | (with_reducible ((first | apply st_bin | apply st_ext | apply st_len | apply st_un | apply st_conv | apply st_mki | apply st_fld | apply st_cap | apply st_max | apply st_min | apply st_ixv | apply st_mkf); intro k' hk; simp [go_sem, thenR_ok, bin]; refine hk _ _ ?_; clear hk k'))
     | ((with_reducible (first | apply tk_bin | apply tk_ext | apply tk_len | apply tk_un)); (· intro w; simp [go_sem, bin]; rfl))
     | ((with_reducible apply sp_newr hs); (· kernel_rfl); intro g w hs))
    have := hK _ (hs.sbl (.drop (.drop (.drop .all))))
    rw [h34 (by simp [okL, h1, c3, c4, c5])] at this
    exact this
  rw [show (!decide (x.last.block = x.header.last)) = false by simpa using c5]
  repeat (first
   | (with_reducible (first | refine st_lens ?_ | refine st_eqls ?_ | refine st_nels ?_ | refine tk_eqls ?_ | refine tk_nels ?_ | refine mv.mk ?_ | refine nk_p ?_ | refine gdT_i ?_ | refine gdT_ft ?_ | refine gdT_tf ?_ | refine gdT_u ?_ | refine gd_u ?_ | refine gd_ft ?_ | refine gd_tf ?_ | refine gd_i ?_ | refine pk_t ?_ | refine pk_f ?_ | refine br_t ?_ | refine br_f ?_ | refine sp_boxa hs fun g w hs => ?_))
   | (with_reducible ((first | apply st_bin | apply st_ext | apply st_len | apply st_un | apply st_conv | apply st_mki | apply st_fld | apply st_cap | apply st_max | apply st_min | apply st_ixv | apply st_mkf); intro k' hk; simp [go_sem, thenR_ok, bin]; refine hk _ _ ?_; clear hk k'))
   | ((with_reducible (first | apply tk_bin | apply tk_ext | apply tk_len | apply tk_un)); (· intro w; simp [go_sem, bin]; rfl))
   | ((with_reducible apply sp_newr hs); (· kernel_rfl); intro g w hs))
  have := hK _ (hs.sbl (.drop (.drop (.drop .all))))
  rw [h0 (by simp [okL, h1, c3, c4, c5])] at this
  exact this
theorem cbR_B {x : Block} {g1 g3 g4 : Nat} {A1 A2 : Option Addr} {c1 c2 : Nat} {K : Value → World → Prop} (hh : x.header.ok) (hc : x.last.ok) (hK : ∀ w', Isk.Sep b w' L → K (.int .i64 (checkBlock x)) w') (hA : okA x = true) (h64 : x.txs.length ≤ 64) (hth : x.header.txs = txsHashB x.txs)
    (hs : Isk.Sep b w (blkI g4 T.api_Commit (ccC x.last A2 c2) :: blkI g3 T.api_Header (hcC x.header) :: (rngF g1 (0 + 165) (ccC x.last A2 c2)).it :: (rngF g1 0 (blokC (hcC x.header) (.slice A1 x.txs.length c1) (ccC x.last A2 c2))).it :: (blokF (blokC (hcC x.header) (.slice A1 x.txs.length c1) (ccC x.last A2 c2)) x).it :: (listF bytesF 1 (.slice A1 x.txs.length c1) x.txs).it :: (listF voteF 37 (.slice A2 x.last.votes.length c2) x.last.votes).it :: (commF (ccC x.last A2 c2) x.last).it :: (headF (hcC x.header) x.header).it :: L)) :
    F.isthmusref11_CheckBlock_rB K (.pointer (some ⟨g1, 0, none⟩)) (.int .i64 0) (.pointer (some ⟨g3, 0, none⟩)) (.pointer (some ⟨g4, 0, none⟩)) (.int .i64 0) w := by
  have e1 := u8s_len hh.last; have e2 := u8s_len hh.app; have e3 := u8s_len hh.txs; have e4 := u8s_len hh.validators; have e5 := u8s_len hh.next
  have e6 := u8s_len hc.block
  have hcl : (hcC x.header).length = 164 := headC_len e1 e2 e3 e4 e5
  have hcl2 : (ccC x.last A2 c2).length = 35 := commC_len e6
  unfold F.isthmusref11_CheckBlock_rB
  refine lp_by (fun us w' => ∃ (i : Nat), us = [.int .i64 0, .int .i64 i] ∧ i ≤ x.txs.length ∧ (∀ j (h : j < x.txs.length), j < i → longB x.txs[j] = false) ∧ Isk.Sep b w' (blkI g4 T.api_Commit (ccC x.last A2 c2) :: blkI g3 T.api_Header (hcC x.header) :: (rngF g1 (0 + 165) (ccC x.last A2 c2)).it :: (rngF g1 0 (blokC (hcC x.header) (.slice A1 x.txs.length c1) (ccC x.last A2 c2))).it :: (blokF (blokC (hcC x.header) (.slice A1 x.txs.length c1) (ccC x.last A2 c2)) x).it :: (listF bytesF 1 (.slice A1 x.txs.length c1) x.txs).it :: (listF voteF 37 (.slice A2 x.last.votes.length c2) x.last.votes).it :: (commF (ccC x.last A2 c2) x.last).it :: (headF (hcC x.header) x.header).it :: L)) (fun us _ => match us with | [_, .int _ m] => x.txs.length - m.toNat | _ => 0) ⟨0, rfl, Nat.zero_le _, fun j h hj => absurd hj (Nat.not_lt_zero _), hs⟩ ?_
  clear hs
  rintro y w ⟨i, hx, hi, hgood, hs⟩
  simp only [List.cons.injEq, and_true] at hx
  simp only [hx.1, hx.2]
  clear hx
  repeat (first
   | (with_reducible refine blok.a0 ?_)
   | ((with_reducible apply blok.r0 hs); (· (with_reducible (repeat (first | exact .blk | exact .rng | apply Rng.tl)))); (· (with_reducible (first | assumption | exact z32 | exact u8s_len (by assumption)))))
   | (with_reducible refine blok.c0 ?_)
   | ((with_reducible apply blok.e0); (· first | exact hS | exact hid); (· (with_reducible (repeat (first | exact .blk | exact .rng | apply Rng.tl)))); (· (with_reducible (first | assumption | exact z32 | exact u8s_len (by assumption)))))
   | (with_reducible refine blok.a1 ?_)
   | ((with_reducible apply blok.r1 hs); (· (with_reducible (repeat (first | exact .blk | exact .rng | apply Rng.tl)))); (· (with_reducible (first | assumption | exact z32 | exact u8s_len (by assumption)))))
   | (with_reducible refine blok.c1 ?_)
   | ((with_reducible apply blok.e1); (· first | exact hS | exact hid); (· (with_reducible (repeat (first | exact .blk | exact .rng | apply Rng.tl)))); (· (with_reducible (first | assumption | exact z32 | exact u8s_len (by assumption)))))
   | (with_reducible refine blok.a2 ?_)
   | ((with_reducible apply blok.r2 hs); (· (with_reducible (repeat (first | exact .blk | exact .rng | apply Rng.tl)))); (repeat (· (with_reducible (first | assumption | exact z32 | exact u8s_len (by assumption))))))
   | (with_reducible refine blok.c2 ?_)
   | ((with_reducible apply blok.e2); (· first | exact hS | exact hid); (· (with_reducible (repeat (first | exact .blk | exact .rng | apply Rng.tl)))); (repeat (· (with_reducible (first | assumption | exact z32 | exact u8s_len (by assumption))))))
   | (with_reducible (first | refine st_lens ?_ | refine st_eqls ?_ | refine st_nels ?_ | refine tk_eqls ?_ | refine tk_nels ?_ | refine mv.mk ?_ | refine nk_p ?_ | refine gdT_i ?_ | refine gdT_ft ?_ | refine gdT_tf ?_ | refine gdT_u ?_ | refine gd_u ?_ | refine gd_ft ?_ | refine gd_tf ?_ | refine gd_i ?_ | refine pk_t ?_ | refine pk_f ?_ | refine br_t ?_ | refine br_f ?_ | refine sp_boxa hs fun g w hs => ?_))
   | (with_reducible ((first | apply st_bin | apply st_ext | apply st_len | apply st_un | apply st_conv | apply st_mki | apply st_fld | apply st_cap | apply st_max | apply st_min | apply st_ixv | apply st_mkf); intro k' hk; simp [go_sem, thenR_ok, bin]; refine hk _ _ ?_; clear hk k'))
   | ((with_reducible (first | apply tk_bin | apply tk_ext | apply tk_len | apply tk_un)); (· intro w; simp [go_sem, bin]; rfl))
   | ((with_reducible apply sp_newr hs); (· kernel_rfl); intro g w hs))
  refine br_split (fun hq => ?_) (fun hq => ?_)
  · have hi' : i < x.txs.length := by have := of_decide_eq_true hq; omega
    repeat (first
     | (with_reducible refine blok.a0 ?_)
     | ((with_reducible apply blok.r0 hs); (· (with_reducible (repeat (first | exact .blk | exact .rng | apply Rng.tl)))); (· (with_reducible (first | assumption | exact z32 | exact u8s_len (by assumption)))))
     | (with_reducible refine blok.c0 ?_)
     | ((with_reducible apply blok.e0); (· first | exact hS | exact hid); (· (with_reducible (repeat (first | exact .blk | exact .rng | apply Rng.tl)))); (· (with_reducible (first | assumption | exact z32 | exact u8s_len (by assumption)))))
     | (with_reducible refine blok.a1 ?_)
     | ((with_reducible apply blok.r1 hs); (· (with_reducible (repeat (first | exact .blk | exact .rng | apply Rng.tl)))); (· (with_reducible (first | assumption | exact z32 | exact u8s_len (by assumption)))))
     | (with_reducible refine blok.c1 ?_)
     | ((with_reducible apply blok.e1); (· first | exact hS | exact hid); (· (with_reducible (repeat (first | exact .blk | exact .rng | apply Rng.tl)))); (· (with_reducible (first | assumption | exact z32 | exact u8s_len (by assumption)))))
     | (with_reducible refine blok.a2 ?_)
     | ((with_reducible apply blok.r2 hs); (· (with_reducible (repeat (first | exact .blk | exact .rng | apply Rng.tl)))); (repeat (· (with_reducible (first | assumption | exact z32 | exact u8s_len (by assumption))))))
     | (with_reducible refine blok.c2 ?_)
     | ((with_reducible apply blok.e2); (· first | exact hS | exact hid); (· (with_reducible (repeat (first | exact .blk | exact .rng | apply Rng.tl)))); (repeat (· (with_reducible (first | assumption | exact z32 | exact u8s_len (by assumption))))))
     | (with_reducible (first | refine st_lens ?_ | refine st_eqls ?_ | refine st_nels ?_ | refine tk_eqls ?_ | refine tk_nels ?_ | refine mv.mk ?_ | refine nk_p ?_ | refine gdT_i ?_ | refine gdT_ft ?_ | refine gdT_tf ?_ | refine gdT_u ?_ | refine gd_u ?_ | refine gd_ft ?_ | refine gd_tf ?_ | refine gd_i ?_ | refine pk_t ?_ | refine pk_f ?_ | refine br_t ?_ | refine br_f ?_ | refine sp_boxa hs fun g w hs => ?_))
     | (with_reducible ((first | apply st_bin | apply st_ext | apply st_len | apply st_un | apply st_conv | apply st_mki | apply st_fld | apply st_cap | apply st_max | apply st_min | apply st_ixv | apply st_mkf); intro k' hk; simp [go_sem, thenR_ok, bin]; refine hk _ _ ?_; clear hk k'))
     | ((with_reducible (first | apply tk_bin | apply tk_ext | apply tk_len | apply tk_un)); (· intro w; simp [go_sem, bin]; rfl))
     | ((with_reducible apply sp_newr hs); (· kernel_rfl); intro g w hs))
    refine sp_el1 hs (F := bytesF) (ls := x.txs) (by repeat (first | with_reducible exact Lst.lst | with_reducible exact Lst.gr | with_reducible apply Lst.tl)) tTxs (by kernel_rfl) i rfl hi' fun y hs => ?_
    replace hs := hs.ofBytes (v := y) (t := x.txs[i]) .hd
    obtain ⟨A, c, rfl⟩ := bytesF_slice hs .hd
    repeat (first
     | (with_reducible (first | refine st_lens ?_ | refine st_eqls ?_ | refine st_nels ?_ | refine tk_eqls ?_ | refine tk_nels ?_ | refine mv.mk ?_ | refine nk_p ?_ | refine gdT_i ?_ | refine gdT_ft ?_ | refine gdT_tf ?_ | refine gdT_u ?_ | refine gd_u ?_ | refine gd_ft ?_ | refine gd_tf ?_ | refine gd_i ?_ | refine pk_t ?_ | refine pk_f ?_ | refine br_t ?_ | refine br_f ?_ | refine sp_boxa hs fun g w hs => ?_))
     | (with_reducible ((first | apply st_bin | apply st_ext | apply st_len | apply st_un | apply st_conv | apply st_mki | apply st_fld | apply st_cap | apply st_max | apply st_min | apply st_ixv | apply st_mkf); intro k' hk; simp [go_sem, thenR_ok, bin]; refine hk _ _ ?_; clear hk k'))
     | ((with_reducible (first | apply tk_bin | apply tk_ext | apply tk_len | apply tk_un)); (· intro w; simp [go_sem, bin]; rfl))
     | ((with_reducible apply sp_newr hs); (· kernel_rfl); intro g w hs))
    by_cases hl : 65536 < x.txs[i].length
    · rw [show decide ((65536 : Int) < (x.txs[i].length : Int)) = true by simp; omega]
      repeat (first
       | (with_reducible (first | refine st_lens ?_ | refine st_eqls ?_ | refine st_nels ?_ | refine tk_eqls ?_ | refine tk_nels ?_ | refine mv.mk ?_ | refine nk_p ?_ | refine gdT_i ?_ | refine gdT_ft ?_ | refine gdT_tf ?_ | refine gdT_u ?_ | refine gd_u ?_ | refine gd_ft ?_ | refine gd_tf ?_ | refine gd_i ?_ | refine pk_t ?_ | refine pk_f ?_ | refine br_t ?_ | refine br_f ?_ | refine sp_boxa hs fun g w hs => ?_))
       | (with_reducible ((first | apply st_bin | apply st_ext | apply st_len | apply st_un | apply st_conv | apply st_mki | apply st_fld | apply st_cap | apply st_max | apply st_min | apply st_ixv | apply st_mkf); intro k' hk; simp [go_sem, thenR_ok, bin]; refine hk _ _ ?_; clear hk k'))
       | ((with_reducible (first | apply tk_bin | apply tk_ext | apply tk_len | apply tk_un)); (· intro w; simp [go_sem, bin]; rfl))
       | ((with_reducible apply sp_newr hs); (· kernel_rfl); intro g w hs))
      have := hK _ (hs.sbl (.drop (.drop (.drop (.drop (.drop (.drop (.drop (.drop (.drop (.drop (.drop .all))))))))))))
      have hany : x.txs.any longB = true := List.any_eq_true.2 ⟨_, List.getElem_mem hi', decide_eq_true hl⟩
      rw [show checkBlock x = 34 by simp [checkBlock, okT, hany]] at this
      exact this
    rw [show decide ((65536 : Int) < (x.txs[i].length : Int)) = false by simp; omega]
    repeat (first
     | (with_reducible (first | refine st_lens ?_ | refine st_eqls ?_ | refine st_nels ?_ | refine tk_eqls ?_ | refine tk_nels ?_ | refine mv.mk ?_ | refine nk_p ?_ | refine gdT_i ?_ | refine gdT_ft ?_ | refine gdT_tf ?_ | refine gdT_u ?_ | refine gd_u ?_ | refine gd_ft ?_ | refine gd_tf ?_ | refine gd_i ?_ | refine pk_t ?_ | refine pk_f ?_ | refine br_t ?_ | refine br_f ?_ | refine sp_boxa hs fun g w hs => ?_))
     | (with_reducible ((first | apply st_bin | apply st_ext | apply st_len | apply st_un | apply st_conv | apply st_mki | apply st_fld | apply st_cap | apply st_max | apply st_min | apply st_ixv | apply st_mkf); intro k' hk; simp [go_sem, thenR_ok, bin]; refine hk _ _ ?_; clear hk k'))
     | ((with_reducible (first | apply tk_bin | apply tk_ext | apply tk_len | apply tk_un)); (· intro w; simp [go_sem, bin]; rfl))
     | ((with_reducible apply sp_newr hs); (· kernel_rfl); intro g w hs))
    rw [i64_succ (by omega)]
    refine ⟨⟨i + 1, rfl, hi', fun j h hj => ?_, (hs.drop .hd).drop .hd⟩, by simp; omega⟩
    rcases Nat.lt_or_ge j i with h1 | h1
    · exact hgood j h h1
    · obtain rfl : j = i := by omega
      exact decide_eq_false hl
  obtain rfl : i = x.txs.length := by have := of_decide_eq_false hq; omega
  have hany : x.txs.any longB = false := by
    rw [List.any_eq_false]
    intro c hcm
    obtain ⟨j, hj, rfl⟩ := List.mem_iff_getElem.1 hcm
    rw [hgood j hj hj]
    simp
  refine st_build (cells := (u8s zero32).toArray) (by kernel_rfl) ?_
  exact cbR_C (L := L) hh hc hK (by simp [okT, hA, h64, hany, hth]) (hs.sbl (.cons .hd (.cons .hd (.drop (.drop (.drop (.drop (.drop (.drop (.drop .all))))))))))
theorem cbR_A {x : Block} {g1 g3 g4 : Nat} {A1 A2 : Option Addr} {c1 c2 : Nat} {K : Value → World → Prop} (hh : x.header.ok) (hc : x.last.ok) (hK : ∀ w', Isk.Sep b w' L → K (.int .i64 (checkBlock x)) w') (hn : x.txs.length ≤ 1073741824) (hnm : ∀ t ∈ x.txs, t.length ≤ 1073741824) (hch : x.header.chain.length ≤ 4611686018427387904)
    (hs : Isk.Sep b w (blkI g4 T.api_Commit (ccC x.last A2 c2) :: blkI g3 T.api_Header (hcC x.header) :: (rngF g1 (0 + 165) (ccC x.last A2 c2)).it :: (rngF g1 0 (blokC (hcC x.header) (.slice A1 x.txs.length c1) (ccC x.last A2 c2))).it :: (blokF (blokC (hcC x.header) (.slice A1 x.txs.length c1) (ccC x.last A2 c2)) x).it :: (listF bytesF 1 (.slice A1 x.txs.length c1) x.txs).it :: (listF voteF 37 (.slice A2 x.last.votes.length c2) x.last.votes).it :: (commF (ccC x.last A2 c2) x.last).it :: (headF (hcC x.header) x.header).it :: L)) :
    F.isthmusref11_CheckBlock_rA K (.pointer (some ⟨g1, 0, none⟩)) (.int .i64 0) (.pointer (some ⟨g3, 0, none⟩)) (.pointer (some ⟨g4, 0, none⟩)) w := by
  have e1 := u8s_len hh.last; have e2 := u8s_len hh.app; have e3 := u8s_len hh.txs; have e4 := u8s_len hh.validators; have e5 := u8s_len hh.next
  have e6 := u8s_len hc.block
  have hcl : (hcC x.header).length = 164 := headC_len e1 e2 e3 e4 e5
  have hcl2 : (ccC x.last A2 c2).length = 35 := commC_len e6
  have hB : ∀ w : World, okA x = true → x.txs.length ≤ 64 → x.header.txs = txsHashB x.txs → Isk.Sep b w (blkI g4 T.api_Commit (ccC x.last A2 c2) :: blkI g3 T.api_Header (hcC x.header) :: (rngF g1 (0 + 165) (ccC x.last A2 c2)).it :: (rngF g1 0 (blokC (hcC x.header) (.slice A1 x.txs.length c1) (ccC x.last A2 c2))).it :: (blokF (blokC (hcC x.header) (.slice A1 x.txs.length c1) (ccC x.last A2 c2)) x).it :: (listF bytesF 1 (.slice A1 x.txs.length c1) x.txs).it :: (listF voteF 37 (.slice A2 x.last.votes.length c2) x.last.votes).it :: (commF (ccC x.last A2 c2) x.last).it :: (headF (hcC x.header) x.header).it :: L) → F.isthmusref11_CheckBlock_rB K (.pointer (some ⟨g1, 0, none⟩)) (.int .i64 0) (.pointer (some ⟨g3, 0, none⟩)) (.pointer (some ⟨g4, 0, none⟩)) (.int .i64 0) w :=
    fun w a1 a2 a3 hs => cbR_B hh hc hK a1 a2 a3 hs
  unfold hcC at hs hB hcl
  unfold F.isthmusref11_CheckBlock_rA
  replace hs := hs.drew
  refine dr_can hs .all ?_
  repeat (first
   | (with_reducible refine head.a0 ?_)
   | ((with_reducible apply head.r0 hs); (· (with_reducible (repeat (first | exact .blk | exact .rng | apply Rng.tl)))))
   | (with_reducible refine head.c0 ?_)
   | ((with_reducible apply head.e0); (· first | exact hS | exact hid); (· (with_reducible (repeat (first | exact .blk | exact .rng | apply Rng.tl)))))
   | (with_reducible refine head.a1 ?_)
   | ((with_reducible apply head.r1 hs); (· (with_reducible (repeat (first | exact .blk | exact .rng | apply Rng.tl)))))
   | (with_reducible refine head.c1 ?_)
   | ((with_reducible apply head.e1); (· first | exact hS | exact hid); (· (with_reducible (repeat (first | exact .blk | exact .rng | apply Rng.tl)))))
   | (with_reducible refine head.a2 ?_)
   | ((with_reducible apply head.r2 hs); (· (with_reducible (repeat (first | exact .blk | exact .rng | apply Rng.tl)))))
   | (with_reducible refine head.c2 ?_)
   | ((with_reducible apply head.e2); (· first | exact hS | exact hid); (· (with_reducible (repeat (first | exact .blk | exact .rng | apply Rng.tl)))))
   | (with_reducible refine head.a3 ?_)
   | ((with_reducible apply head.r3 hs); (· (with_reducible (repeat (first | exact .blk | exact .rng | apply Rng.tl)))); (· (with_reducible (first | assumption | exact z32 | exact u8s_len (by assumption)))))
   | (with_reducible refine head.c3 ?_)
   | ((with_reducible apply head.e3); (· first | exact hS | exact hid); (· (with_reducible (repeat (first | exact .blk | exact .rng | apply Rng.tl)))); (· (with_reducible (first | assumption | exact z32 | exact u8s_len (by assumption)))))
   | (with_reducible refine head.a4 ?_)
   | ((with_reducible apply head.r4 hs); (· (with_reducible (repeat (first | exact .blk | exact .rng | apply Rng.tl)))); (repeat (· (with_reducible (first | assumption | exact z32 | exact u8s_len (by assumption))))))
   | (with_reducible refine head.c4 ?_)
   | ((with_reducible apply head.e4); (· first | exact hS | exact hid); (· (with_reducible (repeat (first | exact .blk | exact .rng | apply Rng.tl)))); (repeat (· (with_reducible (first | assumption | exact z32 | exact u8s_len (by assumption))))))
   | (with_reducible refine head.a5 ?_)
   | ((with_reducible apply head.r5 hs); (· (with_reducible (repeat (first | exact .blk | exact .rng | apply Rng.tl)))); (repeat (· (with_reducible (first | assumption | exact z32 | exact u8s_len (by assumption))))))
   | (with_reducible refine head.c5 ?_)
   | ((with_reducible apply head.e5); (· first | exact hS | exact hid); (· (with_reducible (repeat (first | exact .blk | exact .rng | apply Rng.tl)))); (repeat (· (with_reducible (first | assumption | exact z32 | exact u8s_len (by assumption))))))
   | (with_reducible refine head.a6 ?_)
   | ((with_reducible apply head.r6 hs); (· (with_reducible (repeat (first | exact .blk | exact .rng | apply Rng.tl)))); (repeat (· (with_reducible (first | assumption | exact z32 | exact u8s_len (by assumption))))))
   | (with_reducible refine head.c6 ?_)
   | ((with_reducible apply head.e6); (· first | exact hS | exact hid); (· (with_reducible (repeat (first | exact .blk | exact .rng | apply Rng.tl)))); (repeat (· (with_reducible (first | assumption | exact z32 | exact u8s_len (by assumption))))))
   | (with_reducible refine head.a7 ?_)
   | ((with_reducible apply head.r7 hs); (· (with_reducible (repeat (first | exact .blk | exact .rng | apply Rng.tl)))); (repeat (· (with_reducible (first | assumption | exact z32 | exact u8s_len (by assumption))))))
   | (with_reducible refine head.c7 ?_)
   | ((with_reducible apply head.e7); (· first | exact hS | exact hid); (· (with_reducible (repeat (first | exact .blk | exact .rng | apply Rng.tl)))); (repeat (· (with_reducible (first | assumption | exact z32 | exact u8s_len (by assumption))))))
   | (with_reducible refine head.a8 ?_)
   | ((with_reducible apply head.r8 hs); (· (with_reducible (repeat (first | exact .blk | exact .rng | apply Rng.tl)))); (repeat (· (with_reducible (first | assumption | exact z32 | exact u8s_len (by assumption))))))
   | (with_reducible refine head.c8 ?_)
   | ((with_reducible apply head.e8); (· first | exact hS | exact hid); (· (with_reducible (repeat (first | exact .blk | exact .rng | apply Rng.tl)))); (repeat (· (with_reducible (first | assumption | exact z32 | exact u8s_len (by assumption))))))
   | (with_reducible (first | refine st_lens ?_ | refine st_eqls ?_ | refine st_nels ?_ | refine tk_eqls ?_ | refine tk_nels ?_ | refine mv.mk ?_ | refine nk_p ?_ | refine gdT_i ?_ | refine gdT_ft ?_ | refine gdT_tf ?_ | refine gdT_u ?_ | refine gd_u ?_ | refine gd_ft ?_ | refine gd_tf ?_ | refine gd_i ?_ | refine pk_t ?_ | refine pk_f ?_ | refine br_t ?_ | refine br_f ?_ | refine sp_boxa hs fun g w hs => ?_))
   | (with_reducible ((first | apply st_bin | apply st_ext | apply st_len | apply st_un | apply st_conv | apply st_mki | apply st_fld | apply st_cap | apply st_max | apply st_min | apply st_ixv | apply st_mkf); intro k' hk; simp [go_sem, thenR_ok, bin]; refine hk _ _ ?_; clear hk k'))
   | ((with_reducible (first | apply tk_bin | apply tk_ext | apply tk_len | apply tk_un)); (· intro w; simp [go_sem, bin]; rfl))
   | ((with_reducible apply sp_newr hs); (· kernel_rfl); intro g w hs))
  refine cl (isthmusref11_Named hs hch) ?_
  rintro _ w ⟨rfl, hs⟩
  refine ⟨hs.mayr .all, ?_⟩
  cases q0 : namedB x.header.chain with
  | false =>
    repeat (first
     | (with_reducible (first | refine st_lens ?_ | refine st_eqls ?_ | refine st_nels ?_ | refine tk_eqls ?_ | refine tk_nels ?_ | refine mv.mk ?_ | refine nk_p ?_ | refine gdT_i ?_ | refine gdT_ft ?_ | refine gdT_tf ?_ | refine gdT_u ?_ | refine gd_u ?_ | refine gd_ft ?_ | refine gd_tf ?_ | refine gd_i ?_ | refine pk_t ?_ | refine pk_f ?_ | refine br_t ?_ | refine br_f ?_ | refine sp_boxa hs fun g w hs => ?_))
     | (with_reducible ((first | apply st_bin | apply st_ext | apply st_len | apply st_un | apply st_conv | apply st_mki | apply st_fld | apply st_cap | apply st_max | apply st_min | apply st_ixv | apply st_mkf); intro k' hk; simp [go_sem, thenR_ok, bin]; refine hk _ _ ?_; clear hk k'))
     | ((with_reducible (first | apply tk_bin | apply tk_ext | apply tk_len | apply tk_un)); (· intro w; simp [go_sem, bin]; rfl))
     | ((with_reducible apply sp_newr hs); (· kernel_rfl); intro g w hs))
    refine nS_can hs .all .all ?_
    repeat (first
     | (with_reducible (first | refine st_lens ?_ | refine st_eqls ?_ | refine st_nels ?_ | refine tk_eqls ?_ | refine tk_nels ?_ | refine mv.mk ?_ | refine nk_p ?_ | refine gdT_i ?_ | refine gdT_ft ?_ | refine gdT_tf ?_ | refine gdT_u ?_ | refine gd_u ?_ | refine gd_ft ?_ | refine gd_tf ?_ | refine gd_i ?_ | refine pk_t ?_ | refine pk_f ?_ | refine br_t ?_ | refine br_f ?_ | refine sp_boxa hs fun g w hs => ?_))
     | (with_reducible ((first | apply st_bin | apply st_ext | apply st_len | apply st_un | apply st_conv | apply st_mki | apply st_fld | apply st_cap | apply st_max | apply st_min | apply st_ixv | apply st_mkf); intro k' hk; simp [go_sem, thenR_ok, bin]; refine hk _ _ ?_; clear hk k'))
     | ((with_reducible (first | apply tk_bin | apply tk_ext | apply tk_len | apply tk_un)); (· intro w; simp [go_sem, bin]; rfl))
     | ((with_reducible apply sp_newr hs); (· kernel_rfl); intro g w hs))
    refine ⟨hs.mayr .all, ?_⟩
    repeat (first
     | (with_reducible (first | refine st_lens ?_ | refine st_eqls ?_ | refine st_nels ?_ | refine tk_eqls ?_ | refine tk_nels ?_ | refine mv.mk ?_ | refine nk_p ?_ | refine gdT_i ?_ | refine gdT_ft ?_ | refine gdT_tf ?_ | refine gdT_u ?_ | refine gd_u ?_ | refine gd_ft ?_ | refine gd_tf ?_ | refine gd_i ?_ | refine pk_t ?_ | refine pk_f ?_ | refine br_t ?_ | refine br_f ?_ | refine sp_boxa hs fun g w hs => ?_))
     | (with_reducible ((first | apply st_bin | apply st_ext | apply st_len | apply st_un | apply st_conv | apply st_mki | apply st_fld | apply st_cap | apply st_max | apply st_min | apply st_ixv | apply st_mkf); intro k' hk; simp [go_sem, thenR_ok, bin]; refine hk _ _ ?_; clear hk k'))
     | ((with_reducible (first | apply tk_bin | apply tk_ext | apply tk_len | apply tk_un)); (· intro w; simp [go_sem, bin]; rfl))
     | ((with_reducible apply sp_newr hs); (· kernel_rfl); intro g w hs))
    have := hK _ (hs.sbl (.drop (.drop (.drop (.drop (.drop (.drop (.drop (.drop (.drop .all))))))))))
    rw [show checkBlock x = 34 by simp [checkBlock, okT, okA, q0]] at this
    exact this
  | true =>
  repeat (first
   | (with_reducible refine head.a0 ?_)
   | ((with_reducible apply head.r0 hs); (· (with_reducible (repeat (first | exact .blk | exact .rng | apply Rng.tl)))))
   | (with_reducible refine head.c0 ?_)
   | ((with_reducible apply head.e0); (· first | exact hS | exact hid); (· (with_reducible (repeat (first | exact .blk | exact .rng | apply Rng.tl)))))
   | (with_reducible refine head.a1 ?_)
   | ((with_reducible apply head.r1 hs); (· (with_reducible (repeat (first | exact .blk | exact .rng | apply Rng.tl)))))
   | (with_reducible refine head.c1 ?_)
   | ((with_reducible apply head.e1); (· first | exact hS | exact hid); (· (with_reducible (repeat (first | exact .blk | exact .rng | apply Rng.tl)))))
   | (with_reducible refine head.a2 ?_)
   | ((with_reducible apply head.r2 hs); (· (with_reducible (repeat (first | exact .blk | exact .rng | apply Rng.tl)))))
   | (with_reducible refine head.c2 ?_)
   | ((with_reducible apply head.e2); (· first | exact hS | exact hid); (· (with_reducible (repeat (first | exact .blk | exact .rng | apply Rng.tl)))))
   | (with_reducible refine head.a3 ?_)
   | ((with_reducible apply head.r3 hs); (· (with_reducible (repeat (first | exact .blk | exact .rng | apply Rng.tl)))); (· (with_reducible (first | assumption | exact z32 | exact u8s_len (by assumption)))))
   | (with_reducible refine head.c3 ?_)
   | ((with_reducible apply head.e3); (· first | exact hS | exact hid); (· (with_reducible (repeat (first | exact .blk | exact .rng | apply Rng.tl)))); (· (with_reducible (first | assumption | exact z32 | exact u8s_len (by assumption)))))
   | (with_reducible refine head.a4 ?_)
   | ((with_reducible apply head.r4 hs); (· (with_reducible (repeat (first | exact .blk | exact .rng | apply Rng.tl)))); (repeat (· (with_reducible (first | assumption | exact z32 | exact u8s_len (by assumption))))))
   | (with_reducible refine head.c4 ?_)
   | ((with_reducible apply head.e4); (· first | exact hS | exact hid); (· (with_reducible (repeat (first | exact .blk | exact .rng | apply Rng.tl)))); (repeat (· (with_reducible (first | assumption | exact z32 | exact u8s_len (by assumption))))))
   | (with_reducible refine head.a5 ?_)
   | ((with_reducible apply head.r5 hs); (· (with_reducible (repeat (first | exact .blk | exact .rng | apply Rng.tl)))); (repeat (· (with_reducible (first | assumption | exact z32 | exact u8s_len (by assumption))))))
   | (with_reducible refine head.c5 ?_)
   | ((with_reducible apply head.e5); (· first | exact hS | exact hid); (· (with_reducible (repeat (first | exact .blk | exact .rng | apply Rng.tl)))); (repeat (· (with_reducible (first | assumption | exact z32 | exact u8s_len (by assumption))))))
   | (with_reducible refine head.a6 ?_)
   | ((with_reducible apply head.r6 hs); (· (with_reducible (repeat (first | exact .blk | exact .rng | apply Rng.tl)))); (repeat (· (with_reducible (first | assumption | exact z32 | exact u8s_len (by assumption))))))
   | (with_reducible refine head.c6 ?_)
   | ((with_reducible apply head.e6); (· first | exact hS | exact hid); (· (with_reducible (repeat (first | exact .blk | exact .rng | apply Rng.tl)))); (repeat (· (with_reducible (first | assumption | exact z32 | exact u8s_len (by assumption))))))
   | (with_reducible refine head.a7 ?_)
   | ((with_reducible apply head.r7 hs); (· (with_reducible (repeat (first | exact .blk | exact .rng | apply Rng.tl)))); (repeat (· (with_reducible (first | assumption | exact z32 | exact u8s_len (by assumption))))))
   | (with_reducible refine head.c7 ?_)
   | ((with_reducible apply head.e7); (· first | exact hS | exact hid); (· (with_reducible (repeat (first | exact .blk | exact .rng | apply Rng.tl)))); (repeat (· (with_reducible (first | assumption | exact z32 | exact u8s_len (by assumption))))))
   | (with_reducible refine head.a8 ?_)
   | ((with_reducible apply head.r8 hs); (· (with_reducible (repeat (first | exact .blk | exact .rng | apply Rng.tl)))); (repeat (· (with_reducible (first | assumption | exact z32 | exact u8s_len (by assumption))))))
   | (with_reducible refine head.c8 ?_)
   | ((with_reducible apply head.e8); (· first | exact hS | exact hid); (· (with_reducible (repeat (first | exact .blk | exact .rng | apply Rng.tl)))); (repeat (· (with_reducible (first | assumption | exact z32 | exact u8s_len (by assumption))))))
   | (with_reducible (first | refine st_lens ?_ | refine st_eqls ?_ | refine st_nels ?_ | refine tk_eqls ?_ | refine tk_nels ?_ | refine mv.mk ?_ | refine nk_p ?_ | refine gdT_i ?_ | refine gdT_ft ?_ | refine gdT_tf ?_ | refine gdT_u ?_ | refine gd_u ?_ | refine gd_ft ?_ | refine gd_tf ?_ | refine gd_i ?_ | refine pk_t ?_ | refine pk_f ?_ | refine br_t ?_ | refine br_f ?_ | refine sp_boxa hs fun g w hs => ?_))
   | (with_reducible ((first | apply st_bin | apply st_ext | apply st_len | apply st_un | apply st_conv | apply st_mki | apply st_fld | apply st_cap | apply st_max | apply st_min | apply st_ixv | apply st_mkf); intro k' hk; simp [go_sem, thenR_ok, bin]; refine hk _ _ ?_; clear hk k'))
   | ((with_reducible (first | apply tk_bin | apply tk_ext | apply tk_len | apply tk_un)); (· intro w; simp [go_sem, bin]; rfl))
   | ((with_reducible apply sp_newr hs); (· kernel_rfl); intro g w hs))
  refine nS_can hs .all .all ?_
  repeat (first
   | (with_reducible refine head.a0 ?_)
   | ((with_reducible apply head.r0 hs); (· (with_reducible (repeat (first | exact .blk | exact .rng | apply Rng.tl)))))
   | (with_reducible refine head.c0 ?_)
   | ((with_reducible apply head.e0); (· first | exact hS | exact hid); (· (with_reducible (repeat (first | exact .blk | exact .rng | apply Rng.tl)))))
   | (with_reducible refine head.a1 ?_)
   | ((with_reducible apply head.r1 hs); (· (with_reducible (repeat (first | exact .blk | exact .rng | apply Rng.tl)))))
   | (with_reducible refine head.c1 ?_)
   | ((with_reducible apply head.e1); (· first | exact hS | exact hid); (· (with_reducible (repeat (first | exact .blk | exact .rng | apply Rng.tl)))))
   | (with_reducible refine head.a2 ?_)
   | ((with_reducible apply head.r2 hs); (· (with_reducible (repeat (first | exact .blk | exact .rng | apply Rng.tl)))))
   | (with_reducible refine head.c2 ?_)
   | ((with_reducible apply head.e2); (· first | exact hS | exact hid); (· (with_reducible (repeat (first | exact .blk | exact .rng | apply Rng.tl)))))
   | (with_reducible refine head.a3 ?_)
   | ((with_reducible apply head.r3 hs); (· (with_reducible (repeat (first | exact .blk | exact .rng | apply Rng.tl)))); (· (with_reducible (first | assumption | exact z32 | exact u8s_len (by assumption)))))
   | (with_reducible refine head.c3 ?_)
   | ((with_reducible apply head.e3); (· first | exact hS | exact hid); (· (with_reducible (repeat (first | exact .blk | exact .rng | apply Rng.tl)))); (· (with_reducible (first | assumption | exact z32 | exact u8s_len (by assumption)))))
   | (with_reducible refine head.a4 ?_)
   | ((with_reducible apply head.r4 hs); (· (with_reducible (repeat (first | exact .blk | exact .rng | apply Rng.tl)))); (repeat (· (with_reducible (first | assumption | exact z32 | exact u8s_len (by assumption))))))
   | (with_reducible refine head.c4 ?_)
   | ((with_reducible apply head.e4); (· first | exact hS | exact hid); (· (with_reducible (repeat (first | exact .blk | exact .rng | apply Rng.tl)))); (repeat (· (with_reducible (first | assumption | exact z32 | exact u8s_len (by assumption))))))
   | (with_reducible refine head.a5 ?_)
   | ((with_reducible apply head.r5 hs); (· (with_reducible (repeat (first | exact .blk | exact .rng | apply Rng.tl)))); (repeat (· (with_reducible (first | assumption | exact z32 | exact u8s_len (by assumption))))))
   | (with_reducible refine head.c5 ?_)
   | ((with_reducible apply head.e5); (· first | exact hS | exact hid); (· (with_reducible (repeat (first | exact .blk | exact .rng | apply Rng.tl)))); (repeat (· (with_reducible (first | assumption | exact z32 | exact u8s_len (by assumption))))))
   | (with_reducible refine head.a6 ?_)
   | ((with_reducible apply head.r6 hs); (· (with_reducible (repeat (first | exact .blk | exact .rng | apply Rng.tl)))); (repeat (· (with_reducible (first | assumption | exact z32 | exact u8s_len (by assumption))))))
   | (with_reducible refine head.c6 ?_)
   | ((with_reducible apply head.e6); (· first | exact hS | exact hid); (· (with_reducible (repeat (first | exact .blk | exact .rng | apply Rng.tl)))); (repeat (· (with_reducible (first | assumption | exact z32 | exact u8s_len (by assumption))))))
   | (with_reducible refine head.a7 ?_)
   | ((with_reducible apply head.r7 hs); (· (with_reducible (repeat (first | exact .blk | exact .rng | apply Rng.tl)))); (repeat (· (with_reducible (first | assumption | exact z32 | exact u8s_len (by assumption))))))
   | (with_reducible refine head.c7 ?_)
   | ((with_reducible apply head.e7); (· first | exact hS | exact hid); (· (with_reducible (repeat (first | exact .blk | exact .rng | apply Rng.tl)))); (repeat (· (with_reducible (first | assumption | exact z32 | exact u8s_len (by assumption))))))
   | (with_reducible refine head.a8 ?_)
   | ((with_reducible apply head.r8 hs); (· (with_reducible (repeat (first | exact .blk | exact .rng | apply Rng.tl)))); (repeat (· (with_reducible (first | assumption | exact z32 | exact u8s_len (by assumption))))))
   | (with_reducible refine head.c8 ?_)
   | ((with_reducible apply head.e8); (· first | exact hS | exact hid); (· (with_reducible (repeat (first | exact .blk | exact .rng | apply Rng.tl)))); (repeat (· (with_reducible (first | assumption | exact z32 | exact u8s_len (by assumption))))))
   | (with_reducible (first | refine st_lens ?_ | refine st_eqls ?_ | refine st_nels ?_ | refine tk_eqls ?_ | refine tk_nels ?_ | refine mv.mk ?_ | refine nk_p ?_ | refine gdT_i ?_ | refine gdT_ft ?_ | refine gdT_tf ?_ | refine gdT_u ?_ | refine gd_u ?_ | refine gd_ft ?_ | refine gd_tf ?_ | refine gd_i ?_ | refine pk_t ?_ | refine pk_f ?_ | refine br_t ?_ | refine br_f ?_ | refine sp_boxa hs fun g w hs => ?_))
   | (with_reducible ((first | apply st_bin | apply st_ext | apply st_len | apply st_un | apply st_conv | apply st_mki | apply st_fld | apply st_cap | apply st_max | apply st_min | apply st_ixv | apply st_mkf); intro k' hk; simp [go_sem, thenR_ok, bin]; refine hk _ _ ?_; clear hk k'))
   | ((with_reducible (first | apply tk_bin | apply tk_ext | apply tk_len | apply tk_un)); (· intro w; simp [go_sem, bin]; rfl))
   | ((with_reducible apply sp_newr hs); (· kernel_rfl); intro g w hs))
  by_cases q1 : 1 ≤ x.header.height
  rotate_left
  · rw [decide_eq_true (show x.header.height < 1 by omega)]
    repeat (first
     | (with_reducible (first | refine st_lens ?_ | refine st_eqls ?_ | refine st_nels ?_ | refine tk_eqls ?_ | refine tk_nels ?_ | refine mv.mk ?_ | refine nk_p ?_ | refine gdT_i ?_ | refine gdT_ft ?_ | refine gdT_tf ?_ | refine gdT_u ?_ | refine gd_u ?_ | refine gd_ft ?_ | refine gd_tf ?_ | refine gd_i ?_ | refine pk_t ?_ | refine pk_f ?_ | refine br_t ?_ | refine br_f ?_ | refine sp_boxa hs fun g w hs => ?_))
     | (with_reducible ((first | apply st_bin | apply st_ext | apply st_len | apply st_un | apply st_conv | apply st_mki | apply st_fld | apply st_cap | apply st_max | apply st_min | apply st_ixv | apply st_mkf); intro k' hk; simp [go_sem, thenR_ok, bin]; refine hk _ _ ?_; clear hk k'))
     | ((with_reducible (first | apply tk_bin | apply tk_ext | apply tk_len | apply tk_un)); (· intro w; simp [go_sem, bin]; rfl))
     | ((with_reducible apply sp_newr hs); (· kernel_rfl); intro g w hs))
    refine ⟨hs.mayr .all, ?_⟩
    repeat (first
     | (with_reducible (first | refine st_lens ?_ | refine st_eqls ?_ | refine st_nels ?_ | refine tk_eqls ?_ | refine tk_nels ?_ | refine mv.mk ?_ | refine nk_p ?_ | refine gdT_i ?_ | refine gdT_ft ?_ | refine gdT_tf ?_ | refine gdT_u ?_ | refine gd_u ?_ | refine gd_ft ?_ | refine gd_tf ?_ | refine gd_i ?_ | refine pk_t ?_ | refine pk_f ?_ | refine br_t ?_ | refine br_f ?_ | refine sp_boxa hs fun g w hs => ?_))
     | (with_reducible ((first | apply st_bin | apply st_ext | apply st_len | apply st_un | apply st_conv | apply st_mki | apply st_fld | apply st_cap | apply st_max | apply st_min | apply st_ixv | apply st_mkf); intro k' hk; simp [go_sem, thenR_ok, bin]; refine hk _ _ ?_; clear hk k'))
     | ((with_reducible (first | apply tk_bin | apply tk_ext | apply tk_len | apply tk_un)); (· intro w; simp [go_sem, bin]; rfl))
     | ((with_reducible apply sp_newr hs); (· kernel_rfl); intro g w hs))
    have := hK _ (hs.sbl (.drop (.drop (.drop (.drop (.drop (.drop (.drop (.drop (.drop .all))))))))))
    rw [show checkBlock x = 34 by simp [checkBlock, okT, okA, q0, q1]] at this
    exact this
  rw [decide_eq_false (show ¬ x.header.height < 1 by omega)]
  repeat (first
   | (with_reducible refine head.a0 ?_)
   | ((with_reducible apply head.r0 hs); (· (with_reducible (repeat (first | exact .blk | exact .rng | apply Rng.tl)))))
   | (with_reducible refine head.c0 ?_)
   | ((with_reducible apply head.e0); (· first | exact hS | exact hid); (· (with_reducible (repeat (first | exact .blk | exact .rng | apply Rng.tl)))))
   | (with_reducible refine head.a1 ?_)
   | ((with_reducible apply head.r1 hs); (· (with_reducible (repeat (first | exact .blk | exact .rng | apply Rng.tl)))))
   | (with_reducible refine head.c1 ?_)
   | ((with_reducible apply head.e1); (· first | exact hS | exact hid); (· (with_reducible (repeat (first | exact .blk | exact .rng | apply Rng.tl)))))
   | (with_reducible refine head.a2 ?_)
   | ((with_reducible apply head.r2 hs); (· (with_reducible (repeat (first | exact .blk | exact .rng | apply Rng.tl)))))
   | (with_reducible refine head.c2 ?_)
   | ((with_reducible apply head.e2); (· first | exact hS | exact hid); (· (with_reducible (repeat (first | exact .blk | exact .rng | apply Rng.tl)))))
   | (with_reducible refine head.a3 ?_)
   | ((with_reducible apply head.r3 hs); (· (with_reducible (repeat (first | exact .blk | exact .rng | apply Rng.tl)))); (· (with_reducible (first | assumption | exact z32 | exact u8s_len (by assumption)))))
   | (with_reducible refine head.c3 ?_)
   | ((with_reducible apply head.e3); (· first | exact hS | exact hid); (· (with_reducible (repeat (first | exact .blk | exact .rng | apply Rng.tl)))); (· (with_reducible (first | assumption | exact z32 | exact u8s_len (by assumption)))))
   | (with_reducible refine head.a4 ?_)
   | ((with_reducible apply head.r4 hs); (· (with_reducible (repeat (first | exact .blk | exact .rng | apply Rng.tl)))); (repeat (· (with_reducible (first | assumption | exact z32 | exact u8s_len (by assumption))))))
   | (with_reducible refine head.c4 ?_)
   | ((with_reducible apply head.e4); (· first | exact hS | exact hid); (· (with_reducible (repeat (first | exact .blk | exact .rng | apply Rng.tl)))); (repeat (· (with_reducible (first | assumption | exact z32 | exact u8s_len (by assumption))))))
   | (with_reducible refine head.a5 ?_)
   | ((with_reducible apply head.r5 hs); (· (with_reducible (repeat (first | exact .blk | exact .rng | apply Rng.tl)))); (repeat (· (with_reducible (first | assumption | exact z32 | exact u8s_len (by assumption))))))
   | (with_reducible refine head.c5 ?_)
   | ((with_reducible apply head.e5); (· first | exact hS | exact hid); (· (with_reducible (repeat (first | exact .blk | exact .rng | apply Rng.tl)))); (repeat (· (with_reducible (first | assumption | exact z32 | exact u8s_len (by assumption))))))
   | (with_reducible refine head.a6 ?_)
   | ((with_reducible apply head.r6 hs); (· (with_reducible (repeat (first | exact .blk | exact .rng | apply Rng.tl)))); (repeat (· (with_reducible (first | assumption | exact z32 | exact u8s_len (by assumption))))))
   | (with_reducible refine head.c6 ?_)
   | ((with_reducible apply head.e6); (· first | exact hS | exact hid); (· (with_reducible (repeat (first | exact .blk | exact .rng | apply Rng.tl)))); (repeat (· (with_reducible (first | assumption | exact z32 | exact u8s_len (by assumption))))))
   | (with_reducible refine head.a7 ?_)
   | ((with_reducible apply head.r7 hs); (· (with_reducible (repeat (first | exact .blk | exact .rng | apply Rng.tl)))); (repeat (· (with_reducible (first | assumption | exact z32 | exact u8s_len (by assumption))))))
   | (with_reducible refine head.c7 ?_)
   | ((with_reducible apply head.e7); (· first | exact hS | exact hid); (· (with_reducible (repeat (first | exact .blk | exact .rng | apply Rng.tl)))); (repeat (· (with_reducible (first | assumption | exact z32 | exact u8s_len (by assumption))))))
   | (with_reducible refine head.a8 ?_)
   | ((with_reducible apply head.r8 hs); (· (with_reducible (repeat (first | exact .blk | exact .rng | apply Rng.tl)))); (repeat (· (with_reducible (first | assumption | exact z32 | exact u8s_len (by assumption))))))
   | (with_reducible refine head.c8 ?_)
   | ((with_reducible apply head.e8); (· first | exact hS | exact hid); (· (with_reducible (repeat (first | exact .blk | exact .rng | apply Rng.tl)))); (repeat (· (with_reducible (first | assumption | exact z32 | exact u8s_len (by assumption))))))
   | (with_reducible refine blok.a0 ?_)
   | ((with_reducible apply blok.r0 hs); (· (with_reducible (repeat (first | exact .blk | exact .rng | apply Rng.tl)))); (· (with_reducible (first | assumption | exact z32 | exact u8s_len (by assumption)))))
   | (with_reducible refine blok.c0 ?_)
   | ((with_reducible apply blok.e0); (· first | exact hS | exact hid); (· (with_reducible (repeat (first | exact .blk | exact .rng | apply Rng.tl)))); (· (with_reducible (first | assumption | exact z32 | exact u8s_len (by assumption)))))
   | (with_reducible refine blok.a1 ?_)
   | ((with_reducible apply blok.r1 hs); (· (with_reducible (repeat (first | exact .blk | exact .rng | apply Rng.tl)))); (· (with_reducible (first | assumption | exact z32 | exact u8s_len (by assumption)))))
   | (with_reducible refine blok.c1 ?_)
   | ((with_reducible apply blok.e1); (· first | exact hS | exact hid); (· (with_reducible (repeat (first | exact .blk | exact .rng | apply Rng.tl)))); (· (with_reducible (first | assumption | exact z32 | exact u8s_len (by assumption)))))
   | (with_reducible refine blok.a2 ?_)
   | ((with_reducible apply blok.r2 hs); (· (with_reducible (repeat (first | exact .blk | exact .rng | apply Rng.tl)))); (repeat (· (with_reducible (first | assumption | exact z32 | exact u8s_len (by assumption))))))
   | (with_reducible refine blok.c2 ?_)
   | ((with_reducible apply blok.e2); (· first | exact hS | exact hid); (· (with_reducible (repeat (first | exact .blk | exact .rng | apply Rng.tl)))); (repeat (· (with_reducible (first | assumption | exact z32 | exact u8s_len (by assumption))))))
   | (with_reducible (first | refine st_lens ?_ | refine st_eqls ?_ | refine st_nels ?_ | refine tk_eqls ?_ | refine tk_nels ?_ | refine mv.mk ?_ | refine nk_p ?_ | refine gdT_i ?_ | refine gdT_ft ?_ | refine gdT_tf ?_ | refine gdT_u ?_ | refine gd_u ?_ | refine gd_ft ?_ | refine gd_tf ?_ | refine gd_i ?_ | refine pk_t ?_ | refine pk_f ?_ | refine br_t ?_ | refine br_f ?_ | refine sp_boxa hs fun g w hs => ?_))
   | (with_reducible ((first | apply st_bin | apply st_ext | apply st_len | apply st_un | apply st_conv | apply st_mki | apply st_fld | apply st_cap | apply st_max | apply st_min | apply st_ixv | apply st_mkf); intro k' hk; simp [go_sem, thenR_ok, bin]; refine hk _ _ ?_; clear hk k'))
   | ((with_reducible (first | apply tk_bin | apply tk_ext | apply tk_len | apply tk_un)); (· intro w; simp [go_sem, bin]; rfl))
   | ((with_reducible apply sp_newr hs); (· kernel_rfl); intro g w hs))
  by_cases q2 : x.header.height ≤ 1099511627776
  rotate_left
  · rw [decide_eq_true (show 1099511627776 < x.header.height by omega)]
    repeat (first
     | (with_reducible (first | refine st_lens ?_ | refine st_eqls ?_ | refine st_nels ?_ | refine tk_eqls ?_ | refine tk_nels ?_ | refine mv.mk ?_ | refine nk_p ?_ | refine gdT_i ?_ | refine gdT_ft ?_ | refine gdT_tf ?_ | refine gdT_u ?_ | refine gd_u ?_ | refine gd_ft ?_ | refine gd_tf ?_ | refine gd_i ?_ | refine pk_t ?_ | refine pk_f ?_ | refine br_t ?_ | refine br_f ?_ | refine sp_boxa hs fun g w hs => ?_))
     | (with_reducible ((first | apply st_bin | apply st_ext | apply st_len | apply st_un | apply st_conv | apply st_mki | apply st_fld | apply st_cap | apply st_max | apply st_min | apply st_ixv | apply st_mkf); intro k' hk; simp [go_sem, thenR_ok, bin]; refine hk _ _ ?_; clear hk k'))
     | ((with_reducible (first | apply tk_bin | apply tk_ext | apply tk_len | apply tk_un)); (· intro w; simp [go_sem, bin]; rfl))
     | ((with_reducible apply sp_newr hs); (· kernel_rfl); intro g w hs))
    refine ⟨hs.mayr .all, ?_⟩
    repeat (first
     | (with_reducible (first | refine st_lens ?_ | refine st_eqls ?_ | refine st_nels ?_ | refine tk_eqls ?_ | refine tk_nels ?_ | refine mv.mk ?_ | refine nk_p ?_ | refine gdT_i ?_ | refine gdT_ft ?_ | refine gdT_tf ?_ | refine gdT_u ?_ | refine gd_u ?_ | refine gd_ft ?_ | refine gd_tf ?_ | refine gd_i ?_ | refine pk_t ?_ | refine pk_f ?_ | refine br_t ?_ | refine br_f ?_ | refine sp_boxa hs fun g w hs => ?_))
     | (with_reducible ((first | apply st_bin | apply st_ext | apply st_len | apply st_un | apply st_conv | apply st_mki | apply st_fld | apply st_cap | apply st_max | apply st_min | apply st_ixv | apply st_mkf); intro k' hk; simp [go_sem, thenR_ok, bin]; refine hk _ _ ?_; clear hk k'))
     | ((with_reducible (first | apply tk_bin | apply tk_ext | apply tk_len | apply tk_un)); (· intro w; simp [go_sem, bin]; rfl))
     | ((with_reducible apply sp_newr hs); (· kernel_rfl); intro g w hs))
    have := hK _ (hs.sbl (.drop (.drop (.drop (.drop (.drop (.drop (.drop (.drop (.drop .all))))))))))
    rw [show checkBlock x = 34 by simp [checkBlock, okT, okA, q0, q1, q2]] at this
    exact this
  rw [decide_eq_false (show ¬ 1099511627776 < x.header.height by omega)]
  repeat (first
   | (with_reducible refine head.a0 ?_)
   | ((with_reducible apply head.r0 hs); (· (with_reducible (repeat (first | exact .blk | exact .rng | apply Rng.tl)))))
   | (with_reducible refine head.c0 ?_)
   | ((with_reducible apply head.e0); (· first | exact hS | exact hid); (· (with_reducible (repeat (first | exact .blk | exact .rng | apply Rng.tl)))))
   | (with_reducible refine head.a1 ?_)
   | ((with_reducible apply head.r1 hs); (· (with_reducible (repeat (first | exact .blk | exact .rng | apply Rng.tl)))))
   | (with_reducible refine head.c1 ?_)
   | ((with_reducible apply head.e1); (· first | exact hS | exact hid); (· (with_reducible (repeat (first | exact .blk | exact .rng | apply Rng.tl)))))
   | (with_reducible refine head.a2 ?_)
   | ((with_reducible apply head.r2 hs); (· (with_reducible (repeat (first | exact .blk | exact .rng | apply Rng.tl)))))
   | (with_reducible refine head.c2 ?_)
   | ((with_reducible apply head.e2); (· first | exact hS | exact hid); (· (with_reducible (repeat (first | exact .blk | exact .rng | apply Rng.tl)))))
   | (with_reducible refine head.a3 ?_)
   | ((with_reducible apply head.r3 hs); (· (with_reducible (repeat (first | exact .blk | exact .rng | apply Rng.tl)))); (· (with_reducible (first | assumption | exact z32 | exact u8s_len (by assumption)))))
   | (with_reducible refine head.c3 ?_)
   | ((with_reducible apply head.e3); (· first | exact hS | exact hid); (· (with_reducible (repeat (first | exact .blk | exact .rng | apply Rng.tl)))); (· (with_reducible (first | assumption | exact z32 | exact u8s_len (by assumption)))))
   | (with_reducible refine head.a4 ?_)
   | ((with_reducible apply head.r4 hs); (· (with_reducible (repeat (first | exact .blk | exact .rng | apply Rng.tl)))); (repeat (· (with_reducible (first | assumption | exact z32 | exact u8s_len (by assumption))))))
   | (with_reducible refine head.c4 ?_)
   | ((with_reducible apply head.e4); (· first | exact hS | exact hid); (· (with_reducible (repeat (first | exact .blk | exact .rng | apply Rng.tl)))); (repeat (· (with_reducible (first | assumption | exact z32 | exact u8s_len (by assumption))))))
   | (with_reducible refine head.a5 ?_)
   | ((with_reducible apply head.r5 hs); (· (with_reducible (repeat (first | exact .blk | exact .rng | apply Rng.tl)))); (repeat (· (with_reducible (first | assumption | exact z32 | exact u8s_len (by assumption))))))
   | (with_reducible refine head.c5 ?_)
   | ((with_reducible apply head.e5); (· first | exact hS | exact hid); (· (with_reducible (repeat (first | exact .blk | exact .rng | apply Rng.tl)))); (repeat (· (with_reducible (first | assumption | exact z32 | exact u8s_len (by assumption))))))
   | (with_reducible refine head.a6 ?_)
   | ((with_reducible apply head.r6 hs); (· (with_reducible (repeat (first | exact .blk | exact .rng | apply Rng.tl)))); (repeat (· (with_reducible (first | assumption | exact z32 | exact u8s_len (by assumption))))))
   | (with_reducible refine head.c6 ?_)
   | ((with_reducible apply head.e6); (· first | exact hS | exact hid); (· (with_reducible (repeat (first | exact .blk | exact .rng | apply Rng.tl)))); (repeat (· (with_reducible (first | assumption | exact z32 | exact u8s_len (by assumption))))))
   | (with_reducible refine head.a7 ?_)
   | ((with_reducible apply head.r7 hs); (· (with_reducible (repeat (first | exact .blk | exact .rng | apply Rng.tl)))); (repeat (· (with_reducible (first | assumption | exact z32 | exact u8s_len (by assumption))))))
   | (with_reducible refine head.c7 ?_)
   | ((with_reducible apply head.e7); (· first | exact hS | exact hid); (· (with_reducible (repeat (first | exact .blk | exact .rng | apply Rng.tl)))); (repeat (· (with_reducible (first | assumption | exact z32 | exact u8s_len (by assumption))))))
   | (with_reducible refine head.a8 ?_)
   | ((with_reducible apply head.r8 hs); (· (with_reducible (repeat (first | exact .blk | exact .rng | apply Rng.tl)))); (repeat (· (with_reducible (first | assumption | exact z32 | exact u8s_len (by assumption))))))
   | (with_reducible refine head.c8 ?_)
   | ((with_reducible apply head.e8); (· first | exact hS | exact hid); (· (with_reducible (repeat (first | exact .blk | exact .rng | apply Rng.tl)))); (repeat (· (with_reducible (first | assumption | exact z32 | exact u8s_len (by assumption))))))
   | (with_reducible refine blok.a0 ?_)
   | ((with_reducible apply blok.r0 hs); (· (with_reducible (repeat (first | exact .blk | exact .rng | apply Rng.tl)))); (· (with_reducible (first | assumption | exact z32 | exact u8s_len (by assumption)))))
   | (with_reducible refine blok.c0 ?_)
   | ((with_reducible apply blok.e0); (· first | exact hS | exact hid); (· (with_reducible (repeat (first | exact .blk | exact .rng | apply Rng.tl)))); (· (with_reducible (first | assumption | exact z32 | exact u8s_len (by assumption)))))
   | (with_reducible refine blok.a1 ?_)
   | ((with_reducible apply blok.r1 hs); (· (with_reducible (repeat (first | exact .blk | exact .rng | apply Rng.tl)))); (· (with_reducible (first | assumption | exact z32 | exact u8s_len (by assumption)))))
   | (with_reducible refine blok.c1 ?_)
   | ((with_reducible apply blok.e1); (· first | exact hS | exact hid); (· (with_reducible (repeat (first | exact .blk | exact .rng | apply Rng.tl)))); (· (with_reducible (first | assumption | exact z32 | exact u8s_len (by assumption)))))
   | (with_reducible refine blok.a2 ?_)
   | ((with_reducible apply blok.r2 hs); (· (with_reducible (repeat (first | exact .blk | exact .rng | apply Rng.tl)))); (repeat (· (with_reducible (first | assumption | exact z32 | exact u8s_len (by assumption))))))
   | (with_reducible refine blok.c2 ?_)
   | ((with_reducible apply blok.e2); (· first | exact hS | exact hid); (· (with_reducible (repeat (first | exact .blk | exact .rng | apply Rng.tl)))); (repeat (· (with_reducible (first | assumption | exact z32 | exact u8s_len (by assumption))))))
   | (with_reducible (first | refine st_lens ?_ | refine st_eqls ?_ | refine st_nels ?_ | refine tk_eqls ?_ | refine tk_nels ?_ | refine mv.mk ?_ | refine nk_p ?_ | refine gdT_i ?_ | refine gdT_ft ?_ | refine gdT_tf ?_ | refine gdT_u ?_ | refine gd_u ?_ | refine gd_ft ?_ | refine gd_tf ?_ | refine gd_i ?_ | refine pk_t ?_ | refine pk_f ?_ | refine br_t ?_ | refine br_f ?_ | refine sp_boxa hs fun g w hs => ?_))
   | (with_reducible ((first | apply st_bin | apply st_ext | apply st_len | apply st_un | apply st_conv | apply st_mki | apply st_fld | apply st_cap | apply st_max | apply st_min | apply st_ixv | apply st_mkf); intro k' hk; simp [go_sem, thenR_ok, bin]; refine hk _ _ ?_; clear hk k'))
   | ((with_reducible (first | apply tk_bin | apply tk_ext | apply tk_len | apply tk_un)); (· intro w; simp [go_sem, bin]; rfl))
   | ((with_reducible apply sp_newr hs); (· kernel_rfl); intro g w hs))
  by_cases q3 : 0 ≤ x.header.time
  rotate_left
  · rw [decide_eq_true (show x.header.time < 0 by omega)]
    repeat (first
     | (with_reducible (first | refine st_lens ?_ | refine st_eqls ?_ | refine st_nels ?_ | refine tk_eqls ?_ | refine tk_nels ?_ | refine mv.mk ?_ | refine nk_p ?_ | refine gdT_i ?_ | refine gdT_ft ?_ | refine gdT_tf ?_ | refine gdT_u ?_ | refine gd_u ?_ | refine gd_ft ?_ | refine gd_tf ?_ | refine gd_i ?_ | refine pk_t ?_ | refine pk_f ?_ | refine br_t ?_ | refine br_f ?_ | refine sp_boxa hs fun g w hs => ?_))
     | (with_reducible ((first | apply st_bin | apply st_ext | apply st_len | apply st_un | apply st_conv | apply st_mki | apply st_fld | apply st_cap | apply st_max | apply st_min | apply st_ixv | apply st_mkf); intro k' hk; simp [go_sem, thenR_ok, bin]; refine hk _ _ ?_; clear hk k'))
     | ((with_reducible (first | apply tk_bin | apply tk_ext | apply tk_len | apply tk_un)); (· intro w; simp [go_sem, bin]; rfl))
     | ((with_reducible apply sp_newr hs); (· kernel_rfl); intro g w hs))
    refine ⟨hs.mayr .all, ?_⟩
    repeat (first
     | (with_reducible (first | refine st_lens ?_ | refine st_eqls ?_ | refine st_nels ?_ | refine tk_eqls ?_ | refine tk_nels ?_ | refine mv.mk ?_ | refine nk_p ?_ | refine gdT_i ?_ | refine gdT_ft ?_ | refine gdT_tf ?_ | refine gdT_u ?_ | refine gd_u ?_ | refine gd_ft ?_ | refine gd_tf ?_ | refine gd_i ?_ | refine pk_t ?_ | refine pk_f ?_ | refine br_t ?_ | refine br_f ?_ | refine sp_boxa hs fun g w hs => ?_))
     | (with_reducible ((first | apply st_bin | apply st_ext | apply st_len | apply st_un | apply st_conv | apply st_mki | apply st_fld | apply st_cap | apply st_max | apply st_min | apply st_ixv | apply st_mkf); intro k' hk; simp [go_sem, thenR_ok, bin]; refine hk _ _ ?_; clear hk k'))
     | ((with_reducible (first | apply tk_bin | apply tk_ext | apply tk_len | apply tk_un)); (· intro w; simp [go_sem, bin]; rfl))
     | ((with_reducible apply sp_newr hs); (· kernel_rfl); intro g w hs))
    have := hK _ (hs.sbl (.drop (.drop (.drop (.drop (.drop (.drop (.drop (.drop (.drop .all))))))))))
    rw [show checkBlock x = 34 by simp [checkBlock, okT, okA, q0, q1, q2, q3]] at this
    exact this
  rw [decide_eq_false (show ¬ x.header.time < 0 by omega)]
  repeat (first
   | (with_reducible refine head.a0 ?_)
   | ((with_reducible apply head.r0 hs); (· (with_reducible (repeat (first | exact .blk | exact .rng | apply Rng.tl)))))
   | (with_reducible refine head.c0 ?_)
   | ((with_reducible apply head.e0); (· first | exact hS | exact hid); (· (with_reducible (repeat (first | exact .blk | exact .rng | apply Rng.tl)))))
   | (with_reducible refine head.a1 ?_)
   | ((with_reducible apply head.r1 hs); (· (with_reducible (repeat (first | exact .blk | exact .rng | apply Rng.tl)))))
   | (with_reducible refine head.c1 ?_)
   | ((with_reducible apply head.e1); (· first | exact hS | exact hid); (· (with_reducible (repeat (first | exact .blk | exact .rng | apply Rng.tl)))))
   | (with_reducible refine head.a2 ?_)
   | ((with_reducible apply head.r2 hs); (· (with_reducible (repeat (first | exact .blk | exact .rng | apply Rng.tl)))))
   | (with_reducible refine head.c2 ?_)
   | ((with_reducible apply head.e2); (· first | exact hS | exact hid); (· (with_reducible (repeat (first | exact .blk | exact .rng | apply Rng.tl)))))
   | (with_reducible refine head.a3 ?_)
   | ((with_reducible apply head.r3 hs); (· (with_reducible (repeat (first | exact .blk | exact .rng | apply Rng.tl)))); (· (with_reducible (first | assumption | exact z32 | exact u8s_len (by assumption)))))
   | (with_reducible refine head.c3 ?_)
   | ((with_reducible apply head.e3); (· first | exact hS | exact hid); (· (with_reducible (repeat (first | exact .blk | exact .rng | apply Rng.tl)))); (· (with_reducible (first | assumption | exact z32 | exact u8s_len (by assumption)))))
   | (with_reducible refine head.a4 ?_)
   | ((with_reducible apply head.r4 hs); (· (with_reducible (repeat (first | exact .blk | exact .rng | apply Rng.tl)))); (repeat (· (with_reducible (first | assumption | exact z32 | exact u8s_len (by assumption))))))
   | (with_reducible refine head.c4 ?_)
   | ((with_reducible apply head.e4); (· first | exact hS | exact hid); (· (with_reducible (repeat (first | exact .blk | exact .rng | apply Rng.tl)))); (repeat (· (with_reducible (first | assumption | exact z32 | exact u8s_len (by assumption))))))
   | (with_reducible refine head.a5 ?_)
   | ((with_reducible apply head.r5 hs); (· (with_reducible (repeat (first | exact .blk | exact .rng | apply Rng.tl)))); (repeat (· (with_reducible (first | assumption | exact z32 | exact u8s_len (by assumption))))))
   | (with_reducible refine head.c5 ?_)
   | ((with_reducible apply head.e5); (· first | exact hS | exact hid); (· (with_reducible (repeat (first | exact .blk | exact .rng | apply Rng.tl)))); (repeat (· (with_reducible (first | assumption | exact z32 | exact u8s_len (by assumption))))))
   | (with_reducible refine head.a6 ?_)
   | ((with_reducible apply head.r6 hs); (· (with_reducible (repeat (first | exact .blk | exact .rng | apply Rng.tl)))); (repeat (· (with_reducible (first | assumption | exact z32 | exact u8s_len (by assumption))))))
   | (with_reducible refine head.c6 ?_)
   | ((with_reducible apply head.e6); (· first | exact hS | exact hid); (· (with_reducible (repeat (first | exact .blk | exact .rng | apply Rng.tl)))); (repeat (· (with_reducible (first | assumption | exact z32 | exact u8s_len (by assumption))))))
   | (with_reducible refine head.a7 ?_)
   | ((with_reducible apply head.r7 hs); (· (with_reducible (repeat (first | exact .blk | exact .rng | apply Rng.tl)))); (repeat (· (with_reducible (first | assumption | exact z32 | exact u8s_len (by assumption))))))
   | (with_reducible refine head.c7 ?_)
   | ((with_reducible apply head.e7); (· first | exact hS | exact hid); (· (with_reducible (repeat (first | exact .blk | exact .rng | apply Rng.tl)))); (repeat (· (with_reducible (first | assumption | exact z32 | exact u8s_len (by assumption))))))
   | (with_reducible refine head.a8 ?_)
   | ((with_reducible apply head.r8 hs); (· (with_reducible (repeat (first | exact .blk | exact .rng | apply Rng.tl)))); (repeat (· (with_reducible (first | assumption | exact z32 | exact u8s_len (by assumption))))))
   | (with_reducible refine head.c8 ?_)
   | ((with_reducible apply head.e8); (· first | exact hS | exact hid); (· (with_reducible (repeat (first | exact .blk | exact .rng | apply Rng.tl)))); (repeat (· (with_reducible (first | assumption | exact z32 | exact u8s_len (by assumption))))))
   | (with_reducible refine blok.a0 ?_)
   | ((with_reducible apply blok.r0 hs); (· (with_reducible (repeat (first | exact .blk | exact .rng | apply Rng.tl)))); (· (with_reducible (first | assumption | exact z32 | exact u8s_len (by assumption)))))
   | (with_reducible refine blok.c0 ?_)
   | ((with_reducible apply blok.e0); (· first | exact hS | exact hid); (· (with_reducible (repeat (first | exact .blk | exact .rng | apply Rng.tl)))); (· (with_reducible (first | assumption | exact z32 | exact u8s_len (by assumption)))))
   | (with_reducible refine blok.a1 ?_)
   | ((with_reducible apply blok.r1 hs); (· (with_reducible (repeat (first | exact .blk | exact .rng | apply Rng.tl)))); (· (with_reducible (first | assumption | exact z32 | exact u8s_len (by assumption)))))
   | (with_reducible refine blok.c1 ?_)
   | ((with_reducible apply blok.e1); (· first | exact hS | exact hid); (· (with_reducible (repeat (first | exact .blk | exact .rng | apply Rng.tl)))); (· (with_reducible (first | assumption | exact z32 | exact u8s_len (by assumption)))))
   | (with_reducible refine blok.a2 ?_)
   | ((with_reducible apply blok.r2 hs); (· (with_reducible (repeat (first | exact .blk | exact .rng | apply Rng.tl)))); (repeat (· (with_reducible (first | assumption | exact z32 | exact u8s_len (by assumption))))))
   | (with_reducible refine blok.c2 ?_)
   | ((with_reducible apply blok.e2); (· first | exact hS | exact hid); (· (with_reducible (repeat (first | exact .blk | exact .rng | apply Rng.tl)))); (repeat (· (with_reducible (first | assumption | exact z32 | exact u8s_len (by assumption))))))
   | (with_reducible (first | refine st_lens ?_ | refine st_eqls ?_ | refine st_nels ?_ | refine tk_eqls ?_ | refine tk_nels ?_ | refine mv.mk ?_ | refine nk_p ?_ | refine gdT_i ?_ | refine gdT_ft ?_ | refine gdT_tf ?_ | refine gdT_u ?_ | refine gd_u ?_ | refine gd_ft ?_ | refine gd_tf ?_ | refine gd_i ?_ | refine pk_t ?_ | refine pk_f ?_ | refine br_t ?_ | refine br_f ?_ | refine sp_boxa hs fun g w hs => ?_))
   | (with_reducible ((first | apply st_bin | apply st_ext | apply st_len | apply st_un | apply st_conv | apply st_mki | apply st_fld | apply st_cap | apply st_max | apply st_min | apply st_ixv | apply st_mkf); intro k' hk; simp [go_sem, thenR_ok, bin]; refine hk _ _ ?_; clear hk k'))
   | ((with_reducible (first | apply tk_bin | apply tk_ext | apply tk_len | apply tk_un)); (· intro w; simp [go_sem, bin]; rfl))
   | ((with_reducible apply sp_newr hs); (· kernel_rfl); intro g w hs))
  by_cases q4 : x.header.time ≤ 1099511627776
  rotate_left
  · rw [decide_eq_true (show 1099511627776 < x.header.time by omega)]
    repeat (first
     | (with_reducible (first | refine st_lens ?_ | refine st_eqls ?_ | refine st_nels ?_ | refine tk_eqls ?_ | refine tk_nels ?_ | refine mv.mk ?_ | refine nk_p ?_ | refine gdT_i ?_ | refine gdT_ft ?_ | refine gdT_tf ?_ | refine gdT_u ?_ | refine gd_u ?_ | refine gd_ft ?_ | refine gd_tf ?_ | refine gd_i ?_ | refine pk_t ?_ | refine pk_f ?_ | refine br_t ?_ | refine br_f ?_ | refine sp_boxa hs fun g w hs => ?_))
     | (with_reducible ((first | apply st_bin | apply st_ext | apply st_len | apply st_un | apply st_conv | apply st_mki | apply st_fld | apply st_cap | apply st_max | apply st_min | apply st_ixv | apply st_mkf); intro k' hk; simp [go_sem, thenR_ok, bin]; refine hk _ _ ?_; clear hk k'))
     | ((with_reducible (first | apply tk_bin | apply tk_ext | apply tk_len | apply tk_un)); (· intro w; simp [go_sem, bin]; rfl))
     | ((with_reducible apply sp_newr hs); (· kernel_rfl); intro g w hs))
    refine ⟨hs.mayr .all, ?_⟩
    repeat (first
     | (with_reducible (first | refine st_lens ?_ | refine st_eqls ?_ | refine st_nels ?_ | refine tk_eqls ?_ | refine tk_nels ?_ | refine mv.mk ?_ | refine nk_p ?_ | refine gdT_i ?_ | refine gdT_ft ?_ | refine gdT_tf ?_ | refine gdT_u ?_ | refine gd_u ?_ | refine gd_ft ?_ | refine gd_tf ?_ | refine gd_i ?_ | refine pk_t ?_ | refine pk_f ?_ | refine br_t ?_ | refine br_f ?_ | refine sp_boxa hs fun g w hs => ?_))
     | (with_reducible ((first | apply st_bin | apply st_ext | apply st_len | apply st_un | apply st_conv | apply st_mki | apply st_fld | apply st_cap | apply st_max | apply st_min | apply st_ixv | apply st_mkf); intro k' hk; simp [go_sem, thenR_ok, bin]; refine hk _ _ ?_; clear hk k'))
     | ((with_reducible (first | apply tk_bin | apply tk_ext | apply tk_len | apply tk_un)); (· intro w; simp [go_sem, bin]; rfl))
     | ((with_reducible apply sp_newr hs); (· kernel_rfl); intro g w hs))
    have := hK _ (hs.sbl (.drop (.drop (.drop (.drop (.drop (.drop (.drop (.drop (.drop .all))))))))))
    rw [show checkBlock x = 34 by simp [checkBlock, okT, okA, q0, q1, q2, q3, q4]] at this
    exact this
  rw [decide_eq_false (show ¬ 1099511627776 < x.header.time by omega)]
  repeat (first
   | (with_reducible refine head.a0 ?_)
   | ((with_reducible apply head.r0 hs); (· (with_reducible (repeat (first | exact .blk | exact .rng | apply Rng.tl)))))
   | (with_reducible refine head.c0 ?_)
   | ((with_reducible apply head.e0); (· first | exact hS | exact hid); (· (with_reducible (repeat (first | exact .blk | exact .rng | apply Rng.tl)))))
   | (with_reducible refine head.a1 ?_)
   | ((with_reducible apply head.r1 hs); (· (with_reducible (repeat (first | exact .blk | exact .rng | apply Rng.tl)))))
   | (with_reducible refine head.c1 ?_)
   | ((with_reducible apply head.e1); (· first | exact hS | exact hid); (· (with_reducible (repeat (first | exact .blk | exact .rng | apply Rng.tl)))))
   | (with_reducible refine head.a2 ?_)
   | ((with_reducible apply head.r2 hs); (· (with_reducible (repeat (first | exact .blk | exact .rng | apply Rng.tl)))))
   | (with_reducible refine head.c2 ?_)
   | ((with_reducible apply head.e2); (· first | exact hS | exact hid); (· (with_reducible (repeat (first | exact .blk | exact .rng | apply Rng.tl)))))
   | (with_reducible refine head.a3 ?_)
   | ((with_reducible apply head.r3 hs); (· (with_reducible (repeat (first | exact .blk | exact .rng | apply Rng.tl)))); (· (with_reducible (first | assumption | exact z32 | exact u8s_len (by assumption)))))
   | (with_reducible refine head.c3 ?_)
   | ((with_reducible apply head.e3); (· first | exact hS | exact hid); (· (with_reducible (repeat (first | exact .blk | exact .rng | apply Rng.tl)))); (· (with_reducible (first | assumption | exact z32 | exact u8s_len (by assumption)))))
   | (with_reducible refine head.a4 ?_)
   | ((with_reducible apply head.r4 hs); (· (with_reducible (repeat (first | exact .blk | exact .rng | apply Rng.tl)))); (repeat (· (with_reducible (first | assumption | exact z32 | exact u8s_len (by assumption))))))
   | (with_reducible refine head.c4 ?_)
   | ((with_reducible apply head.e4); (· first | exact hS | exact hid); (· (with_reducible (repeat (first | exact .blk | exact .rng | apply Rng.tl)))); (repeat (· (with_reducible (first | assumption | exact z32 | exact u8s_len (by assumption))))))
   | (with_reducible refine head.a5 ?_)
   | ((with_reducible apply head.r5 hs); (· (with_reducible (repeat (first | exact .blk | exact .rng | apply Rng.tl)))); (repeat (· (with_reducible (first | assumption | exact z32 | exact u8s_len (by assumption))))))
   | (with_reducible refine head.c5 ?_)
   | ((with_reducible apply head.e5); (· first | exact hS | exact hid); (· (with_reducible (repeat (first | exact .blk | exact .rng | apply Rng.tl)))); (repeat (· (with_reducible (first | assumption | exact z32 | exact u8s_len (by assumption))))))
   | (with_reducible refine head.a6 ?_)
   | ((with_reducible apply head.r6 hs); (· (with_reducible (repeat (first | exact .blk | exact .rng | apply Rng.tl)))); (repeat (· (with_reducible (first | assumption | exact z32 | exact u8s_len (by assumption))))))
   | (with_reducible refine head.c6 ?_)
   | ((with_reducible apply head.e6); (· first | exact hS | exact hid); (· (with_reducible (repeat (first | exact .blk | exact .rng | apply Rng.tl)))); (repeat (· (with_reducible (first | assumption | exact z32 | exact u8s_len (by assumption))))))
   | (with_reducible refine head.a7 ?_)
   | ((with_reducible apply head.r7 hs); (· (with_reducible (repeat (first | exact .blk | exact .rng | apply Rng.tl)))); (repeat (· (with_reducible (first | assumption | exact z32 | exact u8s_len (by assumption))))))
   | (with_reducible refine head.c7 ?_)
   | ((with_reducible apply head.e7); (· first | exact hS | exact hid); (· (with_reducible (repeat (first | exact .blk | exact .rng | apply Rng.tl)))); (repeat (· (with_reducible (first | assumption | exact z32 | exact u8s_len (by assumption))))))
   | (with_reducible refine head.a8 ?_)
   | ((with_reducible apply head.r8 hs); (· (with_reducible (repeat (first | exact .blk | exact .rng | apply Rng.tl)))); (repeat (· (with_reducible (first | assumption | exact z32 | exact u8s_len (by assumption))))))
   | (with_reducible refine head.c8 ?_)
   | ((with_reducible apply head.e8); (· first | exact hS | exact hid); (· (with_reducible (repeat (first | exact .blk | exact .rng | apply Rng.tl)))); (repeat (· (with_reducible (first | assumption | exact z32 | exact u8s_len (by assumption))))))
   | (with_reducible refine blok.a0 ?_)
   | ((with_reducible apply blok.r0 hs); (· (with_reducible (repeat (first | exact .blk | exact .rng | apply Rng.tl)))); (· (with_reducible (first | assumption | exact z32 | exact u8s_len (by assumption)))))
   | (with_reducible refine blok.c0 ?_)
   | ((with_reducible apply blok.e0); (· first | exact hS | exact hid); (· (with_reducible (repeat (first | exact .blk | exact .rng | apply Rng.tl)))); (· (with_reducible (first | assumption | exact z32 | exact u8s_len (by assumption)))))
   | (with_reducible refine blok.a1 ?_)
   | ((with_reducible apply blok.r1 hs); (· (with_reducible (repeat (first | exact .blk | exact .rng | apply Rng.tl)))); (· (with_reducible (first | assumption | exact z32 | exact u8s_len (by assumption)))))
   | (with_reducible refine blok.c1 ?_)
   | ((with_reducible apply blok.e1); (· first | exact hS | exact hid); (· (with_reducible (repeat (first | exact .blk | exact .rng | apply Rng.tl)))); (· (with_reducible (first | assumption | exact z32 | exact u8s_len (by assumption)))))
   | (with_reducible refine blok.a2 ?_)
   | ((with_reducible apply blok.r2 hs); (· (with_reducible (repeat (first | exact .blk | exact .rng | apply Rng.tl)))); (repeat (· (with_reducible (first | assumption | exact z32 | exact u8s_len (by assumption))))))
   | (with_reducible refine blok.c2 ?_)
   | ((with_reducible apply blok.e2); (· first | exact hS | exact hid); (· (with_reducible (repeat (first | exact .blk | exact .rng | apply Rng.tl)))); (repeat (· (with_reducible (first | assumption | exact z32 | exact u8s_len (by assumption))))))
   | (with_reducible (first | refine st_lens ?_ | refine st_eqls ?_ | refine st_nels ?_ | refine tk_eqls ?_ | refine tk_nels ?_ | refine mv.mk ?_ | refine nk_p ?_ | refine gdT_i ?_ | refine gdT_ft ?_ | refine gdT_tf ?_ | refine gdT_u ?_ | refine gd_u ?_ | refine gd_ft ?_ | refine gd_tf ?_ | refine gd_i ?_ | refine pk_t ?_ | refine pk_f ?_ | refine br_t ?_ | refine br_f ?_ | refine sp_boxa hs fun g w hs => ?_))
   | (with_reducible ((first | apply st_bin | apply st_ext | apply st_len | apply st_un | apply st_conv | apply st_mki | apply st_fld | apply st_cap | apply st_max | apply st_min | apply st_ixv | apply st_mkf); intro k' hk; simp [go_sem, thenR_ok, bin]; refine hk _ _ ?_; clear hk k'))
   | ((with_reducible (first | apply tk_bin | apply tk_ext | apply tk_len | apply tk_un)); (· intro w; simp [go_sem, bin]; rfl))
   | ((with_reducible apply sp_newr hs); (· kernel_rfl); intro g w hs))
  by_cases q5 : 0 ≤ x.header.proposer
  rotate_left
  · rw [decide_eq_true (show x.header.proposer < 0 by omega)]
    repeat (first
     | (with_reducible (first | refine st_lens ?_ | refine st_eqls ?_ | refine st_nels ?_ | refine tk_eqls ?_ | refine tk_nels ?_ | refine mv.mk ?_ | refine nk_p ?_ | refine gdT_i ?_ | refine gdT_ft ?_ | refine gdT_tf ?_ | refine gdT_u ?_ | refine gd_u ?_ | refine gd_ft ?_ | refine gd_tf ?_ | refine gd_i ?_ | refine pk_t ?_ | refine pk_f ?_ | refine br_t ?_ | refine br_f ?_ | refine sp_boxa hs fun g w hs => ?_))
     | (with_reducible ((first | apply st_bin | apply st_ext | apply st_len | apply st_un | apply st_conv | apply st_mki | apply st_fld | apply st_cap | apply st_max | apply st_min | apply st_ixv | apply st_mkf); intro k' hk; simp [go_sem, thenR_ok, bin]; refine hk _ _ ?_; clear hk k'))
     | ((with_reducible (first | apply tk_bin | apply tk_ext | apply tk_len | apply tk_un)); (· intro w; simp [go_sem, bin]; rfl))
     | ((with_reducible apply sp_newr hs); (· kernel_rfl); intro g w hs))
    refine ⟨hs.mayr .all, ?_⟩
    repeat (first
     | (with_reducible (first | refine st_lens ?_ | refine st_eqls ?_ | refine st_nels ?_ | refine tk_eqls ?_ | refine tk_nels ?_ | refine mv.mk ?_ | refine nk_p ?_ | refine gdT_i ?_ | refine gdT_ft ?_ | refine gdT_tf ?_ | refine gdT_u ?_ | refine gd_u ?_ | refine gd_ft ?_ | refine gd_tf ?_ | refine gd_i ?_ | refine pk_t ?_ | refine pk_f ?_ | refine br_t ?_ | refine br_f ?_ | refine sp_boxa hs fun g w hs => ?_))
     | (with_reducible ((first | apply st_bin | apply st_ext | apply st_len | apply st_un | apply st_conv | apply st_mki | apply st_fld | apply st_cap | apply st_max | apply st_min | apply st_ixv | apply st_mkf); intro k' hk; simp [go_sem, thenR_ok, bin]; refine hk _ _ ?_; clear hk k'))
     | ((with_reducible (first | apply tk_bin | apply tk_ext | apply tk_len | apply tk_un)); (· intro w; simp [go_sem, bin]; rfl))
     | ((with_reducible apply sp_newr hs); (· kernel_rfl); intro g w hs))
    have := hK _ (hs.sbl (.drop (.drop (.drop (.drop (.drop (.drop (.drop (.drop (.drop .all))))))))))
    rw [show checkBlock x = 34 by simp [checkBlock, okT, okA, q0, q1, q2, q3, q4, q5]] at this
    exact this
  rw [decide_eq_false (show ¬ x.header.proposer < 0 by omega)]
  repeat (first
   | (with_reducible refine head.a0 ?_)
   | ((with_reducible apply head.r0 hs); (· (with_reducible (repeat (first | exact .blk | exact .rng | apply Rng.tl)))))
   | (with_reducible refine head.c0 ?_)
   | ((with_reducible apply head.e0); (· first | exact hS | exact hid); (· (with_reducible (repeat (first | exact .blk | exact .rng | apply Rng.tl)))))
   | (with_reducible refine head.a1 ?_)
   | ((with_reducible apply head.r1 hs); (· (with_reducible (repeat (first | exact .blk | exact .rng | apply Rng.tl)))))
   | (with_reducible refine head.c1 ?_)
   | ((with_reducible apply head.e1); (· first | exact hS | exact hid); (· (with_reducible (repeat (first | exact .blk | exact .rng | apply Rng.tl)))))
   | (with_reducible refine head.a2 ?_)
   | ((with_reducible apply head.r2 hs); (· (with_reducible (repeat (first | exact .blk | exact .rng | apply Rng.tl)))))
   | (with_reducible refine head.c2 ?_)
   | ((with_reducible apply head.e2); (· first | exact hS | exact hid); (· (with_reducible (repeat (first | exact .blk | exact .rng | apply Rng.tl)))))
   | (with_reducible refine head.a3 ?_)
   | ((with_reducible apply head.r3 hs); (· (with_reducible (repeat (first | exact .blk | exact .rng | apply Rng.tl)))); (· (with_reducible (first | assumption | exact z32 | exact u8s_len (by assumption)))))
   | (with_reducible refine head.c3 ?_)
   | ((with_reducible apply head.e3); (· first | exact hS | exact hid); (· (with_reducible (repeat (first | exact .blk | exact .rng | apply Rng.tl)))); (· (with_reducible (first | assumption | exact z32 | exact u8s_len (by assumption)))))
   | (with_reducible refine head.a4 ?_)
   | ((with_reducible apply head.r4 hs); (· (with_reducible (repeat (first | exact .blk | exact .rng | apply Rng.tl)))); (repeat (· (with_reducible (first | assumption | exact z32 | exact u8s_len (by assumption))))))
   | (with_reducible refine head.c4 ?_)
   | ((with_reducible apply head.e4); (· first | exact hS | exact hid); (· (with_reducible (repeat (first | exact .blk | exact .rng | apply Rng.tl)))); (repeat (· (with_reducible (first | assumption | exact z32 | exact u8s_len (by assumption))))))
   | (with_reducible refine head.a5 ?_)
   | ((with_reducible apply head.r5 hs); (· (with_reducible (repeat (first | exact .blk | exact .rng | apply Rng.tl)))); (repeat (· (with_reducible (first | assumption | exact z32 | exact u8s_len (by assumption))))))
   | (with_reducible refine head.c5 ?_)
   | ((with_reducible apply head.e5); (· first | exact hS | exact hid); (· (with_reducible (repeat (first | exact .blk | exact .rng | apply Rng.tl)))); (repeat (· (with_reducible (first | assumption | exact z32 | exact u8s_len (by assumption))))))
   | (with_reducible refine head.a6 ?_)
   | ((with_reducible apply head.r6 hs); (· (with_reducible (repeat (first | exact .blk | exact .rng | apply Rng.tl)))); (repeat (· (with_reducible (first | assumption | exact z32 | exact u8s_len (by assumption))))))
   | (with_reducible refine head.c6 ?_)
   | ((with_reducible apply head.e6); (· first | exact hS | exact hid); (· (with_reducible (repeat (first | exact .blk | exact .rng | apply Rng.tl)))); (repeat (· (with_reducible (first | assumption | exact z32 | exact u8s_len (by assumption))))))
   | (with_reducible refine head.a7 ?_)
   | ((with_reducible apply head.r7 hs); (· (with_reducible (repeat (first | exact .blk | exact .rng | apply Rng.tl)))); (repeat (· (with_reducible (first | assumption | exact z32 | exact u8s_len (by assumption))))))
   | (with_reducible refine head.c7 ?_)
   | ((with_reducible apply head.e7); (· first | exact hS | exact hid); (· (with_reducible (repeat (first | exact .blk | exact .rng | apply Rng.tl)))); (repeat (· (with_reducible (first | assumption | exact z32 | exact u8s_len (by assumption))))))
   | (with_reducible refine head.a8 ?_)
   | ((with_reducible apply head.r8 hs); (· (with_reducible (repeat (first | exact .blk | exact .rng | apply Rng.tl)))); (repeat (· (with_reducible (first | assumption | exact z32 | exact u8s_len (by assumption))))))
   | (with_reducible refine head.c8 ?_)
   | ((with_reducible apply head.e8); (· first | exact hS | exact hid); (· (with_reducible (repeat (first | exact .blk | exact .rng | apply Rng.tl)))); (repeat (· (with_reducible (first | assumption | exact z32 | exact u8s_len (by assumption))))))
   | (with_reducible refine blok.a0 ?_)
   | ((with_reducible apply blok.r0 hs); (· (with_reducible (repeat (first | exact .blk | exact .rng | apply Rng.tl)))); (· (with_reducible (first | assumption | exact z32 | exact u8s_len (by assumption)))))
   | (with_reducible refine blok.c0 ?_)
   | ((with_reducible apply blok.e0); (· first | exact hS | exact hid); (· (with_reducible (repeat (first | exact .blk | exact .rng | apply Rng.tl)))); (· (with_reducible (first | assumption | exact z32 | exact u8s_len (by assumption)))))
   | (with_reducible refine blok.a1 ?_)
   | ((with_reducible apply blok.r1 hs); (· (with_reducible (repeat (first | exact .blk | exact .rng | apply Rng.tl)))); (· (with_reducible (first | assumption | exact z32 | exact u8s_len (by assumption)))))
   | (with_reducible refine blok.c1 ?_)
   | ((with_reducible apply blok.e1); (· first | exact hS | exact hid); (· (with_reducible (repeat (first | exact .blk | exact .rng | apply Rng.tl)))); (· (with_reducible (first | assumption | exact z32 | exact u8s_len (by assumption)))))
   | (with_reducible refine blok.a2 ?_)
   | ((with_reducible apply blok.r2 hs); (· (with_reducible (repeat (first | exact .blk | exact .rng | apply Rng.tl)))); (repeat (· (with_reducible (first | assumption | exact z32 | exact u8s_len (by assumption))))))
   | (with_reducible refine blok.c2 ?_)
   | ((with_reducible apply blok.e2); (· first | exact hS | exact hid); (· (with_reducible (repeat (first | exact .blk | exact .rng | apply Rng.tl)))); (repeat (· (with_reducible (first | assumption | exact z32 | exact u8s_len (by assumption))))))
   | (with_reducible (first | refine st_lens ?_ | refine st_eqls ?_ | refine st_nels ?_ | refine tk_eqls ?_ | refine tk_nels ?_ | refine mv.mk ?_ | refine nk_p ?_ | refine gdT_i ?_ | refine gdT_ft ?_ | refine gdT_tf ?_ | refine gdT_u ?_ | refine gd_u ?_ | refine gd_ft ?_ | refine gd_tf ?_ | refine gd_i ?_ | refine pk_t ?_ | refine pk_f ?_ | refine br_t ?_ | refine br_f ?_ | refine sp_boxa hs fun g w hs => ?_))
   | (with_reducible ((first | apply st_bin | apply st_ext | apply st_len | apply st_un | apply st_conv | apply st_mki | apply st_fld | apply st_cap | apply st_max | apply st_min | apply st_ixv | apply st_mkf); intro k' hk; simp [go_sem, thenR_ok, bin]; refine hk _ _ ?_; clear hk k'))
   | ((with_reducible (first | apply tk_bin | apply tk_ext | apply tk_len | apply tk_un)); (· intro w; simp [go_sem, bin]; rfl))
   | ((with_reducible apply sp_newr hs); (· kernel_rfl); intro g w hs))
  by_cases q6 : x.txs.length ≤ 64
  rotate_left
  · rw [show decide ((64 : Int) < (x.txs.length : Int)) = true by simp; omega]
    repeat (first
     | (with_reducible (first | refine st_lens ?_ | refine st_eqls ?_ | refine st_nels ?_ | refine tk_eqls ?_ | refine tk_nels ?_ | refine mv.mk ?_ | refine nk_p ?_ | refine gdT_i ?_ | refine gdT_ft ?_ | refine gdT_tf ?_ | refine gdT_u ?_ | refine gd_u ?_ | refine gd_ft ?_ | refine gd_tf ?_ | refine gd_i ?_ | refine pk_t ?_ | refine pk_f ?_ | refine br_t ?_ | refine br_f ?_ | refine sp_boxa hs fun g w hs => ?_))
     | (with_reducible ((first | apply st_bin | apply st_ext | apply st_len | apply st_un | apply st_conv | apply st_mki | apply st_fld | apply st_cap | apply st_max | apply st_min | apply st_ixv | apply st_mkf); intro k' hk; simp [go_sem, thenR_ok, bin]; refine hk _ _ ?_; clear hk k'))
     | ((with_reducible (first | apply tk_bin | apply tk_ext | apply tk_len | apply tk_un)); (· intro w; simp [go_sem, bin]; rfl))
     | ((with_reducible apply sp_newr hs); (· kernel_rfl); intro g w hs))
    refine ⟨hs.mayr .all, ?_⟩
    repeat (first
     | (with_reducible (first | refine st_lens ?_ | refine st_eqls ?_ | refine st_nels ?_ | refine tk_eqls ?_ | refine tk_nels ?_ | refine mv.mk ?_ | refine nk_p ?_ | refine gdT_i ?_ | refine gdT_ft ?_ | refine gdT_tf ?_ | refine gdT_u ?_ | refine gd_u ?_ | refine gd_ft ?_ | refine gd_tf ?_ | refine gd_i ?_ | refine pk_t ?_ | refine pk_f ?_ | refine br_t ?_ | refine br_f ?_ | refine sp_boxa hs fun g w hs => ?_))
     | (with_reducible ((first | apply st_bin | apply st_ext | apply st_len | apply st_un | apply st_conv | apply st_mki | apply st_fld | apply st_cap | apply st_max | apply st_min | apply st_ixv | apply st_mkf); intro k' hk; simp [go_sem, thenR_ok, bin]; refine hk _ _ ?_; clear hk k'))
     | ((with_reducible (first | apply tk_bin | apply tk_ext | apply tk_len | apply tk_un)); (· intro w; simp [go_sem, bin]; rfl))
     | ((with_reducible apply sp_newr hs); (· kernel_rfl); intro g w hs))
    have := hK _ (hs.sbl (.drop (.drop (.drop (.drop (.drop (.drop (.drop (.drop (.drop .all))))))))))
    rw [show checkBlock x = 34 by simp [checkBlock, okT, okA, q0, q1, q2, q3, q4, q5, q6]] at this
    exact this
  rw [show decide ((64 : Int) < (x.txs.length : Int)) = false by simp; omega]
  repeat (first
   | (with_reducible refine head.a0 ?_)
   | ((with_reducible apply head.r0 hs); (· (with_reducible (repeat (first | exact .blk | exact .rng | apply Rng.tl)))))
   | (with_reducible refine head.c0 ?_)
   | ((with_reducible apply head.e0); (· first | exact hS | exact hid); (· (with_reducible (repeat (first | exact .blk | exact .rng | apply Rng.tl)))))
   | (with_reducible refine head.a1 ?_)
   | ((with_reducible apply head.r1 hs); (· (with_reducible (repeat (first | exact .blk | exact .rng | apply Rng.tl)))))
   | (with_reducible refine head.c1 ?_)
   | ((with_reducible apply head.e1); (· first | exact hS | exact hid); (· (with_reducible (repeat (first | exact .blk | exact .rng | apply Rng.tl)))))
   | (with_reducible refine head.a2 ?_)
   | ((with_reducible apply head.r2 hs); (· (with_reducible (repeat (first | exact .blk | exact .rng | apply Rng.tl)))))
   | (with_reducible refine head.c2 ?_)
   | ((with_reducible apply head.e2); (· first | exact hS | exact hid); (· (with_reducible (repeat (first | exact .blk | exact .rng | apply Rng.tl)))))
   | (with_reducible refine head.a3 ?_)
   | ((with_reducible apply head.r3 hs); (· (with_reducible (repeat (first | exact .blk | exact .rng | apply Rng.tl)))); (· (with_reducible (first | assumption | exact z32 | exact u8s_len (by assumption)))))
   | (with_reducible refine head.c3 ?_)
   | ((with_reducible apply head.e3); (· first | exact hS | exact hid); (· (with_reducible (repeat (first | exact .blk | exact .rng | apply Rng.tl)))); (· (with_reducible (first | assumption | exact z32 | exact u8s_len (by assumption)))))
   | (with_reducible refine head.a4 ?_)
   | ((with_reducible apply head.r4 hs); (· (with_reducible (repeat (first | exact .blk | exact .rng | apply Rng.tl)))); (repeat (· (with_reducible (first | assumption | exact z32 | exact u8s_len (by assumption))))))
   | (with_reducible refine head.c4 ?_)
   | ((with_reducible apply head.e4); (· first | exact hS | exact hid); (· (with_reducible (repeat (first | exact .blk | exact .rng | apply Rng.tl)))); (repeat (· (with_reducible (first | assumption | exact z32 | exact u8s_len (by assumption))))))
   | (with_reducible refine head.a5 ?_)
   | ((with_reducible apply head.r5 hs); (· (with_reducible (repeat (first | exact .blk | exact .rng | apply Rng.tl)))); (repeat (· (with_reducible (first | assumption | exact z32 | exact u8s_len (by assumption))))))
   | (with_reducible refine head.c5 ?_)
   | ((with_reducible apply head.e5); (· first | exact hS | exact hid); (· (with_reducible (repeat (first | exact .blk | exact .rng | apply Rng.tl)))); (repeat (· (with_reducible (first | assumption | exact z32 | exact u8s_len (by assumption))))))
   | (with_reducible refine head.a6 ?_)
   | ((with_reducible apply head.r6 hs); (· (with_reducible (repeat (first | exact .blk | exact .rng | apply Rng.tl)))); (repeat (· (with_reducible (first | assumption | exact z32 | exact u8s_len (by assumption))))))
   | (with_reducible refine head.c6 ?_)
   | ((with_reducible apply head.e6); (· first | exact hS | exact hid); (· (with_reducible (repeat (first | exact .blk | exact .rng | apply Rng.tl)))); (repeat (· (with_reducible (first | assumption | exact z32 | exact u8s_len (by assumption))))))
   | (with_reducible refine head.a7 ?_)
   | ((with_reducible apply head.r7 hs); (· (with_reducible (repeat (first | exact .blk | exact .rng | apply Rng.tl)))); (repeat (· (with_reducible (first | assumption | exact z32 | exact u8s_len (by assumption))))))
   | (with_reducible refine head.c7 ?_)
   | ((with_reducible apply head.e7); (· first | exact hS | exact hid); (· (with_reducible (repeat (first | exact .blk | exact .rng | apply Rng.tl)))); (repeat (· (with_reducible (first | assumption | exact z32 | exact u8s_len (by assumption))))))
   | (with_reducible refine head.a8 ?_)
   | ((with_reducible apply head.r8 hs); (· (with_reducible (repeat (first | exact .blk | exact .rng | apply Rng.tl)))); (repeat (· (with_reducible (first | assumption | exact z32 | exact u8s_len (by assumption))))))
   | (with_reducible refine head.c8 ?_)
   | ((with_reducible apply head.e8); (· first | exact hS | exact hid); (· (with_reducible (repeat (first | exact .blk | exact .rng | apply Rng.tl)))); (repeat (· (with_reducible (first | assumption | exact z32 | exact u8s_len (by assumption))))))
   | (with_reducible refine blok.a0 ?_)
   | ((with_reducible apply blok.r0 hs); (· (with_reducible (repeat (first | exact .blk | exact .rng | apply Rng.tl)))); (· (with_reducible (first | assumption | exact z32 | exact u8s_len (by assumption)))))
   | (with_reducible refine blok.c0 ?_)
   | ((with_reducible apply blok.e0); (· first | exact hS | exact hid); (· (with_reducible (repeat (first | exact .blk | exact .rng | apply Rng.tl)))); (· (with_reducible (first | assumption | exact z32 | exact u8s_len (by assumption)))))
   | (with_reducible refine blok.a1 ?_)
   | ((with_reducible apply blok.r1 hs); (· (with_reducible (repeat (first | exact .blk | exact .rng | apply Rng.tl)))); (· (with_reducible (first | assumption | exact z32 | exact u8s_len (by assumption)))))
   | (with_reducible refine blok.c1 ?_)
   | ((with_reducible apply blok.e1); (· first | exact hS | exact hid); (· (with_reducible (repeat (first | exact .blk | exact .rng | apply Rng.tl)))); (· (with_reducible (first | assumption | exact z32 | exact u8s_len (by assumption)))))
   | (with_reducible refine blok.a2 ?_)
   | ((with_reducible apply blok.r2 hs); (· (with_reducible (repeat (first | exact .blk | exact .rng | apply Rng.tl)))); (repeat (· (with_reducible (first | assumption | exact z32 | exact u8s_len (by assumption))))))
   | (with_reducible refine blok.c2 ?_)
   | ((with_reducible apply blok.e2); (· first | exact hS | exact hid); (· (with_reducible (repeat (first | exact .blk | exact .rng | apply Rng.tl)))); (repeat (· (with_reducible (first | assumption | exact z32 | exact u8s_len (by assumption))))))
   | (with_reducible (first | refine st_lens ?_ | refine st_eqls ?_ | refine st_nels ?_ | refine tk_eqls ?_ | refine tk_nels ?_ | refine mv.mk ?_ | refine nk_p ?_ | refine gdT_i ?_ | refine gdT_ft ?_ | refine gdT_tf ?_ | refine gdT_u ?_ | refine gd_u ?_ | refine gd_ft ?_ | refine gd_tf ?_ | refine gd_i ?_ | refine pk_t ?_ | refine pk_f ?_ | refine br_t ?_ | refine br_f ?_ | refine sp_boxa hs fun g w hs => ?_))
   | (with_reducible ((first | apply st_bin | apply st_ext | apply st_len | apply st_un | apply st_conv | apply st_mki | apply st_fld | apply st_cap | apply st_max | apply st_min | apply st_ixv | apply st_mkf); intro k' hk; simp [go_sem, thenR_ok, bin]; refine hk _ _ ?_; clear hk k'))
   | ((with_reducible (first | apply tk_bin | apply tk_ext | apply tk_len | apply tk_un)); (· intro w; simp [go_sem, bin]; rfl))
   | ((with_reducible apply sp_newr hs); (· kernel_rfl); intro g w hs))
  refine cl (isthmusref11_TxsHash hs (l := x.txs) (by repeat (first | with_reducible exact Ins.hd | with_reducible apply Ins.tl)) hn hnm) ?_
  rintro _ w ⟨rfl, hs⟩
  refine ⟨hs.mayr .all, ?_⟩
  refine gdT_i ?_
  refine tk_run (hash_ne hh.txs (txsHashB_len _) _ _) ?_
  by_cases q7 : x.header.txs = txsHashB x.txs
  rotate_left
  · rw [show (!decide (x.header.txs = txsHashB x.txs)) = true by simpa using q7]
    repeat (first
     | (with_reducible (first | refine st_lens ?_ | refine st_eqls ?_ | refine st_nels ?_ | refine tk_eqls ?_ | refine tk_nels ?_ | refine mv.mk ?_ | refine nk_p ?_ | refine gdT_i ?_ | refine gdT_ft ?_ | refine gdT_tf ?_ | refine gdT_u ?_ | refine gd_u ?_ | refine gd_ft ?_ | refine gd_tf ?_ | refine gd_i ?_ | refine pk_t ?_ | refine pk_f ?_ | refine br_t ?_ | refine br_f ?_ | refine sp_boxa hs fun g w hs => ?_))
     | (with_reducible ((first | apply st_bin | apply st_ext | apply st_len | apply st_un | apply st_conv | apply st_mki | apply st_fld | apply st_cap | apply st_max | apply st_min | apply st_ixv | apply st_mkf); intro k' hk; simp [go_sem, thenR_ok, bin]; refine hk _ _ ?_; clear hk k'))
     | ((with_reducible (first | apply tk_bin | apply tk_ext | apply tk_len | apply tk_un)); (· intro w; simp [go_sem, bin]; rfl))
     | ((with_reducible apply sp_newr hs); (· kernel_rfl); intro g w hs))
    have := hK _ (hs.sbl (.drop (.drop (.drop (.drop (.drop (.drop (.drop (.drop (.drop .all))))))))))
    rw [show checkBlock x = 34 by simp [checkBlock, okT, q7]] at this
    exact this
  rw [show (!decide (x.header.txs = txsHashB x.txs)) = false by simpa using q7]
  refine pk_f ?_
  refine br_f ?_
  repeat with_reducible refine mv.mk ?_
  exact hB _ (by simp [okA, q0, q1, q2, q3, q4, q5]) q6 q7 hs
theorem isthmusref11_CheckBlock {x : Block} (hs : Isk.Sep b w L) (hm : Ins L (blokF cs x).it) (hn : x.txs.length ≤ 1073741824) (hnm : ∀ t ∈ x.txs, t.length ≤ 1073741824) (hch : x.header.chain.length ≤ 4611686018427387904) :
    C Tryz.prog N.isthmusref11_CheckBlock #[.agg cs.toArray] w fun r w' => r = .int .i64 (checkBlock x) ∧ Isk.Sep b w' L := by
  refine C.isthmusref11_CheckBlock ?_
  unfold F.isthmusref11_CheckBlock
  refine blok_box hs hm fun g1 w A1 k1 A2 k2 hcs hh hc hs => ?_
  have e1 := u8s_len hh.last; have e2 := u8s_len hh.app; have e3 := u8s_len hh.txs; have e4 := u8s_len hh.validators; have e5 := u8s_len hh.next
  have hcl : (hcC x.header).length = 164 := headC_len e1 e2 e3 e4 e5
  have hcl2 : (ccC x.last A2 k2).length = 35 := commC_len (u8s_len hc.block)
  have hho : ∀ u ∈ hcC x.header, u.oneCell' = true := headC_one rfl rfl rfl (u8s_one _) (u8s_one _) (u8s_one _) (u8s_one _) (u8s_one _) rfl
  have hco : ∀ u ∈ ccC x.last A2 k2, u.oneCell' = true := commC_one rfl rfl (u8s_one _) rfl
  repeat with_reducible refine mv.mk ?_
  replace hs := hs.drew
  refine dr_can hs .all ?_
  repeat (first
   | (with_reducible refine blok.a0 ?_)
   | ((with_reducible apply blok.r0 hs); (· (with_reducible (repeat (first | exact .blk | exact .rng | apply Rng.tl)))); (· (with_reducible (first | assumption | exact z32 | exact u8s_len (by assumption)))))
   | (with_reducible refine blok.c0 ?_)
   | ((with_reducible apply blok.e0); (· first | exact hS | exact hid); (· (with_reducible (repeat (first | exact .blk | exact .rng | apply Rng.tl)))); (· (with_reducible (first | assumption | exact z32 | exact u8s_len (by assumption)))))
   | (with_reducible refine blok.a1 ?_)
   | ((with_reducible apply blok.r1 hs); (· (with_reducible (repeat (first | exact .blk | exact .rng | apply Rng.tl)))); (· (with_reducible (first | assumption | exact z32 | exact u8s_len (by assumption)))))
   | (with_reducible refine blok.c1 ?_)
   | ((with_reducible apply blok.e1); (· first | exact hS | exact hid); (· (with_reducible (repeat (first | exact .blk | exact .rng | apply Rng.tl)))); (· (with_reducible (first | assumption | exact z32 | exact u8s_len (by assumption)))))
   | (with_reducible refine blok.a2 ?_)
   | ((with_reducible apply blok.r2 hs); (· (with_reducible (repeat (first | exact .blk | exact .rng | apply Rng.tl)))); (repeat (· (with_reducible (first | assumption | exact z32 | exact u8s_len (by assumption))))))
   | (with_reducible refine blok.c2 ?_)
   | ((with_reducible apply blok.e2); (· first | exact hS | exact hid); (· (with_reducible (repeat (first | exact .blk | exact .rng | apply Rng.tl)))); (repeat (· (with_reducible (first | assumption | exact z32 | exact u8s_len (by assumption))))))
   | (with_reducible (first | refine st_lens ?_ | refine st_eqls ?_ | refine st_nels ?_ | refine tk_eqls ?_ | refine tk_nels ?_ | refine mv.mk ?_ | refine nk_p ?_ | refine gdT_i ?_ | refine gdT_ft ?_ | refine gdT_tf ?_ | refine gdT_u ?_ | refine gd_u ?_ | refine gd_ft ?_ | refine gd_tf ?_ | refine gd_i ?_ | refine pk_t ?_ | refine pk_f ?_ | refine br_t ?_ | refine br_f ?_ | refine sp_boxa hs fun g w hs => ?_))
   | (with_reducible ((first | apply st_bin | apply st_ext | apply st_len | apply st_un | apply st_conv | apply st_mki | apply st_fld | apply st_cap | apply st_max | apply st_min | apply st_ixv | apply st_mkf); intro k' hk; simp [go_sem, thenR_ok, bin]; refine hk _ _ ?_; clear hk k'))
   | ((with_reducible (first | apply tk_bin | apply tk_ext | apply tk_len | apply tk_un)); (· intro w; simp [go_sem, bin]; rfl))
   | ((with_reducible apply sp_newr hs); (· kernel_rfl); intro g w hs))
  constructor
  · refine sp_newr hs (by kernel_rfl) fun g3 w hs => ?_
    refine ⟨hs.mayr (.drop .all), ?_⟩
    refine sp_newr hs (by kernel_rfl) fun g4 w hs => ?_
    refine ⟨hs.mayr (.drop (.drop .all)), ?_⟩
    refine sp_setr hs (.tl .hd) (by kernel_rfl) hcl hho fun w hs => ?_
    refine ⟨hs.mayr (.drop (.drop .all)), ?_⟩
    refine sp_setr hs (.tl .hd) (by kernel_rfl) hcl2 hco fun w hs => ?_
    exact cbR_A (L := L) hh hc (fun w hs => ⟨rfl, hs⟩) hn hnm hch hs
  · refine sp_newr hs (by kernel_rfl) fun g4 w hs => ?_
    refine ⟨hs.mayr (.drop .all), ?_⟩
    refine sp_newr hs (by kernel_rfl) fun g3 w hs => ?_
    refine ⟨hs.mayr (.drop (.drop .all)), ?_⟩
    refine sp_setr hs .hd (by kernel_rfl) hcl hho fun w hs => ?_
    refine ⟨hs.mayr (.drop (.drop .all)), ?_⟩
    refine sp_setr hs (.tl .hd) (by kernel_rfl) hcl2 hco fun w hs => ?_
    exact cbR_A (L := L) hh hc (fun w hs => ⟨rfl, hs⟩) hn hnm hch hs
end
end Go.Proofs.YtlfelmikcdmkhaaGreatDoor
