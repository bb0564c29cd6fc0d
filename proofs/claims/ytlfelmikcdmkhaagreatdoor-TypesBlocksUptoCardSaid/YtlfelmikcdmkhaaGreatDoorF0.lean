/- What each function asks: printed by hoas.py off the loaded program; each is held against the program by the kernel. -/
import Derived.Test.YtlfelmikcdmkhaaGreatDoorN
set_option linter.unusedVariables false
set_option linter.unusedSimpArgs false
set_option linter.unusedSectionVars false
namespace Go.Proofs.YtlfelmikcdmkhaaGreatDoor
open Go Go.Isk
set_option maxRecDepth 100000
-- gosem.cut.init
-- isthmus/isthmuslaw11.TypesBlocks
def F.isthmuslaw11_TypesBlocks (k : Value → World → Prop) (a0 : Value) (w : World) : Prop :=
  o1 Tryz.prog (Instr.box 31 a0) w fun t1 w =>
  mv (.bool false) fun t2 =>
  o1 Tryz.prog (Instr.fieldAt 31 t1 0) w fun t4 w =>
  o1 Tryz.prog (Instr.loadAt 25 t4) w fun t5 w =>
  o1 Tryz.prog (Instr.alloc 25 true (.tuple #[])) w fun t3 w =>
  o0 Tryz.prog (Instr.storeAt 25 t3 t5) w fun _ w =>
  dr w.drew fun S1 =>
  tk Tryz.prog S1 (Instr.loadAt 31 t1) fun t6 =>
  tk Tryz.prog S1 (Instr.loadAt 31 t1) fun t9 =>
  C Tryz.prog N.types_CheckBlock #[t6] w.drew fun t7 w =>
  S1 w ∧
  C Tryz.prog N.isthmuslaw11_num #[t7] w fun t8 w =>
  S1 w ∧
  C Tryz.prog N.isthmusref11_CheckBlock #[t9] w fun t10 w =>
  S1 w ∧
  tk Tryz.prog S1 (bin .eql 3 (.tmp 8) (.tmp 10) t8 t10) fun t11 =>
  mv t11 fun t12 =>
  gdT t12 true (fun k1 => tk Tryz.prog S1 (Instr.fieldAt 31 t1 1) k1) fun t13 =>
  nS S1 w fun S2 =>
  gdT t12 true (fun k2 => tk Tryz.prog S2 (Instr.loadAt 26 t13) k2) fun t14 =>
  gdT t12 true (fun k3 => tk Tryz.prog S2 (Instr.fieldAt 31 t1 1) k3) fun t16 =>
  gdT t12 true (fun k4 => tk Tryz.prog S2 (Instr.loadAt 26 t16) k4) fun t17 =>
  gd t12 true (fun k5 => C Tryz.prog N.types_TxsHash #[t14] w k5) w fun t15 w =>
  S2 w ∧
  gd t12 true (fun k6 => C Tryz.prog N.isthmusref11_TxsHash #[t17] w k6) w fun t18 w =>
  S2 w ∧
  gdT t12 true (fun k7 => tk Tryz.prog S2 (bin .eql 23 (.tmp 15) (.tmp 18) t15 t18) k7) fun t19 =>
  pk t12 t19 (.bool false) fun t20 =>
  mv t20 fun t21 =>
  nS S2 w fun S3 =>
  gdT t21 true (fun k8 => tk Tryz.prog S3 (Instr.loadAt 25 t3) k8) fun t22 =>
  gdT t21 true (fun k9 => tk Tryz.prog S3 (Instr.loadAt 25 t3) k9) fun t24 =>
  gd t21 true (fun k10 => C Tryz.prog N.types_HeaderHash #[t22] w k10) w fun t23 w =>
  S3 w ∧
  gd t21 true (fun k11 => C Tryz.prog N.isthmusref11_HeaderHash #[t24] w k11) w fun t25 w =>
  S3 w ∧
  gdT t21 true (fun k12 => tk Tryz.prog S3 (bin .eql 23 (.tmp 23) (.tmp 25) t23 t25) k12) fun t26 =>
  pk t21 t26 (.bool false) fun t27 =>
  mv t27 fun t28 =>
  nS S3 w fun S4 =>
  gdT t28 true (fun k13 => tk Tryz.prog S4 (Instr.loadAt 31 t1) k13) fun t29 =>
  gdT t28 true (fun k14 => tk Tryz.prog S4 (Instr.loadAt 31 t1) k14) fun t32 =>
  gd t28 true (fun k15 => C Tryz.prog N.types_EncodeBlock #[t29] w k15) w fun t30 w =>
  S4 w ∧
  nS S4 w fun S5 =>
  gdT t28 true (fun k16 => tk Tryz.prog S5 (convert 39 9 t30) k16) fun t31 =>
  gd t28 true (fun k17 => C Tryz.prog N.isthmusref11_Block #[.slice none 0 0, t32] w k17) w fun t33 w =>
  S5 w ∧
  nS S5 w fun S6 =>
  gdT t28 true (fun k18 => tk Tryz.prog S6 (convert 39 9 t33) k18) fun t34 =>
  gdT t28 true (fun k19 => tk Tryz.prog S6 (bin .eql 9 (.tmp 31) (.tmp 34) t31 t34) k19) fun t35 =>
  pk t28 t35 (.bool false) fun t36 =>
  mv t36 fun t37 =>
  gdT t37 true (fun k20 => tk Tryz.prog S6 (Instr.loadAt 25 t3) k20) fun t38 =>
  gdT t37 true (fun k21 => tk Tryz.prog S6 (Instr.loadAt 25 t3) k21) fun t41 =>
  gd t37 true (fun k22 => C Tryz.prog N.types_EncodeHeader #[t38] w k22) w fun t39 w =>
  S6 w ∧
  nS S6 w fun S7 =>
  gdT t37 true (fun k23 => tk Tryz.prog S7 (convert 39 9 t39) k23) fun t40 =>
  gd t37 true (fun k24 => C Tryz.prog N.isthmusref11_Header #[.slice none 0 0, t41] w k24) w fun t42 w =>
  S7 w ∧
  nS S7 w fun S8 =>
  gdT t37 true (fun k25 => tk Tryz.prog S8 (convert 39 9 t42) k25) fun t43 =>
  gdT t37 true (fun k26 => tk Tryz.prog S8 (bin .eql 9 (.tmp 40) (.tmp 43) t40 t43) k26) fun t44 =>
  pk t37 t44 (.bool false) fun t45 =>
  mv t45 fun t46 =>
  gdT t46 true (fun k27 => tk Tryz.prog S8 (Instr.fieldAt 31 t1 2) k27) fun t47 =>
  gdT t46 true (fun k28 => tk Tryz.prog S8 (Instr.loadAt 29 t47) k28) fun t48 =>
  gdT t46 true (fun k29 => tk Tryz.prog S8 (Instr.fieldAt 31 t1 2) k29) fun t51 =>
  gdT t46 true (fun k30 => tk Tryz.prog S8 (Instr.loadAt 29 t51) k30) fun t52 =>
  gd t46 true (fun k31 => C Tryz.prog N.types_EncodeCommit #[t48] w k31) w fun t49 w =>
  S8 w ∧
  nS S8 w fun S9 =>
  gdT t46 true (fun k32 => tk Tryz.prog S9 (convert 39 9 t49) k32) fun t50 =>
  gd t46 true (fun k33 => C Tryz.prog N.isthmusref11_Commit #[.slice none 0 0, t52] w k33) w fun t53 w =>
  S9 w ∧
  nS S9 w fun S10 =>
  gdT t46 true (fun k34 => tk Tryz.prog S10 (convert 39 9 t53) k34) fun t54 =>
  gdT t46 true (fun k35 => tk Tryz.prog S10 (bin .eql 9 (.tmp 50) (.tmp 54) t50 t54) k35) fun t55 =>
  pk t46 t55 (.bool false) fun t56 =>
  mv t56 fun t57 =>
  gd t57 true (fun k36 => C Tryz.prog N.isthmuslaw11_sure #[] w k36) w fun t58 w =>
  S10 w ∧
  pk t57 t58 (.bool false) fun t59 =>
  mv t59 fun t2_1 =>
  k t2_1 w
theorem C.isthmuslaw11_TypesBlocks {k : Value → World → Prop} {a0 : Value} {w : World} (h : F.isthmuslaw11_TypesBlocks k a0 w) : C Tryz.prog N.isthmuslaw11_TypesBlocks #[a0] w k :=
  den_calls (H := { moves := [(2, (.take 0 (.take 3 (.force 1 (.force 2 (.force 4 (.take 5 (.take 6 (.take 7 (.renew (.take 8 (.take 10 (.take 11 (.force 9 (.force 12 (.take 13 (.take 14 (.take 15 (.renew (.take 16 (.take 18 (.force 17 (.force 19 (.take 20 (.take 21 (.take 22 (.renew (.take 23 (.take 26 (.force 24 (.renew (.take 25 (.force 27 (.renew (.take 28 (.take 29 (.take 30 (.take 31 (.take 32 (.take 35 (.force 33 (.renew (.take 34 (.force 36 (.renew (.take 37 (.take 38 (.take 39 (.take 40 (.take 41 (.take 42 (.take 45 (.take 46 (.force 43 (.renew (.take 44 (.force 47 (.renew (.take 48 (.take 49 (.take 50 (.take 51 (.force 52 (.take 53 (.take 54 .fin)))))))))))))))))))))))))))))))))))))))))))))))))))))))))))))))))], vars := [2] }) (args := [a0]) mixed Tryz.func3 (by kernel_rfl) (by kernel_rfl) (by kernel_rfl) h

-- isthmus/isthmuslaw11.TypesReads
-- isthmus/isthmuslaw11.TypesSets
-- isthmus/isthmuslaw11.TypesVotes
-- isthmus/isthmuslaw11.num
def F.isthmuslaw11_num (k : Value → World → Prop) (a0 : Value) (w : World) : Prop :=
  mv (.int .i64 0) fun t2 =>
  o1 Tryz.prog (Instr.alloc 93 true (.tuple #[])) w fun t3 w =>
  mv a0 fun t4 =>
  o1 Tryz.prog (bin .eql 34 (.tmp 4) (.const .nilIface) t4 .nilIface) w fun t5 w =>
  br t5 (fun _ =>
  mv (.int .i64 0) fun t2_1 =>
  k t2_1 w) (fun _ =>
  mv a0 fun t6 =>
  o1 Tryz.prog (Instr.makeInterface 95 t3) w fun t7 w =>
  C Tryz.prog N.errors_As #[t6, t7] w fun t8 w =>
  br t8 (fun _ =>
  o1 Tryz.prog (Instr.loadAt 93 t3) w fun t9 w =>
  mv t9 fun t2_2 =>
  k t2_2 w) (fun _ =>
  mv (.int .i64 (-1)) fun t2_3 =>
  k t2_3 w))
theorem C.isthmuslaw11_num {k : Value → World → Prop} {a0 : Value} {w : World} (h : F.isthmuslaw11_num k a0 w) : C Tryz.prog N.isthmuslaw11_num #[a0] w k :=
  den_calls (H := { moves := [], vars := [2] }) (args := [a0]) mixed Tryz.func7 (by kernel_rfl) (by kernel_rfl) (by kernel_rfl) h

-- isthmus/types.CheckBlock
def F.types_CheckBlock (k : Value → World → Prop) (a0 : Value) (w : World) : Prop :=
  o1 Tryz.prog (Instr.box 31 a0) w fun t1 w =>
  mv .nilIface fun t2 =>
  o1 Tryz.prog (Instr.fieldAt 31 t1 0) w fun t7 w =>
  o1 Tryz.prog (Instr.loadAt 25 t7) w fun t8 w =>
  o1 Tryz.prog (Instr.alloc 25 true (.tuple #[])) w fun t3 w =>
  o0 Tryz.prog (Instr.storeAt 25 t3 t8) w fun _ w =>
  o1 Tryz.prog (Instr.build 23 #[]) w fun t9 w =>
  o1 Tryz.prog (Instr.alloc 23 true (.tuple #[])) w fun t4 w =>
  o0 Tryz.prog (Instr.storeAt 23 t4 t9) w fun _ w =>
  mv (.func (.func 50) #[] #[]) fun t5 =>
  o1 Tryz.prog (Instr.fieldAt 25 t3 0) w fun t10 w =>
  o1 Tryz.prog (Instr.loadAt 9 t10) w fun t11 w =>
  C Tryz.prog N.types_named #[t11] w fun t12 w =>
  mv t12 fun t13 =>
  gd t13 true (fun k1 => o1 Tryz.prog (Instr.fieldAt 25 t3 1) w k1) w fun t14 w =>
  gd t13 true (fun k2 => o1 Tryz.prog (Instr.loadAt 3 t14) w k2) w fun t15 w =>
  gd t13 true (fun k3 => o1 Tryz.prog (bin .geq 3 (.tmp 15) (.const (.int .i64 1)) t15 (.int .i64 1)) w k3) w fun t16 w =>
  pk t13 t16 (.bool false) fun t17 =>
  mv t17 fun t18 =>
  gd t18 true (fun k4 => o1 Tryz.prog (Instr.fieldAt 25 t3 1) w k4) w fun t19 w =>
  gd t18 true (fun k5 => o1 Tryz.prog (Instr.loadAt 3 t19) w k5) w fun t20 w =>
  gd t18 true (fun k6 => o1 Tryz.prog (bin .leq 3 (.tmp 20) (.const (.int .i64 1099511627776)) t20 (.int .i64 1099511627776)) w k6) w fun t21 w =>
  pk t18 t21 (.bool false) fun t22 =>
  mv t22 fun t23 =>
  gd t23 true (fun k7 => o1 Tryz.prog (Instr.fieldAt 25 t3 2) w k7) w fun t24 w =>
  gd t23 true (fun k8 => o1 Tryz.prog (Instr.loadAt 3 t24) w k8) w fun t25 w =>
  gd t23 true (fun k9 => o1 Tryz.prog (bin .geq 3 (.tmp 25) (.const (.int .i64 0)) t25 (.int .i64 0)) w k9) w fun t26 w =>
  pk t23 t26 (.bool false) fun t27 =>
  mv t27 fun t28 =>
  gd t28 true (fun k10 => o1 Tryz.prog (Instr.fieldAt 25 t3 2) w k10) w fun t29 w =>
  gd t28 true (fun k11 => o1 Tryz.prog (Instr.loadAt 3 t29) w k11) w fun t30 w =>
  gd t28 true (fun k12 => o1 Tryz.prog (bin .leq 3 (.tmp 30) (.const (.int .i64 1099511627776)) t30 (.int .i64 1099511627776)) w k12) w fun t31 w =>
  pk t28 t31 (.bool false) fun t32 =>
  mv t32 fun t33 =>
  gd t33 true (fun k13 => o1 Tryz.prog (Instr.fieldAt 25 t3 8) w k13) w fun t34 w =>
  gd t33 true (fun k14 => o1 Tryz.prog (Instr.loadAt 3 t34) w k14) w fun t35 w =>
  gd t33 true (fun k15 => o1 Tryz.prog (bin .geq 3 (.tmp 35) (.const (.int .i64 0)) t35 (.int .i64 0)) w k15) w fun t36 w =>
  pk t33 t36 (.bool false) fun t37 =>
  mv t37 fun t6 =>
  dr w.drew fun S1 =>
  mv t6 fun t38 =>
  mv t38 fun t39 =>
  gdT t39 true (fun k16 => tk Tryz.prog S1 (Instr.fieldAt 31 t1 1) k16) fun t40 =>
  gdT t39 true (fun k17 => tk Tryz.prog S1 (Instr.loadAt 26 t40) k17) fun t41 =>
  gdT t39 true (fun k18 => tk Tryz.prog S1 (Builtin.len_ #[26] 3 #[t41]) k18) fun t42 =>
  gdT t39 true (fun k19 => tk Tryz.prog S1 (bin .leq 3 (.tmp 42) (.const (.int .i64 64)) t42 (.int .i64 64)) k19) fun t43 =>
  pk t39 t43 (.bool false) fun t44 =>
  mv t44 fun t45 =>
  gdT t45 true (fun k20 => tk Tryz.prog S1 (Instr.fieldAt 31 t1 1) k20) fun t46 =>
  gdT t45 true (fun k21 => tk Tryz.prog S1 (Instr.loadAt 26 t46) k21) fun t47 =>
  gdT t45 true (fun k22 => mv t5 k22) fun t48 =>
  gd t45 true (fun k23 => C Tryz.prog N.slices_ContainsFunc_texts #[t47, t48] w.drew k23) w.drew fun t49 w =>
  S1 w ∧
  gdT t45 true (fun k24 => tk Tryz.prog S1 (Op.unary .not t49) k24) fun t50 =>
  pk t45 t50 (.bool false) fun t51 =>
  mv t51 fun t52 =>
  gdT t52 true (fun k25 => tk Tryz.prog S1 (Instr.fieldAt 25 t3 5) k25) fun t53 =>
  nS S1 w fun S2 =>
  gdT t52 true (fun k26 => tk Tryz.prog S2 (Instr.loadAt 23 t53) k26) fun t54 =>
  gdT t52 true (fun k27 => tk Tryz.prog S2 (Instr.fieldAt 31 t1 1) k27) fun t55 =>
  gdT t52 true (fun k28 => tk Tryz.prog S2 (Instr.loadAt 26 t55) k28) fun t56 =>
  gd t52 true (fun k29 => C Tryz.prog N.types_TxsHash #[t56] w k29) w fun t57 w =>
  S2 w ∧
  gdT t52 true (fun k30 => tk Tryz.prog S2 (bin .eql 23 (.tmp 54) (.tmp 57) t54 t57) k30) fun t58 =>
  pk t52 t58 (.bool false) fun t59 =>
  mv t59 fun t6_1 =>
  o1 Tryz.prog (Instr.fieldAt 25 t3 1) w fun t60 w =>
  o1 Tryz.prog (Instr.loadAt 3 t60) w fun t61 w =>
  o1 Tryz.prog (bin .eql 3 (.tmp 61) (.const (.int .i64 1)) t61 (.int .i64 1)) w fun t62 w =>
  jn (fun x1 => [x1 6]) (fun k31 =>
  br t62 (fun _ =>
  mv t6_1 fun t63 =>
  mv t63 fun t64 =>
  gd t64 true (fun k32 => o1 Tryz.prog (Instr.fieldAt 25 t3 3) w k32) w fun t65 w =>
  gd t64 true (fun k33 => o1 Tryz.prog (Instr.loadAt 23 t65) w k33) w fun t66 w =>
  gd t64 true (fun k34 => o1 Tryz.prog (Instr.loadAt 23 t4) w k34) w fun t67 w =>
  gd t64 true (fun k35 => o1 Tryz.prog (bin .eql 23 (.tmp 66) (.tmp 67) t66 t67) w k35) w fun t68 w =>
  pk t64 t68 (.bool false) fun t69 =>
  mv t69 fun t70 =>
  gd t70 true (fun k36 => o1 Tryz.prog (Instr.fieldAt 31 t1 2) w k36) w fun t71 w =>
  gd t70 true (fun k37 => o1 Tryz.prog (Instr.fieldAt 29 t71 0) w k37) w fun t72 w =>
  gd t70 true (fun k38 => o1 Tryz.prog (Instr.loadAt 3 t72) w k38) w fun t73 w =>
  gd t70 true (fun k39 => o1 Tryz.prog (bin .eql 3 (.tmp 73) (.const (.int .i64 0)) t73 (.int .i64 0)) w k39) w fun t74 w =>
  pk t70 t74 (.bool false) fun t75 =>
  mv t75 fun t76 =>
  gd t76 true (fun k40 => o1 Tryz.prog (Instr.fieldAt 31 t1 2) w k40) w fun t77 w =>
  gd t76 true (fun k41 => o1 Tryz.prog (Instr.fieldAt 29 t77 1) w k41) w fun t78 w =>
  gd t76 true (fun k42 => o1 Tryz.prog (Instr.loadAt 3 t78) w k42) w fun t79 w =>
  gd t76 true (fun k43 => o1 Tryz.prog (bin .eql 3 (.tmp 79) (.const (.int .i64 0)) t79 (.int .i64 0)) w k43) w fun t80 w =>
  pk t76 t80 (.bool false) fun t81 =>
  mv t81 fun t82 =>
  gd t82 true (fun k44 => o1 Tryz.prog (Instr.fieldAt 31 t1 2) w k44) w fun t83 w =>
  gd t82 true (fun k45 => o1 Tryz.prog (Instr.fieldAt 29 t83 2) w k45) w fun t84 w =>
  gd t82 true (fun k46 => o1 Tryz.prog (Instr.loadAt 23 t84) w k46) w fun t85 w =>
  gd t82 true (fun k47 => o1 Tryz.prog (Instr.loadAt 23 t4) w k47) w fun t86 w =>
  gd t82 true (fun k48 => o1 Tryz.prog (bin .eql 23 (.tmp 85) (.tmp 86) t85 t86) w k48) w fun t87 w =>
  pk t82 t87 (.bool false) fun t88 =>
  mv t88 fun t89 =>
  gd t89 true (fun k49 => o1 Tryz.prog (Instr.fieldAt 31 t1 2) w k49) w fun t90 w =>
  gd t89 true (fun k50 => o1 Tryz.prog (Instr.fieldAt 29 t90 3) w k50) w fun t91 w =>
  gd t89 true (fun k51 => o1 Tryz.prog (Instr.loadAt 27 t91) w k51) w fun t92 w =>
  gd t89 true (fun k52 => o1 Tryz.prog (Builtin.len_ #[27] 3 #[t92]) w k52) w fun t93 w =>
  gd t89 true (fun k53 => o1 Tryz.prog (bin .eql 3 (.tmp 93) (.const (.int .i64 0)) t93 (.int .i64 0)) w k53) w fun t94 w =>
  pk t89 t94 (.bool false) fun t95 =>
  mv t95 fun t6_2 =>
  k31 [t6_2] w) (fun _ =>
  mv t6_1 fun t96 =>
  mv t96 fun t97 =>
  gd t97 true (fun k54 => o1 Tryz.prog (Instr.fieldAt 25 t3 3) w k54) w fun t98 w =>
  gd t97 true (fun k55 => o1 Tryz.prog (Instr.loadAt 23 t98) w k55) w fun t99 w =>
  gd t97 true (fun k56 => o1 Tryz.prog (Instr.loadAt 23 t4) w k56) w fun t100 w =>
  gd t97 true (fun k57 => o1 Tryz.prog (bin .neq 23 (.tmp 99) (.tmp 100) t99 t100) w k57) w fun t101 w =>
  pk t97 t101 (.bool false) fun t102 =>
  mv t102 fun t103 =>
  gd t103 true (fun k58 => o1 Tryz.prog (Instr.fieldAt 31 t1 2) w k58) w fun t104 w =>
  gd t103 true (fun k59 => o1 Tryz.prog (Instr.fieldAt 29 t104 0) w k59) w fun t105 w =>
  gd t103 true (fun k60 => o1 Tryz.prog (Instr.loadAt 3 t105) w k60) w fun t106 w =>
  gd t103 true (fun k61 => o1 Tryz.prog (Instr.fieldAt 25 t3 1) w k61) w fun t107 w =>
  gd t103 true (fun k62 => o1 Tryz.prog (Instr.loadAt 3 t107) w k62) w fun t108 w =>
  gd t103 true (fun k63 => o1 Tryz.prog (bin .sub 3 (.tmp 108) (.const (.int .i64 1)) t108 (.int .i64 1)) w k63) w fun t109 w =>
  gd t103 true (fun k64 => o1 Tryz.prog (bin .eql 3 (.tmp 106) (.tmp 109) t106 t109) w k64) w fun t110 w =>
  pk t103 t110 (.bool false) fun t111 =>
  mv t111 fun t112 =>
  gd t112 true (fun k65 => o1 Tryz.prog (Instr.fieldAt 31 t1 2) w k65) w fun t113 w =>
  gd t112 true (fun k66 => o1 Tryz.prog (Instr.fieldAt 29 t113 2) w k66) w fun t114 w =>
  gd t112 true (fun k67 => o1 Tryz.prog (Instr.loadAt 23 t114) w k67) w fun t115 w =>
  gd t112 true (fun k68 => o1 Tryz.prog (Instr.fieldAt 25 t3 3) w k68) w fun t116 w =>
  gd t112 true (fun k69 => o1 Tryz.prog (Instr.loadAt 23 t116) w k69) w fun t117 w =>
  gd t112 true (fun k70 => o1 Tryz.prog (bin .eql 23 (.tmp 115) (.tmp 117) t115 t117) w k70) w fun t118 w =>
  pk t112 t118 (.bool false) fun t119 =>
  mv t119 fun t6_3 =>
  k31 [t6_3] w)) fun x1 w =>
  mv (x1 6) fun t120 =>
  o1 Tryz.prog (Op.unary .not t120) w fun t121 w =>
  br t121 (fun _ =>
  C Tryz.prog N.types_fault #[.string ⟨#[98, 108, 111, 99, 107]⟩, .int .i64 34] w fun t122 w =>
  mv t122 fun t2_1 =>
  k t2_1 w) (fun _ =>
  mv .nilIface fun t2_2 =>
  k t2_2 w)
theorem C.types_CheckBlock {k : Value → World → Prop} {a0 : Value} {w : World} (h : F.types_CheckBlock k a0 w) : C Tryz.prog N.types_CheckBlock #[a0] w k :=
  den_calls (H := { moves := [(5, (.take 0 (.take 1 (.take 2 (.take 3 (.take 4 (.take 5 (.take 6 (.take 7 (.take 8 (.take 9 (.take 10 (.force 11 (.take 12 (.take 13 (.take 14 (.take 15 (.renew (.take 16 (.take 17 (.take 18 (.force 19 (.take 20 (.take 21 (.take 22 .fin)))))))))))))))))))))))))], vars := [2, 5, 6] }) (args := [a0]) mixed Tryz.func8 (by kernel_rfl) (by kernel_rfl) (by kernel_rfl) h

-- isthmus/isthmusref11.CheckBlock
def F.isthmusref11_CheckBlock (k : Value → World → Prop) (a0 : Value) (w : World) : Prop :=
  o1 Tryz.prog (Instr.box 31 a0) w fun t1 w =>
  mv (.int .i64 0) fun t2 =>
  dr w.drew fun S1 =>
  tk Tryz.prog S1 (Instr.fieldAt 31 t1 0) fun t7 =>
  tk Tryz.prog S1 (Instr.loadAt 25 t7) fun t8 =>
  tk Tryz.prog S1 (Instr.fieldAt 31 t1 2) fun t9 =>
  tk Tryz.prog S1 (Instr.loadAt 29 t9) fun t10 =>
  (o1 Tryz.prog (Instr.alloc 25 true (.tuple #[])) w.drew fun t3 w =>
  S1 w ∧
  o1 Tryz.prog (Instr.alloc 29 true (.tuple #[])) w fun t4 w =>
  S1 w ∧
  o0 Tryz.prog (Instr.storeAt 25 t3 t8) w fun _ w =>
  S1 w ∧
  o0 Tryz.prog (Instr.storeAt 29 t4 t10) w fun _ w =>
  dr w.drew fun S2 =>
  tk Tryz.prog S2 (Instr.fieldAt 25 t3 0) fun t11 =>
  tk Tryz.prog S2 (Instr.loadAt 9 t11) fun t12 =>
  C Tryz.prog N.isthmusref11_Named #[t12] w.drew fun t13 w =>
  S2 w ∧
  tk Tryz.prog S2 (Op.unary .not t13) fun t14 =>
  mv t14 fun t15 =>
  gdT t15 false (fun k1 => tk Tryz.prog S2 (Instr.fieldAt 25 t3 1) k1) fun t16 =>
  nS S2 w fun S3 =>
  gdT t15 false (fun k2 => tk Tryz.prog S3 (Instr.loadAt 3 t16) k2) fun t17 =>
  gdT t15 false (fun k3 => tk Tryz.prog S3 (bin .lss 3 (.tmp 17) (.const (.int .i64 1)) t17 (.int .i64 1)) k3) fun t18 =>
  pk t15 (.bool true) t18 fun t19 =>
  mv t19 fun t20 =>
  gdT t20 false (fun k4 => tk Tryz.prog S3 (Instr.fieldAt 25 t3 1) k4) fun t21 =>
  gdT t20 false (fun k5 => tk Tryz.prog S3 (Instr.loadAt 3 t21) k5) fun t22 =>
  gdT t20 false (fun k6 => tk Tryz.prog S3 (bin .gtr 3 (.tmp 22) (.const (.int .i64 1099511627776)) t22 (.int .i64 1099511627776)) k6) fun t23 =>
  pk t20 (.bool true) t23 fun t24 =>
  mv t24 fun t25 =>
  gdT t25 false (fun k7 => tk Tryz.prog S3 (Instr.fieldAt 25 t3 2) k7) fun t26 =>
  gdT t25 false (fun k8 => tk Tryz.prog S3 (Instr.loadAt 3 t26) k8) fun t27 =>
  gdT t25 false (fun k9 => tk Tryz.prog S3 (bin .lss 3 (.tmp 27) (.const (.int .i64 0)) t27 (.int .i64 0)) k9) fun t28 =>
  pk t25 (.bool true) t28 fun t29 =>
  mv t29 fun t30 =>
  gdT t30 false (fun k10 => tk Tryz.prog S3 (Instr.fieldAt 25 t3 2) k10) fun t31 =>
  gdT t30 false (fun k11 => tk Tryz.prog S3 (Instr.loadAt 3 t31) k11) fun t32 =>
  gdT t30 false (fun k12 => tk Tryz.prog S3 (bin .gtr 3 (.tmp 32) (.const (.int .i64 1099511627776)) t32 (.int .i64 1099511627776)) k12) fun t33 =>
  pk t30 (.bool true) t33 fun t34 =>
  mv t34 fun t35 =>
  gdT t35 false (fun k13 => tk Tryz.prog S3 (Instr.fieldAt 25 t3 8) k13) fun t36 =>
  gdT t35 false (fun k14 => tk Tryz.prog S3 (Instr.loadAt 3 t36) k14) fun t37 =>
  gdT t35 false (fun k15 => tk Tryz.prog S3 (bin .lss 3 (.tmp 37) (.const (.int .i64 0)) t37 (.int .i64 0)) k15) fun t38 =>
  pk t35 (.bool true) t38 fun t39 =>
  mv t39 fun t40 =>
  gdT t40 false (fun k16 => tk Tryz.prog S3 (Instr.fieldAt 31 t1 1) k16) fun t41 =>
  gdT t40 false (fun k17 => tk Tryz.prog S3 (Instr.loadAt 26 t41) k17) fun t42 =>
  gdT t40 false (fun k18 => tk Tryz.prog S3 (Builtin.len_ #[26] 3 #[t42]) k18) fun t43 =>
  gdT t40 false (fun k19 => tk Tryz.prog S3 (bin .gtr 3 (.tmp 43) (.const (.int .i64 64)) t43 (.int .i64 64)) k19) fun t44 =>
  pk t40 (.bool true) t44 fun t45 =>
  mv t45 fun t46 =>
  gdT t46 false (fun k20 => tk Tryz.prog S3 (Instr.fieldAt 25 t3 5) k20) fun t47 =>
  gdT t46 false (fun k21 => tk Tryz.prog S3 (Instr.loadAt 23 t47) k21) fun t48 =>
  gdT t46 false (fun k22 => tk Tryz.prog S3 (Instr.fieldAt 31 t1 1) k22) fun t49 =>
  gdT t46 false (fun k23 => tk Tryz.prog S3 (Instr.loadAt 26 t49) k23) fun t50 =>
  gd t46 false (fun k24 => C Tryz.prog N.isthmusref11_TxsHash #[t50] w k24) w fun t51 w =>
  S3 w ∧
  gdT t46 false (fun k25 => tk Tryz.prog S3 (bin .neq 23 (.tmp 48) (.tmp 51) t48 t51) k25) fun t52 =>
  pk t46 (.bool true) t52 fun t53 =>
  br t53 (fun _ =>
  mv (.int .i64 34) fun t2_1 =>
  k t2_1 w) (fun _ =>
  mv (.int .i64 0) fun t5 =>
  lp [t2, t5] w fun I1 μ1 => ∀ (x1 : Env) (w1 : World), I1 [x1 2, x1 5] w1 →
  mv (x1 5) fun t54 =>
  o1 Tryz.prog (Instr.fieldAt 31 t1 1) w1 fun t55 w =>
  o1 Tryz.prog (Instr.loadAt 26 t55) w fun t56 w =>
  o1 Tryz.prog (Builtin.len_ #[26] 3 #[t56]) w fun t57 w =>
  o1 Tryz.prog (bin .lss 3 (.tmp 54) (.tmp 57) t54 t57) w fun t58 w =>
  br t58 (fun _ =>
  o1 Tryz.prog (Instr.fieldAt 31 t1 1) w fun t61 w =>
  o1 Tryz.prog (Instr.loadAt 26 t61) w fun t62 w =>
  mv (x1 5) fun t63 =>
  o1 Tryz.prog (Instr.indexAt 26 t62 t63) w fun t64 w =>
  o1 Tryz.prog (Instr.loadAt 39 t64) w fun t65 w =>
  o1 Tryz.prog (Builtin.len_ #[39] 3 #[t65]) w fun t66 w =>
  o1 Tryz.prog (bin .gtr 3 (.tmp 66) (.const (.int .i64 65536)) t66 (.int .i64 65536)) w fun t67 w =>
  br t67 (fun _ =>
  mv (.int .i64 34) fun t2_2 =>
  k t2_2 w) (fun _ =>
  mv (x1 5) fun t59 =>
  o1 Tryz.prog (bin .add 3 (.tmp 59) (.const (.int .i64 1)) t59 (.int .i64 1)) w fun t60 w =>
  mv t60 fun t5_1 =>
  I1 [(x1 2), t5_1] w ∧ μ1 [(x1 2), t5_1] w < μ1 [x1 2, x1 5] w1)) (fun _ =>
  o1 Tryz.prog (Instr.build 23 #[]) w fun t68 w =>
  o1 Tryz.prog (Instr.alloc 23 true (.tuple #[])) w fun t6 w =>
  o0 Tryz.prog (Instr.storeAt 23 t6 t68) w fun _ w =>
  o1 Tryz.prog (Instr.fieldAt 25 t3 1) w fun t69 w =>
  o1 Tryz.prog (Instr.loadAt 3 t69) w fun t70 w =>
  o1 Tryz.prog (bin .eql 3 (.tmp 70) (.const (.int .i64 1)) t70 (.int .i64 1)) w fun t71 w =>
  mv t71 fun t72 =>
  gd t72 true (fun k26 => o1 Tryz.prog (Instr.fieldAt 25 t3 3) w k26) w fun t73 w =>
  gd t72 true (fun k27 => o1 Tryz.prog (Instr.loadAt 23 t73) w k27) w fun t74 w =>
  gd t72 true (fun k28 => o1 Tryz.prog (Instr.loadAt 23 t6) w k28) w fun t75 w =>
  gd t72 true (fun k29 => o1 Tryz.prog (bin .neq 23 (.tmp 74) (.tmp 75) t74 t75) w k29) w fun t76 w =>
  gd t72 true (fun k30 => mv t76 fun v => k30 v w) w fun t77 w =>
  gd t77 false (fun k31 => o1 Tryz.prog (Instr.fieldAt 29 t4 0) w k31) w fun t78 w =>
  gd t77 false (fun k32 => o1 Tryz.prog (Instr.loadAt 3 t78) w k32) w fun t79 w =>
  gd t77 false (fun k33 => o1 Tryz.prog (bin .neq 3 (.tmp 79) (.const (.int .i64 0)) t79 (.int .i64 0)) w k33) w fun t80 w =>
  gd t72 true (fun k34 => pk t77 (.bool true) t80 fun v => k34 v w) w fun t81 w =>
  gd t72 true (fun k35 => mv t81 fun v => k35 v w) w fun t82 w =>
  gd t82 false (fun k36 => o1 Tryz.prog (Instr.fieldAt 29 t4 1) w k36) w fun t83 w =>
  gd t82 false (fun k37 => o1 Tryz.prog (Instr.loadAt 3 t83) w k37) w fun t84 w =>
  gd t82 false (fun k38 => o1 Tryz.prog (bin .neq 3 (.tmp 84) (.const (.int .i64 0)) t84 (.int .i64 0)) w k38) w fun t85 w =>
  gd t72 true (fun k39 => pk t82 (.bool true) t85 fun v => k39 v w) w fun t86 w =>
  gd t72 true (fun k40 => mv t86 fun v => k40 v w) w fun t87 w =>
  gd t87 false (fun k41 => o1 Tryz.prog (Instr.fieldAt 29 t4 2) w k41) w fun t88 w =>
  gd t87 false (fun k42 => o1 Tryz.prog (Instr.loadAt 23 t88) w k42) w fun t89 w =>
  gd t87 false (fun k43 => o1 Tryz.prog (Instr.loadAt 23 t6) w k43) w fun t90 w =>
  gd t87 false (fun k44 => o1 Tryz.prog (bin .neq 23 (.tmp 89) (.tmp 90) t89 t90) w k44) w fun t91 w =>
  gd t72 true (fun k45 => pk t87 (.bool true) t91 fun v => k45 v w) w fun t92 w =>
  gd t72 true (fun k46 => mv t92 fun v => k46 v w) w fun t93 w =>
  gd t93 false (fun k47 => o1 Tryz.prog (Instr.fieldAt 29 t4 3) w k47) w fun t94 w =>
  gd t93 false (fun k48 => o1 Tryz.prog (Instr.loadAt 27 t94) w k48) w fun t95 w =>
  gd t93 false (fun k49 => o1 Tryz.prog (Builtin.len_ #[27] 3 #[t95]) w k49) w fun t96 w =>
  gd t93 false (fun k50 => o1 Tryz.prog (bin .gtr 3 (.tmp 96) (.const (.int .i64 0)) t96 (.int .i64 0)) w k50) w fun t97 w =>
  gd t72 true (fun k51 => pk t93 (.bool true) t97 fun v => k51 v w) w fun t98 w =>
  pk t72 t98 (.bool false) fun t99 =>
  br t99 (fun _ =>
  mv (.int .i64 34) fun t2_3 =>
  k t2_3 w) (fun _ =>
  o1 Tryz.prog (Instr.fieldAt 25 t3 1) w fun t100 w =>
  o1 Tryz.prog (Instr.loadAt 3 t100) w fun t101 w =>
  o1 Tryz.prog (bin .gtr 3 (.tmp 101) (.const (.int .i64 1)) t101 (.int .i64 1)) w fun t102 w =>
  mv t102 fun t103 =>
  gd t103 true (fun k52 => o1 Tryz.prog (Instr.fieldAt 25 t3 3) w k52) w fun t104 w =>
  gd t103 true (fun k53 => o1 Tryz.prog (Instr.loadAt 23 t104) w k53) w fun t105 w =>
  gd t103 true (fun k54 => o1 Tryz.prog (Instr.loadAt 23 t6) w k54) w fun t106 w =>
  gd t103 true (fun k55 => o1 Tryz.prog (bin .eql 23 (.tmp 105) (.tmp 106) t105 t106) w k55) w fun t107 w =>
  gd t103 true (fun k56 => mv t107 fun v => k56 v w) w fun t108 w =>
  gd t108 false (fun k57 => o1 Tryz.prog (Instr.fieldAt 29 t4 0) w k57) w fun t109 w =>
  gd t108 false (fun k58 => o1 Tryz.prog (Instr.loadAt 3 t109) w k58) w fun t110 w =>
  gd t108 false (fun k59 => o1 Tryz.prog (bin .add 3 (.tmp 110) (.const (.int .i64 1)) t110 (.int .i64 1)) w k59) w fun t111 w =>
  gd t108 false (fun k60 => o1 Tryz.prog (Instr.fieldAt 25 t3 1) w k60) w fun t112 w =>
  gd t108 false (fun k61 => o1 Tryz.prog (Instr.loadAt 3 t112) w k61) w fun t113 w =>
  gd t108 false (fun k62 => o1 Tryz.prog (bin .neq 3 (.tmp 111) (.tmp 113) t111 t113) w k62) w fun t114 w =>
  gd t103 true (fun k63 => pk t108 (.bool true) t114 fun v => k63 v w) w fun t115 w =>
  gd t103 true (fun k64 => mv t115 fun v => k64 v w) w fun t116 w =>
  gd t116 false (fun k65 => o1 Tryz.prog (Instr.fieldAt 29 t4 2) w k65) w fun t117 w =>
  gd t116 false (fun k66 => o1 Tryz.prog (Instr.loadAt 23 t117) w k66) w fun t118 w =>
  gd t116 false (fun k67 => o1 Tryz.prog (Instr.fieldAt 25 t3 3) w k67) w fun t119 w =>
  gd t116 false (fun k68 => o1 Tryz.prog (Instr.loadAt 23 t119) w k68) w fun t120 w =>
  gd t116 false (fun k69 => o1 Tryz.prog (bin .neq 23 (.tmp 118) (.tmp 120) t118 t120) w k69) w fun t121 w =>
  gd t103 true (fun k70 => pk t116 (.bool true) t121 fun v => k70 v w) w fun t122 w =>
  pk t103 t122 (.bool false) fun t123 =>
  br t123 (fun _ =>
  mv (.int .i64 34) fun t2_4 =>
  k t2_4 w) (fun _ =>
  mv (.int .i64 0) fun t2_5 =>
  k t2_5 w))))) ∧ (
  o1 Tryz.prog (Instr.alloc 29 true (.tuple #[])) w.drew fun t4_1 w =>
  S1 w ∧
  o1 Tryz.prog (Instr.alloc 25 true (.tuple #[])) w fun t3_1 w =>
  S1 w ∧
  o0 Tryz.prog (Instr.storeAt 25 t3_1 t8) w fun _ w =>
  S1 w ∧
  o0 Tryz.prog (Instr.storeAt 29 t4_1 t10) w fun _ w =>
  dr w.drew fun S4 =>
  tk Tryz.prog S4 (Instr.fieldAt 25 t3_1 0) fun t11_1 =>
  tk Tryz.prog S4 (Instr.loadAt 9 t11_1) fun t12_1 =>
  C Tryz.prog N.isthmusref11_Named #[t12_1] w.drew fun t13_1 w =>
  S4 w ∧
  tk Tryz.prog S4 (Op.unary .not t13_1) fun t14_1 =>
  mv t14_1 fun t15_1 =>
  gdT t15_1 false (fun k71 => tk Tryz.prog S4 (Instr.fieldAt 25 t3_1 1) k71) fun t16_1 =>
  nS S4 w fun S5 =>
  gdT t15_1 false (fun k72 => tk Tryz.prog S5 (Instr.loadAt 3 t16_1) k72) fun t17_1 =>
  gdT t15_1 false (fun k73 => tk Tryz.prog S5 (bin .lss 3 (.tmp 17) (.const (.int .i64 1)) t17_1 (.int .i64 1)) k73) fun t18_1 =>
  pk t15_1 (.bool true) t18_1 fun t19_1 =>
  mv t19_1 fun t20_1 =>
  gdT t20_1 false (fun k74 => tk Tryz.prog S5 (Instr.fieldAt 25 t3_1 1) k74) fun t21_1 =>
  gdT t20_1 false (fun k75 => tk Tryz.prog S5 (Instr.loadAt 3 t21_1) k75) fun t22_1 =>
  gdT t20_1 false (fun k76 => tk Tryz.prog S5 (bin .gtr 3 (.tmp 22) (.const (.int .i64 1099511627776)) t22_1 (.int .i64 1099511627776)) k76) fun t23_1 =>
  pk t20_1 (.bool true) t23_1 fun t24_1 =>
  mv t24_1 fun t25_1 =>
  gdT t25_1 false (fun k77 => tk Tryz.prog S5 (Instr.fieldAt 25 t3_1 2) k77) fun t26_1 =>
  gdT t25_1 false (fun k78 => tk Tryz.prog S5 (Instr.loadAt 3 t26_1) k78) fun t27_1 =>
  gdT t25_1 false (fun k79 => tk Tryz.prog S5 (bin .lss 3 (.tmp 27) (.const (.int .i64 0)) t27_1 (.int .i64 0)) k79) fun t28_1 =>
  pk t25_1 (.bool true) t28_1 fun t29_1 =>
  mv t29_1 fun t30_1 =>
  gdT t30_1 false (fun k80 => tk Tryz.prog S5 (Instr.fieldAt 25 t3_1 2) k80) fun t31_1 =>
  gdT t30_1 false (fun k81 => tk Tryz.prog S5 (Instr.loadAt 3 t31_1) k81) fun t32_1 =>
  gdT t30_1 false (fun k82 => tk Tryz.prog S5 (bin .gtr 3 (.tmp 32) (.const (.int .i64 1099511627776)) t32_1 (.int .i64 1099511627776)) k82) fun t33_1 =>
  pk t30_1 (.bool true) t33_1 fun t34_1 =>
  mv t34_1 fun t35_1 =>
  gdT t35_1 false (fun k83 => tk Tryz.prog S5 (Instr.fieldAt 25 t3_1 8) k83) fun t36_1 =>
  gdT t35_1 false (fun k84 => tk Tryz.prog S5 (Instr.loadAt 3 t36_1) k84) fun t37_1 =>
  gdT t35_1 false (fun k85 => tk Tryz.prog S5 (bin .lss 3 (.tmp 37) (.const (.int .i64 0)) t37_1 (.int .i64 0)) k85) fun t38_1 =>
  pk t35_1 (.bool true) t38_1 fun t39_1 =>
  mv t39_1 fun t40_1 =>
  gdT t40_1 false (fun k86 => tk Tryz.prog S5 (Instr.fieldAt 31 t1 1) k86) fun t41_1 =>
  gdT t40_1 false (fun k87 => tk Tryz.prog S5 (Instr.loadAt 26 t41_1) k87) fun t42_1 =>
  gdT t40_1 false (fun k88 => tk Tryz.prog S5 (Builtin.len_ #[26] 3 #[t42_1]) k88) fun t43_1 =>
  gdT t40_1 false (fun k89 => tk Tryz.prog S5 (bin .gtr 3 (.tmp 43) (.const (.int .i64 64)) t43_1 (.int .i64 64)) k89) fun t44_1 =>
  pk t40_1 (.bool true) t44_1 fun t45_1 =>
  mv t45_1 fun t46_1 =>
  gdT t46_1 false (fun k90 => tk Tryz.prog S5 (Instr.fieldAt 25 t3_1 5) k90) fun t47_1 =>
  gdT t46_1 false (fun k91 => tk Tryz.prog S5 (Instr.loadAt 23 t47_1) k91) fun t48_1 =>
  gdT t46_1 false (fun k92 => tk Tryz.prog S5 (Instr.fieldAt 31 t1 1) k92) fun t49_1 =>
  gdT t46_1 false (fun k93 => tk Tryz.prog S5 (Instr.loadAt 26 t49_1) k93) fun t50_1 =>
  gd t46_1 false (fun k94 => C Tryz.prog N.isthmusref11_TxsHash #[t50_1] w k94) w fun t51_1 w =>
  S5 w ∧
  gdT t46_1 false (fun k95 => tk Tryz.prog S5 (bin .neq 23 (.tmp 48) (.tmp 51) t48_1 t51_1) k95) fun t52_1 =>
  pk t46_1 (.bool true) t52_1 fun t53_1 =>
  br t53_1 (fun _ =>
  mv (.int .i64 34) fun t2_6 =>
  k t2_6 w) (fun _ =>
  mv (.int .i64 0) fun t5_2 =>
  lp [t2, t5_2] w fun I2 μ2 => ∀ (x2 : Env) (w2 : World), I2 [x2 2, x2 5] w2 →
  mv (x2 5) fun t54_1 =>
  o1 Tryz.prog (Instr.fieldAt 31 t1 1) w2 fun t55_1 w =>
  o1 Tryz.prog (Instr.loadAt 26 t55_1) w fun t56_1 w =>
  o1 Tryz.prog (Builtin.len_ #[26] 3 #[t56_1]) w fun t57_1 w =>
  o1 Tryz.prog (bin .lss 3 (.tmp 54) (.tmp 57) t54_1 t57_1) w fun t58_1 w =>
  br t58_1 (fun _ =>
  o1 Tryz.prog (Instr.fieldAt 31 t1 1) w fun t61_1 w =>
  o1 Tryz.prog (Instr.loadAt 26 t61_1) w fun t62_1 w =>
  mv (x2 5) fun t63_1 =>
  o1 Tryz.prog (Instr.indexAt 26 t62_1 t63_1) w fun t64_1 w =>
  o1 Tryz.prog (Instr.loadAt 39 t64_1) w fun t65_1 w =>
  o1 Tryz.prog (Builtin.len_ #[39] 3 #[t65_1]) w fun t66_1 w =>
  o1 Tryz.prog (bin .gtr 3 (.tmp 66) (.const (.int .i64 65536)) t66_1 (.int .i64 65536)) w fun t67_1 w =>
  br t67_1 (fun _ =>
  mv (.int .i64 34) fun t2_7 =>
  k t2_7 w) (fun _ =>
  mv (x2 5) fun t59_1 =>
  o1 Tryz.prog (bin .add 3 (.tmp 59) (.const (.int .i64 1)) t59_1 (.int .i64 1)) w fun t60_1 w =>
  mv t60_1 fun t5_3 =>
  I2 [(x2 2), t5_3] w ∧ μ2 [(x2 2), t5_3] w < μ2 [x2 2, x2 5] w2)) (fun _ =>
  o1 Tryz.prog (Instr.build 23 #[]) w fun t68_1 w =>
  o1 Tryz.prog (Instr.alloc 23 true (.tuple #[])) w fun t6_1 w =>
  o0 Tryz.prog (Instr.storeAt 23 t6_1 t68_1) w fun _ w =>
  o1 Tryz.prog (Instr.fieldAt 25 t3_1 1) w fun t69_1 w =>
  o1 Tryz.prog (Instr.loadAt 3 t69_1) w fun t70_1 w =>
  o1 Tryz.prog (bin .eql 3 (.tmp 70) (.const (.int .i64 1)) t70_1 (.int .i64 1)) w fun t71_1 w =>
  mv t71_1 fun t72_1 =>
  gd t72_1 true (fun k96 => o1 Tryz.prog (Instr.fieldAt 25 t3_1 3) w k96) w fun t73_1 w =>
  gd t72_1 true (fun k97 => o1 Tryz.prog (Instr.loadAt 23 t73_1) w k97) w fun t74_1 w =>
  gd t72_1 true (fun k98 => o1 Tryz.prog (Instr.loadAt 23 t6_1) w k98) w fun t75_1 w =>
  gd t72_1 true (fun k99 => o1 Tryz.prog (bin .neq 23 (.tmp 74) (.tmp 75) t74_1 t75_1) w k99) w fun t76_1 w =>
  gd t72_1 true (fun k100 => mv t76_1 fun v => k100 v w) w fun t77_1 w =>
  gd t77_1 false (fun k101 => o1 Tryz.prog (Instr.fieldAt 29 t4_1 0) w k101) w fun t78_1 w =>
  gd t77_1 false (fun k102 => o1 Tryz.prog (Instr.loadAt 3 t78_1) w k102) w fun t79_1 w =>
  gd t77_1 false (fun k103 => o1 Tryz.prog (bin .neq 3 (.tmp 79) (.const (.int .i64 0)) t79_1 (.int .i64 0)) w k103) w fun t80_1 w =>
  gd t72_1 true (fun k104 => pk t77_1 (.bool true) t80_1 fun v => k104 v w) w fun t81_1 w =>
  gd t72_1 true (fun k105 => mv t81_1 fun v => k105 v w) w fun t82_1 w =>
  gd t82_1 false (fun k106 => o1 Tryz.prog (Instr.fieldAt 29 t4_1 1) w k106) w fun t83_1 w =>
  gd t82_1 false (fun k107 => o1 Tryz.prog (Instr.loadAt 3 t83_1) w k107) w fun t84_1 w =>
  gd t82_1 false (fun k108 => o1 Tryz.prog (bin .neq 3 (.tmp 84) (.const (.int .i64 0)) t84_1 (.int .i64 0)) w k108) w fun t85_1 w =>
  gd t72_1 true (fun k109 => pk t82_1 (.bool true) t85_1 fun v => k109 v w) w fun t86_1 w =>
  gd t72_1 true (fun k110 => mv t86_1 fun v => k110 v w) w fun t87_1 w =>
  gd t87_1 false (fun k111 => o1 Tryz.prog (Instr.fieldAt 29 t4_1 2) w k111) w fun t88_1 w =>
  gd t87_1 false (fun k112 => o1 Tryz.prog (Instr.loadAt 23 t88_1) w k112) w fun t89_1 w =>
  gd t87_1 false (fun k113 => o1 Tryz.prog (Instr.loadAt 23 t6_1) w k113) w fun t90_1 w =>
  gd t87_1 false (fun k114 => o1 Tryz.prog (bin .neq 23 (.tmp 89) (.tmp 90) t89_1 t90_1) w k114) w fun t91_1 w =>
  gd t72_1 true (fun k115 => pk t87_1 (.bool true) t91_1 fun v => k115 v w) w fun t92_1 w =>
  gd t72_1 true (fun k116 => mv t92_1 fun v => k116 v w) w fun t93_1 w =>
  gd t93_1 false (fun k117 => o1 Tryz.prog (Instr.fieldAt 29 t4_1 3) w k117) w fun t94_1 w =>
  gd t93_1 false (fun k118 => o1 Tryz.prog (Instr.loadAt 27 t94_1) w k118) w fun t95_1 w =>
  gd t93_1 false (fun k119 => o1 Tryz.prog (Builtin.len_ #[27] 3 #[t95_1]) w k119) w fun t96_1 w =>
  gd t93_1 false (fun k120 => o1 Tryz.prog (bin .gtr 3 (.tmp 96) (.const (.int .i64 0)) t96_1 (.int .i64 0)) w k120) w fun t97_1 w =>
  gd t72_1 true (fun k121 => pk t93_1 (.bool true) t97_1 fun v => k121 v w) w fun t98_1 w =>
  pk t72_1 t98_1 (.bool false) fun t99_1 =>
  br t99_1 (fun _ =>
  mv (.int .i64 34) fun t2_8 =>
  k t2_8 w) (fun _ =>
  o1 Tryz.prog (Instr.fieldAt 25 t3_1 1) w fun t100_1 w =>
  o1 Tryz.prog (Instr.loadAt 3 t100_1) w fun t101_1 w =>
  o1 Tryz.prog (bin .gtr 3 (.tmp 101) (.const (.int .i64 1)) t101_1 (.int .i64 1)) w fun t102_1 w =>
  mv t102_1 fun t103_1 =>
  gd t103_1 true (fun k122 => o1 Tryz.prog (Instr.fieldAt 25 t3_1 3) w k122) w fun t104_1 w =>
  gd t103_1 true (fun k123 => o1 Tryz.prog (Instr.loadAt 23 t104_1) w k123) w fun t105_1 w =>
  gd t103_1 true (fun k124 => o1 Tryz.prog (Instr.loadAt 23 t6_1) w k124) w fun t106_1 w =>
  gd t103_1 true (fun k125 => o1 Tryz.prog (bin .eql 23 (.tmp 105) (.tmp 106) t105_1 t106_1) w k125) w fun t107_1 w =>
  gd t103_1 true (fun k126 => mv t107_1 fun v => k126 v w) w fun t108_1 w =>
  gd t108_1 false (fun k127 => o1 Tryz.prog (Instr.fieldAt 29 t4_1 0) w k127) w fun t109_1 w =>
  gd t108_1 false (fun k128 => o1 Tryz.prog (Instr.loadAt 3 t109_1) w k128) w fun t110_1 w =>
  gd t108_1 false (fun k129 => o1 Tryz.prog (bin .add 3 (.tmp 110) (.const (.int .i64 1)) t110_1 (.int .i64 1)) w k129) w fun t111_1 w =>
  gd t108_1 false (fun k130 => o1 Tryz.prog (Instr.fieldAt 25 t3_1 1) w k130) w fun t112_1 w =>
  gd t108_1 false (fun k131 => o1 Tryz.prog (Instr.loadAt 3 t112_1) w k131) w fun t113_1 w =>
  gd t108_1 false (fun k132 => o1 Tryz.prog (bin .neq 3 (.tmp 111) (.tmp 113) t111_1 t113_1) w k132) w fun t114_1 w =>
  gd t103_1 true (fun k133 => pk t108_1 (.bool true) t114_1 fun v => k133 v w) w fun t115_1 w =>
  gd t103_1 true (fun k134 => mv t115_1 fun v => k134 v w) w fun t116_1 w =>
  gd t116_1 false (fun k135 => o1 Tryz.prog (Instr.fieldAt 29 t4_1 2) w k135) w fun t117_1 w =>
  gd t116_1 false (fun k136 => o1 Tryz.prog (Instr.loadAt 23 t117_1) w k136) w fun t118_1 w =>
  gd t116_1 false (fun k137 => o1 Tryz.prog (Instr.fieldAt 25 t3_1 3) w k137) w fun t119_1 w =>
  gd t116_1 false (fun k138 => o1 Tryz.prog (Instr.loadAt 23 t119_1) w k138) w fun t120_1 w =>
  gd t116_1 false (fun k139 => o1 Tryz.prog (bin .neq 23 (.tmp 118) (.tmp 120) t118_1 t120_1) w k139) w fun t121_1 w =>
  gd t103_1 true (fun k140 => pk t116_1 (.bool true) t121_1 fun v => k140 v w) w fun t122_1 w =>
  pk t103_1 t122_1 (.bool false) fun t123_1 =>
  br t123_1 (fun _ =>
  mv (.int .i64 34) fun t2_9 =>
  k t2_9 w) (fun _ =>
  mv (.int .i64 0) fun t2_10 =>
  k t2_10 w)))))
theorem C.isthmusref11_CheckBlock {k : Value → World → Prop} {a0 : Value} {w : World} (h : F.isthmusref11_CheckBlock k a0 w) : C Tryz.prog N.isthmusref11_CheckBlock #[a0] w k :=
  den_calls (H := { moves := [(1, (.take 0 (.take 1 (.take 2 (.take 3 (.two 4 5 (.force 5 (.force 6 (.last 7))) (.force 4 (.force 6 (.last 7))))))))), (2, (.take 0 (.take 1 (.force 2 (.take 3 (.take 4 (.take 5 (.renew (.take 6 (.take 7 (.take 8 (.take 9 (.take 10 (.take 11 (.take 12 (.take 13 (.take 14 (.take 15 (.take 16 (.take 17 (.take 18 (.take 19 (.take 20 (.take 21 (.take 22 (.take 23 (.take 24 (.take 25 (.take 26 (.take 27 (.take 28 (.take 29 (.take 30 (.take 31 (.take 32 (.take 33 (.take 34 (.take 35 (.take 36 (.take 37 (.take 38 (.take 39 (.force 40 (.take 41 (.take 42 .fin)))))))))))))))))))))))))))))))))))))))))))))], vars := [2, 5] }) (args := [a0]) mixed Tryz.func9 (by kernel_rfl) (by kernel_rfl) (by kernel_rfl) h

-- isthmus/types.TxsHash
def F.types_TxsHash (k : Value → World → Prop) (a0 : Value) (w : World) : Prop :=
  o1 Tryz.prog (Instr.alloc 23 true (.tuple #[])) w fun t2 w =>
  mv (.slice none 0 0) fun t3 =>
  mv a0 fun t6 =>
  o1 Tryz.prog (Builtin.len_ #[26] 3 #[t6]) w fun t7 w =>
  mv (.int .i64 0) fun t8 =>
  lp [t3, undef, t8] w fun I1 μ1 => ∀ (x1 : Env) (w1 : World), I1 [x1 3, x1 5, x1 8] w1 →
  o1 Tryz.prog (bin .lss 3 (.tmp 8) (.tmp 7) (x1 8) t7) w1 fun t9 w =>
  br t9 (fun _ =>
  o1 Tryz.prog (Instr.indexAt 26 t6 (x1 8)) w fun t10 w =>
  o1 Tryz.prog (Instr.loadAt 39 t10) w fun t11 w =>
  mv t11 fun t5 =>
  mv (x1 3) fun t12 =>
  mv t5 fun t13 =>
  C Tryz.prog N.sha_Leaf #[t13] w fun t14 w =>
  o1 Tryz.prog (Instr.buildSlice 99 1 #[(0, t14)]) w fun t15 w =>
  ob Tryz.prog (fun _ => Builtin.append_ #[99, 99] 99 #[t12, t15]) w fun t16 w =>
  mv t16 fun t3_1 =>
  o1 Tryz.prog (bin .add 3 (.tmp 8) (.const (.int .i64 1)) (x1 8) (.int .i64 1)) w fun t17 w =>
  mv t17 fun t8_1 =>
  I1 [t3_1, t5, t8_1] w ∧ μ1 [t3_1, t5, t8_1] w < μ1 [x1 3, x1 5, x1 8] w1) (fun _ =>
  mv (x1 3) fun t18 =>
  C Tryz.prog N.sha_Root #[t18] w fun t19 w =>
  o0 Tryz.prog (Instr.storeAt 23 t2 t19) w fun _ w =>
  rc Tryz.prog 23 t2 w fun r0 =>
  k r0 w)
theorem C.types_TxsHash {k : Value → World → Prop} {a0 : Value} {w : World} (h : F.types_TxsHash k a0 w) : C Tryz.prog N.types_TxsHash #[a0] w k :=
  den_calls (H := { moves := [], vars := [3, 5, 8] }) (args := [a0]) mixed Tryz.func10 (by kernel_rfl) (by kernel_rfl) (by kernel_rfl) h

-- isthmus/isthmusref11.TxsHash
def F.isthmusref11_TxsHash (k : Value → World → Prop) (a0 : Value) (w : World) : Prop :=
  o1 Tryz.prog (Instr.alloc 23 true (.tuple #[])) w fun t2 w =>
  mv (.slice none 0 0) fun t3 =>
  mv (.int .i64 0) fun t4 =>
  lp [t3, t4] w fun I1 μ1 => ∀ (x1 : Env) (w1 : World), I1 [x1 3, x1 4] w1 →
  mv (x1 4) fun t5 =>
  mv a0 fun t6 =>
  o1 Tryz.prog (Builtin.len_ #[26] 3 #[t6]) w1 fun t7 w =>
  o1 Tryz.prog (bin .lss 3 (.tmp 5) (.tmp 7) t5 t7) w fun t8 w =>
  br t8 (fun _ =>
  mv (x1 3) fun t11 =>
  mv a0 fun t12 =>
  mv (x1 4) fun t13 =>
  o1 Tryz.prog (Instr.indexAt 26 t12 t13) w fun t14 w =>
  o1 Tryz.prog (Instr.loadAt 39 t14) w fun t15 w =>
  C Tryz.prog N.isthmusref01_Leaf #[t15] w fun t16 w =>
  o1 Tryz.prog (Instr.buildSlice 99 1 #[(0, t16)]) w fun t17 w =>
  ob Tryz.prog (fun _ => Builtin.append_ #[99, 99] 99 #[t11, t17]) w fun t18 w =>
  mv t18 fun t3_1 =>
  mv (x1 4) fun t9 =>
  o1 Tryz.prog (bin .add 3 (.tmp 9) (.const (.int .i64 1)) t9 (.int .i64 1)) w fun t10 w =>
  mv t10 fun t4_1 =>
  I1 [t3_1, t4_1] w ∧ μ1 [t3_1, t4_1] w < μ1 [x1 3, x1 4] w1) (fun _ =>
  mv (x1 3) fun t19 =>
  C Tryz.prog N.isthmusref01_Root #[t19] w fun t20 w =>
  o0 Tryz.prog (Instr.storeAt 23 t2 t20) w fun _ w =>
  rc Tryz.prog 23 t2 w fun r0 =>
  k r0 w)
theorem C.isthmusref11_TxsHash {k : Value → World → Prop} {a0 : Value} {w : World} (h : F.isthmusref11_TxsHash k a0 w) : C Tryz.prog N.isthmusref11_TxsHash #[a0] w k :=
  den_calls (H := { moves := [], vars := [3, 4] }) (args := [a0]) mixed Tryz.func11 (by kernel_rfl) (by kernel_rfl) (by kernel_rfl) h

-- isthmus/types.HeaderHash
def F.types_HeaderHash (k : Value → World → Prop) (a0 : Value) (w : World) : Prop :=
  o1 Tryz.prog (Instr.box 25 a0) w fun t1 w =>
  o1 Tryz.prog (Instr.alloc 23 true (.tuple #[])) w fun t2 w =>
  o1 Tryz.prog (Instr.buildSlice 39 1 #[(0, .int .u8 8)]) w fun t3 w =>
  o1 Tryz.prog (Instr.loadAt 25 t1) w fun t4 w =>
  C Tryz.prog N.types_EncodeHeader #[t4] w fun t5 w =>
  ob Tryz.prog (fun _ => Builtin.append_ #[39, 39] 39 #[t3, t5]) w fun t6 w =>
  C Tryz.prog N.sha_Sum #[t6] w fun t7 w =>
  o0 Tryz.prog (Instr.storeAt 23 t2 t7) w fun _ w =>
  rc Tryz.prog 23 t2 w fun r0 =>
  k r0 w
theorem C.types_HeaderHash {k : Value → World → Prop} {a0 : Value} {w : World} (h : F.types_HeaderHash k a0 w) : C Tryz.prog N.types_HeaderHash #[a0] w k :=
  den_calls (H := { moves := [], vars := [] }) (args := [a0]) mixed Tryz.func12 (by kernel_rfl) (by kernel_rfl) (by kernel_rfl) h

-- isthmus/isthmusref11.HeaderHash
def F.isthmusref11_HeaderHash (k : Value → World → Prop) (a0 : Value) (w : World) : Prop :=
  o1 Tryz.prog (Instr.box 25 a0) w fun t1 w =>
  o1 Tryz.prog (Instr.alloc 23 true (.tuple #[])) w fun t2 w =>
  o1 Tryz.prog (Instr.buildSlice 39 1 #[(0, .int .u8 8)]) w fun t3 w =>
  o1 Tryz.prog (Instr.loadAt 25 t1) w fun t4 w =>
  C Tryz.prog N.isthmusref11_Header #[t3, t4] w fun t5 w =>
  C Tryz.prog N.isthmusref01_Sum #[t5] w fun t6 w =>
  o0 Tryz.prog (Instr.storeAt 23 t2 t6) w fun _ w =>
  rc Tryz.prog 23 t2 w fun r0 =>
  k r0 w
theorem C.isthmusref11_HeaderHash {k : Value → World → Prop} {a0 : Value} {w : World} (h : F.isthmusref11_HeaderHash k a0 w) : C Tryz.prog N.isthmusref11_HeaderHash #[a0] w k :=
  den_calls (H := { moves := [], vars := [] }) (args := [a0]) mixed Tryz.func13 (by kernel_rfl) (by kernel_rfl) (by kernel_rfl) h

-- isthmus/types.EncodeBlock
def F.types_EncodeBlock (k : Value → World → Prop) (a0 : Value) (w : World) : Prop :=
  o1 Tryz.prog (Instr.box 31 a0) w fun t1 w =>
  mv (.slice none 0 0) fun t2 =>
  o1 Tryz.prog (Instr.loadAt 31 t1) w fun t3 w =>
  C Tryz.prog N.types_encode_api_Block #[t3, .func (.func 62) #[] #[]] w fun t4 w =>
  mv t4 fun t2_1 =>
  k t2_1 w
theorem C.types_EncodeBlock {k : Value → World → Prop} {a0 : Value} {w : World} (h : F.types_EncodeBlock k a0 w) : C Tryz.prog N.types_EncodeBlock #[a0] w k :=
  den_calls (H := { moves := [], vars := [2] }) (args := [a0]) mixed Tryz.func14 (by kernel_rfl) (by kernel_rfl) (by kernel_rfl) h

-- isthmus/isthmusref11.Block
def F.isthmusref11_Block (k : Value → World → Prop) (a0 a1 : Value) (w : World) : Prop :=
  o1 Tryz.prog (Instr.box 31 a1) w fun t3 w =>
  mv (.slice none 0 0) fun t4 =>
  dr w.drew fun S1 =>
  mv a0 fun t6 =>
  tk Tryz.prog S1 (Instr.fieldAt 31 t3 0) fun t7 =>
  tk Tryz.prog S1 (Instr.loadAt 25 t7) fun t8 =>
  tk Tryz.prog S1 (Instr.fieldAt 31 t3 1) fun t10 =>
  tk Tryz.prog S1 (Instr.loadAt 26 t10) fun t11 =>
  tk Tryz.prog S1 (Builtin.len_ #[26] 3 #[t11]) fun t12 =>
  tk Tryz.prog S1 (convert 3 105 t12) fun t13 =>
  C Tryz.prog N.isthmusref11_Header #[t6, t8] w.drew fun t9 w =>
  S1 w ∧
  C Tryz.prog N.isthmusref02_Uint #[t9, t13] w fun t14 w =>
  S1 w ∧
  mv t14 fun t0 =>
  mv (.int .i64 0) fun t5 =>
  lp [t0, t5] w fun I1 μ1 => ∀ (x1 : Env) (w1 : World), I1 [x1 0, x1 5] w1 →
  mv (x1 5) fun t15 =>
  o1 Tryz.prog (Instr.fieldAt 31 t3 1) w1 fun t16 w =>
  o1 Tryz.prog (Instr.loadAt 26 t16) w fun t17 w =>
  o1 Tryz.prog (Builtin.len_ #[26] 3 #[t17]) w fun t18 w =>
  o1 Tryz.prog (bin .lss 3 (.tmp 15) (.tmp 18) t15 t18) w fun t19 w =>
  br t19 (fun _ =>
  mv (x1 0) fun t22 =>
  o1 Tryz.prog (Instr.fieldAt 31 t3 1) w fun t23 w =>
  o1 Tryz.prog (Instr.loadAt 26 t23) w fun t24 w =>
  mv (x1 5) fun t25 =>
  o1 Tryz.prog (Instr.indexAt 26 t24 t25) w fun t26 w =>
  o1 Tryz.prog (Instr.loadAt 39 t26) w fun t27 w =>
  C Tryz.prog N.isthmusref02_Bytes #[t22, t27] w fun t28 w =>
  mv t28 fun t0_1 =>
  mv (x1 5) fun t20 =>
  o1 Tryz.prog (bin .add 3 (.tmp 20) (.const (.int .i64 1)) t20 (.int .i64 1)) w fun t21 w =>
  mv t21 fun t5_1 =>
  I1 [t0_1, t5_1] w ∧ μ1 [t0_1, t5_1] w < μ1 [x1 0, x1 5] w1) (fun _ =>
  mv (x1 0) fun t29 =>
  o1 Tryz.prog (Instr.fieldAt 31 t3 2) w fun t30 w =>
  o1 Tryz.prog (Instr.loadAt 29 t30) w fun t31 w =>
  C Tryz.prog N.isthmusref11_Commit #[t29, t31] w fun t32 w =>
  mv t32 fun t4_1 =>
  k t4_1 w)
theorem C.isthmusref11_Block {k : Value → World → Prop} {a0 a1 : Value} {w : World} (h : F.isthmusref11_Block k a0 a1 w) : C Tryz.prog N.isthmusref11_Block #[a0, a1] w k :=
  den_calls (H := { moves := [(1, (.take 0 (.take 1 (.take 2 (.take 4 (.take 5 (.take 6 (.take 7 (.force 3 (.force 8 (.take 9 .fin)))))))))))], vars := [0, 4, 5] }) (args := [a0, a1]) mixed Tryz.func15 (by kernel_rfl) (by kernel_rfl) (by kernel_rfl) h

-- isthmus/types.EncodeHeader
def F.types_EncodeHeader (k : Value → World → Prop) (a0 : Value) (w : World) : Prop :=
  o1 Tryz.prog (Instr.box 25 a0) w fun t1 w =>
  mv (.slice none 0 0) fun t2 =>
  o1 Tryz.prog (Instr.loadAt 25 t1) w fun t3 w =>
  C Tryz.prog N.types_encode_api_Header #[t3, .func (.func 66) #[] #[]] w fun t4 w =>
  mv t4 fun t2_1 =>
  k t2_1 w
theorem C.types_EncodeHeader {k : Value → World → Prop} {a0 : Value} {w : World} (h : F.types_EncodeHeader k a0 w) : C Tryz.prog N.types_EncodeHeader #[a0] w k :=
  den_calls (H := { moves := [], vars := [2] }) (args := [a0]) mixed Tryz.func16 (by kernel_rfl) (by kernel_rfl) (by kernel_rfl) h

-- isthmus/isthmusref11.Header
def F.isthmusref11_Header (k : Value → World → Prop) (a0 a1 : Value) (w : World) : Prop :=
  o1 Tryz.prog (Instr.box 25 a1) w fun t3 w =>
  mv (.slice none 0 0) fun t4 =>
  dr w.drew fun S1 =>
  mv a0 fun t5 =>
  tk Tryz.prog S1 (Instr.fieldAt 25 t3 0) fun t6 =>
  tk Tryz.prog S1 (Instr.loadAt 9 t6) fun t7 =>
  tk Tryz.prog S1 (Instr.fieldAt 25 t3 1) fun t9 =>
  tk Tryz.prog S1 (Instr.loadAt 3 t9) fun t10 =>
  tk Tryz.prog S1 (Instr.fieldAt 25 t3 2) fun t12 =>
  tk Tryz.prog S1 (Instr.loadAt 3 t12) fun t13 =>
  C Tryz.prog N.isthmusref02_Text #[t5, t7] w.drew fun t8 w =>
  S1 w ∧
  C Tryz.prog N.isthmusref02_Int #[t8, t10] w fun t11 w =>
  S1 w ∧
  C Tryz.prog N.isthmusref02_Int #[t11, t13] w fun t14 w =>
  S1 w ∧
  mv t14 fun t0 =>
  dr w.drew fun S2 =>
  mv t0 fun t15 =>
  tk Tryz.prog S2 (Instr.fieldAt 25 t3 3) fun t16 =>
  tk Tryz.prog S2 (Instr.loadAt 23 t16) fun t17 =>
  tk Tryz.prog S2 (Instr.fieldAt 25 t3 4) fun t19 =>
  tk Tryz.prog S2 (Instr.loadAt 23 t19) fun t20 =>
  tk Tryz.prog S2 (Instr.fieldAt 25 t3 5) fun t22 =>
  tk Tryz.prog S2 (Instr.loadAt 23 t22) fun t23 =>
  tk Tryz.prog S2 (Instr.fieldAt 25 t3 6) fun t25 =>
  tk Tryz.prog S2 (Instr.loadAt 23 t25) fun t26 =>
  tk Tryz.prog S2 (Instr.fieldAt 25 t3 7) fun t28 =>
  tk Tryz.prog S2 (Instr.loadAt 23 t28) fun t29 =>
  C Tryz.prog N.isthmusref02_Hash #[t15, t17] w.drew fun t18 w =>
  S2 w ∧
  C Tryz.prog N.isthmusref02_Hash #[t18, t20] w fun t21 w =>
  S2 w ∧
  C Tryz.prog N.isthmusref02_Hash #[t21, t23] w fun t24 w =>
  S2 w ∧
  C Tryz.prog N.isthmusref02_Hash #[t24, t26] w fun t27 w =>
  S2 w ∧
  C Tryz.prog N.isthmusref02_Hash #[t27, t29] w fun t30 w =>
  S2 w ∧
  mv t30 fun t0_1 =>
  mv t0_1 fun t31 =>
  o1 Tryz.prog (Instr.fieldAt 25 t3 8) w fun t32 w =>
  o1 Tryz.prog (Instr.loadAt 3 t32) w fun t33 w =>
  C Tryz.prog N.isthmusref02_Int #[t31, t33] w fun t34 w =>
  mv t34 fun t4_1 =>
  k t4_1 w
theorem C.isthmusref11_Header {k : Value → World → Prop} {a0 a1 : Value} {w : World} (h : F.isthmusref11_Header k a0 a1 w) : C Tryz.prog N.isthmusref11_Header #[a0, a1] w k :=
  den_calls (H := { moves := [(1, (.take 0 (.take 1 (.take 2 (.take 4 (.take 5 (.take 7 (.take 8 (.force 3 (.force 6 (.force 9 (.take 10 .fin)))))))))))), (2, (.take 0 (.take 1 (.take 2 (.take 4 (.take 5 (.take 7 (.take 8 (.take 10 (.take 11 (.take 13 (.take 14 (.force 3 (.force 6 (.force 9 (.force 12 (.force 15 (.take 16 .fin))))))))))))))))))], vars := [0, 4] }) (args := [a0, a1]) mixed Tryz.func17 (by kernel_rfl) (by kernel_rfl) (by kernel_rfl) h

-- isthmus/types.EncodeCommit
def F.types_EncodeCommit (k : Value → World → Prop) (a0 : Value) (w : World) : Prop :=
  o1 Tryz.prog (Instr.box 29 a0) w fun t1 w =>
  mv (.slice none 0 0) fun t2 =>
  o1 Tryz.prog (Instr.loadAt 29 t1) w fun t3 w =>
  C Tryz.prog N.types_encode_api_Commit #[t3, .func (.func 71) #[] #[]] w fun t4 w =>
  mv t4 fun t2_1 =>
  k t2_1 w
theorem C.types_EncodeCommit {k : Value → World → Prop} {a0 : Value} {w : World} (h : F.types_EncodeCommit k a0 w) : C Tryz.prog N.types_EncodeCommit #[a0] w k :=
  den_calls (H := { moves := [], vars := [2] }) (args := [a0]) mixed Tryz.func18 (by kernel_rfl) (by kernel_rfl) (by kernel_rfl) h

-- isthmus/isthmusref11.Commit
def F.isthmusref11_Commit (k : Value → World → Prop) (a0 a1 : Value) (w : World) : Prop :=
  o1 Tryz.prog (Instr.box 29 a1) w fun t3 w =>
  mv (.slice none 0 0) fun t4 =>
  dr w.drew fun S1 =>
  mv a0 fun t6 =>
  tk Tryz.prog S1 (Instr.fieldAt 29 t3 0) fun t7 =>
  tk Tryz.prog S1 (Instr.loadAt 3 t7) fun t8 =>
  tk Tryz.prog S1 (Instr.fieldAt 29 t3 1) fun t10 =>
  tk Tryz.prog S1 (Instr.loadAt 3 t10) fun t11 =>
  tk Tryz.prog S1 (Instr.fieldAt 29 t3 2) fun t13 =>
  tk Tryz.prog S1 (Instr.loadAt 23 t13) fun t14 =>
  tk Tryz.prog S1 (Instr.fieldAt 29 t3 3) fun t16 =>
  tk Tryz.prog S1 (Instr.loadAt 27 t16) fun t17 =>
  tk Tryz.prog S1 (Builtin.len_ #[27] 3 #[t17]) fun t18 =>
  tk Tryz.prog S1 (convert 3 105 t18) fun t19 =>
  C Tryz.prog N.isthmusref02_Int #[t6, t8] w.drew fun t9 w =>
  S1 w ∧
  C Tryz.prog N.isthmusref02_Int #[t9, t11] w fun t12 w =>
  S1 w ∧
  C Tryz.prog N.isthmusref02_Hash #[t12, t14] w fun t15 w =>
  S1 w ∧
  C Tryz.prog N.isthmusref02_Uint #[t15, t19] w fun t20 w =>
  S1 w ∧
  mv t20 fun t0 =>
  mv (.int .i64 0) fun t5 =>
  lp [t0, t5] w fun I1 μ1 => ∀ (x1 : Env) (w1 : World), I1 [x1 0, x1 5] w1 →
  mv (x1 5) fun t21 =>
  o1 Tryz.prog (Instr.fieldAt 29 t3 3) w1 fun t22 w =>
  o1 Tryz.prog (Instr.loadAt 27 t22) w fun t23 w =>
  o1 Tryz.prog (Builtin.len_ #[27] 3 #[t23]) w fun t24 w =>
  o1 Tryz.prog (bin .lss 3 (.tmp 21) (.tmp 24) t21 t24) w fun t25 w =>
  br t25 (fun _ =>
  mv (x1 0) fun t28 =>
  o1 Tryz.prog (Instr.fieldAt 29 t3 3) w fun t29 w =>
  o1 Tryz.prog (Instr.loadAt 27 t29) w fun t30 w =>
  mv (x1 5) fun t31 =>
  o1 Tryz.prog (Instr.indexAt 27 t30 t31) w fun t32 w =>
  o1 Tryz.prog (Instr.loadAt 49 t32) w fun t33 w =>
  C Tryz.prog N.isthmusref11_Vote #[t28, t33] w fun t34 w =>
  mv t34 fun t0_1 =>
  mv (x1 5) fun t26 =>
  o1 Tryz.prog (bin .add 3 (.tmp 26) (.const (.int .i64 1)) t26 (.int .i64 1)) w fun t27 w =>
  mv t27 fun t5_1 =>
  I1 [t0_1, t5_1] w ∧ μ1 [t0_1, t5_1] w < μ1 [x1 0, x1 5] w1) (fun _ =>
  mv (x1 0) fun t35 =>
  mv t35 fun t4_1 =>
  k t4_1 w)
theorem C.isthmusref11_Commit {k : Value → World → Prop} {a0 a1 : Value} {w : World} (h : F.isthmusref11_Commit k a0 a1 w) : C Tryz.prog N.isthmusref11_Commit #[a0, a1] w k :=
  den_calls (H := { moves := [(1, (.take 0 (.take 1 (.take 2 (.take 4 (.take 5 (.take 7 (.take 8 (.take 10 (.take 11 (.take 12 (.take 13 (.force 3 (.force 6 (.force 9 (.force 14 (.take 15 .fin)))))))))))))))))], vars := [0, 4, 5] }) (args := [a0, a1]) mixed Tryz.func19 (by kernel_rfl) (by kernel_rfl) (by kernel_rfl) h

-- isthmus/isthmuslaw11.sure
def F.isthmuslaw11_sure (k : Value → World → Prop) (w : World) : Prop :=
  mv (.bool false) fun t0 =>
  o1 Tryz.prog (Instr.build 76 #[(0, .string ⟨#[97]⟩), (2, .int .i64 3)]) w fun t2 w =>
  o1 Tryz.prog (Instr.build 76 #[(0, .string ⟨#[98]⟩), (2, .int .i64 1)]) w fun t3 w =>
  o1 Tryz.prog (Instr.buildSlice 70 2 #[(0, t2), (1, t3)]) w fun t4 w =>
  mv t4 fun t1 =>
  mv t1 fun t5 =>
  C Tryz.prog N.types_CheckSet #[t5] w fun t6 w =>
  o1 Tryz.prog (bin .eql 34 (.tmp 6) (.const .nilIface) t6 .nilIface) w fun t7 w =>
  mv t7 fun t8 =>
  gd t8 true (fun k1 => mv t1 fun v => k1 v w) w fun t9 w =>
  gd t8 true (fun k2 => C Tryz.prog N.types_Total #[t9] w k2) w fun t10 w =>
  gd t8 true (fun k3 => o1 Tryz.prog (bin .eql 3 (.tmp 10) (.const (.int .i64 4)) t10 (.int .i64 4)) w k3) w fun t11 w =>
  pk t8 t11 (.bool false) fun t12 =>
  mv t12 fun t13 =>
  gd t13 true (fun k4 => mv t1 fun v => k4 v w) w fun t14 w =>
  gd t13 true (fun k5 => mv t1 fun v => k5 v w) w fun t15 w =>
  gd t13 true (fun k6 => o1 Tryz.prog (Instr.build 49 #[(4, .int .i64 1)]) w k6) w fun t16 w =>
  gd t13 true (fun k7 => o1 Tryz.prog (Instr.buildSlice 27 1 #[(0, t16)]) w k7) w fun t17 w =>
  gd t13 true (fun k8 => o1 Tryz.prog (Instr.build 29 #[(3, t17)]) w k8) w fun t18 w =>
  gd t13 true (fun k9 => C Tryz.prog N.types_VerifyTrust #[t14, t15, t18] w k9) w fun t19 w =>
  gd t13 true (fun k10 => C Tryz.prog N.isthmuslaw11_num #[t19] w k10) w fun t20 w =>
  gd t13 true (fun k11 => o1 Tryz.prog (bin .eql 3 (.tmp 20) (.const (.int .i64 32)) t20 (.int .i64 32)) w k11) w fun t21 w =>
  pk t13 t21 (.bool false) fun t22 =>
  mv t22 fun t23 =>
  gd t23 true (fun k12 => mv t1 fun v => k12 v w) w fun t24 w =>
  gd t23 true (fun k13 => mv t1 fun v => k13 v w) w fun t25 w =>
  gd t23 true (fun k14 => o1 Tryz.prog (Instr.build 49 #[(4, .int .i64 0)]) w k14) w fun t26 w =>
  gd t23 true (fun k15 => o1 Tryz.prog (Instr.buildSlice 27 1 #[(0, t26)]) w k15) w fun t27 w =>
  gd t23 true (fun k16 => o1 Tryz.prog (Instr.build 29 #[(3, t27)]) w k16) w fun t28 w =>
  gd t23 true (fun k17 => C Tryz.prog N.types_VerifyTrust #[t24, t25, t28] w k17) w fun t29 w =>
  gd t23 true (fun k18 => o1 Tryz.prog (bin .eql 34 (.tmp 29) (.const .nilIface) t29 .nilIface) w k18) w fun t30 w =>
  pk t23 t30 (.bool false) fun t31 =>
  mv t31 fun t0_1 =>
  k t0_1 w
theorem C.isthmuslaw11_sure {k : Value → World → Prop} {w : World} (h : F.isthmuslaw11_sure k  w) : C Tryz.prog N.isthmuslaw11_sure #[] w k :=
  den_calls (H := { moves := [], vars := [0, 1] }) (args := []) mixed Tryz.func20 (by kernel_rfl) (by kernel_rfl) (by kernel_rfl) h

-- isthmus/types.DecodeVote
-- isthmus/isthmusref11.DecodeVote
-- isthmus/types.DecodeCommit
-- isthmus/isthmusref11.DecodeCommit
-- isthmus/types.DecodeHeader
-- isthmus/isthmusref11.DecodeHeader
-- isthmus/types.DecodeBlock
-- isthmus/isthmusref11.DecodeBlock
-- isthmus/isthmuslaw11.votes
-- isthmus/isthmuslaw11.commit
-- isthmus/isthmuslaw11.lists
-- isthmus/types.DecodeSet
-- isthmus/isthmusref11.DecodeSet
-- isthmus/types.CheckSet
def F.types_CheckSet (k : Value → World → Prop) (a0 : Value) (w : World) : Prop :=
  mv .nilIface fun t2 =>
  mv a0 fun t7 =>
  o1 Tryz.prog (Builtin.len_ #[70] 3 #[t7]) w fun t8 w =>
  o1 Tryz.prog (bin .eql 3 (.tmp 8) (.const (.int .i64 0)) t8 (.int .i64 0)) w fun t9 w =>
  mv t9 fun t10 =>
  gd t10 false (fun k1 => mv a0 fun v => k1 v w) w fun t11 w =>
  gd t10 false (fun k2 => o1 Tryz.prog (Builtin.len_ #[70] 3 #[t11]) w k2) w fun t12 w =>
  gd t10 false (fun k3 => o1 Tryz.prog (bin .gtr 3 (.tmp 12) (.const (.int .i64 32)) t12 (.int .i64 32)) w k3) w fun t13 w =>
  pk t10 (.bool true) t13 fun t14 =>
  br t14 (fun _ =>
  C Tryz.prog N.types_fault #[.string ⟨#[115, 101, 116]⟩, .int .i64 30] w fun t15 w =>
  mv t15 fun t2_1 =>
  k t2_1 w) (fun _ =>
  mv (.int .i64 1099511627776) fun t3 =>
  mv a0 fun t16 =>
  o1 Tryz.prog (Builtin.len_ #[70] 3 #[t16]) w fun t17 w =>
  mv (.int .i64 0) fun t18 =>
  lp [t2, t3, undef, undef, t18] w fun I1 μ1 => ∀ (x1 : Env) (w1 : World), I1 [x1 2, x1 3, x1 4, x1 6, x1 18] w1 →
  o1 Tryz.prog (bin .lss 3 (.tmp 18) (.tmp 17) (x1 18) t17) w1 fun t19 w =>
  br t19 (fun _ =>
  mv (x1 18) fun t20 =>
  o1 Tryz.prog (Instr.indexAt 70 t16 (x1 18)) w fun t21 w =>
  o1 Tryz.prog (Instr.loadAt 76 t21) w fun t22 w =>
  o1 Tryz.prog (Instr.alloc 76 true (.tuple #[])) w fun t5 w =>
  mv t20 fun t4 =>
  o0 Tryz.prog (Instr.storeAt 76 t5 t22) w fun _ w =>
  mv a0 fun t23 =>
  mv t4 fun t24 =>
  o1 Tryz.prog (Instr.sliceAt 70 t23 none (some t24) none) w fun t25 w =>
  o1 Tryz.prog (Instr.makeFunc (.func 92) #[] #[t5]) w fun t26 w =>
  C Tryz.prog N.slices_ContainsFunc_api_Validator_api_Validator #[t25, t26] w fun t27 w =>
  mv t27 fun t6 =>
  o1 Tryz.prog (Instr.fieldAt 76 t5 0) w fun t28 w =>
  o1 Tryz.prog (Instr.loadAt 9 t28) w fun t29 w =>
  C Tryz.prog N.types_named #[t29] w fun t30 w =>
  o1 Tryz.prog (Op.unary .not t30) w fun t31 w =>
  mv t31 fun t32 =>
  gd t32 false (fun k4 => mv t6 fun v => k4 v w) w fun t33 w =>
  pk t32 (.bool true) t33 fun t34 =>
  mv t34 fun t35 =>
  gd t35 false (fun k5 => o1 Tryz.prog (Instr.fieldAt 76 t5 2) w k5) w fun t36 w =>
  gd t35 false (fun k6 => o1 Tryz.prog (Instr.loadAt 3 t36) w k6) w fun t37 w =>
  gd t35 false (fun k7 => o1 Tryz.prog (bin .lss 3 (.tmp 37) (.const (.int .i64 1)) t37 (.int .i64 1)) w k7) w fun t38 w =>
  pk t35 (.bool true) t38 fun t39 =>
  mv t39 fun t40 =>
  gd t40 false (fun k8 => o1 Tryz.prog (Instr.fieldAt 76 t5 2) w k8) w fun t41 w =>
  gd t40 false (fun k9 => o1 Tryz.prog (Instr.loadAt 3 t41) w k9) w fun t42 w =>
  gd t40 false (fun k10 => mv (x1 3) fun v => k10 v w) w fun t43 w =>
  gd t40 false (fun k11 => o1 Tryz.prog (bin .gtr 3 (.tmp 42) (.tmp 43) t42 t43) w k11) w fun t44 w =>
  pk t40 (.bool true) t44 fun t45 =>
  br t45 (fun _ =>
  C Tryz.prog N.types_fault #[.string ⟨#[118, 97, 108, 105, 100, 97, 116, 111, 114]⟩, .int .i64 30] w fun t46 w =>
  mv t46 fun t2_2 =>
  k t2_2 w) (fun _ =>
  mv (x1 3) fun t47 =>
  o1 Tryz.prog (Instr.fieldAt 76 t5 2) w fun t48 w =>
  o1 Tryz.prog (Instr.loadAt 3 t48) w fun t49 w =>
  o1 Tryz.prog (bin .sub 3 (.tmp 47) (.tmp 49) t47 t49) w fun t50 w =>
  mv t50 fun t3_1 =>
  o1 Tryz.prog (bin .add 3 (.tmp 18) (.const (.int .i64 1)) (x1 18) (.int .i64 1)) w fun t51 w =>
  mv t51 fun t18_1 =>
  I1 [(x1 2), t3_1, t4, t6, t18_1] w ∧ μ1 [(x1 2), t3_1, t4, t6, t18_1] w < μ1 [x1 2, x1 3, x1 4, x1 6, x1 18] w1)) (fun _ =>
  mv .nilIface fun t2_3 =>
  k t2_3 w))
theorem C.types_CheckSet {k : Value → World → Prop} {a0 : Value} {w : World} (h : F.types_CheckSet k a0 w) : C Tryz.prog N.types_CheckSet #[a0] w k :=
  den_calls (H := { moves := [], vars := [2, 3, 4, 6, 18] }) (args := [a0]) mixed Tryz.func34 (by kernel_rfl) (by kernel_rfl) (by kernel_rfl) h

-- isthmus/isthmusref11.CheckSet
end Go.Proofs.YtlfelmikcdmkhaaGreatDoor
