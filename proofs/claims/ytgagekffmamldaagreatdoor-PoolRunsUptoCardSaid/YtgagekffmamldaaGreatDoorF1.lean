/- What each function asks: printed by hoas.py off the loaded program; each is held against the program by the kernel. -/
import Derived.Test.YtgagekffmamldaaGreatDoorN
set_option linter.unusedVariables false
set_option linter.unusedSimpArgs false
set_option linter.unusedSectionVars false
namespace Go.Proofs.YtgagekffmamldaaGreatDoor
open Go Go.Isk
set_option maxRecDepth 100000
-- isthmus/isthmusref18.Add
def F.isthmusref18_Add (k : Value → World → Prop) (a0 a1 a2 : Value) (w : World) : Prop :=
  o1 Tryz.prog (Instr.box 33 a0) w fun t3 w =>
  o1 Tryz.prog (Instr.alloc 33 true (.tuple #[])) w fun t6 w =>
  mv (.slice none 0 0) fun t7 =>
  mv (.int .i64 0) fun t8 =>
  mv a1 fun t15 =>
  o1 Tryz.prog (bin .eql 9 (.tmp 15) (.const (.string ⟨#[]⟩)) t15 (.string ⟨#[]⟩)) w fun t16 w =>
  mv t16 fun t17 =>
  gd t17 false (fun k1 => mv a2 fun v => k1 v w) w fun t18 w =>
  gd t17 false (fun k2 => o1 Tryz.prog (bin .lss 3 (.tmp 18) (.const (.int .i64 0)) t18 (.int .i64 0)) w k2) w fun t19 w =>
  pk t17 (.bool true) t19 fun t20 =>
  br t20 (fun _ =>
  o1 Tryz.prog (Instr.loadAt 33 t3) w fun t21 w =>
  o0 Tryz.prog (Instr.storeAt 33 t6 t21) w fun _ w =>
  mv (.slice none 0 0) fun t7_1 =>
  mv (.int .i64 1) fun t8_1 =>
  rc Tryz.prog 33 t6 w fun r0 =>
  k (.tuple #[r0, t7_1, t8_1]) w) (fun _ =>
  mv a1 fun t22 =>
  o1 Tryz.prog (convert 9 38 t22) w fun t23 w =>
  C Tryz.prog N.isthmusref15_Hash #[t23] w fun t24 w =>
  o1 Tryz.prog (Instr.alloc 43 true (.tuple #[])) w fun t9 w =>
  o0 Tryz.prog (Instr.storeAt 43 t9 t24) w fun _ w =>
  o1 Tryz.prog (Instr.loadAt 33 t3) w fun t25 w =>
  o1 Tryz.prog (Instr.loadAt 43 t9) w fun t26 w =>
  C Tryz.prog N.isthmusref18_Knows #[t25, t26] w fun t27 w =>
  br t27 (fun _ =>
  o1 Tryz.prog (Instr.loadAt 33 t3) w fun t28 w =>
  o0 Tryz.prog (Instr.storeAt 33 t6 t28) w fun _ w =>
  mv (.slice none 0 0) fun t7_2 =>
  mv (.int .i64 9) fun t8_2 =>
  rc Tryz.prog 33 t6 w fun r0 =>
  k (.tuple #[r0, t7_2, t8_2]) w) (fun _ =>
  mv a1 fun t29 =>
  o1 Tryz.prog (Builtin.len_ #[9] 3 #[t29]) w fun t30 w =>
  o1 Tryz.prog (Instr.fieldAt 33 t3 1) w fun t31 w =>
  o1 Tryz.prog (Instr.loadAt 3 t31) w fun t32 w =>
  o1 Tryz.prog (bin .gtr 3 (.tmp 30) (.tmp 32) t30 t32) w fun t33 w =>
  br t33 (fun _ =>
  o1 Tryz.prog (Instr.loadAt 33 t3) w fun t34 w =>
  o0 Tryz.prog (Instr.storeAt 33 t6 t34) w fun _ w =>
  mv (.slice none 0 0) fun t7_3 =>
  mv (.int .i64 2) fun t8_3 =>
  rc Tryz.prog 33 t6 w fun r0 =>
  k (.tuple #[r0, t7_3, t8_3]) w) (fun _ =>
  o1 Tryz.prog (Instr.fieldAt 33 t3 3) w fun t35 w =>
  o1 Tryz.prog (Instr.loadAt 30 t35) w fun t36 w =>
  mv t36 fun t10 =>
  mv (.slice none 0 0) fun t11 =>
  lp [t7, t8, t10, t11] w fun I1 μ1 => ∀ (x1 : Env) (w1 : World), I1 [x1 7, x1 8, x1 10, x1 11] w1 →
  dr w1.drew fun S1 =>
  mv (x1 10) fun t37 =>
  tk Tryz.prog S1 (Builtin.len_ #[30] 3 #[t37]) fun t38 =>
  tk Tryz.prog S1 (Instr.fieldAt 33 t3 0) fun t39 =>
  tk Tryz.prog S1 (Instr.loadAt 3 t39) fun t40 =>
  tk Tryz.prog S1 (bin .geq 3 (.tmp 38) (.tmp 40) t38 t40) fun t41 =>
  mv t41 fun t42 =>
  gdT t42 false (fun k3 => mv (x1 10) k3) fun t43 =>
  gdT t42 false (fun k4 => mv a1 k4) fun t45 =>
  gdT t42 false (fun k5 => tk Tryz.prog S1 (Builtin.len_ #[9] 3 #[t45]) k5) fun t46 =>
  gdT t42 false (fun k6 => tk Tryz.prog S1 (Instr.fieldAt 33 t3 1) k6) fun t48 =>
  gdT t42 false (fun k7 => tk Tryz.prog S1 (Instr.loadAt 3 t48) k7) fun t49 =>
  gd t42 false (fun k8 => C Tryz.prog N.isthmusref18_Size #[t43] w1.drew k8) w1.drew fun t44 w =>
  S1 w ∧
  gdT t42 false (fun k9 => tk Tryz.prog S1 (bin .add 3 (.tmp 44) (.tmp 46) t44 t46) k9) fun t47 =>
  gdT t42 false (fun k10 => tk Tryz.prog S1 (bin .gtr 3 (.tmp 47) (.tmp 49) t47 t49) k10) fun t50 =>
  pk t42 (.bool true) t50 fun t51 =>
  br t51 (fun _ =>
  mv (x1 10) fun t52 =>
  mv (x1 10) fun t53 =>
  o1 Tryz.prog (Builtin.len_ #[30] 3 #[t53]) w fun t54 w =>
  o1 Tryz.prog (bin .sub 3 (.tmp 54) (.const (.int .i64 1)) t54 (.int .i64 1)) w fun t55 w =>
  o1 Tryz.prog (Instr.indexAt 30 t52 t55) w fun t56 w =>
  o1 Tryz.prog (Instr.loadAt 86 t56) w fun t57 w =>
  o1 Tryz.prog (Instr.alloc 86 true (.tuple #[])) w fun t12 w =>
  o0 Tryz.prog (Instr.storeAt 86 t12 t57) w fun _ w =>
  o1 Tryz.prog (Instr.fieldAt 86 t12 1) w fun t58 w =>
  o1 Tryz.prog (Instr.loadAt 3 t58) w fun t59 w =>
  mv a2 fun t60 =>
  o1 Tryz.prog (bin .geq 3 (.tmp 59) (.tmp 60) t59 t60) w fun t61 w =>
  br t61 (fun _ =>
  o1 Tryz.prog (Instr.loadAt 33 t3) w fun t62 w =>
  o0 Tryz.prog (Instr.storeAt 33 t6 t62) w fun _ w =>
  mv (.slice none 0 0) fun t7_4 =>
  mv (.int .i64 10) fun t8_4 =>
  rc Tryz.prog 33 t6 w fun r0 =>
  k (.tuple #[r0, t7_4, t8_4]) w) (fun _ =>
  mv (x1 11) fun t63 =>
  o1 Tryz.prog (Instr.fieldAt 86 t12 0) w fun t64 w =>
  o1 Tryz.prog (Instr.loadAt 9 t64) w fun t65 w =>
  o1 Tryz.prog (convert 9 38 t65) w fun t66 w =>
  C Tryz.prog N.isthmusref15_Hash #[t66] w fun t67 w =>
  o1 Tryz.prog (Instr.buildSlice 31 1 #[(0, t67)]) w fun t68 w =>
  ob Tryz.prog (fun _ => Builtin.append_ #[31, 31] 31 #[t63, t68]) w fun t69 w =>
  mv t69 fun t11_1 =>
  mv (x1 10) fun t70 =>
  mv (x1 10) fun t71 =>
  o1 Tryz.prog (Builtin.len_ #[30] 3 #[t71]) w fun t72 w =>
  o1 Tryz.prog (bin .sub 3 (.tmp 72) (.const (.int .i64 1)) t72 (.int .i64 1)) w fun t73 w =>
  o1 Tryz.prog (Instr.sliceAt 30 t70 none (some t73) none) w fun t74 w =>
  mv t74 fun t10_1 =>
  I1 [(x1 7), (x1 8), t10_1, t11_1] w ∧ μ1 [(x1 7), (x1 8), t10_1, t11_1] w < μ1 [x1 7, x1 8, x1 10, x1 11] w1)) (fun _ =>
  mv (.int .i64 0) fun t13 =>
  lp [t13] w fun I2 μ2 => ∀ (x2 : Env) (w2 : World), I2 [x2 13] w2 →
  mv (x2 13) fun t75 =>
  mv (x1 10) fun t76 =>
  o1 Tryz.prog (Builtin.len_ #[30] 3 #[t76]) w2 fun t77 w =>
  o1 Tryz.prog (bin .lss 3 (.tmp 75) (.tmp 77) t75 t77) w fun t78 w =>
  mv t78 fun t79 =>
  gd t79 true (fun k11 => mv (x1 10) fun v => k11 v w) w fun t80 w =>
  gd t79 true (fun k12 => mv (x2 13) fun v => k12 v w) w fun t81 w =>
  gd t79 true (fun k13 => o1 Tryz.prog (Instr.indexAt 30 t80 t81) w k13) w fun t82 w =>
  gd t79 true (fun k14 => o1 Tryz.prog (Instr.fieldAt 86 t82 1) w k14) w fun t83 w =>
  gd t79 true (fun k15 => o1 Tryz.prog (Instr.loadAt 3 t83) w k15) w fun t84 w =>
  gd t79 true (fun k16 => mv a2 fun v => k16 v w) w fun t85 w =>
  gd t79 true (fun k17 => o1 Tryz.prog (bin .geq 3 (.tmp 84) (.tmp 85) t84 t85) w k17) w fun t86 w =>
  pk t79 t86 (.bool false) fun t87 =>
  br t87 (fun _ =>
  mv (x2 13) fun t88 =>
  o1 Tryz.prog (bin .add 3 (.tmp 88) (.const (.int .i64 1)) t88 (.int .i64 1)) w fun t89 w =>
  mv t89 fun t13_1 =>
  I2 [t13_1] w ∧ μ2 [t13_1] w < μ2 [x2 13] w2) (fun _ =>
  mv (.slice none 0 0) fun t14 =>
  mv t14 fun t90 =>
  mv (x1 10) fun t91 =>
  mv (x2 13) fun t92 =>
  o1 Tryz.prog (Instr.sliceAt 30 t91 none (some t92) none) w fun t93 w =>
  ob Tryz.prog (fun _ => Builtin.append_ #[30, 30] 30 #[t90, t93]) w fun t94 w =>
  mv a1 fun t95 =>
  mv a2 fun t96 =>
  o1 Tryz.prog (Instr.build 86 #[(0, t95), (1, t96)]) w fun t97 w =>
  o1 Tryz.prog (Instr.buildSlice 30 1 #[(0, t97)]) w fun t98 w =>
  ob Tryz.prog (fun _ => Builtin.append_ #[30, 30] 30 #[t94, t98]) w fun t99 w =>
  mv t99 fun t14_1 =>
  mv t14_1 fun t100 =>
  mv (x1 10) fun t101 =>
  mv (x2 13) fun t102 =>
  o1 Tryz.prog (Instr.sliceAt 30 t101 (some t102) none none) w fun t103 w =>
  ob Tryz.prog (fun _ => Builtin.append_ #[30, 30] 30 #[t100, t103]) w fun t104 w =>
  o1 Tryz.prog (Instr.fieldAt 33 t3 3) w fun t105 w =>
  o0 Tryz.prog (Instr.storeAt 30 t105 t104) w fun _ w =>
  o1 Tryz.prog (Instr.loadAt 33 t3) w fun t106 w =>
  o1 Tryz.prog (Instr.loadAt 43 t9) w fun t107 w =>
  C Tryz.prog N.isthmusref18_remember #[t106, t107] w fun t108 w =>
  mv (x1 11) fun t109 =>
  o0 Tryz.prog (Instr.storeAt 33 t6 t108) w fun _ w =>
  mv t109 fun t7_5 =>
  mv (.int .i64 0) fun t8_5 =>
  rc Tryz.prog 33 t6 w fun r0 =>
  k (.tuple #[r0, t7_5, t8_5]) w)))))
theorem C.isthmusref18_Add {k : Value → World → Prop} {a0 a1 a2 : Value} {w : World} (h : F.isthmusref18_Add k a0 a1 a2 w) : C Tryz.prog N.isthmusref18_Add #[a0, a1, a2] w k :=
  den_calls (H := { moves := [(10, (.take 0 (.take 1 (.take 2 (.take 3 (.take 4 (.take 5 (.take 6 (.take 8 (.take 9 (.take 11 (.take 12 (.force 7 (.take 10 (.take 13 (.take 14 .fin))))))))))))))))], vars := [7, 8, 10, 11, 13, 14] }) (args := [a0, a1, a2]) mixed Tryz.func19 (by kernel_rfl) (by kernel_rfl) (by kernel_rfl) h

-- isthmus/isthmuslaw18.hashes
def F.isthmuslaw18_hashes (k : Value → World → Prop) (a0 a1 : Value) (w : World) : Prop :=
  mv (.bool false) fun t4 =>
  mv a0 fun t6 =>
  o1 Tryz.prog (Builtin.len_ #[31] 3 #[t6]) w fun t7 w =>
  mv a1 fun t8 =>
  o1 Tryz.prog (Builtin.len_ #[31] 3 #[t8]) w fun t9 w =>
  o1 Tryz.prog (bin .neq 3 (.tmp 7) (.tmp 9) t7 t9) w fun t10 w =>
  br t10 (fun _ =>
  mv (.bool false) fun t4_1 =>
  k t4_1 w) (fun _ =>
  mv (.int .i64 0) fun t5 =>
  lp [t4, t5] w fun I1 μ1 => ∀ (x1 : Env) (w1 : World), I1 [x1 4, x1 5] w1 →
  mv (x1 5) fun t11 =>
  mv a0 fun t12 =>
  o1 Tryz.prog (Builtin.len_ #[31] 3 #[t12]) w1 fun t13 w =>
  o1 Tryz.prog (bin .lss 3 (.tmp 11) (.tmp 13) t11 t13) w fun t14 w =>
  br t14 (fun _ =>
  mv a0 fun t17 =>
  mv (x1 5) fun t18 =>
  tk Tryz.prog (fun w' => w' = w.drew) (Instr.indexAt 31 t17 t18) fun t19 =>
  tk Tryz.prog (fun w' => w' = w.drew) (Instr.loadAt 43 t19) fun t20 =>
  mv a1 fun t21 =>
  mv (x1 5) fun t22 =>
  tk Tryz.prog (fun w' => w' = w.drew) (Instr.indexAt 31 t21 t22) fun t23 =>
  tk Tryz.prog (fun w' => w' = w.drew) (Instr.loadAt 43 t23) fun t24 =>
  tk Tryz.prog (fun w' => w' = w.drew) (bin .neq 43 (.tmp 20) (.tmp 24) t20 t24) fun t25 =>
  br t25 (fun _ =>
  mv (.bool false) fun t4_2 =>
  k t4_2 w.drew) (fun _ =>
  mv (x1 5) fun t15 =>
  o1 Tryz.prog (bin .add 3 (.tmp 15) (.const (.int .i64 1)) t15 (.int .i64 1)) w.drew fun t16 w =>
  mv t16 fun t5_1 =>
  I1 [(x1 4), t5_1] w ∧ μ1 [(x1 4), t5_1] w < μ1 [x1 4, x1 5] w1)) (fun _ =>
  mv (.bool true) fun t4_3 =>
  k t4_3 w))
theorem C.isthmuslaw18_hashes {k : Value → World → Prop} {a0 a1 : Value} {w : World} (h : F.isthmuslaw18_hashes k a0 a1 w) : C Tryz.prog N.isthmuslaw18_hashes #[a0, a1] w k :=
  den_calls (H := { moves := [(6, (.take 0 (.take 1 (.take 2 (.take 3 (.take 4 (.take 5 (.take 6 (.take 7 (.take 8 .fin))))))))))], vars := [4, 5] }) (args := [a0, a1]) mixed Tryz.func20 (by kernel_rfl) (by kernel_rfl) (by kernel_rfl) h

-- isthmus/isthmuslaw18.texts
def F.isthmuslaw18_texts (k : Value → World → Prop) (a0 a1 : Value) (w : World) : Prop :=
  mv (.bool false) fun t4 =>
  mv a0 fun t6 =>
  o1 Tryz.prog (Builtin.len_ #[46] 3 #[t6]) w fun t7 w =>
  mv a1 fun t8 =>
  o1 Tryz.prog (Builtin.len_ #[59] 3 #[t8]) w fun t9 w =>
  o1 Tryz.prog (bin .neq 3 (.tmp 7) (.tmp 9) t7 t9) w fun t10 w =>
  br t10 (fun _ =>
  mv (.bool false) fun t4_1 =>
  k t4_1 w) (fun _ =>
  mv (.int .i64 0) fun t5 =>
  lp [t4, t5] w fun I1 μ1 => ∀ (x1 : Env) (w1 : World), I1 [x1 4, x1 5] w1 →
  mv (x1 5) fun t11 =>
  mv a0 fun t12 =>
  o1 Tryz.prog (Builtin.len_ #[46] 3 #[t12]) w1 fun t13 w =>
  o1 Tryz.prog (bin .lss 3 (.tmp 11) (.tmp 13) t11 t13) w fun t14 w =>
  br t14 (fun _ =>
  mv a0 fun t17 =>
  mv (x1 5) fun t18 =>
  tk Tryz.prog (fun w' => w' = w.drew) (Instr.indexAt 46 t17 t18) fun t19 =>
  tk Tryz.prog (fun w' => w' = w.drew) (Instr.loadAt 38 t19) fun t20 =>
  tk Tryz.prog (fun w' => w' = w.drew) (convert 38 9 t20) fun t21 =>
  mv a1 fun t22 =>
  mv (x1 5) fun t23 =>
  tk Tryz.prog (fun w' => w' = w.drew) (Instr.indexAt 59 t22 t23) fun t24 =>
  tk Tryz.prog (fun w' => w' = w.drew) (Instr.loadAt 9 t24) fun t25 =>
  tk Tryz.prog (fun w' => w' = w.drew) (bin .neq 9 (.tmp 21) (.tmp 25) t21 t25) fun t26 =>
  br t26 (fun _ =>
  mv (.bool false) fun t4_2 =>
  k t4_2 w.drew) (fun _ =>
  mv (x1 5) fun t15 =>
  o1 Tryz.prog (bin .add 3 (.tmp 15) (.const (.int .i64 1)) t15 (.int .i64 1)) w.drew fun t16 w =>
  mv t16 fun t5_1 =>
  I1 [(x1 4), t5_1] w ∧ μ1 [(x1 4), t5_1] w < μ1 [x1 4, x1 5] w1)) (fun _ =>
  mv (.bool true) fun t4_3 =>
  k t4_3 w))
theorem C.isthmuslaw18_texts {k : Value → World → Prop} {a0 a1 : Value} {w : World} (h : F.isthmuslaw18_texts k a0 a1 w) : C Tryz.prog N.isthmuslaw18_texts #[a0, a1] w k :=
  den_calls (H := { moves := [(6, (.take 0 (.take 1 (.take 2 (.take 3 (.take 4 (.take 5 (.take 6 (.take 7 (.take 8 (.take 9 .fin)))))))))))], vars := [4, 5] }) (args := [a0, a1]) mixed Tryz.func21 (by kernel_rfl) (by kernel_rfl) (by kernel_rfl) h

-- isthmus/isthmusref18.Take
def F.isthmusref18_Take (k : Value → World → Prop) (a0 a1 a2 : Value) (w : World) : Prop :=
  o1 Tryz.prog (Instr.box 33 a0) w fun t3 w =>
  mv (.slice none 0 0) fun t6 =>
  mv (.slice none 0 0) fun t7 =>
  mv (.int .i64 0) fun t8 =>
  mv (.int .i64 0) fun t9 =>
  jn (fun x1 => [x1 7, x1 8, x1 9]) (fun k1 =>
  lp [t7, t8, t9] w fun I2 μ2 => ∀ (x2 : Env) (w1 : World), I2 [x2 7, x2 8, x2 9] w1 →
  mv (x2 9) fun t10 =>
  o1 Tryz.prog (Instr.fieldAt 33 t3 3) w1 fun t11 w =>
  o1 Tryz.prog (Instr.loadAt 30 t11) w fun t12 w =>
  o1 Tryz.prog (Builtin.len_ #[30] 3 #[t12]) w fun t13 w =>
  o1 Tryz.prog (bin .lss 3 (.tmp 10) (.tmp 13) t10 t13) w fun t14 w =>
  mv t14 fun t15 =>
  gd t15 true (fun k2 => mv (x2 7) fun v => k2 v w) w fun t16 w =>
  gd t15 true (fun k3 => o1 Tryz.prog (Builtin.len_ #[59] 3 #[t16]) w k3) w fun t17 w =>
  gd t15 true (fun k4 => mv a1 fun v => k4 v w) w fun t18 w =>
  gd t15 true (fun k5 => o1 Tryz.prog (bin .lss 3 (.tmp 17) (.tmp 18) t17 t18) w k5) w fun t19 w =>
  pk t15 t19 (.bool false) fun t20 =>
  mv t20 fun t21 =>
  gd t21 true (fun k6 => mv a2 fun v => k6 v w) w fun t22 w =>
  gd t21 true (fun k7 => o1 Tryz.prog (bin .geq 3 (.tmp 22) (.const (.int .i64 0)) t22 (.int .i64 0)) w k7) w fun t23 w =>
  pk t21 t23 (.bool false) fun t24 =>
  br t24 (fun _ =>
  o1 Tryz.prog (Instr.fieldAt 33 t3 3) w fun t27 w =>
  o1 Tryz.prog (Instr.loadAt 30 t27) w fun t28 w =>
  mv (x2 9) fun t29 =>
  o1 Tryz.prog (Instr.indexAt 30 t28 t29) w fun t30 w =>
  o1 Tryz.prog (Instr.fieldAt 86 t30 0) w fun t31 w =>
  o1 Tryz.prog (Instr.loadAt 9 t31) w fun t32 w =>
  o1 Tryz.prog (Builtin.len_ #[9] 3 #[t32]) w fun t33 w =>
  mv a2 fun t34 =>
  mv (x2 8) fun t35 =>
  o1 Tryz.prog (bin .sub 3 (.tmp 34) (.tmp 35) t34 t35) w fun t36 w =>
  o1 Tryz.prog (bin .gtr 3 (.tmp 33) (.tmp 36) t33 t36) w fun t37 w =>
  br t37 (fun _ =>
  k1 [(x2 7), (x2 8), (x2 9)] w) (fun _ =>
  mv (x2 8) fun t38 =>
  o1 Tryz.prog (Instr.fieldAt 33 t3 3) w fun t39 w =>
  o1 Tryz.prog (Instr.loadAt 30 t39) w fun t40 w =>
  mv (x2 9) fun t41 =>
  o1 Tryz.prog (Instr.indexAt 30 t40 t41) w fun t42 w =>
  o1 Tryz.prog (Instr.fieldAt 86 t42 0) w fun t43 w =>
  o1 Tryz.prog (Instr.loadAt 9 t43) w fun t44 w =>
  o1 Tryz.prog (Builtin.len_ #[9] 3 #[t44]) w fun t45 w =>
  o1 Tryz.prog (bin .add 3 (.tmp 38) (.tmp 45) t38 t45) w fun t46 w =>
  mv t46 fun t8_1 =>
  mv (x2 7) fun t47 =>
  o1 Tryz.prog (Instr.fieldAt 33 t3 3) w fun t48 w =>
  o1 Tryz.prog (Instr.loadAt 30 t48) w fun t49 w =>
  mv (x2 9) fun t50 =>
  o1 Tryz.prog (Instr.indexAt 30 t49 t50) w fun t51 w =>
  o1 Tryz.prog (Instr.fieldAt 86 t51 0) w fun t52 w =>
  o1 Tryz.prog (Instr.loadAt 9 t52) w fun t53 w =>
  o1 Tryz.prog (Instr.buildSlice 59 1 #[(0, t53)]) w fun t54 w =>
  ob Tryz.prog (fun _ => Builtin.append_ #[59, 59] 59 #[t47, t54]) w fun t55 w =>
  mv t55 fun t7_1 =>
  mv (x2 9) fun t25 =>
  o1 Tryz.prog (bin .add 3 (.tmp 25) (.const (.int .i64 1)) t25 (.int .i64 1)) w fun t26 w =>
  mv t26 fun t9_1 =>
  I2 [t7_1, t8_1, t9_1] w ∧ μ2 [t7_1, t8_1, t9_1] w < μ2 [x2 7, x2 8, x2 9] w1)) (fun _ =>
  k1 [(x2 7), (x2 8), (x2 9)] w)) fun x1 w =>
  mv (x1 7) fun t56 =>
  mv t56 fun t6_1 =>
  k t6_1 w
theorem C.isthmusref18_Take {k : Value → World → Prop} {a0 a1 a2 : Value} {w : World} (h : F.isthmusref18_Take k a0 a1 a2 w) : C Tryz.prog N.isthmusref18_Take #[a0, a1, a2] w k :=
  den_calls (H := { moves := [], vars := [6, 7, 8, 9] }) (args := [a0, a1, a2]) mixed Tryz.func22 (by kernel_rfl) (by kernel_rfl) (by kernel_rfl) h

-- isthmus/isthmusref18.Size
def F.isthmusref18_Size (k : Value → World → Prop) (a0 : Value) (w : World) : Prop :=
  mv (.int .i64 0) fun t2 =>
  mv (.int .i64 0) fun t3 =>
  mv (.int .i64 0) fun t4 =>
  lp [t3, t4] w fun I1 μ1 => ∀ (x1 : Env) (w1 : World), I1 [x1 3, x1 4] w1 →
  mv (x1 4) fun t5 =>
  mv a0 fun t6 =>
  o1 Tryz.prog (Builtin.len_ #[30] 3 #[t6]) w1 fun t7 w =>
  o1 Tryz.prog (bin .lss 3 (.tmp 5) (.tmp 7) t5 t7) w fun t8 w =>
  br t8 (fun _ =>
  mv (x1 3) fun t11 =>
  mv a0 fun t12 =>
  mv (x1 4) fun t13 =>
  o1 Tryz.prog (Instr.indexAt 30 t12 t13) w fun t14 w =>
  o1 Tryz.prog (Instr.fieldAt 86 t14 0) w fun t15 w =>
  o1 Tryz.prog (Instr.loadAt 9 t15) w fun t16 w =>
  o1 Tryz.prog (Builtin.len_ #[9] 3 #[t16]) w fun t17 w =>
  o1 Tryz.prog (bin .add 3 (.tmp 11) (.tmp 17) t11 t17) w fun t18 w =>
  mv t18 fun t3_1 =>
  mv (x1 4) fun t9 =>
  o1 Tryz.prog (bin .add 3 (.tmp 9) (.const (.int .i64 1)) t9 (.int .i64 1)) w fun t10 w =>
  mv t10 fun t4_1 =>
  I1 [t3_1, t4_1] w ∧ μ1 [t3_1, t4_1] w < μ1 [x1 3, x1 4] w1) (fun _ =>
  mv (x1 3) fun t19 =>
  mv t19 fun t2_1 =>
  k t2_1 w)
theorem C.isthmusref18_Size {k : Value → World → Prop} {a0 : Value} {w : World} (h : F.isthmusref18_Size k a0 w) : C Tryz.prog N.isthmusref18_Size #[a0] w k :=
  den_calls (H := { moves := [], vars := [2, 3, 4] }) (args := [a0]) mixed Tryz.func23 (by kernel_rfl) (by kernel_rfl) (by kernel_rfl) h

-- isthmus/isthmusref18.Has
def F.isthmusref18_Has (k : Value → World → Prop) (a0 a1 : Value) (w : World) : Prop :=
  o1 Tryz.prog (Instr.box 33 a0) w fun t2 w =>
  o1 Tryz.prog (Instr.box 43 a1) w fun t3 w =>
  mv (.bool false) fun t4 =>
  mv (.int .i64 0) fun t5 =>
  lp [t4, t5] w fun I1 μ1 => ∀ (x1 : Env) (w1 : World), I1 [x1 4, x1 5] w1 →
  mv (x1 5) fun t6 =>
  o1 Tryz.prog (Instr.fieldAt 33 t2 3) w1 fun t7 w =>
  o1 Tryz.prog (Instr.loadAt 30 t7) w fun t8 w =>
  o1 Tryz.prog (Builtin.len_ #[30] 3 #[t8]) w fun t9 w =>
  o1 Tryz.prog (bin .lss 3 (.tmp 6) (.tmp 9) t6 t9) w fun t10 w =>
  br t10 (fun _ =>
  dr w.drew fun S1 =>
  tk Tryz.prog S1 (Instr.fieldAt 33 t2 3) fun t13 =>
  tk Tryz.prog S1 (Instr.loadAt 30 t13) fun t14 =>
  mv (x1 5) fun t15 =>
  tk Tryz.prog S1 (Instr.indexAt 30 t14 t15) fun t16 =>
  tk Tryz.prog S1 (Instr.fieldAt 86 t16 0) fun t17 =>
  tk Tryz.prog S1 (Instr.loadAt 9 t17) fun t18 =>
  tk Tryz.prog S1 (Instr.loadAt 43 t3) fun t21 =>
  o1 Tryz.prog (convert 9 38 t18) w.drew fun t19 w =>
  S1 w ∧
  C Tryz.prog N.isthmusref15_Hash #[t19] w fun t20 w =>
  S1 w ∧
  tk Tryz.prog S1 (bin .eql 43 (.tmp 20) (.tmp 21) t20 t21) fun t22 =>
  br t22 (fun _ =>
  mv (.bool true) fun t4_1 =>
  k t4_1 w) (fun _ =>
  mv (x1 5) fun t11 =>
  o1 Tryz.prog (bin .add 3 (.tmp 11) (.const (.int .i64 1)) t11 (.int .i64 1)) w fun t12 w =>
  mv t12 fun t5_1 =>
  I1 [(x1 4), t5_1] w ∧ μ1 [(x1 4), t5_1] w < μ1 [x1 4, x1 5] w1)) (fun _ =>
  mv (.bool false) fun t4_2 =>
  k t4_2 w)
theorem C.isthmusref18_Has {k : Value → World → Prop} {a0 a1 : Value} {w : World} (h : F.isthmusref18_Has k a0 a1 w) : C Tryz.prog N.isthmusref18_Has #[a0, a1] w k :=
  den_calls (H := { moves := [(4, (.take 0 (.take 1 (.take 2 (.take 3 (.take 4 (.take 5 (.take 8 (.force 6 (.force 7 (.take 9 .fin)))))))))))], vars := [4, 5] }) (args := [a0, a1]) mixed Tryz.func24 (by kernel_rfl) (by kernel_rfl) (by kernel_rfl) h

-- isthmus/isthmusref18.Knows
def F.isthmusref18_Knows (k : Value → World → Prop) (a0 a1 : Value) (w : World) : Prop :=
  o1 Tryz.prog (Instr.box 33 a0) w fun t2 w =>
  o1 Tryz.prog (Instr.box 43 a1) w fun t3 w =>
  mv (.bool false) fun t4 =>
  mv (.int .i64 0) fun t5 =>
  lp [t4, t5] w fun I1 μ1 => ∀ (x1 : Env) (w1 : World), I1 [x1 4, x1 5] w1 →
  mv (x1 5) fun t6 =>
  o1 Tryz.prog (Instr.fieldAt 33 t2 4) w1 fun t7 w =>
  o1 Tryz.prog (Instr.loadAt 31 t7) w fun t8 w =>
  o1 Tryz.prog (Builtin.len_ #[31] 3 #[t8]) w fun t9 w =>
  o1 Tryz.prog (bin .lss 3 (.tmp 6) (.tmp 9) t6 t9) w fun t10 w =>
  br t10 (fun _ =>
  tk Tryz.prog (fun w' => w' = w.drew) (Instr.fieldAt 33 t2 4) fun t13 =>
  tk Tryz.prog (fun w' => w' = w.drew) (Instr.loadAt 31 t13) fun t14 =>
  mv (x1 5) fun t15 =>
  tk Tryz.prog (fun w' => w' = w.drew) (Instr.indexAt 31 t14 t15) fun t16 =>
  tk Tryz.prog (fun w' => w' = w.drew) (Instr.loadAt 43 t16) fun t17 =>
  tk Tryz.prog (fun w' => w' = w.drew) (Instr.loadAt 43 t3) fun t18 =>
  tk Tryz.prog (fun w' => w' = w.drew) (bin .eql 43 (.tmp 17) (.tmp 18) t17 t18) fun t19 =>
  br t19 (fun _ =>
  mv (.bool true) fun t4_1 =>
  k t4_1 w.drew) (fun _ =>
  mv (x1 5) fun t11 =>
  o1 Tryz.prog (bin .add 3 (.tmp 11) (.const (.int .i64 1)) t11 (.int .i64 1)) w.drew fun t12 w =>
  mv t12 fun t5_1 =>
  I1 [(x1 4), t5_1] w ∧ μ1 [(x1 4), t5_1] w < μ1 [x1 4, x1 5] w1)) (fun _ =>
  o1 Tryz.prog (Instr.loadAt 33 t2) w fun t20 w =>
  o1 Tryz.prog (Instr.loadAt 43 t3) w fun t21 w =>
  C Tryz.prog N.isthmusref18_Has #[t20, t21] w fun t22 w =>
  mv t22 fun t4_2 =>
  k t4_2 w)
theorem C.isthmusref18_Knows {k : Value → World → Prop} {a0 a1 : Value} {w : World} (h : F.isthmusref18_Knows k a0 a1 w) : C Tryz.prog N.isthmusref18_Knows #[a0, a1] w k :=
  den_calls (H := { moves := [(4, (.take 0 (.take 1 (.take 2 (.take 3 (.take 4 (.take 5 (.take 6 .fin))))))))], vars := [4, 5] }) (args := [a0, a1]) mixed Tryz.func25 (by kernel_rfl) (by kernel_rfl) (by kernel_rfl) h

-- isthmus/pool.New$1
def F.pool_New_1 (k : Value → World → Prop) (a0 : Value) (w : World) : Prop :=
  mv (.bool false) fun t2 =>
  mv a0 fun t3 =>
  o1 Tryz.prog (bin .lss 3 (.tmp 3) (.const (.int .i64 1)) t3 (.int .i64 1)) w fun t4 w =>
  mv t4 fun t5 =>
  gd t5 false (fun k1 => mv a0 fun v => k1 v w) w fun t6 w =>
  gd t5 false (fun k2 => o1 Tryz.prog (bin .gtr 3 (.tmp 6) (.const (.int .i64 1048576)) t6 (.int .i64 1048576)) w k2) w fun t7 w =>
  pk t5 (.bool true) t7 fun t8 =>
  mv t8 fun t2_1 =>
  k t2_1 w
theorem C.pool_New_1 {k : Value → World → Prop} {a0 : Value} {w : World} (h : F.pool_New_1 k a0 w) : C Tryz.prog N.pool_New_1 #[a0] w k :=
  den_calls (H := { moves := [], vars := [2] }) (args := [a0]) mixed Tryz.func26 (by kernel_rfl) (by kernel_rfl) (by kernel_rfl) h

-- isthmus/pool.fault
def F.pool_fault (k : Value → World → Prop) (a0 a1 : Value) (w : World) : Prop :=
  mv .nilIface fun t4 =>
  mv a0 fun t5 =>
  mv a1 fun t6 =>
  o1 Tryz.prog (Instr.makeInterface 66 t6) w fun t7 w =>
  o1 Tryz.prog (Instr.build 89 #[(0, t5), (1, t7)]) w fun t8 w =>
  o1 Tryz.prog (Instr.box 89 t8) w fun t9 w =>
  o1 Tryz.prog (Instr.makeInterface 87 t9) w fun t10 w =>
  mv t10 fun t4_1 =>
  k t4_1 w
theorem C.pool_fault {k : Value → World → Prop} {a0 a1 : Value} {w : World} (h : F.pool_fault k a0 a1 w) : C Tryz.prog N.pool_fault #[a0, a1] w k :=
  den_calls (H := { moves := [], vars := [4] }) (args := [a0, a1]) mixed Tryz.func27 (by kernel_rfl) (by kernel_rfl) (by kernel_rfl) h

-- slices.Clone[[]byte,byte]
def F.slices_Clone_bytes (k : Value → World → Prop) (a0 : Value) (w : World) : Prop :=
  mv (.slice none 0 0) fun t2 =>
  mv a0 fun t3 =>
  o1 Tryz.prog (bin .eql 38 (.tmp 3) (.const (.slice none 0 0)) t3 (.slice none 0 0)) w fun t4 w =>
  br t4 (fun _ =>
  mv (.slice none 0 0) fun t2_1 =>
  k t2_1 w) (fun _ =>
  o1 Tryz.prog (Instr.buildSlice 38 0 #[]) w fun t5 w =>
  mv a0 fun t6 =>
  ob Tryz.prog (fun _ => Builtin.append_ #[38, 38] 38 #[t5, t6]) w fun t7 w =>
  mv t7 fun t2_2 =>
  k t2_2 w)
theorem C.slices_Clone_bytes {k : Value → World → Prop} {a0 : Value} {w : World} (h : F.slices_Clone_bytes k a0 w) : C Tryz.prog N.slices_Clone_bytes #[a0] w k :=
  den_calls (H := { moves := [], vars := [2] }) (args := [a0]) mixed Tryz.func28 (by kernel_rfl) (by kernel_rfl) (by kernel_rfl) h

-- isthmus/txs.Hash
def F.txs_Hash (k : Value → World → Prop) (a0 : Value) (w : World) : Prop :=
  o1 Tryz.prog (Instr.alloc 43 true (.tuple #[])) w fun t2 w =>
  o1 Tryz.prog (Instr.buildSlice 38 1 #[(0, .int .u8 9)]) w fun t3 w =>
  mv a0 fun t4 =>
  ob Tryz.prog (fun _ => Builtin.append_ #[38, 38] 38 #[t3, t4]) w fun t5 w =>
  C Tryz.prog N.sha_Sum #[t5] w fun t6 w =>
  o0 Tryz.prog (Instr.storeAt 43 t2 t6) w fun _ w =>
  rc Tryz.prog 43 t2 w fun r0 =>
  k r0 w
theorem C.txs_Hash {k : Value → World → Prop} {a0 : Value} {w : World} (h : F.txs_Hash k a0 w) : C Tryz.prog N.txs_Hash #[a0] w k :=
  den_calls (H := { moves := [], vars := [] }) (args := [a0]) mixed Tryz.func29 (by kernel_rfl) (by kernel_rfl) (by kernel_rfl) h

-- slices.Clone[[]isthmus/pool.item,isthmus/pool.item]
def F.slices_Clone_pool_item_pool_item (k : Value → World → Prop) (a0 : Value) (w : World) : Prop :=
  mv (.slice none 0 0) fun t2 =>
  mv a0 fun t3 =>
  o1 Tryz.prog (bin .eql 67 (.tmp 3) (.const (.slice none 0 0)) t3 (.slice none 0 0)) w fun t4 w =>
  br t4 (fun _ =>
  mv (.slice none 0 0) fun t2_1 =>
  k t2_1 w) (fun _ =>
  o1 Tryz.prog (Instr.buildSlice 67 0 #[]) w fun t5 w =>
  mv a0 fun t6 =>
  ob Tryz.prog (fun _ => Builtin.append_ #[67, 67] 67 #[t5, t6]) w fun t7 w =>
  mv t7 fun t2_2 =>
  k t2_2 w)
theorem C.slices_Clone_pool_item_pool_item {k : Value → World → Prop} {a0 : Value} {w : World} (h : F.slices_Clone_pool_item_pool_item k a0 w) : C Tryz.prog N.slices_Clone_pool_item_pool_item #[a0] w k :=
  den_calls (H := { moves := [], vars := [2] }) (args := [a0]) mixed Tryz.func30 (by kernel_rfl) (by kernel_rfl) (by kernel_rfl) h

-- isthmus/pool.size
def F.pool_size (k : Value → World → Prop) (a0 : Value) (w : World) : Prop :=
  mv (.int .i64 0) fun t2 =>
  mv (.int .i64 0) fun t3 =>
  mv a0 fun t6 =>
  o1 Tryz.prog (Builtin.len_ #[67] 3 #[t6]) w fun t7 w =>
  mv (.int .i64 0) fun t8 =>
  lp [t3, t8] w fun I1 μ1 => ∀ (x1 : Env) (w1 : World), I1 [x1 3, x1 8] w1 →
  o1 Tryz.prog (bin .lss 3 (.tmp 8) (.tmp 7) (x1 8) t7) w1 fun t9 w =>
  br t9 (fun _ =>
  o1 Tryz.prog (Instr.indexAt 67 t6 (x1 8)) w fun t10 w =>
  o1 Tryz.prog (Instr.loadAt 72 t10) w fun t11 w =>
  o1 Tryz.prog (Instr.alloc 72 true (.tuple #[])) w fun t5 w =>
  o0 Tryz.prog (Instr.storeAt 72 t5 t11) w fun _ w =>
  mv (x1 3) fun t12 =>
  o1 Tryz.prog (Instr.fieldAt 72 t5 0) w fun t13 w =>
  o1 Tryz.prog (Instr.loadAt 38 t13) w fun t14 w =>
  o1 Tryz.prog (Builtin.len_ #[38] 3 #[t14]) w fun t15 w =>
  o1 Tryz.prog (bin .add 3 (.tmp 12) (.tmp 15) t12 t15) w fun t16 w =>
  mv t16 fun t3_1 =>
  o1 Tryz.prog (bin .add 3 (.tmp 8) (.const (.int .i64 1)) (x1 8) (.int .i64 1)) w fun t17 w =>
  mv t17 fun t8_1 =>
  I1 [t3_1, t8_1] w ∧ μ1 [t3_1, t8_1] w < μ1 [x1 3, x1 8] w1) (fun _ =>
  mv (x1 3) fun t18 =>
  mv t18 fun t2_1 =>
  k t2_1 w)
theorem C.pool_size {k : Value → World → Prop} {a0 : Value} {w : World} (h : F.pool_size k a0 w) : C Tryz.prog N.pool_size #[a0] w k :=
  den_calls (H := { moves := [], vars := [2, 3, 8] }) (args := [a0]) mixed Tryz.func31 (by kernel_rfl) (by kernel_rfl) (by kernel_rfl) h

-- slices.SortFunc[[]isthmus/pool.item,isthmus/pool.item]
def F.slices_SortFunc_pool_item_pool_item (k : Value → World → Prop) (a0 a1 : Value) (w : World) : Prop :=
  mv a0 fun t5 =>
  o1 Tryz.prog (Builtin.len_ #[67] 3 #[t5]) w fun t6 w =>
  mv t6 fun t4 =>
  mv a0 fun t7 =>
  mv t4 fun t8 =>
  mv t4 fun t9 =>
  o1 Tryz.prog (convert 3 52 t9) w fun t10 w =>
  C Tryz.prog N.math_bits_Len #[t10] w fun t11 w =>
  mv a1 fun t12 =>
  C Tryz.prog N.slices_pdqsortCmpFunc_pool_item #[t7, .int .i64 0, t8, t11, t12] w fun t13 w =>
  k (.tuple #[]) w
theorem C.slices_SortFunc_pool_item_pool_item {k : Value → World → Prop} {a0 a1 : Value} {w : World} (h : F.slices_SortFunc_pool_item_pool_item k a0 a1 w) : C Tryz.prog N.slices_SortFunc_pool_item_pool_item #[a0, a1] w k :=
  den_calls (H := { moves := [], vars := [4] }) (args := [a0, a1]) mixed Tryz.func32 (by kernel_rfl) (by kernel_rfl) (by kernel_rfl) h

-- (isthmus/pool.item).before
def F.pool_item_before (k : Value → World → Prop) (a0 a1 : Value) (w : World) : Prop :=
  o1 Tryz.prog (Instr.box 72 a0) w fun t2 w =>
  o1 Tryz.prog (Instr.box 72 a1) w fun t3 w =>
  mv (.int .i64 0) fun t4 =>
  dr w.drew fun S1 =>
  tk Tryz.prog S1 (Instr.fieldAt 72 t3 2) fun t5 =>
  tk Tryz.prog S1 (Instr.loadAt 3 t5) fun t6 =>
  tk Tryz.prog S1 (Instr.fieldAt 72 t2 2) fun t7 =>
  tk Tryz.prog S1 (Instr.loadAt 3 t7) fun t8 =>
  tk Tryz.prog S1 (Instr.fieldAt 72 t2 3) fun t10 =>
  tk Tryz.prog S1 (Instr.loadAt 3 t10) fun t11 =>
  tk Tryz.prog S1 (Instr.fieldAt 72 t3 3) fun t12 =>
  tk Tryz.prog S1 (Instr.loadAt 3 t12) fun t13 =>
  C Tryz.prog N.cmp_Compare_int #[t6, t8] w.drew fun t9 w =>
  S1 w ∧
  C Tryz.prog N.cmp_Compare_int #[t11, t13] w fun t14 w =>
  S1 w ∧
  o1 Tryz.prog (Instr.buildSlice 132 2 #[(0, t9), (1, t14)]) w fun t15 w =>
  S1 w ∧
  C Tryz.prog N.cmp_Or_int #[t15] w fun t16 w =>
  S1 w ∧
  mv t16 fun t4_1 =>
  k t4_1 w
theorem C.pool_item_before {k : Value → World → Prop} {a0 a1 : Value} {w : World} (h : F.pool_item_before k a0 a1 w) : C Tryz.prog N.pool_item_before #[a0, a1] w k :=
  den_calls (H := { moves := [(1, (.take 0 (.take 1 (.take 2 (.take 3 (.take 5 (.take 6 (.take 7 (.take 8 (.force 4 (.force 9 (.force 10 (.force 11 (.take 12 .fin))))))))))))))], vars := [4] }) (args := [a0, a1]) mixed Tryz.func33 (by kernel_rfl) (by kernel_rfl) (by kernel_rfl) h

-- (*isthmus/pool.Pool).remember
def F.pool_Pool_remember (k : Value → World → Prop) (a0 a1 : Value) (w : World) : Prop :=
  o1 Tryz.prog (Instr.box 43 a1) w fun t3 w =>
  mv a0 fun t4 =>
  o1 Tryz.prog (Instr.loadAt 43 t3) w fun t5 w =>
  C Tryz.prog N.pool_Pool_forget #[t4, t5] w fun t6 w =>
  dr w.drew fun S1 =>
  mv a0 fun t7 =>
  mv a0 fun t8 =>
  nilOk t8 = true ∧ mv t8 fun t9 =>
  tk Tryz.prog S1 (Instr.fieldAt 69 t9 4) fun t10 =>
  tk Tryz.prog S1 (Instr.loadAt 31 t10) fun t11 =>
  tk Tryz.prog S1 (Instr.loadAt 43 t3) fun t12 =>
  o1 Tryz.prog (Instr.buildSlice 31 1 #[(0, t12)]) w.drew fun t13 w =>
  S1 w ∧
  ob Tryz.prog (fun _ => Builtin.append_ #[31, 31] 31 #[t11, t13]) w fun t14 w =>
  S1 w ∧
  nilOk t7 = true ∧ mv t7 fun t15 =>
  tk Tryz.prog S1 (Instr.fieldAt 69 t15 4) fun t16 =>
  o0 Tryz.prog (Instr.storeAt 31 t16 t14) w fun _ w =>
  dr w.drew fun S2 =>
  mv a0 fun t17 =>
  mv a0 fun t18 =>
  nilOk t18 = true ∧ mv t18 fun t19 =>
  tk Tryz.prog S2 (Instr.fieldAt 69 t19 4) fun t20 =>
  tk Tryz.prog S2 (Instr.loadAt 31 t20) fun t21 =>
  mv a0 fun t22 =>
  nilOk t22 = true ∧ mv t22 fun t23 =>
  tk Tryz.prog S2 (Instr.fieldAt 69 t23 4) fun t24 =>
  tk Tryz.prog S2 (Instr.loadAt 31 t24) fun t25 =>
  tk Tryz.prog S2 (Builtin.len_ #[31] 3 #[t25]) fun t26 =>
  mv a0 fun t27 =>
  nilOk t27 = true ∧ mv t27 fun t28 =>
  tk Tryz.prog S2 (Instr.fieldAt 69 t28 2) fun t29 =>
  tk Tryz.prog S2 (Instr.loadAt 3 t29) fun t30 =>
  tk Tryz.prog S2 (bin .sub 3 (.tmp 26) (.tmp 30) t26 t30) fun t31 =>
  tk Tryz.prog S2 (Builtin.max_ #[3, 3] 3 #[.int .i64 0, t31]) fun t32 =>
  tk Tryz.prog S2 (Instr.sliceAt 31 t21 (some t32) none none) fun t33 =>
  nilOk t17 = true ∧ mv t17 fun t34 =>
  tk Tryz.prog S2 (Instr.fieldAt 69 t34 4) fun t35 =>
  o0 Tryz.prog (Instr.storeAt 31 t35 t33) w.drew fun _ w =>
  k (.tuple #[]) w
theorem C.pool_Pool_remember {k : Value → World → Prop} {a0 a1 : Value} {w : World} (h : F.pool_Pool_remember k a0 a1 w) : C Tryz.prog N.pool_Pool_remember #[a0, a1] w k :=
  den_calls (H := { moves := [(2, (.take 0 (.take 1 (.take 2 (.take 3 (.take 4 (.take 5 (.force 6 (.force 7 (.take 8 (.take 9 (.last 10)))))))))))), (3, (.take 0 (.take 1 (.take 2 (.take 3 (.take 4 (.take 5 (.take 6 (.take 7 (.take 8 (.take 9 (.take 10 (.take 11 (.take 12 (.take 13 (.take 14 (.take 15 (.take 16 (.take 17 (.take 18 (.last 19)))))))))))))))))))))], vars := [] }) (args := [a0, a1]) mixed Tryz.func34 (by kernel_rfl) (by kernel_rfl) (by kernel_rfl) h

-- (*isthmus/pool.Pool).drop
def F.pool_Pool_drop (k : Value → World → Prop) (a0 a1 : Value) (w : World) : Prop :=
  o1 Tryz.prog (Instr.box 43 a1) w fun t3 w =>
  mv (.bool false) fun t4 =>
  mv a0 fun t6 =>
  nilOk t6 = true ∧ mv t6 fun t7 =>
  o1 Tryz.prog (Instr.fieldAt 69 t7 3) w fun t8 w =>
  o1 Tryz.prog (Instr.loadAt 67 t8) w fun t9 w =>
  o1 Tryz.prog (Instr.makeFunc (.func 51) #[] #[t3]) w fun t10 w =>
  C Tryz.prog N.slices_IndexFunc_pool_item_pool_item #[t9, t10] w fun t11 w =>
  mv t11 fun t5 =>
  mv t5 fun t12 =>
  o1 Tryz.prog (bin .lss 3 (.tmp 12) (.const (.int .i64 0)) t12 (.int .i64 0)) w fun t13 w =>
  br t13 (fun _ =>
  mv (.bool false) fun t4_1 =>
  k t4_1 w) (fun _ =>
  mv a0 fun t14 =>
  mv a0 fun t15 =>
  nilOk t15 = true ∧ mv t15 fun t16 =>
  o1 Tryz.prog (Instr.fieldAt 69 t16 3) w fun t17 w =>
  o1 Tryz.prog (Instr.loadAt 67 t17) w fun t18 w =>
  mv t5 fun t19 =>
  mv t5 fun t20 =>
  o1 Tryz.prog (bin .add 3 (.tmp 20) (.const (.int .i64 1)) t20 (.int .i64 1)) w fun t21 w =>
  C Tryz.prog N.slices_Delete_pool_item_pool_item #[t18, t19, t21] w fun t22 w =>
  nilOk t14 = true ∧ mv t14 fun t23 =>
  o1 Tryz.prog (Instr.fieldAt 69 t23 3) w fun t24 w =>
  o0 Tryz.prog (Instr.storeAt 67 t24 t22) w fun _ w =>
  mv (.bool true) fun t4_2 =>
  k t4_2 w)
theorem C.pool_Pool_drop {k : Value → World → Prop} {a0 a1 : Value} {w : World} (h : F.pool_Pool_drop k a0 a1 w) : C Tryz.prog N.pool_Pool_drop #[a0, a1] w k :=
  den_calls (H := { moves := [], vars := [4, 5] }) (args := [a0, a1]) mixed Tryz.func35 (by kernel_rfl) (by kernel_rfl) (by kernel_rfl) h

-- errors.As
def F.errors_As (k : Value → World → Prop) (a0 a1 : Value) (w : World) : Prop :=
  mv (.bool false) fun t4 =>
  mv a0 fun t8 =>
  o1 Tryz.prog (bin .eql 27 (.tmp 8) (.const .nilIface) t8 .nilIface) w fun t9 w =>
  br t9 (fun _ =>
  mv (.bool false) fun t4_1 =>
  k t4_1 w) (fun _ =>
  mv a1 fun t10 =>
  o1 Tryz.prog (bin .eql 20 (.tmp 10) (.const .nilIface) t10 .nilIface) w fun t11 w =>
  jn (fun x1 => []) (fun k1 =>
  br t11 (fun _ =>
  o1 Tryz.prog (Instr.makeInterface 9 (.string ⟨#[101, 114, 114, 111, 114, 115, 58, 32, 116, 97, 114, 103, 101, 116, 32, 99, 97, 110, 110, 111, 116, 32, 98, 101, 32, 110, 105, 108]⟩)) w fun t12 w =>
  False) (fun _ =>
  k1 [] w)) fun x1 w =>
  mv a1 fun t13 =>
  oN Tryz.prog (callFunc N.internal_reflectlite_ValueOf #[t13]) w fun t14 w =>
  o1 Tryz.prog (Instr.alloc 99 true (.tuple #[])) w fun t5 w =>
  o0 Tryz.prog (Instr.storeAt 99 t5 t14) w fun _ w =>
  o1 Tryz.prog (Instr.loadAt 99 t5) w fun t15 w =>
  oN Tryz.prog (callFunc N.internal_reflectlite_Value_Type #[t15]) w fun t16 w =>
  mv t16 fun t6 =>
  mv t6 fun t17 =>
  iv Tryz.prog t17 "Kind" #[] w fun t18 w =>
  o1 Tryz.prog (bin .neq 104 (.tmp 18) (.const (.int .u8 22)) t18 (.int .u8 22)) w fun t19 w =>
  mv t19 fun t20 =>
  gd t20 false (fun k2 => o1 Tryz.prog (Instr.loadAt 99 t5) w k2) w fun t21 w =>
  gd t20 false (fun k3 => oN Tryz.prog (callFunc N.internal_reflectlite_Value_IsNil #[t21]) w k3) w fun t22 w =>
  pk t20 (.bool true) t22 fun t23 =>
  jn (fun x2 => []) (fun k4 =>
  br t23 (fun _ =>
  o1 Tryz.prog (Instr.makeInterface 9 (.string ⟨#[101, 114, 114, 111, 114, 115, 58, 32, 116, 97, 114, 103, 101, 116, 32, 109, 117, 115, 116, 32, 98, 101, 32, 97, 32, 110, 111, 110, 45, 110, 105, 108, 32, 112, 111, 105, 110, 116, 101, 114]⟩)) w fun t24 w =>
  False) (fun _ =>
  k4 [] w)) fun x2 w =>
  mv t6 fun t25 =>
  iv Tryz.prog t25 "Elem" #[] w fun t26 w =>
  mv t26 fun t7 =>
  mv t7 fun t27 =>
  iv Tryz.prog t27 "Kind" #[] w fun t28 w =>
  o1 Tryz.prog (bin .neq 104 (.tmp 28) (.const (.int .u8 20)) t28 (.int .u8 20)) w fun t29 w =>
  mv t29 fun t30 =>
  gd t30 true (fun k5 => mv t7 fun v => k5 v w) w fun t31 w =>
  gd t30 true (fun k6 => o1 Tryz.prog (Instr.loadAt 102 (.pointer (some ⟨0, 0, none⟩))) w k6) w fun t32 w =>
  gd t30 true (fun k7 => iv Tryz.prog t31 "Implements" #[t32] w k7) w fun t33 w =>
  gd t30 true (fun k8 => o1 Tryz.prog (Op.unary .not t33) w k8) w fun t34 w =>
  pk t30 t34 (.bool false) fun t35 =>
  jn (fun x3 => []) (fun k9 =>
  br t35 (fun _ =>
  o1 Tryz.prog (Instr.makeInterface 9 (.string ⟨#[101, 114, 114, 111, 114, 115, 58, 32, 42, 116, 97, 114, 103, 101, 116, 32, 109, 117, 115, 116, 32, 98, 101, 32, 105, 110, 116, 101, 114, 102, 97, 99, 101, 32, 111, 114, 32, 105, 109, 112, 108, 101, 109, 101, 110, 116, 32, 101, 114, 114, 111, 114]⟩)) w fun t36 w =>
  False) (fun _ =>
  k9 [] w)) fun x3 w =>
  mv a0 fun t37 =>
  mv a1 fun t38 =>
  o1 Tryz.prog (Instr.loadAt 99 t5) w fun t39 w =>
  mv t7 fun t40 =>
  C Tryz.prog N.errors_as #[t37, t38, t39, t40] w fun t41 w =>
  mv t41 fun t4_2 =>
  k t4_2 w)
theorem C.errors_As {k : Value → World → Prop} {a0 a1 : Value} {w : World} (h : F.errors_As k a0 a1 w) : C Tryz.prog N.errors_As #[a0, a1] w k :=
  den_calls (H := { moves := [], vars := [4, 6, 7] }) (args := [a0, a1]) mixed Tryz.func36 (by kernel_rfl) (by kernel_rfl) (by kernel_rfl) h

-- (*isthmus/pool.Pool).forget
def F.pool_Pool_forget (k : Value → World → Prop) (a0 a1 : Value) (w : World) : Prop :=
  o1 Tryz.prog (Instr.box 43 a1) w fun t3 w =>
  mv a0 fun t4 =>
  mv a0 fun t5 =>
  nilOk t5 = true ∧ mv t5 fun t6 =>
  o1 Tryz.prog (Instr.fieldAt 69 t6 4) w fun t7 w =>
  o1 Tryz.prog (Instr.loadAt 31 t7) w fun t8 w =>
  C Tryz.prog N.slices_Clone_api_Hash_api_Hash #[t8] w fun t9 w =>
  o1 Tryz.prog (Instr.makeFunc (.func 59) #[] #[t3]) w fun t10 w =>
  C Tryz.prog N.slices_DeleteFunc_api_Hash_api_Hash #[t9, t10] w fun t11 w =>
  nilOk t4 = true ∧ mv t4 fun t12 =>
  o1 Tryz.prog (Instr.fieldAt 69 t12 4) w fun t13 w =>
  o0 Tryz.prog (Instr.storeAt 31 t13 t11) w fun _ w =>
  k (.tuple #[]) w
theorem C.pool_Pool_forget {k : Value → World → Prop} {a0 a1 : Value} {w : World} (h : F.pool_Pool_forget k a0 a1 w) : C Tryz.prog N.pool_Pool_forget #[a0, a1] w k :=
  den_calls (H := { moves := [], vars := [] }) (args := [a0, a1]) mixed Tryz.func37 (by kernel_rfl) (by kernel_rfl) (by kernel_rfl) h

-- slices.Contains[[]isthmus/api.Hash,isthmus/api.Hash]
def F.slices_Contains_api_Hash_api_Hash (k : Value → World → Prop) (a0 a1 : Value) (w : World) : Prop :=
  o1 Tryz.prog (Instr.box 43 a1) w fun t3 w =>
  mv (.bool false) fun t4 =>
  mv a0 fun t5 =>
  o1 Tryz.prog (Instr.loadAt 43 t3) w fun t6 w =>
  C Tryz.prog N.slices_Index_api_Hash_api_Hash #[t5, t6] w fun t7 w =>
  o1 Tryz.prog (bin .geq 3 (.tmp 7) (.const (.int .i64 0)) t7 (.int .i64 0)) w fun t8 w =>
  mv t8 fun t4_1 =>
  k t4_1 w
theorem C.slices_Contains_api_Hash_api_Hash {k : Value → World → Prop} {a0 a1 : Value} {w : World} (h : F.slices_Contains_api_Hash_api_Hash k a0 a1 w) : C Tryz.prog N.slices_Contains_api_Hash_api_Hash #[a0, a1] w k :=
  den_calls (H := { moves := [], vars := [4] }) (args := [a0, a1]) mixed Tryz.func38 (by kernel_rfl) (by kernel_rfl) (by kernel_rfl) h

-- slices.ContainsFunc[[]isthmus/pool.item,isthmus/pool.item]
def F.slices_ContainsFunc_pool_item_pool_item (k : Value → World → Prop) (a0 a1 : Value) (w : World) : Prop :=
  mv (.bool false) fun t4 =>
  mv a0 fun t5 =>
  mv a1 fun t6 =>
  C Tryz.prog N.slices_IndexFunc_pool_item_pool_item #[t5, t6] w fun t7 w =>
  o1 Tryz.prog (bin .geq 3 (.tmp 7) (.const (.int .i64 0)) t7 (.int .i64 0)) w fun t8 w =>
  mv t8 fun t4_1 =>
  k t4_1 w
theorem C.slices_ContainsFunc_pool_item_pool_item {k : Value → World → Prop} {a0 a1 : Value} {w : World} (h : F.slices_ContainsFunc_pool_item_pool_item k a0 a1 w) : C Tryz.prog N.slices_ContainsFunc_pool_item_pool_item #[a0, a1] w k :=
  den_calls (H := { moves := [], vars := [4] }) (args := [a0, a1]) mixed Tryz.func39 (by kernel_rfl) (by kernel_rfl) (by kernel_rfl) h

-- (*isthmus/pool.Pool).Has$1
def F.pool_Pool_Has_1 (k : Value → World → Prop) (a0 a1 : Value) (w : World) : Prop :=
  o1 Tryz.prog (Instr.box 72 a0) w fun t2 w =>
  mv (.bool false) fun t3 =>
  o1 Tryz.prog (Instr.fieldAt 72 t2 1) w fun t4 w =>
  o1 Tryz.prog (Instr.loadAt 43 t4) w fun t5 w =>
  o1 Tryz.prog (Instr.loadAt 43 a1) w fun t6 w =>
  o1 Tryz.prog (bin .eql 43 (.tmp 5) (.tmp 6) t5 t6) w fun t7 w =>
  mv t7 fun t3_1 =>
  k t3_1 w
theorem C.pool_Pool_Has_1 {k : Value → World → Prop} {a0 a1 : Value} {w : World} (h : F.pool_Pool_Has_1 k a0 a1 w) : C Tryz.prog N.pool_Pool_Has_1 #[a0, a1] w k :=
  den_calls (H := { moves := [], vars := [3] }) (args := [a0, a1]) mixed Tryz.func40 (by kernel_rfl) (by kernel_rfl) (by kernel_rfl) h

-- isthmus/isthmusref01.Sum
def F.isthmusref01_Sum (k : Value → World → Prop) (a0 : Value) (w : World) : Prop :=
  o1 Tryz.prog (Instr.alloc 43 true (.tuple #[])) w fun t2 w =>
  C Tryz.prog N.isthmusref01_constants #[] w fun t24 w =>
  mv t24 fun t23 =>
  o1 Tryz.prog (Instr.extract t23 0) w fun t25 w =>
  o1 Tryz.prog (Instr.extract t23 1) w fun t26 w =>
  o1 Tryz.prog (Instr.alloc 112 true (.tuple #[])) w fun t3 w =>
  o1 Tryz.prog (Instr.alloc 113 true (.tuple #[])) w fun t4 w =>
  o0 Tryz.prog (Instr.storeAt 112 t3 t25) w fun _ w =>
  o0 Tryz.prog (Instr.storeAt 113 t4 t26) w fun _ w =>
  mv (.slice none 0 0) fun t5 =>
  mv t5 fun t27 =>
  mv a0 fun t28 =>
  ob Tryz.prog (fun _ => Builtin.append_ #[38, 38] 38 #[t27, t28]) w fun t29 w =>
  o1 Tryz.prog (Instr.buildSlice 38 1 #[(0, .int .u8 128)]) w fun t30 w =>
  ob Tryz.prog (fun _ => Builtin.append_ #[38, 38] 38 #[t29, t30]) w fun t31 w =>
  mv t31 fun t5_1 =>
  lp [t5_1] w fun I1 μ1 => ∀ (x1 : Env) (w1 : World), I1 [x1 5] w1 →
  mv (x1 5) fun t32 =>
  o1 Tryz.prog (Builtin.len_ #[38] 3 #[t32]) w1 fun t33 w =>
  o1 Tryz.prog (bin .rem 3 (.tmp 33) (.const (.int .i64 64)) t33 (.int .i64 64)) w fun t34 w =>
  o1 Tryz.prog (bin .neq 3 (.tmp 34) (.const (.int .i64 56)) t34 (.int .i64 56)) w fun t35 w =>
  br t35 (fun _ =>
  mv (x1 5) fun t36 =>
  o1 Tryz.prog (Instr.buildSlice 38 1 #[(0, .int .u8 0)]) w fun t37 w =>
  ob Tryz.prog (fun _ => Builtin.append_ #[38, 38] 38 #[t36, t37]) w fun t38 w =>
  mv t38 fun t5_2 =>
  I1 [t5_2] w ∧ μ1 [t5_2] w < μ1 [x1 5] w1) (fun _ =>
  mv a0 fun t39 =>
  o1 Tryz.prog (Builtin.len_ #[38] 3 #[t39]) w fun t40 w =>
  o1 Tryz.prog (convert 3 116 t40) w fun t41 w =>
  o1 Tryz.prog (bin .mul 116 (.tmp 41) (.const (.int .u64 8)) t41 (.int .u64 8)) w fun t42 w =>
  mv t42 fun t6 =>
  mv (.int .i64 7) fun t7 =>
  lp [(x1 5), t7] w fun I2 μ2 => ∀ (x2 : Env) (w2 : World), I2 [x2 5, x2 7] w2 →
  mv (x2 7) fun t43 =>
  o1 Tryz.prog (bin .geq 3 (.tmp 43) (.const (.int .i64 0)) t43 (.int .i64 0)) w2 fun t44 w =>
  br t44 (fun _ =>
  mv (x2 5) fun t47 =>
  mv t6 fun t48 =>
  mv (x2 7) fun t49 =>
  o1 Tryz.prog (bin .mul 3 (.const (.int .i64 8)) (.tmp 49) (.int .i64 8) t49) w fun t50 w =>
  o1 Tryz.prog (convert 3 52 t50) w fun t51 w =>
  o1 Tryz.prog (bin .shr 116 (.tmp 48) (.tmp 51) t48 t51) w fun t52 w =>
  o1 Tryz.prog (convert 116 5 t52) w fun t53 w =>
  o1 Tryz.prog (Instr.buildSlice 38 1 #[(0, t53)]) w fun t54 w =>
  ob Tryz.prog (fun _ => Builtin.append_ #[38, 38] 38 #[t47, t54]) w fun t55 w =>
  mv t55 fun t5_3 =>
  mv (x2 7) fun t45 =>
  o1 Tryz.prog (bin .sub 3 (.tmp 45) (.const (.int .i64 1)) t45 (.int .i64 1)) w fun t46 w =>
  mv t46 fun t7_1 =>
  I2 [t5_3, t7_1] w ∧ μ2 [t5_3, t7_1] w < μ2 [x2 5, x2 7] w2) (fun _ =>
  mv (.int .i64 0) fun t8 =>
  lp [t8, undef, undef, undef, undef, undef, undef, undef, undef, undef, undef] w fun I3 μ3 => ∀ (x3 : Env) (w3 : World), I3 [x3 8, x3 10, x3 11, x3 12, x3 13, x3 15, x3 16, x3 17, x3 18, x3 19, x3 20] w3 →
  mv (x3 8) fun t56 =>
  mv (x2 5) fun t57 =>
  o1 Tryz.prog (Builtin.len_ #[38] 3 #[t57]) w3 fun t58 w =>
  o1 Tryz.prog (bin .lss 3 (.tmp 56) (.tmp 58) t56 t58) w fun t59 w =>
  br t59 (fun _ =>
  o1 Tryz.prog (Instr.alloc 112 true (.tuple #[])) w fun t9 w =>
  mv (.int .i64 0) fun t10 =>
  lp [t10, (x3 11), (x3 12), (x3 13)] w fun I4 μ4 => ∀ (x4 : Env) (w4 : World), I4 [x4 10, x4 11, x4 12, x4 13] w4 →
  mv (x4 10) fun t62 =>
  o1 Tryz.prog (bin .lss 3 (.tmp 62) (.const (.int .i64 64)) t62 (.int .i64 64)) w4 fun t63 w =>
  br t63 (fun _ =>
  jn (fun x5 => [x5 11, x5 12, x5 13]) (fun k1 =>
  mv (x4 10) fun t66 =>
  o1 Tryz.prog (bin .lss 3 (.tmp 66) (.const (.int .i64 16)) t66 (.int .i64 16)) w fun t67 w =>
  br t67 (fun _ =>
  mv (x3 8) fun t68 =>
  mv (x4 10) fun t69 =>
  o1 Tryz.prog (bin .mul 3 (.const (.int .i64 4)) (.tmp 69) (.int .i64 4) t69) w fun t70 w =>
  o1 Tryz.prog (bin .add 3 (.tmp 68) (.tmp 70) t68 t70) w fun t71 w =>
  mv t71 fun t11 =>
  dr w.drew fun S1 =>
  mv (x4 10) fun t72 =>
  mv (x2 5) fun t73 =>
  mv t11 fun t74 =>
  tk Tryz.prog S1 (Instr.indexAt 38 t73 t74) fun t75 =>
  tk Tryz.prog S1 (Instr.loadAt 5 t75) fun t76 =>
  tk Tryz.prog S1 (convert 5 111 t76) fun t77 =>
  tk Tryz.prog S1 (bin .shl 111 (.tmp 77) (.const (.int .u64 24)) t77 (.int .u64 24)) fun t78 =>
  mv (x2 5) fun t79 =>
  mv t11 fun t80 =>
  tk Tryz.prog S1 (bin .add 3 (.tmp 80) (.const (.int .i64 1)) t80 (.int .i64 1)) fun t81 =>
  tk Tryz.prog S1 (Instr.indexAt 38 t79 t81) fun t82 =>
  tk Tryz.prog S1 (Instr.loadAt 5 t82) fun t83 =>
  tk Tryz.prog S1 (convert 5 111 t83) fun t84 =>
  tk Tryz.prog S1 (bin .shl 111 (.tmp 84) (.const (.int .u64 16)) t84 (.int .u64 16)) fun t85 =>
  tk Tryz.prog S1 (bin .or 111 (.tmp 78) (.tmp 85) t78 t85) fun t86 =>
  mv (x2 5) fun t87 =>
  mv t11 fun t88 =>
  tk Tryz.prog S1 (bin .add 3 (.tmp 88) (.const (.int .i64 2)) t88 (.int .i64 2)) fun t89 =>
  tk Tryz.prog S1 (Instr.indexAt 38 t87 t89) fun t90 =>
  tk Tryz.prog S1 (Instr.loadAt 5 t90) fun t91 =>
  tk Tryz.prog S1 (convert 5 111 t91) fun t92 =>
  tk Tryz.prog S1 (bin .shl 111 (.tmp 92) (.const (.int .u64 8)) t92 (.int .u64 8)) fun t93 =>
  tk Tryz.prog S1 (bin .or 111 (.tmp 86) (.tmp 93) t86 t93) fun t94 =>
  mv (x2 5) fun t95 =>
  mv t11 fun t96 =>
  tk Tryz.prog S1 (bin .add 3 (.tmp 96) (.const (.int .i64 3)) t96 (.int .i64 3)) fun t97 =>
  tk Tryz.prog S1 (Instr.indexAt 38 t95 t97) fun t98 =>
  tk Tryz.prog S1 (Instr.loadAt 5 t98) fun t99 =>
  tk Tryz.prog S1 (convert 5 111 t99) fun t100 =>
  tk Tryz.prog S1 (bin .or 111 (.tmp 94) (.tmp 100) t94 t100) fun t101 =>
  tk Tryz.prog S1 (Instr.indexAt 112 t9 t72) fun t102 =>
  o0 Tryz.prog (Instr.storeAt 111 t102 t101) w.drew fun _ w =>
  k1 [t11, (x4 12), (x4 13)] w) (fun _ =>
  mv (x4 10) fun t103 =>
  tk Tryz.prog (fun w' => w' = w.drew) (bin .sub 3 (.tmp 103) (.const (.int .i64 15)) t103 (.int .i64 15)) fun t104 =>
  tk Tryz.prog (fun w' => w' = w.drew) (Instr.indexAt 112 t9 t104) fun t105 =>
  tk Tryz.prog (fun w' => w' = w.drew) (Instr.loadAt 111 t105) fun t106 =>
  mv (x4 10) fun t107 =>
  tk Tryz.prog (fun w' => w' = w.drew) (bin .sub 3 (.tmp 107) (.const (.int .i64 2)) t107 (.int .i64 2)) fun t108 =>
  tk Tryz.prog (fun w' => w' = w.drew) (Instr.indexAt 112 t9 t108) fun t109 =>
  tk Tryz.prog (fun w' => w' = w.drew) (Instr.loadAt 111 t109) fun t110 =>
  mv t106 fun t12 =>
  mv t110 fun t13 =>
  dr w.drew.drew fun S2 =>
  mv (x4 10) fun t111 =>
  mv t13 fun t112 =>
  mv t13 fun t114 =>
  mv t13 fun t117 =>
  tk Tryz.prog S2 (bin .shr 111 (.tmp 117) (.const (.int .u64 10)) t117 (.int .u64 10)) fun t118 =>
  mv (x4 10) fun t120 =>
  tk Tryz.prog S2 (bin .sub 3 (.tmp 120) (.const (.int .i64 7)) t120 (.int .i64 7)) fun t121 =>
  tk Tryz.prog S2 (Instr.indexAt 112 t9 t121) fun t122 =>
  tk Tryz.prog S2 (Instr.loadAt 111 t122) fun t123 =>
  mv t12 fun t125 =>
  mv t12 fun t127 =>
  mv t12 fun t130 =>
  tk Tryz.prog S2 (bin .shr 111 (.tmp 130) (.const (.int .u64 3)) t130 (.int .u64 3)) fun t131 =>
  mv (x4 10) fun t134 =>
  tk Tryz.prog S2 (bin .sub 3 (.tmp 134) (.const (.int .i64 16)) t134 (.int .i64 16)) fun t135 =>
  tk Tryz.prog S2 (Instr.indexAt 112 t9 t135) fun t136 =>
  tk Tryz.prog S2 (Instr.loadAt 111 t136) fun t137 =>
  C Tryz.prog N.isthmusref01_turn #[t112, .int .u64 17] w.drew.drew fun t113 w =>
  S2 w ∧
  C Tryz.prog N.isthmusref01_turn #[t114, .int .u64 19] w fun t115 w =>
  S2 w ∧
  tk Tryz.prog S2 (bin .xor 111 (.tmp 113) (.tmp 115) t113 t115) fun t116 =>
  tk Tryz.prog S2 (bin .xor 111 (.tmp 116) (.tmp 118) t116 t118) fun t119 =>
  tk Tryz.prog S2 (bin .add 111 (.tmp 119) (.tmp 123) t119 t123) fun t124 =>
  C Tryz.prog N.isthmusref01_turn #[t125, .int .u64 7] w fun t126 w =>
  S2 w ∧
  C Tryz.prog N.isthmusref01_turn #[t127, .int .u64 18] w fun t128 w =>
  S2 w ∧
  tk Tryz.prog S2 (bin .xor 111 (.tmp 126) (.tmp 128) t126 t128) fun t129 =>
  tk Tryz.prog S2 (bin .xor 111 (.tmp 129) (.tmp 131) t129 t131) fun t132 =>
  tk Tryz.prog S2 (bin .add 111 (.tmp 124) (.tmp 132) t124 t132) fun t133 =>
  tk Tryz.prog S2 (bin .add 111 (.tmp 133) (.tmp 137) t133 t137) fun t138 =>
  tk Tryz.prog S2 (Instr.indexAt 112 t9 t111) fun t139 =>
  o0 Tryz.prog (Instr.storeAt 111 t139 t138) w fun _ w =>
  k1 [(x4 11), t12, t13] w)) fun x5 w =>
  mv (x4 10) fun t64 =>
  o1 Tryz.prog (bin .add 3 (.tmp 64) (.const (.int .i64 1)) t64 (.int .i64 1)) w fun t65 w =>
  mv t65 fun t10_1 =>
  I4 [t10_1, (x5 11), (x5 12), (x5 13)] w ∧ μ4 [t10_1, (x5 11), (x5 12), (x5 13)] w < μ4 [x4 10, x4 11, x4 12, x4 13] w4) (fun _ =>
  o1 Tryz.prog (Instr.loadAt 113 t4) w fun t140 w =>
  o1 Tryz.prog (Instr.alloc 113 true (.tuple #[])) w fun t14 w =>
  o0 Tryz.prog (Instr.storeAt 113 t14 t140) w fun _ w =>
  mv (.int .i64 0) fun t15 =>
  lp [t15, (x3 16), (x3 17), (x3 18), (x3 19)] w fun I6 μ6 => ∀ (x6 : Env) (w5 : World), I6 [x6 15, x6 16, x6 17, x6 18, x6 19] w5 →
  mv (x6 15) fun t141 =>
  o1 Tryz.prog (bin .lss 3 (.tmp 141) (.const (.int .i64 64)) t141 (.int .i64 64)) w5 fun t142 w =>
  br t142 (fun _ =>
  tk Tryz.prog (fun w' => w' = w.drew) (Instr.indexAt 113 t14 (.int .i64 4)) fun t145 =>
  tk Tryz.prog (fun w' => w' = w.drew) (Instr.loadAt 111 t145) fun t146 =>
  tk Tryz.prog (fun w' => w' = w.drew) (Instr.indexAt 113 t14 (.int .i64 0)) fun t147 =>
  tk Tryz.prog (fun w' => w' = w.drew) (Instr.loadAt 111 t147) fun t148 =>
  mv t146 fun t16 =>
  mv t148 fun t17 =>
  dr w.drew.drew fun S3 =>
  tk Tryz.prog S3 (Instr.indexAt 113 t14 (.int .i64 7)) fun t149 =>
  tk Tryz.prog S3 (Instr.loadAt 111 t149) fun t150 =>
  mv t16 fun t151 =>
  mv t16 fun t153 =>
  mv t16 fun t156 =>
  mv t16 fun t160 =>
  tk Tryz.prog S3 (Instr.indexAt 113 t14 (.int .i64 5)) fun t161 =>
  tk Tryz.prog S3 (Instr.loadAt 111 t161) fun t162 =>
  tk Tryz.prog S3 (bin .and 111 (.tmp 160) (.tmp 162) t160 t162) fun t163 =>
  mv t16 fun t164 =>
  tk Tryz.prog S3 (bin .xor 111 (.const (.int .u32 4294967295)) (.tmp 164) (.int .u32 4294967295) t164) fun t165 =>
  tk Tryz.prog S3 (Instr.indexAt 113 t14 (.int .i64 6)) fun t166 =>
  tk Tryz.prog S3 (Instr.loadAt 111 t166) fun t167 =>
  tk Tryz.prog S3 (bin .and 111 (.tmp 165) (.tmp 167) t165 t167) fun t168 =>
  tk Tryz.prog S3 (bin .or 111 (.tmp 163) (.tmp 168) t163 t168) fun t169 =>
  mv (x6 15) fun t171 =>
  tk Tryz.prog S3 (Instr.indexAt 112 t3 t171) fun t172 =>
  tk Tryz.prog S3 (Instr.loadAt 111 t172) fun t173 =>
  mv (x6 15) fun t175 =>
  tk Tryz.prog S3 (Instr.indexAt 112 t9 t175) fun t176 =>
  tk Tryz.prog S3 (Instr.loadAt 111 t176) fun t177 =>
  C Tryz.prog N.isthmusref01_turn #[t151, .int .u64 6] w.drew.drew fun t152 w =>
  S3 w ∧
  C Tryz.prog N.isthmusref01_turn #[t153, .int .u64 11] w fun t154 w =>
  S3 w ∧
  tk Tryz.prog S3 (bin .xor 111 (.tmp 152) (.tmp 154) t152 t154) fun t155 =>
  C Tryz.prog N.isthmusref01_turn #[t156, .int .u64 25] w fun t157 w =>
  S3 w ∧
  tk Tryz.prog S3 (bin .xor 111 (.tmp 155) (.tmp 157) t155 t157) fun t158 =>
  tk Tryz.prog S3 (bin .add 111 (.tmp 150) (.tmp 158) t150 t158) fun t159 =>
  tk Tryz.prog S3 (bin .add 111 (.tmp 159) (.tmp 169) t159 t169) fun t170 =>
  tk Tryz.prog S3 (bin .add 111 (.tmp 170) (.tmp 173) t170 t173) fun t174 =>
  tk Tryz.prog S3 (bin .add 111 (.tmp 174) (.tmp 177) t174 t177) fun t178 =>
  mv t178 fun t18 =>
  dr w.drew fun S4 =>
  mv t17 fun t179 =>
  mv t17 fun t181 =>
  mv t17 fun t184 =>
  mv t17 fun t187 =>
  tk Tryz.prog S4 (Instr.indexAt 113 t14 (.int .i64 1)) fun t188 =>
  tk Tryz.prog S4 (Instr.loadAt 111 t188) fun t189 =>
  tk Tryz.prog S4 (bin .and 111 (.tmp 187) (.tmp 189) t187 t189) fun t190 =>
  mv t17 fun t191 =>
  tk Tryz.prog S4 (Instr.indexAt 113 t14 (.int .i64 2)) fun t192 =>
  tk Tryz.prog S4 (Instr.loadAt 111 t192) fun t193 =>
  tk Tryz.prog S4 (bin .and 111 (.tmp 191) (.tmp 193) t191 t193) fun t194 =>
  tk Tryz.prog S4 (bin .or 111 (.tmp 190) (.tmp 194) t190 t194) fun t195 =>
  tk Tryz.prog S4 (Instr.indexAt 113 t14 (.int .i64 1)) fun t196 =>
  tk Tryz.prog S4 (Instr.loadAt 111 t196) fun t197 =>
  tk Tryz.prog S4 (Instr.indexAt 113 t14 (.int .i64 2)) fun t198 =>
  tk Tryz.prog S4 (Instr.loadAt 111 t198) fun t199 =>
  tk Tryz.prog S4 (bin .and 111 (.tmp 197) (.tmp 199) t197 t199) fun t200 =>
  tk Tryz.prog S4 (bin .or 111 (.tmp 195) (.tmp 200) t195 t200) fun t201 =>
  C Tryz.prog N.isthmusref01_turn #[t179, .int .u64 2] w.drew fun t180 w =>
  S4 w ∧
  C Tryz.prog N.isthmusref01_turn #[t181, .int .u64 13] w fun t182 w =>
  S4 w ∧
  tk Tryz.prog S4 (bin .xor 111 (.tmp 180) (.tmp 182) t180 t182) fun t183 =>
  C Tryz.prog N.isthmusref01_turn #[t184, .int .u64 22] w fun t185 w =>
  S4 w ∧
  tk Tryz.prog S4 (bin .xor 111 (.tmp 183) (.tmp 185) t183 t185) fun t186 =>
  tk Tryz.prog S4 (bin .add 111 (.tmp 186) (.tmp 201) t186 t201) fun t202 =>
  mv t202 fun t19 =>
  mv t18 fun t203 =>
  mv t19 fun t204 =>
  o1 Tryz.prog (bin .add 111 (.tmp 203) (.tmp 204) t203 t204) w fun t205 w =>
  o1 Tryz.prog (Instr.indexAt 113 t14 (.int .i64 0)) w fun t206 w =>
  o1 Tryz.prog (Instr.loadAt 111 t206) w fun t207 w =>
  o1 Tryz.prog (Instr.indexAt 113 t14 (.int .i64 1)) w fun t208 w =>
  o1 Tryz.prog (Instr.loadAt 111 t208) w fun t209 w =>
  o1 Tryz.prog (Instr.indexAt 113 t14 (.int .i64 2)) w fun t210 w =>
  o1 Tryz.prog (Instr.loadAt 111 t210) w fun t211 w =>
  o1 Tryz.prog (Instr.indexAt 113 t14 (.int .i64 3)) w fun t212 w =>
  o1 Tryz.prog (Instr.loadAt 111 t212) w fun t213 w =>
  mv t18 fun t214 =>
  o1 Tryz.prog (bin .add 111 (.tmp 213) (.tmp 214) t213 t214) w fun t215 w =>
  o1 Tryz.prog (Instr.indexAt 113 t14 (.int .i64 4)) w fun t216 w =>
  o1 Tryz.prog (Instr.loadAt 111 t216) w fun t217 w =>
  o1 Tryz.prog (Instr.indexAt 113 t14 (.int .i64 5)) w fun t218 w =>
  o1 Tryz.prog (Instr.loadAt 111 t218) w fun t219 w =>
  o1 Tryz.prog (Instr.indexAt 113 t14 (.int .i64 6)) w fun t220 w =>
  o1 Tryz.prog (Instr.loadAt 111 t220) w fun t221 w =>
  o1 Tryz.prog (Instr.build 113 #[(0, t205), (1, t207), (2, t209), (3, t211), (4, t215), (5, t217), (6, t219), (7, t221)]) w fun t222 w =>
  o0 Tryz.prog (Instr.storeAt 113 t14 t222) w fun _ w =>
  mv (x6 15) fun t143 =>
  o1 Tryz.prog (bin .add 3 (.tmp 143) (.const (.int .i64 1)) t143 (.int .i64 1)) w fun t144 w =>
  mv t144 fun t15_1 =>
  I6 [t15_1, t16, t17, t18, t19] w ∧ μ6 [t15_1, t16, t17, t18, t19] w < μ6 [x6 15, x6 16, x6 17, x6 18, x6 19] w5) (fun _ =>
  mv (.int .i64 0) fun t20 =>
  lp [t20] w fun I7 μ7 => ∀ (x7 : Env) (w6 : World), I7 [x7 20] w6 →
  mv (x7 20) fun t223 =>
  o1 Tryz.prog (bin .lss 3 (.tmp 223) (.const (.int .i64 8)) t223 (.int .i64 8)) w6 fun t224 w =>
  br t224 (fun _ =>
  dr w.drew fun S5 =>
  mv (x7 20) fun t227 =>
  mv (x7 20) fun t228 =>
  tk Tryz.prog S5 (Instr.indexAt 113 t4 t228) fun t229 =>
  tk Tryz.prog S5 (Instr.loadAt 111 t229) fun t230 =>
  mv (x7 20) fun t231 =>
  tk Tryz.prog S5 (Instr.indexAt 113 t14 t231) fun t232 =>
  tk Tryz.prog S5 (Instr.loadAt 111 t232) fun t233 =>
  tk Tryz.prog S5 (bin .add 111 (.tmp 230) (.tmp 233) t230 t233) fun t234 =>
  tk Tryz.prog S5 (Instr.indexAt 113 t4 t227) fun t235 =>
  o0 Tryz.prog (Instr.storeAt 111 t235 t234) w.drew fun _ w =>
  mv (x7 20) fun t225 =>
  o1 Tryz.prog (bin .add 3 (.tmp 225) (.const (.int .i64 1)) t225 (.int .i64 1)) w fun t226 w =>
  mv t226 fun t20_1 =>
  I7 [t20_1] w ∧ μ7 [t20_1] w < μ7 [x7 20] w6) (fun _ =>
  mv (x3 8) fun t60 =>
  o1 Tryz.prog (bin .add 3 (.tmp 60) (.const (.int .i64 64)) t60 (.int .i64 64)) w fun t61 w =>
  mv t61 fun t8_1 =>
  I3 [t8_1, (x4 10), (x4 11), (x4 12), (x4 13), (x6 15), (x6 16), (x6 17), (x6 18), (x6 19), (x7 20)] w ∧ μ3 [t8_1, (x4 10), (x4 11), (x4 12), (x4 13), (x6 15), (x6 16), (x6 17), (x6 18), (x6 19), (x7 20)] w < μ3 [x3 8, x3 10, x3 11, x3 12, x3 13, x3 15, x3 16, x3 17, x3 18, x3 19, x3 20] w3)))) (fun _ =>
  o1 Tryz.prog (Instr.alloc 43 true (.tuple #[])) w fun t21 w =>
  mv (.int .i64 0) fun t22 =>
  lp [t22] w fun I8 μ8 => ∀ (x8 : Env) (w7 : World), I8 [x8 22] w7 →
  mv (x8 22) fun t236 =>
  o1 Tryz.prog (bin .lss 3 (.tmp 236) (.const (.int .i64 32)) t236 (.int .i64 32)) w7 fun t237 w =>
  br t237 (fun _ =>
  mv (x8 22) fun t240 =>
  mv (x8 22) fun t241 =>
  o1 Tryz.prog (bin .quo 3 (.tmp 241) (.const (.int .i64 4)) t241 (.int .i64 4)) w fun t242 w =>
  o1 Tryz.prog (Instr.indexAt 113 t4 t242) w fun t243 w =>
  o1 Tryz.prog (Instr.loadAt 111 t243) w fun t244 w =>
  mv (x8 22) fun t245 =>
  o1 Tryz.prog (bin .rem 3 (.tmp 245) (.const (.int .i64 4)) t245 (.int .i64 4)) w fun t246 w =>
  o1 Tryz.prog (bin .mul 3 (.const (.int .i64 8)) (.tmp 246) (.int .i64 8) t246) w fun t247 w =>
  o1 Tryz.prog (bin .sub 3 (.const (.int .i64 24)) (.tmp 247) (.int .i64 24) t247) w fun t248 w =>
  o1 Tryz.prog (convert 3 52 t248) w fun t249 w =>
  o1 Tryz.prog (bin .shr 111 (.tmp 244) (.tmp 249) t244 t249) w fun t250 w =>
  o1 Tryz.prog (convert 111 5 t250) w fun t251 w =>
  o1 Tryz.prog (Instr.indexAt 43 t21 t240) w fun t252 w =>
  o0 Tryz.prog (Instr.storeAt 5 t252 t251) w fun _ w =>
  mv (x8 22) fun t238 =>
  o1 Tryz.prog (bin .add 3 (.tmp 238) (.const (.int .i64 1)) t238 (.int .i64 1)) w fun t239 w =>
  mv t239 fun t22_1 =>
  I8 [t22_1] w ∧ μ8 [t22_1] w < μ8 [x8 22] w7) (fun _ =>
  o1 Tryz.prog (Instr.loadAt 43 t21) w fun t253 w =>
  o0 Tryz.prog (Instr.storeAt 43 t2 t253) w fun _ w =>
  rc Tryz.prog 43 t2 w fun r0 =>
  k r0 w))))
theorem C.isthmusref01_Sum {k : Value → World → Prop} {a0 : Value} {w : World} (h : F.isthmusref01_Sum k a0 w) : C Tryz.prog N.isthmusref01_Sum #[a0] w k :=
  den_calls (H := { moves := [(20, (.take 0 (.take 1 (.take 2 (.take 3 (.take 4 (.take 5 (.take 6 (.take 7 (.take 8 (.take 9 (.take 10 (.take 11 (.take 12 (.take 13 (.take 14 (.take 15 (.take 16 (.take 17 (.take 18 (.take 19 (.take 20 (.take 21 (.take 22 (.take 23 (.take 24 (.take 25 (.take 26 (.take 27 (.take 28 (.take 29 (.take 30 (.last 31))))))))))))))))))))))))))))))))), (21, (.take 0 (.take 1 (.take 2 (.take 3 (.take 4 (.take 5 (.take 6 (.take 7 (.take 8 (.take 9 .fin))))))))))), (22, (.take 0 (.take 1 (.take 3 (.take 6 (.take 7 (.take 9 (.take 10 (.take 11 (.take 12 (.take 14 (.take 16 (.take 19 (.take 20 (.take 23 (.take 24 (.take 25 (.take 26 (.force 2 (.force 4 (.take 5 (.take 8 (.take 13 (.force 15 (.force 17 (.take 18 (.take 21 (.take 22 (.take 27 (.take 28 (.last 29))))))))))))))))))))))))))))))), (27, (.take 0 (.take 1 (.take 2 (.take 3 (.take 4 (.take 5 .fin))))))), (28, (.take 0 (.take 1 (.take 2 (.take 4 (.take 7 (.take 11 (.take 12 (.take 13 (.take 14 (.take 15 (.take 16 (.take 17 (.take 18 (.take 19 (.take 20 (.take 22 (.take 23 (.take 24 (.take 26 (.take 27 (.take 28 (.force 3 (.force 5 (.take 6 (.force 8 (.take 9 (.take 10 (.take 21 (.take 25 (.take 29 (.take 30 .fin)))))))))))))))))))))))))))))))), (29, (.take 0 (.take 2 (.take 5 (.take 8 (.take 9 (.take 10 (.take 11 (.take 12 (.take 13 (.take 14 (.take 15 (.take 16 (.take 17 (.take 18 (.take 19 (.take 20 (.take 21 (.take 22 (.force 1 (.force 3 (.take 4 (.force 6 (.take 7 (.take 23 (.take 24 .fin)))))))))))))))))))))))))), (34, (.take 0 (.take 1 (.take 2 (.take 3 (.take 4 (.take 5 (.take 6 (.take 7 (.take 8 (.last 9)))))))))))], vars := [5, 6, 7, 8, 10, 11, 12, 13, 15, 16, 17, 18, 19, 20, 22] }) (args := [a0]) mixed Tryz.func41 (by kernel_rfl) (by kernel_rfl) (by kernel_rfl) h

-- isthmus/isthmusref18.remember
def F.isthmusref18_remember (k : Value → World → Prop) (a0 a1 : Value) (w : World) : Prop :=
  o1 Tryz.prog (Instr.box 33 a0) w fun t2 w =>
  o1 Tryz.prog (Instr.box 43 a1) w fun t3 w =>
  o1 Tryz.prog (Instr.alloc 33 true (.tuple #[])) w fun t4 w =>
  o1 Tryz.prog (Instr.loadAt 33 t2) w fun t5 w =>
  o1 Tryz.prog (Instr.loadAt 43 t3) w fun t6 w =>
  C Tryz.prog N.isthmusref18_forget #[t5, t6] w fun t7 w =>
  o0 Tryz.prog (Instr.storeAt 33 t2 t7) w fun _ w =>
  o1 Tryz.prog (Instr.fieldAt 33 t2 4) w fun t8 w =>
  o1 Tryz.prog (Instr.loadAt 31 t8) w fun t9 w =>
  o1 Tryz.prog (Instr.loadAt 43 t3) w fun t10 w =>
  o1 Tryz.prog (Instr.buildSlice 31 1 #[(0, t10)]) w fun t11 w =>
  ob Tryz.prog (fun _ => Builtin.append_ #[31, 31] 31 #[t9, t11]) w fun t12 w =>
  o1 Tryz.prog (Instr.fieldAt 33 t2 4) w fun t13 w =>
  o0 Tryz.prog (Instr.storeAt 31 t13 t12) w fun _ w =>
  o1 Tryz.prog (Instr.fieldAt 33 t2 4) w fun t14 w =>
  o1 Tryz.prog (Instr.loadAt 31 t14) w fun t15 w =>
  o1 Tryz.prog (Builtin.len_ #[31] 3 #[t15]) w fun t16 w =>
  o1 Tryz.prog (Instr.fieldAt 33 t2 2) w fun t17 w =>
  o1 Tryz.prog (Instr.loadAt 3 t17) w fun t18 w =>
  o1 Tryz.prog (bin .gtr 3 (.tmp 16) (.tmp 18) t16 t18) w fun t19 w =>
  jn (fun x1 => []) (fun k1 =>
  br t19 (fun _ =>
  o1 Tryz.prog (Instr.fieldAt 33 t2 4) w fun t20 w =>
  o1 Tryz.prog (Instr.loadAt 31 t20) w fun t21 w =>
  o1 Tryz.prog (Instr.fieldAt 33 t2 4) w fun t22 w =>
  o1 Tryz.prog (Instr.loadAt 31 t22) w fun t23 w =>
  o1 Tryz.prog (Builtin.len_ #[31] 3 #[t23]) w fun t24 w =>
  o1 Tryz.prog (Instr.fieldAt 33 t2 2) w fun t25 w =>
  o1 Tryz.prog (Instr.loadAt 3 t25) w fun t26 w =>
  o1 Tryz.prog (bin .sub 3 (.tmp 24) (.tmp 26) t24 t26) w fun t27 w =>
  o1 Tryz.prog (Instr.sliceAt 31 t21 (some t27) none none) w fun t28 w =>
  o1 Tryz.prog (Instr.fieldAt 33 t2 4) w fun t29 w =>
  o0 Tryz.prog (Instr.storeAt 31 t29 t28) w fun _ w =>
  k1 [] w) (fun _ =>
  k1 [] w)) fun x1 w =>
  o1 Tryz.prog (Instr.loadAt 33 t2) w fun t30 w =>
  o0 Tryz.prog (Instr.storeAt 33 t4 t30) w fun _ w =>
  rc Tryz.prog 33 t4 w fun r0 =>
  k r0 w
theorem C.isthmusref18_remember {k : Value → World → Prop} {a0 a1 : Value} {w : World} (h : F.isthmusref18_remember k a0 a1 w) : C Tryz.prog N.isthmusref18_remember #[a0, a1] w k :=
  den_calls (H := { moves := [], vars := [] }) (args := [a0, a1]) mixed Tryz.func42 (by kernel_rfl) (by kernel_rfl) (by kernel_rfl) h

-- isthmus/isthmusref18.drop
def F.isthmusref18_drop (k : Value → World → Prop) (a0 a1 : Value) (w : World) : Prop :=
  o1 Tryz.prog (Instr.box 33 a0) w fun t2 w =>
  o1 Tryz.prog (Instr.box 43 a1) w fun t3 w =>
  o1 Tryz.prog (Instr.alloc 33 true (.tuple #[])) w fun t4 w =>
  mv (.slice none 0 0) fun t5 =>
  mv (.int .i64 0) fun t6 =>
  lp [t5, t6] w fun I1 μ1 => ∀ (x1 : Env) (w1 : World), I1 [x1 5, x1 6] w1 →
  mv (x1 6) fun t7 =>
  o1 Tryz.prog (Instr.fieldAt 33 t2 3) w1 fun t8 w =>
  o1 Tryz.prog (Instr.loadAt 30 t8) w fun t9 w =>
  o1 Tryz.prog (Builtin.len_ #[30] 3 #[t9]) w fun t10 w =>
  o1 Tryz.prog (bin .lss 3 (.tmp 7) (.tmp 10) t7 t10) w fun t11 w =>
  br t11 (fun _ =>
  dr w.drew fun S1 =>
  tk Tryz.prog S1 (Instr.fieldAt 33 t2 3) fun t14 =>
  tk Tryz.prog S1 (Instr.loadAt 30 t14) fun t15 =>
  mv (x1 6) fun t16 =>
  tk Tryz.prog S1 (Instr.indexAt 30 t15 t16) fun t17 =>
  tk Tryz.prog S1 (Instr.fieldAt 86 t17 0) fun t18 =>
  tk Tryz.prog S1 (Instr.loadAt 9 t18) fun t19 =>
  tk Tryz.prog S1 (Instr.loadAt 43 t3) fun t22 =>
  o1 Tryz.prog (convert 9 38 t19) w.drew fun t20 w =>
  S1 w ∧
  C Tryz.prog N.isthmusref15_Hash #[t20] w fun t21 w =>
  S1 w ∧
  tk Tryz.prog S1 (bin .neq 43 (.tmp 21) (.tmp 22) t21 t22) fun t23 =>
  jn (fun x2 => [x2 5]) (fun k1 =>
  br t23 (fun _ =>
  mv (x1 5) fun t24 =>
  o1 Tryz.prog (Instr.fieldAt 33 t2 3) w fun t25 w =>
  o1 Tryz.prog (Instr.loadAt 30 t25) w fun t26 w =>
  mv (x1 6) fun t27 =>
  o1 Tryz.prog (Instr.indexAt 30 t26 t27) w fun t28 w =>
  o1 Tryz.prog (Instr.loadAt 86 t28) w fun t29 w =>
  o1 Tryz.prog (Instr.buildSlice 30 1 #[(0, t29)]) w fun t30 w =>
  ob Tryz.prog (fun _ => Builtin.append_ #[30, 30] 30 #[t24, t30]) w fun t31 w =>
  mv t31 fun t5_1 =>
  k1 [t5_1] w) (fun _ =>
  k1 [(x1 5)] w)) fun x2 w =>
  mv (x1 6) fun t12 =>
  o1 Tryz.prog (bin .add 3 (.tmp 12) (.const (.int .i64 1)) t12 (.int .i64 1)) w fun t13 w =>
  mv t13 fun t6_1 =>
  I1 [(x2 5), t6_1] w ∧ μ1 [(x2 5), t6_1] w < μ1 [x1 5, x1 6] w1) (fun _ =>
  mv (x1 5) fun t32 =>
  o1 Tryz.prog (Instr.fieldAt 33 t2 3) w fun t33 w =>
  o0 Tryz.prog (Instr.storeAt 30 t33 t32) w fun _ w =>
  o1 Tryz.prog (Instr.loadAt 33 t2) w fun t34 w =>
  o0 Tryz.prog (Instr.storeAt 33 t4 t34) w fun _ w =>
  rc Tryz.prog 33 t4 w fun r0 =>
  k r0 w)
theorem C.isthmusref18_drop {k : Value → World → Prop} {a0 a1 : Value} {w : World} (h : F.isthmusref18_drop k a0 a1 w) : C Tryz.prog N.isthmusref18_drop #[a0, a1] w k :=
  den_calls (H := { moves := [(5, (.take 0 (.take 1 (.take 2 (.take 3 (.take 4 (.take 5 (.take 8 (.force 6 (.force 7 (.take 9 .fin)))))))))))], vars := [5, 6] }) (args := [a0, a1]) mixed Tryz.func43 (by kernel_rfl) (by kernel_rfl) (by kernel_rfl) h

end Go.Proofs.YtgagekffmamldaaGreatDoor
