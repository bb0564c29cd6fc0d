/- What each function asks: printed by hoas.py off the loaded program; each is held against the program by the kernel. -/
import Derived.Test.YtiaiglgfangedaaDoorN
set_option linter.unusedVariables false
set_option linter.unusedSimpArgs false
set_option linter.unusedSectionVars false
namespace Go.Proofs.YtiaiglgfangedaaDoor
open Go Go.Isk
set_option maxRecDepth 100000
-- isthmus/isthmuslaw04.same
def F.isthmuslaw04_same (k : Value → World → Prop) (a0 a1 : Value) (w : World) : Prop :=
  o1 Tryd.prog (Instr.box 42 a1) w fun t3 w =>
  mv (.bool false) fun t4 =>
  mv a0 fun t15 =>
  C Tryd.prog N.files_FS_List #[t15] w fun t16 w =>
  mv t16 fun t5 =>
  dr w.drew fun S1 =>
  mv t5 fun t17 =>
  tk Tryd.prog S1 (Builtin.len_ #[48] 3 #[t17]) fun t18 =>
  tk Tryd.prog S1 (Instr.fieldAt 42 t3 0) fun t19 =>
  tk Tryd.prog S1 (Instr.loadAt 40 t19) fun t20 =>
  tk Tryd.prog S1 (Builtin.len_ #[40] 3 #[t20]) fun t21 =>
  tk Tryd.prog S1 (bin .neq 3 (.tmp 18) (.tmp 21) t18 t21) fun t22 =>
  mv t22 fun t23 =>
  gdT t23 false (fun k1 => mv a0 k1) fun t24 =>
  gdT t23 false (fun k2 => tk Tryd.prog S1 (Instr.fieldAt 42 t3 4) k2) fun t26 =>
  gdT t23 false (fun k3 => tk Tryd.prog S1 (Instr.loadAt 4 t26) k3) fun t27 =>
  gd t23 false (fun k4 => C Tryd.prog N.files_FS_Down #[t24] w.drew k4) w.drew fun t25 w =>
  S1 w ∧
  gdT t23 false (fun k5 => tk Tryd.prog S1 (bin .neq 4 (.tmp 25) (.tmp 27) t25 t27) k5) fun t28 =>
  pk t23 (.bool true) t28 fun t29 =>
  mv t29 fun t30 =>
  gdT t30 false (fun k6 => mv a0 k6) fun t31 =>
  gdT t30 false (fun k7 => tk Tryd.prog S1 (Instr.fieldAt 42 t3 1) k7) fun t33 =>
  nS S1 w fun S2 =>
  gdT t30 false (fun k8 => tk Tryd.prog S2 (Instr.loadAt 3 t33) k8) fun t34 =>
  gd t30 false (fun k9 => C Tryd.prog N.files_FS_Steps #[t31] w k9) w fun t32 w =>
  S2 w ∧
  gdT t30 false (fun k10 => tk Tryd.prog S2 (bin .neq 3 (.tmp 32) (.tmp 34) t32 t34) k10) fun t35 =>
  pk t30 (.bool true) t35 fun t36 =>
  br t36 (fun _ =>
  mv (.bool false) fun t4_1 =>
  k t4_1 w) (fun _ =>
  mv (.int .i64 0) fun t6 =>
  lp [t4, t6, undef, undef, undef, undef, undef, undef, undef, undef] w fun I1 μ1 => ∀ (x1 : Env) (w1 : World), I1 [x1 4, x1 6, x1 7, x1 8, x1 9, x1 10, x1 11, x1 12, x1 13, x1 14] w1 →
  mv (x1 6) fun t37 =>
  mv t5 fun t38 =>
  o1 Tryd.prog (Builtin.len_ #[48] 3 #[t38]) w1 fun t39 w =>
  o1 Tryd.prog (bin .lss 3 (.tmp 37) (.tmp 39) t37 t39) w fun t40 w =>
  br t40 (fun _ =>
  mv a0 fun t44 =>
  mv t5 fun t45 =>
  mv (x1 6) fun t46 =>
  o1 Tryd.prog (Instr.indexAt 48 t45 t46) w fun t47 w =>
  o1 Tryd.prog (Instr.loadAt 9 t47) w fun t48 w =>
  C Tryd.prog N.files_FS_Read #[t44, t48] w fun t49 w =>
  mv t49 fun t43 =>
  o1 Tryd.prog (Instr.extract t43 0) w fun t50 w =>
  o1 Tryd.prog (Instr.extract t43 1) w fun t51 w =>
  mv t50 fun t7 =>
  mv t51 fun t8 =>
  mv a0 fun t53 =>
  mv t5 fun t54 =>
  mv (x1 6) fun t55 =>
  o1 Tryd.prog (Instr.indexAt 48 t54 t55) w fun t56 w =>
  o1 Tryd.prog (Instr.loadAt 9 t56) w fun t57 w =>
  C Tryd.prog N.files_FS_Safe #[t53, t57] w fun t58 w =>
  mv t58 fun t52 =>
  o1 Tryd.prog (Instr.extract t52 0) w fun t59 w =>
  o1 Tryd.prog (Instr.extract t52 1) w fun t60 w =>
  mv t59 fun t9 =>
  mv t60 fun t10 =>
  dr w.drew fun S3 =>
  tk Tryd.prog S3 (Instr.loadAt 42 t3) fun t62 =>
  tk Tryd.prog S3 (Instr.fieldAt 42 t3 0) fun t63 =>
  tk Tryd.prog S3 (Instr.loadAt 40 t63) fun t64 =>
  mv (x1 6) fun t65 =>
  tk Tryd.prog S3 (Instr.indexAt 40 t64 t65) fun t66 =>
  tk Tryd.prog S3 (Instr.fieldAt 80 t66 0) fun t67 =>
  tk Tryd.prog S3 (Instr.loadAt 9 t67) fun t68 =>
  C Tryd.prog N.isthmusref04_Read #[t62, t68] w.drew fun t69 w =>
  S3 w ∧
  mv t69 fun t61 =>
  tk Tryd.prog S3 (Instr.extract t61 0) fun t70 =>
  tk Tryd.prog S3 (Instr.extract t61 1) fun t71 =>
  tk Tryd.prog S3 (Instr.extract t61 2) fun t72 =>
  mv t70 fun t11 =>
  mv t71 fun t12 =>
  mv t72 fun t13 =>
  dr w.drew fun S4 =>
  mv t5 fun t73 =>
  mv (x1 6) fun t74 =>
  tk Tryd.prog S4 (Instr.indexAt 48 t73 t74) fun t75 =>
  tk Tryd.prog S4 (Instr.loadAt 9 t75) fun t76 =>
  tk Tryd.prog S4 (Instr.fieldAt 42 t3 0) fun t77 =>
  tk Tryd.prog S4 (Instr.loadAt 40 t77) fun t78 =>
  mv (x1 6) fun t79 =>
  tk Tryd.prog S4 (Instr.indexAt 40 t78 t79) fun t80 =>
  tk Tryd.prog S4 (Instr.fieldAt 80 t80 0) fun t81 =>
  tk Tryd.prog S4 (Instr.loadAt 9 t81) fun t82 =>
  tk Tryd.prog S4 (bin .neq 9 (.tmp 76) (.tmp 82) t76 t82) fun t83 =>
  mv t83 fun t84 =>
  gdT t84 false (fun k11 => mv t8 k11) fun t85 =>
  gdT t84 false (fun k12 => mv t13 k12) fun t87 =>
  gd t84 false (fun k13 => C Tryd.prog N.isthmuslaw04_num #[t85] w.drew k13) w.drew fun t86 w =>
  S4 w ∧
  gdT t84 false (fun k14 => tk Tryd.prog S4 (bin .neq 3 (.tmp 86) (.tmp 87) t86 t87) k14) fun t88 =>
  pk t84 (.bool true) t88 fun t89 =>
  mv t89 fun t90 =>
  gdT t90 false (fun k15 => mv t10 k15) fun t91 =>
  gdT t90 false (fun k16 => mv t13 k16) fun t93 =>
  gd t90 false (fun k17 => C Tryd.prog N.isthmuslaw04_num #[t91] w k17) w fun t92 w =>
  S4 w ∧
  gdT t90 false (fun k18 => tk Tryd.prog S4 (bin .neq 3 (.tmp 92) (.tmp 93) t92 t93) k18) fun t94 =>
  pk t90 (.bool true) t94 fun t95 =>
  mv t95 fun t96 =>
  gdT t96 false (fun k19 => mv t13 k19) fun t97 =>
  gdT t96 false (fun k20 => tk Tryd.prog S4 (bin .eql 3 (.tmp 97) (.const (.int .i64 0)) t97 (.int .i64 0)) k20) fun t98 =>
  gdT t96 false (fun k21 => mv t98 k21) fun t99 =>
  gdT t99 true (fun k22 => mv t7 k22) fun t100 =>
  nS S4 w fun S5 =>
  gdT t99 true (fun k23 => tk Tryd.prog S5 (convert 22 9 t100) k23) fun t101 =>
  gdT t99 true (fun k24 => mv t11 k24) fun t102 =>
  gdT t99 true (fun k25 => tk Tryd.prog S5 (bin .neq 9 (.tmp 101) (.tmp 102) t101 t102) k25) fun t103 =>
  gdT t99 true (fun k26 => mv t103 k26) fun t104 =>
  gdT t104 false (fun k27 => mv t9 k27) fun t105 =>
  gdT t104 false (fun k28 => mv t12 k28) fun t106 =>
  gdT t104 false (fun k29 => tk Tryd.prog S5 (bin .neq 3 (.tmp 105) (.tmp 106) t105 t106) k29) fun t107 =>
  gdT t99 true (fun k30 => pk t104 (.bool true) t107 k30) fun t108 =>
  gdT t96 false (fun k31 => pk t99 t108 (.bool false) k31) fun t109 =>
  pk t96 (.bool true) t109 fun t110 =>
  br t110 (fun _ =>
  mv (.bool false) fun t4_2 =>
  k t4_2 w) (fun _ =>
  mv (.int .i64 0) fun t14 =>
  lp [t14] w fun I2 μ2 => ∀ (x2 : Env) (w2 : World), I2 [x2 14] w2 →
  mv (x2 14) fun t111 =>
  mv t7 fun t112 =>
  o1 Tryd.prog (Builtin.len_ #[22] 3 #[t112]) w2 fun t113 w =>
  o1 Tryd.prog (bin .lss 3 (.tmp 111) (.tmp 113) t111 t113) w fun t114 w =>
  br t114 (fun _ =>
  mv t7 fun t117 =>
  mv (x2 14) fun t118 =>
  o1 Tryd.prog (Instr.indexAt 22 t117 t118) w fun t119 w =>
  o0 Tryd.prog (Instr.storeAt 5 t119 (.int .u8 63)) w fun _ w =>
  mv (x2 14) fun t115 =>
  o1 Tryd.prog (bin .add 3 (.tmp 115) (.const (.int .i64 1)) t115 (.int .i64 1)) w fun t116 w =>
  mv t116 fun t14_1 =>
  I2 [t14_1] w ∧ μ2 [t14_1] w < μ2 [x2 14] w2) (fun _ =>
  mv (x1 6) fun t41 =>
  o1 Tryd.prog (bin .add 3 (.tmp 41) (.const (.int .i64 1)) t41 (.int .i64 1)) w fun t42 w =>
  mv t42 fun t6_1 =>
  I1 [(x1 4), t6_1, t7, t8, t9, t10, t11, t12, t13, (x2 14)] w ∧ μ1 [(x1 4), t6_1, t7, t8, t9, t10, t11, t12, t13, (x2 14)] w < μ1 [x1 4, x1 6, x1 7, x1 8, x1 9, x1 10, x1 11, x1 12, x1 13, x1 14] w1))) (fun _ =>
  mv (.bool true) fun t4_3 =>
  k t4_3 w))
theorem C.isthmuslaw04_same {k : Value → World → Prop} {a0 a1 : Value} {w : World} (h : F.isthmuslaw04_same k a0 a1 w) : C Tryd.prog N.isthmuslaw04_same #[a0, a1] w k :=
  den_calls (H := { moves := [(2, (.take 0 (.take 1 (.take 2 (.take 3 (.take 4 (.take 5 (.take 6 (.take 7 (.take 9 (.take 10 (.force 8 (.take 11 (.take 12 (.take 13 (.take 14 (.take 16 (.renew (.take 17 (.force 15 (.take 18 (.take 19 .fin)))))))))))))))))))))), (9, (.take 0 (.take 1 (.take 2 (.take 3 (.take 4 (.take 5 (.take 6 (.force 7 (.take 8 (.take 9 (.take 10 (.take 11 (.take 12 (.take 13 (.take 14 .fin)))))))))))))))), (10, (.take 0 (.take 1 (.take 2 (.take 3 (.take 4 (.take 5 (.take 6 (.take 7 (.take 8 (.take 9 (.take 10 (.take 11 (.take 12 (.take 14 (.force 13 (.take 15 (.take 16 (.take 17 (.take 18 (.take 20 (.force 19 (.take 21 (.take 22 (.take 23 (.take 24 (.take 25 (.take 26 (.take 27 (.renew (.take 28 (.take 29 (.take 30 (.take 31 (.take 32 (.take 33 (.take 34 (.take 35 (.take 36 (.take 37 .fin))))))))))))))))))))))))))))))))))))))))], vars := [4, 5, 6, 7, 8, 9, 10, 11, 12, 13, 14] }) (args := [a0, a1]) mixed Tryd.func17 (by kernel_rfl) (by kernel_rfl) (by kernel_rfl) h

-- (*isthmus/files.FS).Clone
def F.files_FS_Clone (k : Value → World → Prop) (a0 : Value) (w : World) : Prop :=
  mv (.pointer none) fun t2 =>
  mv a0 fun t4 =>
  o1 Tryd.prog (bin .eql 23 (.tmp 4) (.const (.pointer none)) t4 (.pointer none)) w fun t5 w =>
  br t5 (fun _ =>
  mv (.pointer none) fun t2_1 =>
  k t2_1 w) (fun _ =>
  mv a0 fun t6 =>
  nilOk t6 = true ∧ mv t6 fun t7 =>
  o1 Tryd.prog (Instr.loadAt 54 t7) w fun t8 w =>
  o1 Tryd.prog (Instr.alloc 54 true (.tuple #[])) w fun t3 w =>
  o0 Tryd.prog (Instr.storeAt 54 t3 t8) w fun _ w =>
  mv a0 fun t9 =>
  nilOk t9 = true ∧ mv t9 fun t10 =>
  o1 Tryd.prog (Instr.fieldAt 54 t10 0) w fun t11 w =>
  o1 Tryd.prog (Instr.loadAt 52 t11) w fun t12 w =>
  C Tryd.prog N.maps_Clone_map_string_files_file_string_files_file #[t12] w fun t13 w =>
  o1 Tryd.prog (Instr.fieldAt 54 t3 0) w fun t14 w =>
  o0 Tryd.prog (Instr.storeAt 52 t14 t13) w fun _ w =>
  mv t3 fun t2_2 =>
  k t2_2 w)
theorem C.files_FS_Clone {k : Value → World → Prop} {a0 : Value} {w : World} (h : F.files_FS_Clone k a0 w) : C Tryd.prog N.files_FS_Clone #[a0] w k :=
  den_calls (H := { moves := [], vars := [2] }) (args := [a0]) mixed Tryd.func18 (by kernel_rfl) (by kernel_rfl) (by kernel_rfl) h

-- (*isthmus/files.FS).List
def F.files_FS_List (k : Value → World → Prop) (a0 : Value) (w : World) : Prop :=
  mv (.slice none 0 0) fun t2 =>
  mv a0 fun t3 =>
  o1 Tryd.prog (bin .eql 23 (.tmp 3) (.const (.pointer none)) t3 (.pointer none)) w fun t4 w =>
  br t4 (fun _ =>
  mv (.slice none 0 0) fun t2_1 =>
  k t2_1 w) (fun _ =>
  mv a0 fun t5 =>
  nilOk t5 = true ∧ mv t5 fun t6 =>
  o1 Tryd.prog (Instr.fieldAt 54 t6 0) w fun t7 w =>
  o1 Tryd.prog (Instr.loadAt 52 t7) w fun t8 w =>
  C Tryd.prog N.maps_Keys_map_string_files_file_string_files_file #[t8] w fun t9 w =>
  C Tryd.prog N.slices_Sorted_string #[t9] w fun t10 w =>
  mv t10 fun t2_2 =>
  k t2_2 w)
theorem C.files_FS_List {k : Value → World → Prop} {a0 : Value} {w : World} (h : F.files_FS_List k a0 w) : C Tryd.prog N.files_FS_List #[a0] w k :=
  den_calls (H := { moves := [], vars := [2] }) (args := [a0]) mixed Tryd.func19 (by kernel_rfl) (by kernel_rfl) (by kernel_rfl) h

-- isthmus/files.fault
def F.files_fault (k : Value → World → Prop) (a0 a1 : Value) (w : World) : Prop :=
  mv .nilIface fun t4 =>
  mv a0 fun t5 =>
  o1 Tryd.prog (bin .add 9 (.const (.string ⟨#[102, 105, 108, 101, 32]⟩)) (.tmp 5) (.string ⟨#[102, 105, 108, 101, 32]⟩) t5) w fun t6 w =>
  mv a1 fun t7 =>
  o1 Tryd.prog (Instr.makeInterface 56 t7) w fun t8 w =>
  o1 Tryd.prog (Instr.build 88 #[(0, t6), (1, t8)]) w fun t9 w =>
  o1 Tryd.prog (Instr.box 88 t9) w fun t10 w =>
  o1 Tryd.prog (Instr.makeInterface 86 t10) w fun t11 w =>
  mv t11 fun t4_1 =>
  k t4_1 w
theorem C.files_fault {k : Value → World → Prop} {a0 a1 : Value} {w : World} (h : F.files_fault k a0 a1 w) : C Tryd.prog N.files_fault #[a0, a1] w k :=
  den_calls (H := { moves := [], vars := [4] }) (args := [a0, a1]) mixed Tryd.func20 (by kernel_rfl) (by kernel_rfl) (by kernel_rfl) h

-- (*isthmus/files.FS).ready
def F.files_FS_ready (k : Value → World → Prop) (a0 a1 : Value) (w : World) : Prop :=
  mv .nilIface fun t4 =>
  mv a1 fun t7 =>
  o1 Tryd.prog (Builtin.len_ #[48] 3 #[t7]) w fun t8 w =>
  mv (.int .i64 0) fun t9 =>
  lp [t4, undef, t9] w fun I1 μ1 => ∀ (x1 : Env) (w1 : World), I1 [x1 4, x1 6, x1 9] w1 →
  o1 Tryd.prog (bin .lss 3 (.tmp 9) (.tmp 8) (x1 9) t8) w1 fun t10 w =>
  br t10 (fun _ =>
  o1 Tryd.prog (Instr.indexAt 48 t7 (x1 9)) w fun t11 w =>
  o1 Tryd.prog (Instr.loadAt 9 t11) w fun t12 w =>
  mv t12 fun t6 =>
  mv a0 fun t13 =>
  o1 Tryd.prog (bin .eql 23 (.tmp 13) (.const (.pointer none)) t13 (.pointer none)) w fun t14 w =>
  mv t14 fun t15 =>
  gd t15 false (fun k1 => mv t6 fun v => k1 v w) w fun t16 w =>
  gd t15 false (fun k2 => C Tryd.prog N.files_named #[t16] w k2) w fun t17 w =>
  gd t15 false (fun k3 => o1 Tryd.prog (Op.unary .not t17) w k3) w fun t18 w =>
  pk t15 (.bool true) t18 fun t19 =>
  br t19 (fun _ =>
  mv t6 fun t20 =>
  C Tryd.prog N.files_fault #[t20, .int .i64 1] w fun t21 w =>
  mv t21 fun t4_1 =>
  k t4_1 w) (fun _ =>
  o1 Tryd.prog (bin .add 3 (.tmp 9) (.const (.int .i64 1)) (x1 9) (.int .i64 1)) w fun t22 w =>
  mv t22 fun t9_1 =>
  I1 [(x1 4), t6, t9_1] w ∧ μ1 [(x1 4), t6, t9_1] w < μ1 [x1 4, x1 6, x1 9] w1)) (fun _ =>
  mv a0 fun t24 =>
  o1 Tryd.prog (bin .eql 23 (.tmp 24) (.const (.pointer none)) t24 (.pointer none)) w fun t25 w =>
  mv t25 fun t23 =>
  br t23 (fun _ =>
  C Tryd.prog N.files_fault #[.string ⟨#[]⟩, .int .i64 1] w fun t26 w =>
  mv t26 fun t4_2 =>
  k t4_2 w) (fun _ =>
  mv a0 fun t28 =>
  nilOk t28 = true ∧ mv t28 fun t29 =>
  o1 Tryd.prog (Instr.fieldAt 54 t29 4) w fun t30 w =>
  o1 Tryd.prog (Instr.loadAt 4 t30) w fun t31 w =>
  mv t31 fun t27 =>
  br t27 (fun _ =>
  C Tryd.prog N.files_fault #[.string ⟨#[]⟩, .int .i64 13] w fun t32 w =>
  mv t32 fun t4_3 =>
  k t4_3 w) (fun _ =>
  mv .nilIface fun t4_4 =>
  k t4_4 w)))
theorem C.files_FS_ready {k : Value → World → Prop} {a0 a1 : Value} {w : World} (h : F.files_FS_ready k a0 a1 w) : C Tryd.prog N.files_FS_ready #[a0, a1] w k :=
  den_calls (H := { moves := [], vars := [4, 6, 9, 23, 27] }) (args := [a0, a1]) mixed Tryd.func21 (by kernel_rfl) (by kernel_rfl) (by kernel_rfl) h

-- (*isthmus/files.FS).step
def F.files_FS_step (k : Value → World → Prop) (a0 : Value) (w : World) : Prop :=
  mv .nilIface fun t2 =>
  mv a0 fun t3 =>
  nilOk t3 = true ∧ mv t3 fun t4 =>
  o1 Tryd.prog (Instr.fieldAt 54 t4 2) w fun t5 w =>
  o1 Tryd.prog (Instr.loadAt 4 t5) w fun t6 w =>
  mv t6 fun t7 =>
  gd t7 true (fun k1 => mv a0 fun v => k1 v w) w fun t8 w =>
  gd t7 true (fun k2 => nilOk t8 = true ∧ mv t8 fun v => k2 v w) w fun t9 w =>
  gd t7 true (fun k3 => o1 Tryd.prog (Instr.fieldAt 54 t9 3) w k3) w fun t10 w =>
  gd t7 true (fun k4 => o1 Tryd.prog (Instr.loadAt 3 t10) w k4) w fun t11 w =>
  gd t7 true (fun k5 => o1 Tryd.prog (bin .eql 3 (.tmp 11) (.const (.int .i64 0)) t11 (.int .i64 0)) w k5) w fun t12 w =>
  pk t7 t12 (.bool false) fun t13 =>
  br t13 (fun _ =>
  mv a0 fun t14 =>
  nilOk t14 = true ∧ mv t14 fun t15 =>
  o1 Tryd.prog (Instr.fieldAt 54 t15 4) w fun t16 w =>
  o0 Tryd.prog (Instr.storeAt 4 t16 (.bool true)) w fun _ w =>
  C Tryd.prog N.files_fault #[.string ⟨#[]⟩, .int .i64 13] w fun t17 w =>
  mv t17 fun t2_1 =>
  k t2_1 w) (fun _ =>
  mv a0 fun t18 =>
  nilOk t18 = true ∧ mv t18 fun t19 =>
  o1 Tryd.prog (Instr.fieldAt 54 t19 3) w fun t20 w =>
  o1 Tryd.prog (Instr.loadAt 3 t20) w fun t21 w =>
  o1 Tryd.prog (bin .sub 3 (.tmp 21) (.const (.int .i64 1)) t21 (.int .i64 1)) w fun t22 w =>
  nilOk t18 = true ∧ mv t18 fun t23 =>
  o1 Tryd.prog (Instr.fieldAt 54 t23 3) w fun t24 w =>
  o0 Tryd.prog (Instr.storeAt 3 t24 t22) w fun _ w =>
  mv a0 fun t25 =>
  nilOk t25 = true ∧ mv t25 fun t26 =>
  o1 Tryd.prog (Instr.fieldAt 54 t26 1) w fun t27 w =>
  o1 Tryd.prog (Instr.loadAt 3 t27) w fun t28 w =>
  o1 Tryd.prog (bin .add 3 (.tmp 28) (.const (.int .i64 1)) t28 (.int .i64 1)) w fun t29 w =>
  nilOk t25 = true ∧ mv t25 fun t30 =>
  o1 Tryd.prog (Instr.fieldAt 54 t30 1) w fun t31 w =>
  o0 Tryd.prog (Instr.storeAt 3 t31 t29) w fun _ w =>
  mv .nilIface fun t2_2 =>
  k t2_2 w)
theorem C.files_FS_step {k : Value → World → Prop} {a0 : Value} {w : World} (h : F.files_FS_step k a0 w) : C Tryd.prog N.files_FS_step #[a0] w k :=
  den_calls (H := { moves := [], vars := [2] }) (args := [a0]) mixed Tryd.func22 (by kernel_rfl) (by kernel_rfl) (by kernel_rfl) h

-- errors.As
def F.errors_As (k : Value → World → Prop) (a0 a1 : Value) (w : World) : Prop :=
  mv (.bool false) fun t4 =>
  mv a0 fun t8 =>
  o1 Tryd.prog (bin .eql 27 (.tmp 8) (.const .nilIface) t8 .nilIface) w fun t9 w =>
  br t9 (fun _ =>
  mv (.bool false) fun t4_1 =>
  k t4_1 w) (fun _ =>
  mv a1 fun t10 =>
  o1 Tryd.prog (bin .eql 20 (.tmp 10) (.const .nilIface) t10 .nilIface) w fun t11 w =>
  jn (fun x1 => []) (fun k1 =>
  br t11 (fun _ =>
  o1 Tryd.prog (Instr.makeInterface 9 (.string ⟨#[101, 114, 114, 111, 114, 115, 58, 32, 116, 97, 114, 103, 101, 116, 32, 99, 97, 110, 110, 111, 116, 32, 98, 101, 32, 110, 105, 108]⟩)) w fun t12 w =>
  False) (fun _ =>
  k1 [] w)) fun x1 w =>
  mv a1 fun t13 =>
  oN Tryd.prog (callFunc N.internal_reflectlite_ValueOf #[t13]) w fun t14 w =>
  o1 Tryd.prog (Instr.alloc 93 true (.tuple #[])) w fun t5 w =>
  o0 Tryd.prog (Instr.storeAt 93 t5 t14) w fun _ w =>
  o1 Tryd.prog (Instr.loadAt 93 t5) w fun t15 w =>
  oN Tryd.prog (callFunc N.internal_reflectlite_Value_Type #[t15]) w fun t16 w =>
  mv t16 fun t6 =>
  mv t6 fun t17 =>
  iv Tryd.prog t17 "Kind" #[] w fun t18 w =>
  o1 Tryd.prog (bin .neq 98 (.tmp 18) (.const (.int .u8 22)) t18 (.int .u8 22)) w fun t19 w =>
  mv t19 fun t20 =>
  gd t20 false (fun k2 => o1 Tryd.prog (Instr.loadAt 93 t5) w k2) w fun t21 w =>
  gd t20 false (fun k3 => oN Tryd.prog (callFunc N.internal_reflectlite_Value_IsNil #[t21]) w k3) w fun t22 w =>
  pk t20 (.bool true) t22 fun t23 =>
  jn (fun x2 => []) (fun k4 =>
  br t23 (fun _ =>
  o1 Tryd.prog (Instr.makeInterface 9 (.string ⟨#[101, 114, 114, 111, 114, 115, 58, 32, 116, 97, 114, 103, 101, 116, 32, 109, 117, 115, 116, 32, 98, 101, 32, 97, 32, 110, 111, 110, 45, 110, 105, 108, 32, 112, 111, 105, 110, 116, 101, 114]⟩)) w fun t24 w =>
  False) (fun _ =>
  k4 [] w)) fun x2 w =>
  mv t6 fun t25 =>
  iv Tryd.prog t25 "Elem" #[] w fun t26 w =>
  mv t26 fun t7 =>
  mv t7 fun t27 =>
  iv Tryd.prog t27 "Kind" #[] w fun t28 w =>
  o1 Tryd.prog (bin .neq 98 (.tmp 28) (.const (.int .u8 20)) t28 (.int .u8 20)) w fun t29 w =>
  mv t29 fun t30 =>
  gd t30 true (fun k5 => mv t7 fun v => k5 v w) w fun t31 w =>
  gd t30 true (fun k6 => o1 Tryd.prog (Instr.loadAt 96 (.pointer (some ⟨0, 0, none⟩))) w k6) w fun t32 w =>
  gd t30 true (fun k7 => iv Tryd.prog t31 "Implements" #[t32] w k7) w fun t33 w =>
  gd t30 true (fun k8 => o1 Tryd.prog (Op.unary .not t33) w k8) w fun t34 w =>
  pk t30 t34 (.bool false) fun t35 =>
  jn (fun x3 => []) (fun k9 =>
  br t35 (fun _ =>
  o1 Tryd.prog (Instr.makeInterface 9 (.string ⟨#[101, 114, 114, 111, 114, 115, 58, 32, 42, 116, 97, 114, 103, 101, 116, 32, 109, 117, 115, 116, 32, 98, 101, 32, 105, 110, 116, 101, 114, 102, 97, 99, 101, 32, 111, 114, 32, 105, 109, 112, 108, 101, 109, 101, 110, 116, 32, 101, 114, 114, 111, 114]⟩)) w fun t36 w =>
  False) (fun _ =>
  k9 [] w)) fun x3 w =>
  mv a0 fun t37 =>
  mv a1 fun t38 =>
  o1 Tryd.prog (Instr.loadAt 93 t5) w fun t39 w =>
  mv t7 fun t40 =>
  C Tryd.prog N.errors_as #[t37, t38, t39, t40] w fun t41 w =>
  mv t41 fun t4_2 =>
  k t4_2 w)
theorem C.errors_As {k : Value → World → Prop} {a0 a1 : Value} {w : World} (h : F.errors_As k a0 a1 w) : C Tryd.prog N.errors_As #[a0, a1] w k :=
  den_calls (H := { moves := [], vars := [4, 6, 7] }) (args := [a0, a1]) mixed Tryd.func23 (by kernel_rfl) (by kernel_rfl) (by kernel_rfl) h

-- (*isthmus/files.FS).find
def F.files_FS_find (k : Value → World → Prop) (a0 a1 : Value) (w : World) : Prop :=
  o1 Tryd.prog (Instr.alloc 59 true (.tuple #[])) w fun t4 w =>
  mv .nilIface fun t5 =>
  mv a0 fun t9 =>
  mv a1 fun t10 =>
  o1 Tryd.prog (Instr.buildSlice 48 1 #[(0, t10)]) w fun t11 w =>
  C Tryd.prog N.files_FS_ready #[t9, t11] w fun t12 w =>
  mv t12 fun t6 =>
  mv t6 fun t13 =>
  o1 Tryd.prog (bin .neq 27 (.tmp 13) (.const .nilIface) t13 .nilIface) w fun t14 w =>
  br t14 (fun _ =>
  o1 Tryd.prog (Instr.build 59 #[]) w fun t15 w =>
  mv t6 fun t16 =>
  o0 Tryd.prog (Instr.storeAt 59 t4 t15) w fun _ w =>
  mv t16 fun t5_1 =>
  rc Tryd.prog 59 t4 w fun r0 =>
  k (.tuple #[r0, t5_1]) w) (fun _ =>
  mv a0 fun t18 =>
  nilOk t18 = true ∧ mv t18 fun t19 =>
  o1 Tryd.prog (Instr.fieldAt 54 t19 0) w fun t20 w =>
  o1 Tryd.prog (Instr.loadAt 52 t20) w fun t21 w =>
  mv a1 fun t22 =>
  o1 Tryd.prog (Instr.lookup 52 t21 t22 true) w fun t23 w =>
  mv t23 fun t17 =>
  o1 Tryd.prog (Instr.extract t17 0) w fun t24 w =>
  o1 Tryd.prog (Instr.extract t17 1) w fun t25 w =>
  o1 Tryd.prog (Instr.alloc 59 true (.tuple #[])) w fun t7 w =>
  o0 Tryd.prog (Instr.storeAt 59 t7 t24) w fun _ w =>
  mv t25 fun t8 =>
  mv t8 fun t26 =>
  o1 Tryd.prog (Op.unary .not t26) w fun t27 w =>
  br t27 (fun _ =>
  o1 Tryd.prog (Instr.build 59 #[]) w fun t28 w =>
  mv a1 fun t29 =>
  C Tryd.prog N.files_fault #[t29, .int .i64 8] w fun t30 w =>
  o0 Tryd.prog (Instr.storeAt 59 t4 t28) w fun _ w =>
  mv t30 fun t5_2 =>
  rc Tryd.prog 59 t4 w fun r0 =>
  k (.tuple #[r0, t5_2]) w) (fun _ =>
  o1 Tryd.prog (Instr.loadAt 59 t7) w fun t31 w =>
  o0 Tryd.prog (Instr.storeAt 59 t4 t31) w fun _ w =>
  mv .nilIface fun t5_3 =>
  rc Tryd.prog 59 t4 w fun r0 =>
  k (.tuple #[r0, t5_3]) w))
theorem C.files_FS_find {k : Value → World → Prop} {a0 a1 : Value} {w : World} (h : F.files_FS_find k a0 a1 w) : C Tryd.prog N.files_FS_find #[a0, a1] w k :=
  den_calls (H := { moves := [], vars := [5, 6, 8] }) (args := [a0, a1]) mixed Tryd.func24 (by kernel_rfl) (by kernel_rfl) (by kernel_rfl) h

-- slices.Clone[[]byte,byte]
def F.slices_Clone_bytes (k : Value → World → Prop) (a0 : Value) (w : World) : Prop :=
  mv (.slice none 0 0) fun t2 =>
  mv a0 fun t3 =>
  o1 Tryd.prog (bin .eql 22 (.tmp 3) (.const (.slice none 0 0)) t3 (.slice none 0 0)) w fun t4 w =>
  br t4 (fun _ =>
  mv (.slice none 0 0) fun t2_1 =>
  k t2_1 w) (fun _ =>
  o1 Tryd.prog (Instr.buildSlice 22 0 #[]) w fun t5 w =>
  mv a0 fun t6 =>
  ob Tryd.prog (fun _ => Builtin.append_ #[22, 22] 22 #[t5, t6]) w fun t7 w =>
  mv t7 fun t2_2 =>
  k t2_2 w)
theorem C.slices_Clone_bytes {k : Value → World → Prop} {a0 : Value} {w : World} (h : F.slices_Clone_bytes k a0 w) : C Tryd.prog N.slices_Clone_bytes #[a0] w k :=
  den_calls (H := { moves := [], vars := [2] }) (args := [a0]) mixed Tryd.func25 (by kernel_rfl) (by kernel_rfl) (by kernel_rfl) h

-- (*isthmus/files.FS).change
def F.files_FS_change (k : Value → World → Prop) (a0 a1 a2 : Value) (w : World) : Prop :=
  mv .nilIface fun t6 =>
  mv a0 fun t11 =>
  mv a1 fun t12 =>
  C Tryd.prog N.files_FS_find #[t11, t12] w fun t13 w =>
  mv t13 fun t10 =>
  o1 Tryd.prog (Instr.extract t10 0) w fun t14 w =>
  o1 Tryd.prog (Instr.extract t10 1) w fun t15 w =>
  o1 Tryd.prog (Instr.alloc 59 true (.tuple #[])) w fun t7 w =>
  o0 Tryd.prog (Instr.storeAt 59 t7 t14) w fun _ w =>
  mv t15 fun t8 =>
  mv t8 fun t16 =>
  o1 Tryd.prog (bin .neq 27 (.tmp 16) (.const .nilIface) t16 .nilIface) w fun t17 w =>
  br t17 (fun _ =>
  mv t8 fun t18 =>
  mv t18 fun t6_1 =>
  k t6_1 w) (fun _ =>
  mv a0 fun t19 =>
  C Tryd.prog N.files_FS_step #[t19] w fun t20 w =>
  mv t20 fun t9 =>
  mv t9 fun t21 =>
  o1 Tryd.prog (bin .neq 27 (.tmp 21) (.const .nilIface) t21 .nilIface) w fun t22 w =>
  br t22 (fun _ =>
  mv t9 fun t23 =>
  mv t23 fun t6_2 =>
  k t6_2 w) (fun _ =>
  mv a2 fun t24 =>
  o1 Tryd.prog (Instr.loadAt 59 t7) w fun t25 w =>
  cv Tryd.prog t24 #[t25] w fun t26 w =>
  mv .nilIface fun t6_3 =>
  k t6_3 w))
theorem C.files_FS_change {k : Value → World → Prop} {a0 a1 a2 : Value} {w : World} (h : F.files_FS_change k a0 a1 a2 w) : C Tryd.prog N.files_FS_change #[a0, a1, a2] w k :=
  den_calls (H := { moves := [], vars := [6, 8, 9] }) (args := [a0, a1, a2]) mixed Tryd.func26 (by kernel_rfl) (by kernel_rfl) (by kernel_rfl) h

-- (*isthmus/files.FS).Sync$1
def F.files_FS_Sync_1 (k : Value → World → Prop) (a0 a1 a2 : Value) (w : World) : Prop :=
  o1 Tryd.prog (Instr.box 59 a0) w fun t3 w =>
  dr w.drew fun S1 =>
  tk Tryd.prog S1 (Instr.loadAt 23 a1) fun t4 =>
  nilOk t4 = true ∧ mv t4 fun t5 =>
  tk Tryd.prog S1 (Instr.fieldAt 54 t5 0) fun t6 =>
  tk Tryd.prog S1 (Instr.loadAt 52 t6) fun t7 =>
  tk Tryd.prog S1 (Instr.loadAt 9 a2) fun t8 =>
  tk Tryd.prog S1 (Instr.fieldAt 59 t3 0) fun t9 =>
  tk Tryd.prog S1 (Instr.loadAt 22 t9) fun t10 =>
  tk Tryd.prog S1 (Instr.fieldAt 59 t3 0) fun t11 =>
  tk Tryd.prog S1 (Instr.loadAt 22 t11) fun t12 =>
  tk Tryd.prog S1 (Builtin.len_ #[22] 3 #[t12]) fun t13 =>
  tk Tryd.prog S1 (Instr.build 59 #[(0, t10), (1, t13)]) fun t14 =>
  o0 Tryd.prog (Instr.mapUpdate 52 t7 t8 t14) w.drew fun _ w =>
  k (.tuple #[]) w
theorem C.files_FS_Sync_1 {k : Value → World → Prop} {a0 a1 a2 : Value} {w : World} (h : F.files_FS_Sync_1 k a0 a1 a2 w) : C Tryd.prog N.files_FS_Sync_1 #[a0, a1, a2] w k :=
  den_calls (H := { moves := [(1, (.take 0 (.take 1 (.take 2 (.take 3 (.take 4 (.take 5 (.take 6 (.take 7 (.take 8 (.take 9 (.take 10 (.last 11)))))))))))))], vars := [] }) (args := [a0, a1, a2]) mixed Tryd.func27 (by kernel_rfl) (by kernel_rfl) (by kernel_rfl) h

-- isthmus/isthmusref04.Append
def F.isthmusref04_Append (k : Value → World → Prop) (a0 a1 a2 : Value) (w : World) : Prop :=
  o1 Tryd.prog (Instr.box 42 a0) w fun t3 w =>
  o1 Tryd.prog (Instr.alloc 42 true (.tuple #[])) w fun t6 w =>
  mv (.int .i64 0) fun t7 =>
  o1 Tryd.prog (Instr.loadAt 42 t3) w fun t12 w =>
  mv a1 fun t13 =>
  C Tryd.prog N.isthmusref04_get #[t12, t13] w fun t14 w =>
  mv t14 fun t11 =>
  o1 Tryd.prog (Instr.extract t11 0) w fun t15 w =>
  o1 Tryd.prog (Instr.extract t11 1) w fun t16 w =>
  o1 Tryd.prog (Instr.alloc 80 true (.tuple #[])) w fun t8 w =>
  o0 Tryd.prog (Instr.storeAt 80 t8 t15) w fun _ w =>
  mv t16 fun t9 =>
  mv t9 fun t18 =>
  o1 Tryd.prog (bin .eql 3 (.tmp 18) (.const (.int .i64 8)) t18 (.int .i64 8)) w fun t19 w =>
  mv t19 fun t20 =>
  gd t20 true (fun k1 => o1 Tryd.prog (Instr.fieldAt 42 t3 0) w k1) w fun t21 w =>
  gd t20 true (fun k2 => o1 Tryd.prog (Instr.loadAt 40 t21) w k2) w fun t22 w =>
  gd t20 true (fun k3 => o1 Tryd.prog (Builtin.len_ #[40] 3 #[t22]) w k3) w fun t23 w =>
  gd t20 true (fun k4 => o1 Tryd.prog (bin .geq 3 (.tmp 23) (.const (.int .i64 64)) t23 (.int .i64 64)) w k4) w fun t24 w =>
  pk t20 t24 (.bool false) fun t25 =>
  mv t25 fun t17 =>
  br t17 (fun _ =>
  o1 Tryd.prog (Instr.loadAt 42 t3) w fun t26 w =>
  o0 Tryd.prog (Instr.storeAt 42 t6 t26) w fun _ w =>
  mv (.int .i64 10) fun t7_1 =>
  rc Tryd.prog 42 t6 w fun r0 =>
  k (.tuple #[r0, t7_1]) w) (fun _ =>
  mv t9 fun t28 =>
  o1 Tryd.prog (bin .neq 3 (.tmp 28) (.const (.int .i64 0)) t28 (.int .i64 0)) w fun t29 w =>
  mv t29 fun t30 =>
  gd t30 true (fun k5 => mv t9 fun v => k5 v w) w fun t31 w =>
  gd t30 true (fun k6 => o1 Tryd.prog (bin .neq 3 (.tmp 31) (.const (.int .i64 8)) t31 (.int .i64 8)) w k6) w fun t32 w =>
  pk t30 t32 (.bool false) fun t33 =>
  mv t33 fun t27 =>
  br t27 (fun _ =>
  o1 Tryd.prog (Instr.loadAt 42 t3) w fun t34 w =>
  mv t9 fun t35 =>
  o0 Tryd.prog (Instr.storeAt 42 t6 t34) w fun _ w =>
  mv t35 fun t7_2 =>
  rc Tryd.prog 42 t6 w fun r0 =>
  k (.tuple #[r0, t7_2]) w) (fun _ =>
  o1 Tryd.prog (Instr.fieldAt 80 t8 1) w fun t37 w =>
  o1 Tryd.prog (Instr.loadAt 9 t37) w fun t38 w =>
  o1 Tryd.prog (Builtin.len_ #[9] 3 #[t38]) w fun t39 w =>
  o1 Tryd.prog (Instr.fieldAt 80 t8 2) w fun t40 w =>
  o1 Tryd.prog (Instr.loadAt 9 t40) w fun t41 w =>
  o1 Tryd.prog (Builtin.len_ #[9] 3 #[t41]) w fun t42 w =>
  o1 Tryd.prog (bin .add 3 (.tmp 39) (.tmp 42) t39 t42) w fun t43 w =>
  mv a2 fun t44 =>
  o1 Tryd.prog (Builtin.len_ #[9] 3 #[t44]) w fun t45 w =>
  o1 Tryd.prog (bin .add 3 (.tmp 43) (.tmp 45) t43 t45) w fun t46 w =>
  o1 Tryd.prog (bin .gtr 3 (.tmp 46) (.const (.int .i64 16777216)) t46 (.int .i64 16777216)) w fun t47 w =>
  mv t47 fun t36 =>
  br t36 (fun _ =>
  o1 Tryd.prog (Instr.loadAt 42 t3) w fun t48 w =>
  o0 Tryd.prog (Instr.storeAt 42 t6 t48) w fun _ w =>
  mv (.int .i64 2) fun t7_3 =>
  rc Tryd.prog 42 t6 w fun r0 =>
  k (.tuple #[r0, t7_3]) w) (fun _ =>
  mv a1 fun t49 =>
  o1 Tryd.prog (Instr.fieldAt 80 t8 0) w fun t50 w =>
  o0 Tryd.prog (Instr.storeAt 9 t50 t49) w fun _ w =>
  o1 Tryd.prog (Instr.fieldAt 80 t8 2) w fun t51 w =>
  o1 Tryd.prog (Instr.loadAt 9 t51) w fun t52 w =>
  mv a2 fun t53 =>
  o1 Tryd.prog (bin .add 9 (.tmp 52) (.tmp 53) t52 t53) w fun t54 w =>
  o1 Tryd.prog (Instr.fieldAt 80 t8 2) w fun t55 w =>
  o0 Tryd.prog (Instr.storeAt 9 t55 t54) w fun _ w =>
  o1 Tryd.prog (Instr.loadAt 42 t3) w fun t57 w =>
  o1 Tryd.prog (Instr.loadAt 80 t8) w fun t58 w =>
  C Tryd.prog N.isthmusref04_set #[t57, t58] w fun t59 w =>
  C Tryd.prog N.isthmusref04_step #[t59] w fun t60 w =>
  mv t60 fun t56 =>
  o1 Tryd.prog (Instr.extract t56 0) w fun t61 w =>
  o1 Tryd.prog (Instr.extract t56 1) w fun t62 w =>
  o0 Tryd.prog (Instr.storeAt 42 t3 t61) w fun _ w =>
  mv t62 fun t10 =>
  mv t10 fun t63 =>
  br t63 (fun _ =>
  o1 Tryd.prog (Instr.loadAt 42 t3) w fun t64 w =>
  o0 Tryd.prog (Instr.storeAt 42 t6 t64) w fun _ w =>
  mv (.int .i64 13) fun t7_4 =>
  rc Tryd.prog 42 t6 w fun r0 =>
  k (.tuple #[r0, t7_4]) w) (fun _ =>
  o1 Tryd.prog (Instr.loadAt 42 t3) w fun t65 w =>
  o0 Tryd.prog (Instr.storeAt 42 t6 t65) w fun _ w =>
  mv (.int .i64 0) fun t7_5 =>
  rc Tryd.prog 42 t6 w fun r0 =>
  k (.tuple #[r0, t7_5]) w))))
theorem C.isthmusref04_Append {k : Value → World → Prop} {a0 a1 a2 : Value} {w : World} (h : F.isthmusref04_Append k a0 a1 a2 w) : C Tryd.prog N.isthmusref04_Append #[a0, a1, a2] w k :=
  den_calls (H := { moves := [], vars := [7, 9, 10, 17, 27, 36] }) (args := [a0, a1, a2]) mixed Tryd.func28 (by kernel_rfl) (by kernel_rfl) (by kernel_rfl) h

-- isthmus/isthmusref04.Change
def F.isthmusref04_Change (k : Value → World → Prop) (a0 a1 a2 a3 a4 : Value) (w : World) : Prop :=
  o1 Tryd.prog (Instr.box 42 a0) w fun t5 w =>
  o1 Tryd.prog (Instr.alloc 42 true (.tuple #[])) w fun t10 w =>
  mv (.int .i64 0) fun t11 =>
  o1 Tryd.prog (Instr.loadAt 42 t5) w fun t18 w =>
  mv a2 fun t19 =>
  C Tryd.prog N.isthmusref04_get #[t18, t19] w fun t20 w =>
  mv t20 fun t17 =>
  o1 Tryd.prog (Instr.extract t17 0) w fun t21 w =>
  o1 Tryd.prog (Instr.extract t17 1) w fun t22 w =>
  o1 Tryd.prog (Instr.alloc 80 true (.tuple #[])) w fun t12 w =>
  o0 Tryd.prog (Instr.storeAt 80 t12 t21) w fun _ w =>
  mv t22 fun t13 =>
  mv a1 fun t23 =>
  o1 Tryd.prog (bin .eql 3 (.tmp 23) (.const (.int .i64 1)) t23 (.int .i64 1)) w fun t24 w =>
  mv t24 fun t25 =>
  gd t25 true (fun k1 => mv a3 fun v => k1 v w) w fun t26 w =>
  gd t25 true (fun k2 => C Tryd.prog N.isthmusref04_named #[t26] w k2) w fun t27 w =>
  gd t25 true (fun k3 => o1 Tryd.prog (Op.unary .not t27) w k3) w fun t28 w =>
  pk t25 t28 (.bool false) fun t29 =>
  br t29 (fun _ =>
  o1 Tryd.prog (Instr.loadAt 42 t5) w fun t30 w =>
  o0 Tryd.prog (Instr.storeAt 42 t10 t30) w fun _ w =>
  mv (.int .i64 1) fun t11_1 =>
  rc Tryd.prog 42 t10 w fun r0 =>
  k (.tuple #[r0, t11_1]) w) (fun _ =>
  mv t13 fun t31 =>
  o1 Tryd.prog (bin .neq 3 (.tmp 31) (.const (.int .i64 0)) t31 (.int .i64 0)) w fun t32 w =>
  br t32 (fun _ =>
  o1 Tryd.prog (Instr.loadAt 42 t5) w fun t33 w =>
  mv t13 fun t34 =>
  o0 Tryd.prog (Instr.storeAt 42 t10 t33) w fun _ w =>
  mv t34 fun t11_2 =>
  rc Tryd.prog 42 t10 w fun r0 =>
  k (.tuple #[r0, t11_2]) w) (fun _ =>
  o1 Tryd.prog (Instr.fieldAt 80 t12 1) w fun t35 w =>
  o1 Tryd.prog (Instr.loadAt 9 t35) w fun t36 w =>
  o1 Tryd.prog (Instr.fieldAt 80 t12 2) w fun t37 w =>
  o1 Tryd.prog (Instr.loadAt 9 t37) w fun t38 w =>
  o1 Tryd.prog (bin .add 9 (.tmp 36) (.tmp 38) t36 t38) w fun t39 w =>
  mv t39 fun t14 =>
  mv a1 fun t40 =>
  o1 Tryd.prog (bin .eql 3 (.tmp 40) (.const (.int .i64 3)) t40 (.int .i64 3)) w fun t41 w =>
  mv t41 fun t42 =>
  gd t42 true (fun k4 => mv a4 fun v => k4 v w) w fun t43 w =>
  gd t42 true (fun k5 => o1 Tryd.prog (bin .lss 3 (.tmp 43) (.const (.int .i64 0)) t43 (.int .i64 0)) w k5) w fun t44 w =>
  gd t42 true (fun k6 => mv t44 fun v => k6 v w) w fun t45 w =>
  gd t45 false (fun k7 => mv a4 fun v => k7 v w) w fun t46 w =>
  gd t45 false (fun k8 => mv t14 fun v => k8 v w) w fun t47 w =>
  gd t45 false (fun k9 => o1 Tryd.prog (Builtin.len_ #[9] 3 #[t47]) w k9) w fun t48 w =>
  gd t45 false (fun k10 => o1 Tryd.prog (bin .gtr 3 (.tmp 46) (.tmp 48) t46 t48) w k10) w fun t49 w =>
  gd t42 true (fun k11 => pk t45 (.bool true) t49 fun v => k11 v w) w fun t50 w =>
  pk t42 t50 (.bool false) fun t51 =>
  br t51 (fun _ =>
  o1 Tryd.prog (Instr.loadAt 42 t5) w fun t52 w =>
  o0 Tryd.prog (Instr.storeAt 42 t10 t52) w fun _ w =>
  mv (.int .i64 1) fun t11_3 =>
  rc Tryd.prog 42 t10 w fun r0 =>
  k (.tuple #[r0, t11_3]) w) (fun _ =>
  o1 Tryd.prog (Instr.loadAt 42 t5) w fun t54 w =>
  C Tryd.prog N.isthmusref04_step #[t54] w fun t55 w =>
  mv t55 fun t53 =>
  o1 Tryd.prog (Instr.extract t53 0) w fun t56 w =>
  o1 Tryd.prog (Instr.extract t53 1) w fun t57 w =>
  o1 Tryd.prog (Instr.alloc 42 true (.tuple #[])) w fun t15 w =>
  o0 Tryd.prog (Instr.storeAt 42 t15 t56) w fun _ w =>
  mv t57 fun t16 =>
  mv t16 fun t58 =>
  br t58 (fun _ =>
  o1 Tryd.prog (Instr.loadAt 42 t15) w fun t59 w =>
  o0 Tryd.prog (Instr.storeAt 42 t10 t59) w fun _ w =>
  mv (.int .i64 13) fun t11_4 =>
  rc Tryd.prog 42 t10 w fun r0 =>
  k (.tuple #[r0, t11_4]) w) (fun _ =>
  mv a1 fun t60 =>
  o1 Tryd.prog (bin .eql 3 (.tmp 60) (.const (.int .i64 0)) t60 (.int .i64 0)) w fun t62 w =>
  mv t62 fun t61 =>
  br t61 (fun _ =>
  o1 Tryd.prog (Instr.loadAt 42 t15) w fun t63 w =>
  mv a2 fun t64 =>
  mv t14 fun t65 =>
  o1 Tryd.prog (Instr.build 80 #[(0, t64), (1, t65), (2, .string ⟨#[]⟩)]) w fun t66 w =>
  C Tryd.prog N.isthmusref04_set #[t63, t66] w fun t67 w =>
  o0 Tryd.prog (Instr.storeAt 42 t10 t67) w fun _ w =>
  mv (.int .i64 0) fun t11_5 =>
  rc Tryd.prog 42 t10 w fun r0 =>
  k (.tuple #[r0, t11_5]) w) (fun _ =>
  o1 Tryd.prog (bin .eql 3 (.tmp 60) (.const (.int .i64 1)) t60 (.int .i64 1)) w fun t69 w =>
  mv t69 fun t68 =>
  br t68 (fun _ =>
  dr w.drew fun S1 =>
  tk Tryd.prog S1 (Instr.loadAt 42 t15) fun t70 =>
  mv a2 fun t71 =>
  mv a3 fun t73 =>
  tk Tryd.prog S1 (Instr.fieldAt 80 t12 1) fun t74 =>
  tk Tryd.prog S1 (Instr.loadAt 9 t74) fun t75 =>
  tk Tryd.prog S1 (Instr.fieldAt 80 t12 2) fun t76 =>
  tk Tryd.prog S1 (Instr.loadAt 9 t76) fun t77 =>
  tk Tryd.prog S1 (Instr.build 80 #[(0, t73), (1, t75), (2, t77)]) fun t78 =>
  C Tryd.prog N.isthmusref04_drop #[t70, t71] w.drew fun t72 w =>
  S1 w ∧
  C Tryd.prog N.isthmusref04_set #[t72, t78] w fun t79 w =>
  S1 w ∧
  o0 Tryd.prog (Instr.storeAt 42 t10 t79) w fun _ w =>
  S1 w ∧
  mv (.int .i64 0) fun t11_6 =>
  rc Tryd.prog 42 t10 w fun r0 =>
  k (.tuple #[r0, t11_6]) w) (fun _ =>
  o1 Tryd.prog (bin .eql 3 (.tmp 60) (.const (.int .i64 2)) t60 (.int .i64 2)) w fun t81 w =>
  mv t81 fun t80 =>
  br t80 (fun _ =>
  o1 Tryd.prog (Instr.loadAt 42 t15) w fun t82 w =>
  mv a2 fun t83 =>
  C Tryd.prog N.isthmusref04_drop #[t82, t83] w fun t84 w =>
  o0 Tryd.prog (Instr.storeAt 42 t10 t84) w fun _ w =>
  mv (.int .i64 0) fun t11_7 =>
  rc Tryd.prog 42 t10 w fun r0 =>
  k (.tuple #[r0, t11_7]) w) (fun _ =>
  dr w.drew fun S2 =>
  tk Tryd.prog S2 (Instr.loadAt 42 t15) fun t85 =>
  mv a2 fun t86 =>
  mv t14 fun t87 =>
  mv a4 fun t88 =>
  tk Tryd.prog S2 (Instr.sliceAt 9 t87 none (some t88) none) fun t89 =>
  tk Tryd.prog S2 (Instr.build 80 #[(0, t86), (1, t89), (2, .string ⟨#[]⟩)]) fun t90 =>
  C Tryd.prog N.isthmusref04_set #[t85, t90] w.drew fun t91 w =>
  S2 w ∧
  o0 Tryd.prog (Instr.storeAt 42 t10 t91) w fun _ w =>
  S2 w ∧
  mv (.int .i64 0) fun t11_8 =>
  rc Tryd.prog 42 t10 w fun r0 =>
  k (.tuple #[r0, t11_8]) w)))))))
theorem C.isthmusref04_Change {k : Value → World → Prop} {a0 a1 a2 a3 a4 : Value} {w : World} (h : F.isthmusref04_Change k a0 a1 a2 a3 a4 w) : C Tryd.prog N.isthmusref04_Change #[a0, a1, a2, a3, a4] w k :=
  den_calls (H := { moves := [(16, (.take 0 (.take 1 (.take 3 (.take 4 (.take 5 (.take 6 (.take 7 (.take 8 (.force 2 (.force 9 (.force 10 (.take 11 .fin))))))))))))), (19, (.take 0 (.take 1 (.take 2 (.take 3 (.take 4 (.take 5 (.force 6 (.force 7 (.take 8 .fin))))))))))], vars := [11, 13, 14, 16, 61, 68, 80] }) (args := [a0, a1, a2, a3, a4]) mixed Tryd.func29 (by kernel_rfl) (by kernel_rfl) (by kernel_rfl) h

-- (*isthmus/files.FS).Rename
def F.files_FS_Rename (k : Value → World → Prop) (a0 a1 a2 : Value) (w : World) : Prop :=
  o1 Tryd.prog (Instr.box 23 a0) w fun t3 w =>
  o1 Tryd.prog (Instr.box 9 a1) w fun t4 w =>
  o1 Tryd.prog (Instr.box 9 a2) w fun t5 w =>
  mv .nilIface fun t6 =>
  o1 Tryd.prog (Instr.loadAt 23 t3) w fun t8 w =>
  o1 Tryd.prog (Instr.loadAt 9 t4) w fun t9 w =>
  o1 Tryd.prog (Instr.loadAt 9 t5) w fun t10 w =>
  o1 Tryd.prog (Instr.buildSlice 48 2 #[(0, t9), (1, t10)]) w fun t11 w =>
  C Tryd.prog N.files_FS_ready #[t8, t11] w fun t12 w =>
  mv t12 fun t7 =>
  mv t7 fun t13 =>
  o1 Tryd.prog (bin .neq 27 (.tmp 13) (.const .nilIface) t13 .nilIface) w fun t14 w =>
  br t14 (fun _ =>
  mv t7 fun t15 =>
  mv t15 fun t6_1 =>
  k t6_1 w) (fun _ =>
  o1 Tryd.prog (Instr.loadAt 23 t3) w fun t16 w =>
  o1 Tryd.prog (Instr.loadAt 9 t4) w fun t17 w =>
  o1 Tryd.prog (Instr.makeFunc (.func 49) #[] #[t3, t4, t5]) w fun t18 w =>
  C Tryd.prog N.files_FS_change #[t16, t17, t18] w fun t19 w =>
  mv t19 fun t6_2 =>
  k t6_2 w)
theorem C.files_FS_Rename {k : Value → World → Prop} {a0 a1 a2 : Value} {w : World} (h : F.files_FS_Rename k a0 a1 a2 w) : C Tryd.prog N.files_FS_Rename #[a0, a1, a2] w k :=
  den_calls (H := { moves := [], vars := [6, 7] }) (args := [a0, a1, a2]) mixed Tryd.func30 (by kernel_rfl) (by kernel_rfl) (by kernel_rfl) h

-- (*isthmus/files.FS).Remove
def F.files_FS_Remove (k : Value → World → Prop) (a0 a1 : Value) (w : World) : Prop :=
  o1 Tryd.prog (Instr.box 23 a0) w fun t2 w =>
  o1 Tryd.prog (Instr.box 9 a1) w fun t3 w =>
  mv .nilIface fun t4 =>
  o1 Tryd.prog (Instr.loadAt 23 t2) w fun t5 w =>
  o1 Tryd.prog (Instr.loadAt 9 t3) w fun t6 w =>
  o1 Tryd.prog (Instr.makeFunc (.func 50) #[] #[t2, t3]) w fun t7 w =>
  C Tryd.prog N.files_FS_change #[t5, t6, t7] w fun t8 w =>
  mv t8 fun t4_1 =>
  k t4_1 w
theorem C.files_FS_Remove {k : Value → World → Prop} {a0 a1 : Value} {w : World} (h : F.files_FS_Remove k a0 a1 w) : C Tryd.prog N.files_FS_Remove #[a0, a1] w k :=
  den_calls (H := { moves := [], vars := [4] }) (args := [a0, a1]) mixed Tryd.func31 (by kernel_rfl) (by kernel_rfl) (by kernel_rfl) h

-- (*isthmus/files.FS).Cut
def F.files_FS_Cut (k : Value → World → Prop) (a0 a1 a2 : Value) (w : World) : Prop :=
  o1 Tryd.prog (Instr.box 23 a0) w fun t3 w =>
  o1 Tryd.prog (Instr.box 9 a1) w fun t4 w =>
  o1 Tryd.prog (Instr.box 3 a2) w fun t5 w =>
  mv .nilIface fun t6 =>
  o1 Tryd.prog (Instr.loadAt 23 t3) w fun t10 w =>
  o1 Tryd.prog (Instr.loadAt 9 t4) w fun t11 w =>
  C Tryd.prog N.files_FS_find #[t10, t11] w fun t12 w =>
  mv t12 fun t9 =>
  o1 Tryd.prog (Instr.extract t9 0) w fun t13 w =>
  o1 Tryd.prog (Instr.extract t9 1) w fun t14 w =>
  o1 Tryd.prog (Instr.alloc 59 true (.tuple #[])) w fun t7 w =>
  o0 Tryd.prog (Instr.storeAt 59 t7 t13) w fun _ w =>
  mv t14 fun t8 =>
  mv t8 fun t15 =>
  o1 Tryd.prog (bin .eql 27 (.tmp 15) (.const .nilIface) t15 .nilIface) w fun t16 w =>
  mv t16 fun t17 =>
  gd t17 true (fun k1 => o1 Tryd.prog (Instr.loadAt 3 t5) w k1) w fun t18 w =>
  gd t17 true (fun k2 => o1 Tryd.prog (bin .lss 3 (.tmp 18) (.const (.int .i64 0)) t18 (.int .i64 0)) w k2) w fun t19 w =>
  gd t17 true (fun k3 => mv t19 fun v => k3 v w) w fun t20 w =>
  gd t20 false (fun k4 => o1 Tryd.prog (Instr.loadAt 3 t5) w k4) w fun t21 w =>
  gd t20 false (fun k5 => o1 Tryd.prog (Instr.fieldAt 59 t7 0) w k5) w fun t22 w =>
  gd t20 false (fun k6 => o1 Tryd.prog (Instr.loadAt 22 t22) w k6) w fun t23 w =>
  gd t20 false (fun k7 => o1 Tryd.prog (Builtin.len_ #[22] 3 #[t23]) w k7) w fun t24 w =>
  gd t20 false (fun k8 => o1 Tryd.prog (bin .gtr 3 (.tmp 21) (.tmp 24) t21 t24) w k8) w fun t25 w =>
  gd t17 true (fun k9 => pk t20 (.bool true) t25 fun v => k9 v w) w fun t26 w =>
  pk t17 t26 (.bool false) fun t27 =>
  jn (fun x1 => [x1 8]) (fun k10 =>
  br t27 (fun _ =>
  o1 Tryd.prog (Instr.loadAt 9 t4) w fun t28 w =>
  C Tryd.prog N.files_fault #[t28, .int .i64 1] w fun t29 w =>
  mv t29 fun t8_1 =>
  k10 [t8_1] w) (fun _ =>
  k10 [t8] w)) fun x1 w =>
  mv (x1 8) fun t30 =>
  o1 Tryd.prog (bin .neq 27 (.tmp 30) (.const .nilIface) t30 .nilIface) w fun t31 w =>
  br t31 (fun _ =>
  mv (x1 8) fun t32 =>
  mv t32 fun t6_1 =>
  k t6_1 w) (fun _ =>
  o1 Tryd.prog (Instr.loadAt 23 t3) w fun t33 w =>
  o1 Tryd.prog (Instr.loadAt 9 t4) w fun t34 w =>
  o1 Tryd.prog (Instr.makeFunc (.func 51) #[] #[t5, t3, t4]) w fun t35 w =>
  C Tryd.prog N.files_FS_change #[t33, t34, t35] w fun t36 w =>
  mv t36 fun t6_2 =>
  k t6_2 w)
theorem C.files_FS_Cut {k : Value → World → Prop} {a0 a1 a2 : Value} {w : World} (h : F.files_FS_Cut k a0 a1 a2 w) : C Tryd.prog N.files_FS_Cut #[a0, a1, a2] w k :=
  den_calls (H := { moves := [], vars := [6, 8] }) (args := [a0, a1, a2]) mixed Tryd.func32 (by kernel_rfl) (by kernel_rfl) (by kernel_rfl) h

-- isthmus/isthmusref04.Start
def F.isthmusref04_Start (k : Value → World → Prop) (a0 a1 : Value) (w : World) : Prop :=
  o1 Tryd.prog (Instr.box 42 a0) w fun t2 w =>
  o1 Tryd.prog (Instr.alloc 42 true (.tuple #[])) w fun t4 w =>
  mv (.slice none 0 0) fun t5 =>
  mv (.int .i64 0) fun t6 =>
  mv (.int .i64 0) fun t7 =>
  lp [t5, t6, t7, undef] w fun I1 μ1 => ∀ (x1 : Env) (w1 : World), I1 [x1 5, x1 6, x1 7, x1 9] w1 →
  mv (x1 7) fun t10 =>
  o1 Tryd.prog (Instr.fieldAt 42 t2 0) w1 fun t11 w =>
  o1 Tryd.prog (Instr.loadAt 40 t11) w fun t12 w =>
  o1 Tryd.prog (Builtin.len_ #[40] 3 #[t12]) w fun t13 w =>
  o1 Tryd.prog (bin .lss 3 (.tmp 10) (.tmp 13) t10 t13) w fun t14 w =>
  br t14 (fun _ =>
  o1 Tryd.prog (Instr.fieldAt 42 t2 0) w fun t17 w =>
  o1 Tryd.prog (Instr.loadAt 40 t17) w fun t18 w =>
  mv (x1 7) fun t19 =>
  o1 Tryd.prog (Instr.indexAt 40 t18 t19) w fun t20 w =>
  o1 Tryd.prog (Instr.loadAt 80 t20) w fun t21 w =>
  o1 Tryd.prog (Instr.alloc 80 true (.tuple #[])) w fun t8 w =>
  o0 Tryd.prog (Instr.storeAt 80 t8 t21) w fun _ w =>
  o1 Tryd.prog (Instr.fieldAt 80 t8 2) w fun t22 w =>
  o1 Tryd.prog (Instr.loadAt 9 t22) w fun t23 w =>
  o1 Tryd.prog (bin .neq 9 (.tmp 23) (.const (.string ⟨#[]⟩)) t23 (.string ⟨#[]⟩)) w fun t24 w =>
  jn (fun x2 => [x2 6, x2 9]) (fun k1 =>
  br t24 (fun _ =>
  mv (.int .i64 0) fun t9 =>
  mv (x1 6) fun t25 =>
  mv a1 fun t26 =>
  o1 Tryd.prog (Builtin.len_ #[37] 3 #[t26]) w fun t27 w =>
  o1 Tryd.prog (bin .lss 3 (.tmp 25) (.tmp 27) t25 t27) w fun t28 w =>
  jn (fun x3 => [x3 9]) (fun k2 =>
  br t28 (fun _ =>
  mv a1 fun t29 =>
  mv (x1 6) fun t30 =>
  tk Tryd.prog (fun w' => w' = w.drew) (Instr.indexAt 37 t29 t30) fun t31 =>
  tk Tryd.prog (fun w' => w' = w.drew) (Instr.loadAt 3 t31) fun t32 =>
  tk Tryd.prog (fun w' => w' = w.drew) (Instr.fieldAt 80 t8 2) fun t33 =>
  tk Tryd.prog (fun w' => w' = w.drew) (Instr.loadAt 9 t33) fun t34 =>
  tk Tryd.prog (fun w' => w' = w.drew) (Builtin.len_ #[9] 3 #[t34]) fun t35 =>
  tk Tryd.prog (fun w' => w' = w.drew) (Builtin.min_ #[3, 3] 3 #[t32, t35]) fun t36 =>
  tk Tryd.prog (fun w' => w' = w.drew) (Builtin.max_ #[3, 3] 3 #[t36, .int .i64 0]) fun t37 =>
  mv t37 fun t9_1 =>
  k2 [t9_1] w.drew) (fun _ =>
  k2 [t9] w)) fun x3 w =>
  mv (x1 6) fun t38 =>
  o1 Tryd.prog (bin .add 3 (.tmp 38) (.const (.int .i64 1)) t38 (.int .i64 1)) w fun t39 w =>
  mv t39 fun t6_1 =>
  dr w.drew fun S1 =>
  tk Tryd.prog S1 (Instr.fieldAt 80 t8 0) fun t40 =>
  tk Tryd.prog S1 (Instr.loadAt 9 t40) fun t41 =>
  tk Tryd.prog S1 (Instr.fieldAt 80 t8 1) fun t42 =>
  tk Tryd.prog S1 (Instr.loadAt 9 t42) fun t43 =>
  tk Tryd.prog S1 (Instr.fieldAt 80 t8 2) fun t44 =>
  tk Tryd.prog S1 (Instr.loadAt 9 t44) fun t45 =>
  mv (x3 9) fun t46 =>
  tk Tryd.prog S1 (Instr.sliceAt 9 t45 none (some t46) none) fun t47 =>
  tk Tryd.prog S1 (bin .add 9 (.tmp 43) (.tmp 47) t43 t47) fun t48 =>
  tk Tryd.prog S1 (Instr.build 80 #[(0, t41), (1, t48), (2, .string ⟨#[]⟩)]) fun t49 =>
  o0 Tryd.prog (Instr.storeAt 80 t8 t49) w.drew fun _ w =>
  k1 [t6_1, (x3 9)] w) (fun _ =>
  k1 [(x1 6), (x1 9)] w)) fun x2 w =>
  mv (x1 5) fun t50 =>
  o1 Tryd.prog (Instr.loadAt 80 t8) w fun t51 w =>
  o1 Tryd.prog (Instr.buildSlice 40 1 #[(0, t51)]) w fun t52 w =>
  ob Tryd.prog (fun _ => Builtin.append_ #[40, 40] 40 #[t50, t52]) w fun t53 w =>
  mv t53 fun t5_1 =>
  mv (x1 7) fun t15 =>
  o1 Tryd.prog (bin .add 3 (.tmp 15) (.const (.int .i64 1)) t15 (.int .i64 1)) w fun t16 w =>
  mv t16 fun t7_1 =>
  I1 [t5_1, (x2 6), t7_1, (x2 9)] w ∧ μ1 [t5_1, (x2 6), t7_1, (x2 9)] w < μ1 [x1 5, x1 6, x1 7, x1 9] w1) (fun _ =>
  mv (x1 5) fun t54 =>
  o1 Tryd.prog (Instr.fieldAt 42 t2 1) w fun t55 w =>
  o1 Tryd.prog (Instr.loadAt 3 t55) w fun t56 w =>
  o1 Tryd.prog (Instr.build 42 #[(0, t54), (1, t56)]) w fun t57 w =>
  o0 Tryd.prog (Instr.storeAt 42 t4 t57) w fun _ w =>
  rc Tryd.prog 42 t4 w fun r0 =>
  k r0 w)
theorem C.isthmusref04_Start {k : Value → World → Prop} {a0 a1 : Value} {w : World} (h : F.isthmusref04_Start k a0 a1 w) : C Tryd.prog N.isthmusref04_Start #[a0, a1] w k :=
  den_calls (H := { moves := [(10, (.take 0 (.take 1 (.take 2 (.take 3 (.take 4 (.take 5 (.take 6 (.take 7 (.take 8 (.take 9 .fin))))))))))), (12, (.take 0 (.take 1 (.take 2 (.take 3 (.take 4 (.take 5 (.take 6 (.take 7 (.take 8 (.take 9 (.last 10))))))))))))], vars := [5, 6, 7, 9] }) (args := [a0, a1]) mixed Tryd.func33 (by kernel_rfl) (by kernel_rfl) (by kernel_rfl) h

-- (*isthmus/files.FS).Safe
def F.files_FS_Safe (k : Value → World → Prop) (a0 a1 : Value) (w : World) : Prop :=
  mv (.int .i64 0) fun t4 =>
  mv .nilIface fun t5 =>
  mv a0 fun t9 =>
  mv a1 fun t10 =>
  C Tryd.prog N.files_FS_find #[t9, t10] w fun t11 w =>
  mv t11 fun t8 =>
  o1 Tryd.prog (Instr.extract t8 0) w fun t12 w =>
  o1 Tryd.prog (Instr.extract t8 1) w fun t13 w =>
  o1 Tryd.prog (Instr.alloc 59 true (.tuple #[])) w fun t6 w =>
  o0 Tryd.prog (Instr.storeAt 59 t6 t12) w fun _ w =>
  mv t13 fun t7 =>
  o1 Tryd.prog (Instr.fieldAt 59 t6 1) w fun t14 w =>
  o1 Tryd.prog (Instr.loadAt 3 t14) w fun t15 w =>
  mv t7 fun t16 =>
  mv t15 fun t4_1 =>
  mv t16 fun t5_1 =>
  k (.tuple #[t4_1, t5_1]) w
theorem C.files_FS_Safe {k : Value → World → Prop} {a0 a1 : Value} {w : World} (h : F.files_FS_Safe k a0 a1 w) : C Tryd.prog N.files_FS_Safe #[a0, a1] w k :=
  den_calls (H := { moves := [], vars := [4, 5, 7] }) (args := [a0, a1]) mixed Tryd.func34 (by kernel_rfl) (by kernel_rfl) (by kernel_rfl) h

-- isthmus/isthmusref04.Read
def F.isthmusref04_Read (k : Value → World → Prop) (a0 a1 : Value) (w : World) : Prop :=
  o1 Tryd.prog (Instr.box 42 a0) w fun t2 w =>
  mv (.string ⟨#[]⟩) fun t4 =>
  mv (.int .i64 0) fun t5 =>
  mv (.int .i64 0) fun t6 =>
  o1 Tryd.prog (Instr.loadAt 42 t2) w fun t10 w =>
  mv a1 fun t11 =>
  C Tryd.prog N.isthmusref04_get #[t10, t11] w fun t12 w =>
  mv t12 fun t9 =>
  o1 Tryd.prog (Instr.extract t9 0) w fun t13 w =>
  o1 Tryd.prog (Instr.extract t9 1) w fun t14 w =>
  o1 Tryd.prog (Instr.alloc 80 true (.tuple #[])) w fun t7 w =>
  o0 Tryd.prog (Instr.storeAt 80 t7 t13) w fun _ w =>
  mv t14 fun t8 =>
  tk Tryd.prog (fun w' => w' = w.drew) (Instr.fieldAt 80 t7 1) fun t15 =>
  tk Tryd.prog (fun w' => w' = w.drew) (Instr.loadAt 9 t15) fun t16 =>
  tk Tryd.prog (fun w' => w' = w.drew) (Instr.fieldAt 80 t7 2) fun t17 =>
  tk Tryd.prog (fun w' => w' = w.drew) (Instr.loadAt 9 t17) fun t18 =>
  tk Tryd.prog (fun w' => w' = w.drew) (bin .add 9 (.tmp 16) (.tmp 18) t16 t18) fun t19 =>
  tk Tryd.prog (fun w' => w' = w.drew) (Instr.fieldAt 80 t7 1) fun t20 =>
  tk Tryd.prog (fun w' => w' = w.drew) (Instr.loadAt 9 t20) fun t21 =>
  tk Tryd.prog (fun w' => w' = w.drew) (Builtin.len_ #[9] 3 #[t21]) fun t22 =>
  mv t8 fun t23 =>
  mv t19 fun t4_1 =>
  mv t22 fun t5_1 =>
  mv t23 fun t6_1 =>
  k (.tuple #[t4_1, t5_1, t6_1]) w.drew
theorem C.isthmusref04_Read {k : Value → World → Prop} {a0 a1 : Value} {w : World} (h : F.isthmusref04_Read k a0 a1 w) : C Tryd.prog N.isthmusref04_Read #[a0, a1] w k :=
  den_calls (H := { moves := [(2, (.take 0 (.take 1 (.take 2 (.take 3 (.take 4 (.take 5 (.take 6 (.take 7 (.take 8 (.take 9 (.take 10 (.take 11 .fin)))))))))))))], vars := [4, 5, 6, 8] }) (args := [a0, a1]) mixed Tryd.func35 (by kernel_rfl) (by kernel_rfl) (by kernel_rfl) h

-- maps.Clone[map[string]isthmus/files.file,string,isthmus/files.file]
def F.maps_Clone_map_string_files_file_string_files_file (k : Value → World → Prop) (a0 : Value) (w : World) : Prop :=
  mv (.map none) fun t2 =>
  mv a0 fun t3 =>
  o1 Tryd.prog (bin .eql 52 (.tmp 3) (.const (.map none)) t3 (.map none)) w fun t4 w =>
  br t4 (fun _ =>
  mv (.map none) fun t2_1 =>
  k t2_1 w) (fun _ =>
  mv a0 fun t5 =>
  o1 Tryd.prog (Instr.makeInterface 52 t5) w fun t6 w =>
  oN Tryd.prog (callFunc N.maps_clone #[t6]) w fun t7 w =>
  o1 Tryd.prog (Instr.typeAssert t7 20 52 false) w fun t8 w =>
  mv t8 fun t2_2 =>
  k t2_2 w)
theorem C.maps_Clone_map_string_files_file_string_files_file {k : Value → World → Prop} {a0 : Value} {w : World} (h : F.maps_Clone_map_string_files_file_string_files_file k a0 w) : C Tryd.prog N.maps_Clone_map_string_files_file_string_files_file #[a0] w k :=
  den_calls (H := { moves := [], vars := [2] }) (args := [a0]) mixed Tryd.func36 (by kernel_rfl) (by kernel_rfl) (by kernel_rfl) h

end Go.Proofs.YtiaiglgfangedaaDoor
