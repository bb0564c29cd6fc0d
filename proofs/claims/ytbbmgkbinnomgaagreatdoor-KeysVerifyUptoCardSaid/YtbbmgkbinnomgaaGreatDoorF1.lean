/- What each function asks: printed by hoas.py off the loaded program; each is held against the program by the kernel. -/
import Derived.Test.YtbbmgkbinnomgaaGreatDoorN
set_option linter.unusedVariables false
set_option linter.unusedSimpArgs false
set_option linter.unusedSectionVars false
namespace Go.Proofs.YtbbmgkbinnomgaaGreatDoor
open Go Go.Isk
set_option maxRecDepth 100000
-- isthmus/keys.read
def F.keys_read (k : Value → World → Prop) (a0 : Value) (w : World) : Prop :=
  o1 Tryz.prog (Instr.alloc 74 true (.tuple #[])) w fun t2 w =>
  mv .nilIface fun t3 =>
  mv a0 fun t6 =>
  C Tryz.prog N.pack_Read #[t6] w fun t7 w =>
  mv t7 fun t4 =>
  mv t4 fun t8 =>
  C Tryz.prog N.pack_Reader_Uint #[t8, .int .u64 1023] w fun t9 w =>
  o1 Tryz.prog (convert 79 3 t9) w fun t10 w =>
  mv t4 fun t11 =>
  C Tryz.prog N.pack_Reader_Bytes #[t11, .int .i64 4096] w fun t12 w =>
  o1 Tryz.prog (Instr.build 74 #[(0, t10), (1, t12)]) w fun t13 w =>
  o1 Tryz.prog (Instr.alloc 74 true (.tuple #[])) w fun t5 w =>
  o0 Tryz.prog (Instr.storeAt 74 t5 t13) w fun _ w =>
  mv t4 fun t14 =>
  C Tryz.prog N.pack_Reader_Uint #[t14, .int .u64 10] w fun t15 w =>
  mv (.int .u64 0) fun t16 =>
  lp [t16] w fun I1 μ1 => ∀ (x1 : Env) (w1 : World), I1 [x1 16] w1 →
  o1 Tryz.prog (bin .lss 79 (.tmp 16) (.tmp 15) (x1 16) t15) w1 fun t17 w =>
  br t17 (fun _ =>
  dr w.drew fun S1 =>
  tk Tryz.prog S1 (Instr.fieldAt 74 t5 2) fun t18 =>
  tk Tryz.prog S1 (Instr.loadAt 37 t18) fun t19 =>
  mv t4 fun t20 =>
  C Tryz.prog N.pack_Reader_Hash #[t20] w.drew fun t21 w =>
  S1 w ∧
  o1 Tryz.prog (Instr.buildSlice 37 1 #[(0, t21)]) w fun t22 w =>
  S1 w ∧
  ob Tryz.prog (fun _ => Builtin.append_ #[37, 37] 37 #[t19, t22]) w fun t23 w =>
  S1 w ∧
  tk Tryz.prog S1 (Instr.fieldAt 74 t5 2) fun t24 =>
  o0 Tryz.prog (Instr.storeAt 37 t24 t23) w fun _ w =>
  o1 Tryz.prog (bin .add 79 (.tmp 16) (.const (.int .u64 1)) (x1 16) (.int .u64 1)) w fun t25 w =>
  mv t25 fun t16_1 =>
  I1 [t16_1] w ∧ μ1 [t16_1] w < μ1 [x1 16] w1) (fun _ =>
  mv t4 fun t26 =>
  C Tryz.prog N.pack_Reader_Done #[t26] w fun t27 w =>
  o1 Tryz.prog (bin .neq 30 (.tmp 27) (.const .nilIface) t27 .nilIface) w fun t28 w =>
  br t28 (fun _ =>
  o1 Tryz.prog (Instr.build 74 #[]) w fun t29 w =>
  o1 Tryz.prog (Instr.makeInterface 87 (.int .i64 3)) w fun t30 w =>
  C Tryz.prog N.keys_fault #[.string ⟨#[115, 105, 103, 110, 97, 116, 117, 114, 101]⟩, t30] w fun t31 w =>
  o0 Tryz.prog (Instr.storeAt 74 t2 t29) w fun _ w =>
  mv t31 fun t3_1 =>
  rc Tryz.prog 74 t2 w fun r0 =>
  k (.tuple #[r0, t3_1]) w) (fun _ =>
  o1 Tryz.prog (Instr.loadAt 74 t5) w fun t32 w =>
  o0 Tryz.prog (Instr.storeAt 74 t2 t32) w fun _ w =>
  mv .nilIface fun t3_2 =>
  rc Tryz.prog 74 t2 w fun r0 =>
  k (.tuple #[r0, t3_2]) w))
theorem C.keys_read {k : Value → World → Prop} {a0 : Value} {w : World} (h : F.keys_read k a0 w) : C Tryz.prog N.keys_read #[a0] w k :=
  den_calls (H := { moves := [(5, (.take 0 (.take 1 (.take 2 (.force 3 (.force 4 (.force 5 (.take 6 (.last 7)))))))))], vars := [3, 4, 16] }) (args := [a0]) mixed Tryz.func30 (by kernel_rfl) (by kernel_rfl) (by kernel_rfl) h

-- isthmus/isthmusref02.ReadUint
def F.isthmusref02_ReadUint (k : Value → World → Prop) (a0 a1 : Value) (w : World) : Prop :=
  o1 Tryz.prog (Instr.box 78 a0) w fun t2 w =>
  o1 Tryz.prog (Instr.alloc 78 true (.tuple #[])) w fun t4 w =>
  mv (.int .u64 0) fun t5 =>
  o1 Tryz.prog (Instr.fieldAt 78 t2 1) w fun t9 w =>
  o1 Tryz.prog (Instr.loadAt 3 t9) w fun t10 w =>
  o1 Tryz.prog (bin .neq 3 (.tmp 10) (.const (.int .i64 0)) t10 (.int .i64 0)) w fun t11 w =>
  br t11 (fun _ =>
  o1 Tryz.prog (Instr.loadAt 78 t2) w fun t12 w =>
  o0 Tryz.prog (Instr.storeAt 78 t4 t12) w fun _ w =>
  mv (.int .u64 0) fun t5_1 =>
  rc Tryz.prog 78 t4 w fun r0 =>
  k (.tuple #[r0, t5_1]) w) (fun _ =>
  mv (.int .i64 0) fun t6 =>
  lp [t6] w fun I1 μ1 => ∀ (x1 : Env) (w1 : World), I1 [x1 6] w1 →
  mv (x1 6) fun t13 =>
  o1 Tryz.prog (Instr.fieldAt 78 t2 0) w1 fun t14 w =>
  o1 Tryz.prog (Instr.loadAt 26 t14) w fun t15 w =>
  o1 Tryz.prog (Builtin.len_ #[26] 3 #[t15]) w fun t16 w =>
  o1 Tryz.prog (bin .lss 3 (.tmp 13) (.tmp 16) t13 t16) w fun t17 w =>
  mv t17 fun t18 =>
  gd t18 true (fun k1 => mv (x1 6) fun v => k1 v w) w fun t19 w =>
  gd t18 true (fun k2 => o1 Tryz.prog (bin .lss 3 (.tmp 19) (.const (.int .i64 10)) t19 (.int .i64 10)) w k2) w fun t20 w =>
  pk t18 t20 (.bool false) fun t21 =>
  mv t21 fun t22 =>
  gd t22 true (fun k3 => o1 Tryz.prog (Instr.fieldAt 78 t2 0) w k3) w fun t23 w =>
  gd t22 true (fun k4 => o1 Tryz.prog (Instr.loadAt 26 t23) w k4) w fun t24 w =>
  gd t22 true (fun k5 => mv (x1 6) fun v => k5 v w) w fun t25 w =>
  gd t22 true (fun k6 => o1 Tryz.prog (Instr.indexAt 26 t24 t25) w k6) w fun t26 w =>
  gd t22 true (fun k7 => o1 Tryz.prog (Instr.loadAt 5 t26) w k7) w fun t27 w =>
  gd t22 true (fun k8 => o1 Tryz.prog (bin .geq 5 (.tmp 27) (.const (.int .u8 128)) t27 (.int .u8 128)) w k8) w fun t28 w =>
  pk t22 t28 (.bool false) fun t29 =>
  br t29 (fun _ =>
  mv (x1 6) fun t30 =>
  o1 Tryz.prog (bin .add 3 (.tmp 30) (.const (.int .i64 1)) t30 (.int .i64 1)) w fun t31 w =>
  mv t31 fun t6_1 =>
  I1 [t6_1] w ∧ μ1 [t6_1] w < μ1 [x1 6] w1) (fun _ =>
  mv (x1 6) fun t33 =>
  o1 Tryz.prog (bin .eql 3 (.tmp 33) (.const (.int .i64 10)) t33 (.int .i64 10)) w fun t34 w =>
  mv t34 fun t32 =>
  br t32 (fun _ =>
  o1 Tryz.prog (Instr.loadAt 78 t2) w fun t35 w =>
  C Tryz.prog N.isthmusref02_fail #[t35, .int .i64 3] w fun t36 w =>
  o0 Tryz.prog (Instr.storeAt 78 t4 t36) w fun _ w =>
  mv (.int .u64 0) fun t5_2 =>
  rc Tryz.prog 78 t4 w fun r0 =>
  k (.tuple #[r0, t5_2]) w) (fun _ =>
  mv (x1 6) fun t38 =>
  o1 Tryz.prog (Instr.fieldAt 78 t2 0) w fun t39 w =>
  o1 Tryz.prog (Instr.loadAt 26 t39) w fun t40 w =>
  o1 Tryz.prog (Builtin.len_ #[26] 3 #[t40]) w fun t41 w =>
  o1 Tryz.prog (bin .eql 3 (.tmp 38) (.tmp 41) t38 t41) w fun t42 w =>
  mv t42 fun t37 =>
  br t37 (fun _ =>
  o1 Tryz.prog (Instr.loadAt 78 t2) w fun t43 w =>
  C Tryz.prog N.isthmusref02_fail #[t43, .int .i64 12] w fun t44 w =>
  o0 Tryz.prog (Instr.storeAt 78 t4 t44) w fun _ w =>
  mv (.int .u64 0) fun t5_3 =>
  rc Tryz.prog 78 t4 w fun r0 =>
  k (.tuple #[r0, t5_3]) w) (fun _ =>
  mv (x1 6) fun t46 =>
  o1 Tryz.prog (bin .eql 3 (.tmp 46) (.const (.int .i64 9)) t46 (.int .i64 9)) w fun t47 w =>
  mv t47 fun t48 =>
  gd t48 true (fun k9 => o1 Tryz.prog (Instr.fieldAt 78 t2 0) w k9) w fun t49 w =>
  gd t48 true (fun k10 => o1 Tryz.prog (Instr.loadAt 26 t49) w k10) w fun t50 w =>
  gd t48 true (fun k11 => mv (x1 6) fun v => k11 v w) w fun t51 w =>
  gd t48 true (fun k12 => o1 Tryz.prog (Instr.indexAt 26 t50 t51) w k12) w fun t52 w =>
  gd t48 true (fun k13 => o1 Tryz.prog (Instr.loadAt 5 t52) w k13) w fun t53 w =>
  gd t48 true (fun k14 => o1 Tryz.prog (bin .gtr 5 (.tmp 53) (.const (.int .u8 1)) t53 (.int .u8 1)) w k14) w fun t54 w =>
  pk t48 t54 (.bool false) fun t55 =>
  mv t55 fun t56 =>
  gd t56 false (fun k15 => mv (x1 6) fun v => k15 v w) w fun t57 w =>
  gd t56 false (fun k16 => o1 Tryz.prog (bin .gtr 3 (.tmp 57) (.const (.int .i64 0)) t57 (.int .i64 0)) w k16) w fun t58 w =>
  gd t56 false (fun k17 => mv t58 fun v => k17 v w) w fun t59 w =>
  gd t59 true (fun k18 => o1 Tryz.prog (Instr.fieldAt 78 t2 0) w k18) w fun t60 w =>
  gd t59 true (fun k19 => o1 Tryz.prog (Instr.loadAt 26 t60) w k19) w fun t61 w =>
  gd t59 true (fun k20 => mv (x1 6) fun v => k20 v w) w fun t62 w =>
  gd t59 true (fun k21 => o1 Tryz.prog (Instr.indexAt 26 t61 t62) w k21) w fun t63 w =>
  gd t59 true (fun k22 => o1 Tryz.prog (Instr.loadAt 5 t63) w k22) w fun t64 w =>
  gd t59 true (fun k23 => o1 Tryz.prog (bin .eql 5 (.tmp 64) (.const (.int .u8 0)) t64 (.int .u8 0)) w k23) w fun t65 w =>
  gd t56 false (fun k24 => pk t59 t65 (.bool false) fun v => k24 v w) w fun t66 w =>
  pk t56 (.bool true) t66 fun t67 =>
  mv t67 fun t45 =>
  br t45 (fun _ =>
  o1 Tryz.prog (Instr.loadAt 78 t2) w fun t68 w =>
  C Tryz.prog N.isthmusref02_fail #[t68, .int .i64 3] w fun t69 w =>
  o0 Tryz.prog (Instr.storeAt 78 t4 t69) w fun _ w =>
  mv (.int .u64 0) fun t5_4 =>
  rc Tryz.prog 78 t4 w fun r0 =>
  k (.tuple #[r0, t5_4]) w) (fun _ =>
  mv (.int .u64 0) fun t7 =>
  mv (x1 6) fun t70 =>
  mv t70 fun t8 =>
  lp [t7, t8] w fun I2 μ2 => ∀ (x2 : Env) (w2 : World), I2 [x2 7, x2 8] w2 →
  mv (x2 8) fun t71 =>
  o1 Tryz.prog (bin .geq 3 (.tmp 71) (.const (.int .i64 0)) t71 (.int .i64 0)) w2 fun t72 w =>
  br t72 (fun _ =>
  mv (x2 7) fun t75 =>
  o1 Tryz.prog (bin .mul 79 (.tmp 75) (.const (.int .u64 128)) t75 (.int .u64 128)) w fun t76 w =>
  o1 Tryz.prog (Instr.fieldAt 78 t2 0) w fun t77 w =>
  o1 Tryz.prog (Instr.loadAt 26 t77) w fun t78 w =>
  mv (x2 8) fun t79 =>
  o1 Tryz.prog (Instr.indexAt 26 t78 t79) w fun t80 w =>
  o1 Tryz.prog (Instr.loadAt 5 t80) w fun t81 w =>
  o1 Tryz.prog (bin .rem 5 (.tmp 81) (.const (.int .u8 128)) t81 (.int .u8 128)) w fun t82 w =>
  o1 Tryz.prog (convert 5 79 t82) w fun t83 w =>
  o1 Tryz.prog (bin .add 79 (.tmp 76) (.tmp 83) t76 t83) w fun t84 w =>
  mv t84 fun t7_1 =>
  mv (x2 8) fun t73 =>
  o1 Tryz.prog (bin .sub 3 (.tmp 73) (.const (.int .i64 1)) t73 (.int .i64 1)) w fun t74 w =>
  mv t74 fun t8_1 =>
  I2 [t7_1, t8_1] w ∧ μ2 [t7_1, t8_1] w < μ2 [x2 7, x2 8] w2) (fun _ =>
  mv (x2 7) fun t85 =>
  mv a1 fun t86 =>
  o1 Tryz.prog (bin .gtr 79 (.tmp 85) (.tmp 86) t85 t86) w fun t87 w =>
  br t87 (fun _ =>
  o1 Tryz.prog (Instr.loadAt 78 t2) w fun t88 w =>
  C Tryz.prog N.isthmusref02_fail #[t88, .int .i64 4] w fun t89 w =>
  o0 Tryz.prog (Instr.storeAt 78 t4 t89) w fun _ w =>
  mv (.int .u64 0) fun t5_5 =>
  rc Tryz.prog 78 t4 w fun r0 =>
  k (.tuple #[r0, t5_5]) w) (fun _ =>
  o1 Tryz.prog (Instr.fieldAt 78 t2 0) w fun t90 w =>
  o1 Tryz.prog (Instr.loadAt 26 t90) w fun t91 w =>
  mv (x1 6) fun t92 =>
  o1 Tryz.prog (bin .add 3 (.tmp 92) (.const (.int .i64 1)) t92 (.int .i64 1)) w fun t93 w =>
  o1 Tryz.prog (Instr.sliceAt 26 t91 (some t93) none none) w fun t94 w =>
  o1 Tryz.prog (Instr.fieldAt 78 t2 0) w fun t95 w =>
  o0 Tryz.prog (Instr.storeAt 26 t95 t94) w fun _ w =>
  o1 Tryz.prog (Instr.loadAt 78 t2) w fun t96 w =>
  mv (x2 7) fun t97 =>
  o0 Tryz.prog (Instr.storeAt 78 t4 t96) w fun _ w =>
  mv t97 fun t5_6 =>
  rc Tryz.prog 78 t4 w fun r0 =>
  k (.tuple #[r0, t5_6]) w)))))))
theorem C.isthmusref02_ReadUint {k : Value → World → Prop} {a0 a1 : Value} {w : World} (h : F.isthmusref02_ReadUint k a0 a1 w) : C Tryz.prog N.isthmusref02_ReadUint #[a0, a1] w k :=
  den_calls (H := { moves := [], vars := [5, 6, 7, 8, 32, 37, 45] }) (args := [a0, a1]) mixed Tryz.func31 (by kernel_rfl) (by kernel_rfl) (by kernel_rfl) h

-- isthmus/isthmusref02.ReadBytes
def F.isthmusref02_ReadBytes (k : Value → World → Prop) (a0 a1 : Value) (w : World) : Prop :=
  o1 Tryz.prog (Instr.box 78 a0) w fun t2 w =>
  o1 Tryz.prog (Instr.alloc 78 true (.tuple #[])) w fun t4 w =>
  mv (.slice none 0 0) fun t5 =>
  mv a1 fun t9 =>
  o1 Tryz.prog (bin .lss 3 (.tmp 9) (.const (.int .i64 0)) t9 (.int .i64 0)) w fun t10 w =>
  br t10 (fun _ =>
  o1 Tryz.prog (Instr.loadAt 78 t2) w fun t11 w =>
  C Tryz.prog N.isthmusref02_fail #[t11, .int .i64 1] w fun t12 w =>
  o0 Tryz.prog (Instr.storeAt 78 t4 t12) w fun _ w =>
  mv (.slice none 0 0) fun t5_1 =>
  rc Tryz.prog 78 t4 w fun r0 =>
  k (.tuple #[r0, t5_1]) w) (fun _ =>
  o1 Tryz.prog (Instr.loadAt 78 t2) w fun t14 w =>
  C Tryz.prog N.isthmusref02_ReadUint #[t14, .int .u64 18446744073709551615] w fun t15 w =>
  mv t15 fun t13 =>
  o1 Tryz.prog (Instr.extract t13 0) w fun t16 w =>
  o1 Tryz.prog (Instr.extract t13 1) w fun t17 w =>
  o1 Tryz.prog (Instr.alloc 78 true (.tuple #[])) w fun t6 w =>
  o0 Tryz.prog (Instr.storeAt 78 t6 t16) w fun _ w =>
  mv t17 fun t7 =>
  o1 Tryz.prog (Instr.fieldAt 78 t6 1) w fun t19 w =>
  o1 Tryz.prog (Instr.loadAt 3 t19) w fun t20 w =>
  o1 Tryz.prog (bin .neq 3 (.tmp 20) (.const (.int .i64 0)) t20 (.int .i64 0)) w fun t21 w =>
  mv t21 fun t18 =>
  br t18 (fun _ =>
  o1 Tryz.prog (Instr.loadAt 78 t2) w fun t22 w =>
  o1 Tryz.prog (Instr.fieldAt 78 t6 1) w fun t23 w =>
  o1 Tryz.prog (Instr.loadAt 3 t23) w fun t24 w =>
  C Tryz.prog N.isthmusref02_fail #[t22, t24] w fun t25 w =>
  o0 Tryz.prog (Instr.storeAt 78 t4 t25) w fun _ w =>
  mv (.slice none 0 0) fun t5_2 =>
  rc Tryz.prog 78 t4 w fun r0 =>
  k (.tuple #[r0, t5_2]) w) (fun _ =>
  mv t7 fun t27 =>
  mv a1 fun t28 =>
  o1 Tryz.prog (convert 3 79 t28) w fun t29 w =>
  o1 Tryz.prog (bin .gtr 79 (.tmp 27) (.tmp 29) t27 t29) w fun t30 w =>
  mv t30 fun t26 =>
  br t26 (fun _ =>
  o1 Tryz.prog (Instr.loadAt 78 t2) w fun t31 w =>
  C Tryz.prog N.isthmusref02_fail #[t31, .int .i64 2] w fun t32 w =>
  o0 Tryz.prog (Instr.storeAt 78 t4 t32) w fun _ w =>
  mv (.slice none 0 0) fun t5_3 =>
  rc Tryz.prog 78 t4 w fun r0 =>
  k (.tuple #[r0, t5_3]) w) (fun _ =>
  mv t7 fun t34 =>
  o1 Tryz.prog (Instr.fieldAt 78 t6 0) w fun t35 w =>
  o1 Tryz.prog (Instr.loadAt 26 t35) w fun t36 w =>
  o1 Tryz.prog (Builtin.len_ #[26] 3 #[t36]) w fun t37 w =>
  o1 Tryz.prog (convert 3 79 t37) w fun t38 w =>
  o1 Tryz.prog (bin .gtr 79 (.tmp 34) (.tmp 38) t34 t38) w fun t39 w =>
  mv t39 fun t33 =>
  br t33 (fun _ =>
  o1 Tryz.prog (Instr.loadAt 78 t2) w fun t40 w =>
  C Tryz.prog N.isthmusref02_fail #[t40, .int .i64 12] w fun t41 w =>
  o0 Tryz.prog (Instr.storeAt 78 t4 t41) w fun _ w =>
  mv (.slice none 0 0) fun t5_4 =>
  rc Tryz.prog 78 t4 w fun r0 =>
  k (.tuple #[r0, t5_4]) w) (fun _ =>
  mv (.slice none 0 0) fun t8 =>
  mv t8 fun t42 =>
  o1 Tryz.prog (Instr.fieldAt 78 t6 0) w fun t43 w =>
  o1 Tryz.prog (Instr.loadAt 26 t43) w fun t44 w =>
  mv t7 fun t45 =>
  o1 Tryz.prog (Instr.sliceAt 26 t44 none (some t45) none) w fun t46 w =>
  ob Tryz.prog (fun _ => Builtin.append_ #[26, 26] 26 #[t42, t46]) w fun t47 w =>
  mv t47 fun t8_1 =>
  o1 Tryz.prog (Instr.fieldAt 78 t6 0) w fun t48 w =>
  o1 Tryz.prog (Instr.loadAt 26 t48) w fun t49 w =>
  mv t7 fun t50 =>
  o1 Tryz.prog (Instr.sliceAt 26 t49 (some t50) none none) w fun t51 w =>
  o1 Tryz.prog (Instr.fieldAt 78 t6 0) w fun t52 w =>
  o0 Tryz.prog (Instr.storeAt 26 t52 t51) w fun _ w =>
  o1 Tryz.prog (Instr.loadAt 78 t6) w fun t53 w =>
  mv t8_1 fun t54 =>
  o0 Tryz.prog (Instr.storeAt 78 t4 t53) w fun _ w =>
  mv t54 fun t5_5 =>
  rc Tryz.prog 78 t4 w fun r0 =>
  k (.tuple #[r0, t5_5]) w))))
theorem C.isthmusref02_ReadBytes {k : Value → World → Prop} {a0 a1 : Value} {w : World} (h : F.isthmusref02_ReadBytes k a0 a1 w) : C Tryz.prog N.isthmusref02_ReadBytes #[a0, a1] w k :=
  den_calls (H := { moves := [], vars := [5, 7, 8, 18, 26, 33] }) (args := [a0, a1]) mixed Tryz.func32 (by kernel_rfl) (by kernel_rfl) (by kernel_rfl) h

-- isthmus/isthmusref02.ReadHash
def F.isthmusref02_ReadHash (k : Value → World → Prop) (a0 : Value) (w : World) : Prop :=
  o1 Tryz.prog (Instr.box 78 a0) w fun t1 w =>
  o1 Tryz.prog (Instr.alloc 78 true (.tuple #[])) w fun t2 w =>
  o1 Tryz.prog (Instr.alloc 23 true (.tuple #[])) w fun t3 w =>
  o1 Tryz.prog (Instr.alloc 23 true (.tuple #[])) w fun t4 w =>
  o1 Tryz.prog (Instr.fieldAt 78 t1 1) w fun t5 w =>
  o1 Tryz.prog (Instr.loadAt 3 t5) w fun t6 w =>
  o1 Tryz.prog (bin .neq 3 (.tmp 6) (.const (.int .i64 0)) t6 (.int .i64 0)) w fun t7 w =>
  br t7 (fun _ =>
  dr w.drew fun S1 =>
  tk Tryz.prog S1 (Instr.loadAt 78 t1) fun t8 =>
  tk Tryz.prog S1 (Instr.loadAt 23 t4) fun t9 =>
  o0 Tryz.prog (Instr.storeAt 78 t2 t8) w.drew fun _ w =>
  S1 w ∧
  o0 Tryz.prog (Instr.storeAt 23 t3 t9) w fun _ w =>
  rc Tryz.prog 78 t2 w fun r0 =>
  rc Tryz.prog 23 t3 w fun r1 =>
  k (.tuple #[r0, r1]) w) (fun _ =>
  o1 Tryz.prog (Instr.fieldAt 78 t1 0) w fun t10 w =>
  o1 Tryz.prog (Instr.loadAt 26 t10) w fun t11 w =>
  o1 Tryz.prog (Builtin.len_ #[26] 3 #[t11]) w fun t12 w =>
  o1 Tryz.prog (bin .lss 3 (.tmp 12) (.const (.int .i64 32)) t12 (.int .i64 32)) w fun t13 w =>
  br t13 (fun _ =>
  dr w.drew fun S2 =>
  tk Tryz.prog S2 (Instr.loadAt 78 t1) fun t14 =>
  tk Tryz.prog S2 (Instr.loadAt 23 t4) fun t16 =>
  C Tryz.prog N.isthmusref02_fail #[t14, .int .i64 12] w.drew fun t15 w =>
  S2 w ∧
  o0 Tryz.prog (Instr.storeAt 78 t2 t15) w fun _ w =>
  S2 w ∧
  o0 Tryz.prog (Instr.storeAt 23 t3 t16) w fun _ w =>
  rc Tryz.prog 78 t2 w fun r0 =>
  rc Tryz.prog 23 t3 w fun r1 =>
  k (.tuple #[r0, r1]) w) (fun _ =>
  dr w.drew fun S3 =>
  tk Tryz.prog S3 (Instr.sliceAt 23 t4 none none none) fun t17 =>
  tk Tryz.prog S3 (Instr.fieldAt 78 t1 0) fun t18 =>
  tk Tryz.prog S3 (Instr.loadAt 26 t18) fun t19 =>
  ob Tryz.prog (fun _ => Builtin.copy_ #[26, 26] 3 #[t17, t19]) w.drew fun t20 w =>
  o1 Tryz.prog (Instr.fieldAt 78 t1 0) w fun t21 w =>
  o1 Tryz.prog (Instr.loadAt 26 t21) w fun t22 w =>
  o1 Tryz.prog (Instr.sliceAt 26 t22 (some (.int .i64 32)) none none) w fun t23 w =>
  o1 Tryz.prog (Instr.fieldAt 78 t1 0) w fun t24 w =>
  o0 Tryz.prog (Instr.storeAt 26 t24 t23) w fun _ w =>
  dr w.drew fun S4 =>
  tk Tryz.prog S4 (Instr.loadAt 78 t1) fun t25 =>
  tk Tryz.prog S4 (Instr.loadAt 23 t4) fun t26 =>
  o0 Tryz.prog (Instr.storeAt 78 t2 t25) w.drew fun _ w =>
  S4 w ∧
  o0 Tryz.prog (Instr.storeAt 23 t3 t26) w fun _ w =>
  rc Tryz.prog 78 t2 w fun r0 =>
  rc Tryz.prog 23 t3 w fun r1 =>
  k (.tuple #[r0, r1]) w))
theorem C.isthmusref02_ReadHash {k : Value → World → Prop} {a0 : Value} {w : World} (h : F.isthmusref02_ReadHash k a0 w) : C Tryz.prog N.isthmusref02_ReadHash #[a0] w k :=
  den_calls (H := { moves := [(3, (.take 0 (.take 1 (.force 2 (.last 3))))), (5, (.take 0 (.take 2 (.force 1 (.force 3 (.last 4)))))), (6, (.take 0 (.take 1 (.take 2 (.last 3))))), (8, (.take 0 (.take 1 (.force 2 (.last 3)))))], vars := [] }) (args := [a0]) mixed Tryz.func33 (by kernel_rfl) (by kernel_rfl) (by kernel_rfl) h

-- isthmus/isthmusref02.Done
def F.isthmusref02_Done (k : Value → World → Prop) (a0 : Value) (w : World) : Prop :=
  o1 Tryz.prog (Instr.box 78 a0) w fun t1 w =>
  mv (.int .i64 0) fun t2 =>
  o1 Tryz.prog (Instr.fieldAt 78 t1 1) w fun t3 w =>
  o1 Tryz.prog (Instr.loadAt 3 t3) w fun t4 w =>
  o1 Tryz.prog (bin .eql 3 (.tmp 4) (.const (.int .i64 0)) t4 (.int .i64 0)) w fun t5 w =>
  mv t5 fun t6 =>
  gd t6 true (fun k1 => o1 Tryz.prog (Instr.fieldAt 78 t1 0) w k1) w fun t7 w =>
  gd t6 true (fun k2 => o1 Tryz.prog (Instr.loadAt 26 t7) w k2) w fun t8 w =>
  gd t6 true (fun k3 => o1 Tryz.prog (Builtin.len_ #[26] 3 #[t8]) w k3) w fun t9 w =>
  gd t6 true (fun k4 => o1 Tryz.prog (bin .gtr 3 (.tmp 9) (.const (.int .i64 0)) t9 (.int .i64 0)) w k4) w fun t10 w =>
  pk t6 t10 (.bool false) fun t11 =>
  br t11 (fun _ =>
  mv (.int .i64 3) fun t2_1 =>
  k t2_1 w) (fun _ =>
  o1 Tryz.prog (Instr.fieldAt 78 t1 1) w fun t12 w =>
  o1 Tryz.prog (Instr.loadAt 3 t12) w fun t13 w =>
  mv t13 fun t2_2 =>
  k t2_2 w)
theorem C.isthmusref02_Done {k : Value → World → Prop} {a0 : Value} {w : World} (h : F.isthmusref02_Done k a0 w) : C Tryz.prog N.isthmusref02_Done #[a0] w k :=
  den_calls (H := { moves := [], vars := [2] }) (args := [a0]) mixed Tryz.func34 (by kernel_rfl) (by kernel_rfl) (by kernel_rfl) h

-- errors.As
def F.errors_As (k : Value → World → Prop) (a0 a1 : Value) (w : World) : Prop :=
  mv (.bool false) fun t4 =>
  mv a0 fun t8 =>
  o1 Tryz.prog (bin .eql 30 (.tmp 8) (.const .nilIface) t8 .nilIface) w fun t9 w =>
  br t9 (fun _ =>
  mv (.bool false) fun t4_1 =>
  k t4_1 w) (fun _ =>
  mv a1 fun t10 =>
  o1 Tryz.prog (bin .eql 20 (.tmp 10) (.const .nilIface) t10 .nilIface) w fun t11 w =>
  jn (fun x1 => []) (fun k1 =>
  br t11 (fun _ =>
  o1 Tryz.prog (Instr.makeInterface 9 (.string ⟨#[101, 114, 114, 111, 114, 115, 58, 32, 116, 97, 114, 103, 101, 116, 32, 99, 97, 110, 110, 111, 116, 32, 98, 101, 32, 110, 105, 108]⟩)) w fun t12 w =>
  False) (fun _ =>
  k1 [] w)) fun x1 w =>
  mv a1 fun t13 =>
  oN Tryz.prog (callFunc N.internal_reflectlite_ValueOf #[t13]) w fun t14 w =>
  o1 Tryz.prog (Instr.alloc 127 true (.tuple #[])) w fun t5 w =>
  o0 Tryz.prog (Instr.storeAt 127 t5 t14) w fun _ w =>
  o1 Tryz.prog (Instr.loadAt 127 t5) w fun t15 w =>
  oN Tryz.prog (callFunc N.internal_reflectlite_Value_Type #[t15]) w fun t16 w =>
  mv t16 fun t6 =>
  mv t6 fun t17 =>
  iv Tryz.prog t17 "Kind" #[] w fun t18 w =>
  o1 Tryz.prog (bin .neq 132 (.tmp 18) (.const (.int .u8 22)) t18 (.int .u8 22)) w fun t19 w =>
  mv t19 fun t20 =>
  gd t20 false (fun k2 => o1 Tryz.prog (Instr.loadAt 127 t5) w k2) w fun t21 w =>
  gd t20 false (fun k3 => oN Tryz.prog (callFunc N.internal_reflectlite_Value_IsNil #[t21]) w k3) w fun t22 w =>
  pk t20 (.bool true) t22 fun t23 =>
  jn (fun x2 => []) (fun k4 =>
  br t23 (fun _ =>
  o1 Tryz.prog (Instr.makeInterface 9 (.string ⟨#[101, 114, 114, 111, 114, 115, 58, 32, 116, 97, 114, 103, 101, 116, 32, 109, 117, 115, 116, 32, 98, 101, 32, 97, 32, 110, 111, 110, 45, 110, 105, 108, 32, 112, 111, 105, 110, 116, 101, 114]⟩)) w fun t24 w =>
  False) (fun _ =>
  k4 [] w)) fun x2 w =>
  mv t6 fun t25 =>
  iv Tryz.prog t25 "Elem" #[] w fun t26 w =>
  mv t26 fun t7 =>
  mv t7 fun t27 =>
  iv Tryz.prog t27 "Kind" #[] w fun t28 w =>
  o1 Tryz.prog (bin .neq 132 (.tmp 28) (.const (.int .u8 20)) t28 (.int .u8 20)) w fun t29 w =>
  mv t29 fun t30 =>
  gd t30 true (fun k5 => mv t7 fun v => k5 v w) w fun t31 w =>
  gd t30 true (fun k6 => o1 Tryz.prog (Instr.loadAt 130 (.pointer (some ⟨0, 0, none⟩))) w k6) w fun t32 w =>
  gd t30 true (fun k7 => iv Tryz.prog t31 "Implements" #[t32] w k7) w fun t33 w =>
  gd t30 true (fun k8 => o1 Tryz.prog (Op.unary .not t33) w k8) w fun t34 w =>
  pk t30 t34 (.bool false) fun t35 =>
  jn (fun x3 => []) (fun k9 =>
  br t35 (fun _ =>
  o1 Tryz.prog (Instr.makeInterface 9 (.string ⟨#[101, 114, 114, 111, 114, 115, 58, 32, 42, 116, 97, 114, 103, 101, 116, 32, 109, 117, 115, 116, 32, 98, 101, 32, 105, 110, 116, 101, 114, 102, 97, 99, 101, 32, 111, 114, 32, 105, 109, 112, 108, 101, 109, 101, 110, 116, 32, 101, 114, 114, 111, 114]⟩)) w fun t36 w =>
  False) (fun _ =>
  k9 [] w)) fun x3 w =>
  mv a0 fun t37 =>
  mv a1 fun t38 =>
  o1 Tryz.prog (Instr.loadAt 127 t5) w fun t39 w =>
  mv t7 fun t40 =>
  C Tryz.prog N.errors_as #[t37, t38, t39, t40] w fun t41 w =>
  mv t41 fun t4_2 =>
  k t4_2 w)
theorem C.errors_As {k : Value → World → Prop} {a0 a1 : Value} {w : World} (h : F.errors_As k a0 a1 w) : C Tryz.prog N.errors_As #[a0, a1] w k :=
  den_calls (H := { moves := [], vars := [4, 6, 7] }) (args := [a0, a1]) mixed Tryz.func35 (by kernel_rfl) (by kernel_rfl) (by kernel_rfl) h

-- isthmus/keys.fault
def F.keys_fault (k : Value → World → Prop) (a0 a1 : Value) (w : World) : Prop :=
  mv .nilIface fun t4 =>
  mv a0 fun t5 =>
  mv a1 fun t6 =>
  o1 Tryz.prog (Instr.build 138 #[(0, t5), (1, t6)]) w fun t7 w =>
  o1 Tryz.prog (Instr.box 138 t7) w fun t8 w =>
  o1 Tryz.prog (Instr.makeInterface 136 t8) w fun t9 w =>
  mv t9 fun t4_1 =>
  k t4_1 w
theorem C.keys_fault {k : Value → World → Prop} {a0 a1 : Value} {w : World} (h : F.keys_fault k a0 a1 w) : C Tryz.prog N.keys_fault #[a0, a1] w k :=
  den_calls (H := { moves := [], vars := [4] }) (args := [a0, a1]) mixed Tryz.func36 (by kernel_rfl) (by kernel_rfl) (by kernel_rfl) h

-- isthmus/wots.Digest
def F.wots_Digest (k : Value → World → Prop) (a0 a1 : Value) (w : World) : Prop :=
  mv (.slice none 0 0) fun t4 =>
  mv .nilIface fun t5 =>
  mv a1 fun t7 =>
  C Tryz.prog N.wots_digest #[t7] w fun t8 w =>
  o1 Tryz.prog (Op.unary .not t8) w fun t9 w =>
  br t9 (fun _ =>
  C Tryz.prog N.wots_fault #[.string ⟨#[100, 105, 103, 101, 115, 116]⟩, .int .i64 1] w fun t10 w =>
  mv (.slice none 0 0) fun t4_1 =>
  mv t10 fun t5_1 =>
  k (.tuple #[t4_1, t5_1]) w) (fun _ =>
  o1 Tryz.prog (Instr.buildSlice 26 1 #[(0, .int .u8 4)]) w fun t11 w =>
  mv a0 fun t12 =>
  ob Tryz.prog (fun _ => Builtin.append_ #[26, 26] 26 #[t11, t12]) w fun t13 w =>
  C Tryz.prog N.sha_Sum #[t13] w fun t14 w =>
  o1 Tryz.prog (Instr.alloc 23 true (.tuple #[])) w fun t6 w =>
  o0 Tryz.prog (Instr.storeAt 23 t6 t14) w fun _ w =>
  mv a1 fun t15 =>
  o1 Tryz.prog (Instr.sliceAt 23 t6 none (some t15) none) w fun t16 w =>
  ob Tryz.prog (fun _ => Builtin.append_ #[26, 26] 26 #[.slice none 0 0, t16]) w fun t17 w =>
  mv t17 fun t4_2 =>
  mv .nilIface fun t5_2 =>
  k (.tuple #[t4_2, t5_2]) w)
theorem C.wots_Digest {k : Value → World → Prop} {a0 a1 : Value} {w : World} (h : F.wots_Digest k a0 a1 w) : C Tryz.prog N.wots_Digest #[a0, a1] w k :=
  den_calls (H := { moves := [], vars := [4, 5] }) (args := [a0, a1]) mixed Tryz.func37 (by kernel_rfl) (by kernel_rfl) (by kernel_rfl) h

-- isthmus/wots.From
def F.wots_From (k : Value → World → Prop) (a0 a1 a2 : Value) (w : World) : Prop :=
  o1 Tryz.prog (Instr.alloc 23 true (.tuple #[])) w fun t6 w =>
  mv .nilIface fun t7 =>
  mv a1 fun t13 =>
  mv a2 fun t14 =>
  o1 Tryz.prog (Builtin.len_ #[26] 3 #[t14]) w fun t15 w =>
  C Tryz.prog N.wots_check #[t13, t15] w fun t16 w =>
  mv t16 fun t8 =>
  mv t8 fun t17 =>
  o1 Tryz.prog (bin .neq 30 (.tmp 17) (.const .nilIface) t17 .nilIface) w fun t18 w =>
  br t18 (fun _ =>
  o1 Tryz.prog (Instr.build 23 #[]) w fun t19 w =>
  mv t8 fun t20 =>
  o0 Tryz.prog (Instr.storeAt 23 t6 t19) w fun _ w =>
  mv t20 fun t7_1 =>
  rc Tryz.prog 23 t6 w fun r0 =>
  k (.tuple #[r0, t7_1]) w) (fun _ =>
  mv a0 fun t21 =>
  o1 Tryz.prog (Builtin.len_ #[26] 3 #[t21]) w fun t22 w =>
  mv a2 fun t23 =>
  o1 Tryz.prog (Builtin.len_ #[26] 3 #[t23]) w fun t24 w =>
  C Tryz.prog N.wots_Len #[t24] w fun t25 w =>
  o1 Tryz.prog (bin .mul 3 (.const (.int .i64 32)) (.tmp 25) (.int .i64 32) t25) w fun t26 w =>
  o1 Tryz.prog (bin .neq 3 (.tmp 22) (.tmp 26) t22 t26) w fun t27 w =>
  br t27 (fun _ =>
  o1 Tryz.prog (Instr.build 23 #[]) w fun t28 w =>
  C Tryz.prog N.wots_fault #[.string ⟨#[115, 105, 103, 110, 97, 116, 117, 114, 101]⟩, .int .i64 2] w fun t29 w =>
  o0 Tryz.prog (Instr.storeAt 23 t6 t28) w fun _ w =>
  mv t29 fun t7_2 =>
  rc Tryz.prog 23 t6 w fun r0 =>
  k (.tuple #[r0, t7_2]) w) (fun _ =>
  mv (.slice none 0 0) fun t9 =>
  mv a2 fun t30 =>
  C Tryz.prog N.wots_Digits #[t30] w fun t31 w =>
  o1 Tryz.prog (Builtin.len_ #[63] 3 #[t31]) w fun t32 w =>
  mv (.int .i64 0) fun t33 =>
  lp [t9, undef, undef, t33] w fun I1 μ1 => ∀ (x1 : Env) (w1 : World), I1 [x1 9, x1 10, x1 11, x1 33] w1 →
  o1 Tryz.prog (bin .lss 3 (.tmp 33) (.tmp 32) (x1 33) t32) w1 fun t34 w =>
  br t34 (fun _ =>
  mv (x1 33) fun t35 =>
  o1 Tryz.prog (Instr.indexAt 63 t31 (x1 33)) w fun t36 w =>
  o1 Tryz.prog (Instr.loadAt 3 t36) w fun t37 w =>
  mv t35 fun t10 =>
  mv t37 fun t11 =>
  mv a0 fun t38 =>
  mv t10 fun t39 =>
  o1 Tryz.prog (bin .mul 3 (.const (.int .i64 32)) (.tmp 39) (.int .i64 32) t39) w fun t40 w =>
  mv t10 fun t41 =>
  o1 Tryz.prog (bin .add 3 (.tmp 41) (.const (.int .i64 1)) t41 (.int .i64 1)) w fun t42 w =>
  o1 Tryz.prog (bin .mul 3 (.const (.int .i64 32)) (.tmp 42) (.int .i64 32) t42) w fun t43 w =>
  o1 Tryz.prog (Instr.sliceAt 26 t38 (some t40) (some t43) none) w fun t44 w =>
  o1 Tryz.prog (Instr.arrayAt 23 t44) w fun t45 w =>
  o1 Tryz.prog (Instr.loadAt 23 t45) w fun t46 w =>
  mv a1 fun t47 =>
  mv t10 fun t48 =>
  mv t11 fun t49 =>
  C Tryz.prog N.wots_Step #[t46, t47, t48, t49, .int .i64 15] w fun t50 w =>
  o1 Tryz.prog (Instr.alloc 23 true (.tuple #[])) w fun t12 w =>
  o0 Tryz.prog (Instr.storeAt 23 t12 t50) w fun _ w =>
  mv (x1 9) fun t51 =>
  o1 Tryz.prog (Instr.sliceAt 23 t12 none none none) w fun t52 w =>
  ob Tryz.prog (fun _ => Builtin.append_ #[26, 26] 26 #[t51, t52]) w fun t53 w =>
  mv t53 fun t9_1 =>
  o1 Tryz.prog (bin .add 3 (.tmp 33) (.const (.int .i64 1)) (x1 33) (.int .i64 1)) w fun t54 w =>
  mv t54 fun t33_1 =>
  I1 [t9_1, t10, t11, t33_1] w ∧ μ1 [t9_1, t10, t11, t33_1] w < μ1 [x1 9, x1 10, x1 11, x1 33] w1) (fun _ =>
  mv (x1 9) fun t55 =>
  C Tryz.prog N.sha_Leaf #[t55] w fun t56 w =>
  o0 Tryz.prog (Instr.storeAt 23 t6 t56) w fun _ w =>
  mv .nilIface fun t7_3 =>
  rc Tryz.prog 23 t6 w fun r0 =>
  k (.tuple #[r0, t7_3]) w)))
theorem C.wots_From {k : Value → World → Prop} {a0 a1 a2 : Value} {w : World} (h : F.wots_From k a0 a1 a2 w) : C Tryz.prog N.wots_From #[a0, a1, a2] w k :=
  den_calls (H := { moves := [], vars := [7, 8, 9, 10, 11, 33] }) (args := [a0, a1, a2]) mixed Tryz.func38 (by kernel_rfl) (by kernel_rfl) (by kernel_rfl) h

-- isthmus/sha.Fold
def F.sha_Fold (k : Value → World → Prop) (a0 a1 a2 a3 : Value) (w : World) : Prop :=
  o1 Tryz.prog (Instr.box 23 a0) w fun t4 w =>
  o1 Tryz.prog (Instr.alloc 23 true (.tuple #[])) w fun t8 w =>
  mv .nilIface fun t9 =>
  mv a1 fun t13 =>
  o1 Tryz.prog (bin .lss 3 (.tmp 13) (.const (.int .i64 0)) t13 (.int .i64 0)) w fun t14 w =>
  mv t14 fun t15 =>
  gd t15 false (fun k1 => mv a1 fun v => k1 v w) w fun t16 w =>
  gd t15 false (fun k2 => mv a2 fun v => k2 v w) w fun t17 w =>
  gd t15 false (fun k3 => o1 Tryz.prog (bin .geq 3 (.tmp 16) (.tmp 17) t16 t17) w k3) w fun t18 w =>
  pk t15 (.bool true) t18 fun t19 =>
  br t19 (fun _ =>
  o1 Tryz.prog (Instr.build 23 #[]) w fun t20 w =>
  o1 Tryz.prog (Instr.makeInterface 87 (.int .i64 1)) w fun t21 w =>
  o1 Tryz.prog (Instr.build 138 #[(0, .string ⟨#[112, 108, 97, 99, 101]⟩), (1, t21)]) w fun t22 w =>
  o1 Tryz.prog (Instr.box 138 t22) w fun t23 w =>
  o1 Tryz.prog (Instr.makeInterface 136 t23) w fun t24 w =>
  o0 Tryz.prog (Instr.storeAt 23 t8 t20) w fun _ w =>
  mv t24 fun t9_1 =>
  rc Tryz.prog 23 t8 w fun r0 =>
  k (.tuple #[r0, t9_1]) w) (fun _ =>
  mv a1 fun t25 =>
  mv a2 fun t26 =>
  C Tryz.prog N.sha_turns #[t25, t26] w fun t27 w =>
  mv t27 fun t10 =>
  mv t10 fun t28 =>
  o1 Tryz.prog (Builtin.len_ #[62] 3 #[t28]) w fun t29 w =>
  mv a3 fun t30 =>
  o1 Tryz.prog (Builtin.len_ #[37] 3 #[t30]) w fun t31 w =>
  o1 Tryz.prog (bin .neq 3 (.tmp 29) (.tmp 31) t29 t31) w fun t32 w =>
  br t32 (fun _ =>
  o1 Tryz.prog (Instr.build 23 #[]) w fun t33 w =>
  o1 Tryz.prog (Instr.makeInterface 87 (.int .i64 2)) w fun t34 w =>
  o1 Tryz.prog (Instr.build 138 #[(0, .string ⟨#[112, 97, 116, 104]⟩), (1, t34)]) w fun t35 w =>
  o1 Tryz.prog (Instr.box 138 t35) w fun t36 w =>
  o1 Tryz.prog (Instr.makeInterface 136 t36) w fun t37 w =>
  o0 Tryz.prog (Instr.storeAt 23 t8 t33) w fun _ w =>
  mv t37 fun t9_2 =>
  rc Tryz.prog 23 t8 w fun r0 =>
  k (.tuple #[r0, t9_2]) w) (fun _ =>
  mv a3 fun t38 =>
  o1 Tryz.prog (Builtin.len_ #[37] 3 #[t38]) w fun t39 w =>
  mv (.int .i64 0) fun t40 =>
  lp [undef, t40] w fun I1 μ1 => ∀ (x1 : Env) (w1 : World), I1 [x1 11, x1 40] w1 →
  o1 Tryz.prog (bin .lss 3 (.tmp 40) (.tmp 39) (x1 40) t39) w1 fun t41 w =>
  br t41 (fun _ =>
  mv (x1 40) fun t42 =>
  o1 Tryz.prog (Instr.indexAt 37 t38 (x1 40)) w fun t43 w =>
  o1 Tryz.prog (Instr.loadAt 23 t43) w fun t44 w =>
  o1 Tryz.prog (Instr.alloc 23 true (.tuple #[])) w fun t12 w =>
  mv t42 fun t11 =>
  o0 Tryz.prog (Instr.storeAt 23 t12 t44) w fun _ w =>
  mv t10 fun t45 =>
  mv t10 fun t46 =>
  o1 Tryz.prog (Builtin.len_ #[62] 3 #[t46]) w fun t47 w =>
  o1 Tryz.prog (bin .sub 3 (.tmp 47) (.const (.int .i64 1)) t47 (.int .i64 1)) w fun t48 w =>
  mv t11 fun t49 =>
  o1 Tryz.prog (bin .sub 3 (.tmp 48) (.tmp 49) t48 t49) w fun t50 w =>
  o1 Tryz.prog (Instr.indexAt 62 t45 t50) w fun t51 w =>
  o1 Tryz.prog (Instr.loadAt 4 t51) w fun t52 w =>
  jn (fun x2 => []) (fun k4 =>
  br t52 (fun _ =>
  o1 Tryz.prog (Instr.loadAt 23 t12) w fun t53 w =>
  o1 Tryz.prog (Instr.loadAt 23 t4) w fun t54 w =>
  C Tryz.prog N.sha_Node #[t53, t54] w fun t55 w =>
  o0 Tryz.prog (Instr.storeAt 23 t4 t55) w fun _ w =>
  k4 [] w) (fun _ =>
  o1 Tryz.prog (Instr.loadAt 23 t4) w fun t56 w =>
  o1 Tryz.prog (Instr.loadAt 23 t12) w fun t57 w =>
  C Tryz.prog N.sha_Node #[t56, t57] w fun t58 w =>
  o0 Tryz.prog (Instr.storeAt 23 t4 t58) w fun _ w =>
  k4 [] w)) fun x2 w =>
  o1 Tryz.prog (bin .add 3 (.tmp 40) (.const (.int .i64 1)) (x1 40) (.int .i64 1)) w fun t59 w =>
  mv t59 fun t40_1 =>
  I1 [t11, t40_1] w ∧ μ1 [t11, t40_1] w < μ1 [x1 11, x1 40] w1) (fun _ =>
  o1 Tryz.prog (Instr.loadAt 23 t4) w fun t60 w =>
  o0 Tryz.prog (Instr.storeAt 23 t8 t60) w fun _ w =>
  mv .nilIface fun t9_3 =>
  rc Tryz.prog 23 t8 w fun r0 =>
  k (.tuple #[r0, t9_3]) w)))
theorem C.sha_Fold {k : Value → World → Prop} {a0 a1 a2 a3 : Value} {w : World} (h : F.sha_Fold k a0 a1 a2 a3 w) : C Tryz.prog N.sha_Fold #[a0, a1, a2, a3] w k :=
  den_calls (H := { moves := [], vars := [9, 10, 11, 40] }) (args := [a0, a1, a2, a3]) mixed Tryz.func39 (by kernel_rfl) (by kernel_rfl) (by kernel_rfl) h

-- isthmus/isthmusref05.Digest
def F.isthmusref05_Digest (k : Value → World → Prop) (a0 a1 : Value) (w : World) : Prop :=
  mv (.slice none 0 0) fun t4 =>
  mv (.int .i64 0) fun t5 =>
  mv a1 fun t7 =>
  o1 Tryz.prog (bin .lss 3 (.tmp 7) (.const (.int .i64 1)) t7 (.int .i64 1)) w fun t8 w =>
  mv t8 fun t9 =>
  gd t9 false (fun k1 => mv a1 fun v => k1 v w) w fun t10 w =>
  gd t9 false (fun k2 => o1 Tryz.prog (bin .gtr 3 (.tmp 10) (.const (.int .i64 32)) t10 (.int .i64 32)) w k2) w fun t11 w =>
  pk t9 (.bool true) t11 fun t12 =>
  br t12 (fun _ =>
  mv (.slice none 0 0) fun t4_1 =>
  mv (.int .i64 1) fun t5_1 =>
  k (.tuple #[t4_1, t5_1]) w) (fun _ =>
  o1 Tryz.prog (Instr.buildSlice 26 1 #[(0, .int .u8 4)]) w fun t13 w =>
  mv a0 fun t14 =>
  ob Tryz.prog (fun _ => Builtin.append_ #[26, 26] 26 #[t13, t14]) w fun t15 w =>
  C Tryz.prog N.isthmusref01_Sum #[t15] w fun t16 w =>
  o1 Tryz.prog (Instr.alloc 23 true (.tuple #[])) w fun t6 w =>
  o0 Tryz.prog (Instr.storeAt 23 t6 t16) w fun _ w =>
  mv a1 fun t17 =>
  o1 Tryz.prog (Instr.sliceAt 23 t6 none (some t17) none) w fun t18 w =>
  mv t18 fun t4_2 =>
  mv (.int .i64 0) fun t5_2 =>
  k (.tuple #[t4_2, t5_2]) w)
theorem C.isthmusref05_Digest {k : Value → World → Prop} {a0 a1 : Value} {w : World} (h : F.isthmusref05_Digest k a0 a1 w) : C Tryz.prog N.isthmusref05_Digest #[a0, a1] w k :=
  den_calls (H := { moves := [], vars := [4, 5] }) (args := [a0, a1]) mixed Tryz.func40 (by kernel_rfl) (by kernel_rfl) (by kernel_rfl) h

-- isthmus/isthmusref05.From
def F.isthmusref05_From (k : Value → World → Prop) (a0 a1 a2 : Value) (w : World) : Prop :=
  o1 Tryz.prog (Instr.alloc 23 true (.tuple #[])) w fun t6 w =>
  mv (.int .i64 0) fun t7 =>
  mv a1 fun t12 =>
  mv a2 fun t13 =>
  o1 Tryz.prog (Builtin.len_ #[26] 3 #[t13]) w fun t14 w =>
  C Tryz.prog N.isthmusref05_check #[t12, t14] w fun t15 w =>
  o1 Tryz.prog (Op.unary .not t15) w fun t16 w =>
  br t16 (fun _ =>
  o1 Tryz.prog (Instr.build 23 #[]) w fun t17 w =>
  o0 Tryz.prog (Instr.storeAt 23 t6 t17) w fun _ w =>
  mv (.int .i64 1) fun t7_1 =>
  rc Tryz.prog 23 t6 w fun r0 =>
  k (.tuple #[r0, t7_1]) w) (fun _ =>
  mv a2 fun t18 =>
  C Tryz.prog N.isthmusref05_Digits #[t18] w fun t19 w =>
  mv t19 fun t8 =>
  mv a0 fun t20 =>
  o1 Tryz.prog (Builtin.len_ #[26] 3 #[t20]) w fun t21 w =>
  mv t8 fun t22 =>
  o1 Tryz.prog (Builtin.len_ #[63] 3 #[t22]) w fun t23 w =>
  o1 Tryz.prog (bin .mul 3 (.const (.int .i64 32)) (.tmp 23) (.int .i64 32) t23) w fun t24 w =>
  o1 Tryz.prog (bin .neq 3 (.tmp 21) (.tmp 24) t21 t24) w fun t25 w =>
  br t25 (fun _ =>
  o1 Tryz.prog (Instr.build 23 #[]) w fun t26 w =>
  o0 Tryz.prog (Instr.storeAt 23 t6 t26) w fun _ w =>
  mv (.int .i64 2) fun t7_2 =>
  rc Tryz.prog 23 t6 w fun r0 =>
  k (.tuple #[r0, t7_2]) w) (fun _ =>
  mv (.slice none 0 0) fun t9 =>
  mv (.int .i64 0) fun t10 =>
  lp [t9, t10] w fun I1 μ1 => ∀ (x1 : Env) (w1 : World), I1 [x1 9, x1 10] w1 →
  mv (x1 10) fun t27 =>
  mv t8 fun t28 =>
  o1 Tryz.prog (Builtin.len_ #[63] 3 #[t28]) w1 fun t29 w =>
  o1 Tryz.prog (bin .lss 3 (.tmp 27) (.tmp 29) t27 t29) w fun t30 w =>
  br t30 (fun _ =>
  o1 Tryz.prog (Instr.alloc 23 true (.tuple #[])) w fun t11 w =>
  dr w.drew fun S1 =>
  tk Tryz.prog S1 (Instr.sliceAt 23 t11 none none none) fun t33 =>
  mv a0 fun t34 =>
  mv (x1 10) fun t35 =>
  tk Tryz.prog S1 (bin .mul 3 (.const (.int .i64 32)) (.tmp 35) (.int .i64 32) t35) fun t36 =>
  tk Tryz.prog S1 (Instr.sliceAt 26 t34 (some t36) none none) fun t37 =>
  ob Tryz.prog (fun _ => Builtin.copy_ #[26, 26] 3 #[t33, t37]) w.drew fun t38 w =>
  dr w.drew fun S2 =>
  mv (x1 9) fun t39 =>
  tk Tryz.prog S2 (Instr.loadAt 23 t11) fun t40 =>
  mv a1 fun t41 =>
  mv (x1 10) fun t42 =>
  mv t8 fun t43 =>
  mv (x1 10) fun t44 =>
  tk Tryz.prog S2 (Instr.indexAt 63 t43 t44) fun t45 =>
  tk Tryz.prog S2 (Instr.loadAt 3 t45) fun t46 =>
  C Tryz.prog N.isthmusref05_Step #[t40, t41, t42, t46, .int .i64 15] w.drew fun t47 w =>
  S2 w ∧
  C Tryz.prog N.isthmusref02_Hash #[t39, t47] w fun t48 w =>
  S2 w ∧
  mv t48 fun t9_1 =>
  mv (x1 10) fun t31 =>
  o1 Tryz.prog (bin .add 3 (.tmp 31) (.const (.int .i64 1)) t31 (.int .i64 1)) w fun t32 w =>
  mv t32 fun t10_1 =>
  I1 [t9_1, t10_1] w ∧ μ1 [t9_1, t10_1] w < μ1 [x1 9, x1 10] w1) (fun _ =>
  mv (x1 9) fun t49 =>
  C Tryz.prog N.isthmusref01_Leaf #[t49] w fun t50 w =>
  o0 Tryz.prog (Instr.storeAt 23 t6 t50) w fun _ w =>
  mv (.int .i64 0) fun t7_3 =>
  rc Tryz.prog 23 t6 w fun r0 =>
  k (.tuple #[r0, t7_3]) w)))
theorem C.isthmusref05_From {k : Value → World → Prop} {a0 a1 a2 : Value} {w : World} (h : F.isthmusref05_From k a0 a1 a2 w) : C Tryz.prog N.isthmusref05_From #[a0, a1, a2] w k :=
  den_calls (H := { moves := [(11, (.take 0 (.take 1 (.take 2 (.take 3 (.take 4 (.last 5))))))), (12, (.take 0 (.take 1 (.take 2 (.take 3 (.take 4 (.take 5 (.take 6 (.take 7 (.force 8 (.force 9 (.take 10 .fin))))))))))))], vars := [7, 8, 9, 10] }) (args := [a0, a1, a2]) mixed Tryz.func41 (by kernel_rfl) (by kernel_rfl) (by kernel_rfl) h

-- isthmus/isthmusref01.Fold
def F.isthmusref01_Fold (k : Value → World → Prop) (a0 a1 a2 a3 : Value) (w : World) : Prop :=
  o1 Tryz.prog (Instr.box 23 a0) w fun t4 w =>
  o1 Tryz.prog (Instr.alloc 23 true (.tuple #[])) w fun t8 w =>
  mv (.int .i64 0) fun t9 =>
  mv a1 fun t10 =>
  o1 Tryz.prog (bin .lss 3 (.tmp 10) (.const (.int .i64 0)) t10 (.int .i64 0)) w fun t11 w =>
  mv t11 fun t12 =>
  gd t12 false (fun k1 => mv a1 fun v => k1 v w) w fun t13 w =>
  gd t12 false (fun k2 => mv a2 fun v => k2 v w) w fun t14 w =>
  gd t12 false (fun k3 => o1 Tryz.prog (bin .geq 3 (.tmp 13) (.tmp 14) t13 t14) w k3) w fun t15 w =>
  pk t12 (.bool true) t15 fun t16 =>
  br t16 (fun _ =>
  o1 Tryz.prog (Instr.build 23 #[]) w fun t17 w =>
  o0 Tryz.prog (Instr.storeAt 23 t8 t17) w fun _ w =>
  mv (.int .i64 1) fun t9_1 =>
  rc Tryz.prog 23 t8 w fun r0 =>
  k (.tuple #[r0, t9_1]) w) (fun _ =>
  mv a3 fun t18 =>
  o1 Tryz.prog (Builtin.len_ #[37] 3 #[t18]) w fun t19 w =>
  mv a1 fun t20 =>
  mv a2 fun t21 =>
  C Tryz.prog N.isthmusref01_Steps #[t20, t21] w fun t22 w =>
  o1 Tryz.prog (bin .neq 3 (.tmp 19) (.tmp 22) t19 t22) w fun t23 w =>
  br t23 (fun _ =>
  o1 Tryz.prog (Instr.build 23 #[]) w fun t24 w =>
  o0 Tryz.prog (Instr.storeAt 23 t8 t24) w fun _ w =>
  mv (.int .i64 2) fun t9_2 =>
  rc Tryz.prog 23 t8 w fun r0 =>
  k (.tuple #[r0, t9_2]) w) (fun _ =>
  o1 Tryz.prog (Instr.loadAt 23 t4) w fun t25 w =>
  mv a1 fun t26 =>
  mv a2 fun t27 =>
  mv a3 fun t28 =>
  C Tryz.prog N.isthmusref01_fold #[t25, t26, t27, t28] w fun t29 w =>
  o0 Tryz.prog (Instr.storeAt 23 t8 t29) w fun _ w =>
  mv (.int .i64 0) fun t9_3 =>
  rc Tryz.prog 23 t8 w fun r0 =>
  k (.tuple #[r0, t9_3]) w))
theorem C.isthmusref01_Fold {k : Value → World → Prop} {a0 a1 a2 a3 : Value} {w : World} (h : F.isthmusref01_Fold k a0 a1 a2 a3 w) : C Tryz.prog N.isthmusref01_Fold #[a0, a1, a2, a3] w k :=
  den_calls (H := { moves := [], vars := [9] }) (args := [a0, a1, a2, a3]) mixed Tryz.func42 (by kernel_rfl) (by kernel_rfl) (by kernel_rfl) h

-- isthmus/isthmuslaw06.small
def F.isthmuslaw06_small (k : Value → World → Prop) (w : World) : Prop :=
  o1 Tryz.prog (Instr.alloc 25 true (.tuple #[])) w fun t0 w =>
  o1 Tryz.prog (Instr.build 25 #[(0, .int .i64 1), (1, .int .i64 1)]) w fun t1 w =>
  o0 Tryz.prog (Instr.storeAt 25 t0 t1) w fun _ w =>
  rc Tryz.prog 25 t0 w fun r0 =>
  k r0 w
theorem C.isthmuslaw06_small {k : Value → World → Prop} {w : World} (h : F.isthmuslaw06_small k  w) : C Tryz.prog N.isthmuslaw06_small #[] w k :=
  den_calls (H := { moves := [], vars := [] }) (args := []) mixed Tryz.func43 (by kernel_rfl) (by kernel_rfl) (by kernel_rfl) h

-- (*isthmus/keys.Signer).count
def F.keys_Signer_count (k : Value → World → Prop) (a0 : Value) (w : World) : Prop :=
  mv .nilIface fun t2 =>
  dr w.drew fun S1 =>
  mv a0 fun t12 =>
  nilOk t12 = true ∧ mv t12 fun t13 =>
  tk Tryz.prog S1 (Instr.fieldAt 100 t13 0) fun t14 =>
  tk Tryz.prog S1 (Instr.loadAt 53 t14) fun t15 =>
  mv a0 fun t16 =>
  nilOk t16 = true ∧ mv t16 fun t17 =>
  tk Tryz.prog S1 (Instr.fieldAt 100 t17 1) fun t18 =>
  tk Tryz.prog S1 (Instr.loadAt 9 t18) fun t19 =>
  C Tryz.prog N.files_FS_Read #[t15, t19] w.drew fun t20 w =>
  S1 w ∧
  mv t20 fun t11 =>
  tk Tryz.prog S1 (Instr.extract t11 0) fun t21 =>
  tk Tryz.prog S1 (Instr.extract t11 1) fun t22 =>
  mv t21 fun t3 =>
  mv t22 fun t4 =>
  mv t4 fun t24 =>
  o1 Tryz.prog (Instr.makeInterface 87 (.int .i64 8)) w fun t25 w =>
  C Tryz.prog N.errors_Is #[t24, t25] w fun t26 w =>
  mv t26 fun t23 =>
  br t23 (fun _ =>
  mv .nilIface fun t2_1 =>
  k t2_1 w) (fun _ =>
  mv t4 fun t28 =>
  o1 Tryz.prog (bin .neq 30 (.tmp 28) (.const .nilIface) t28 .nilIface) w fun t29 w =>
  mv t29 fun t27 =>
  br t27 (fun _ =>
  mv t4 fun t30 =>
  mv t30 fun t2_2 =>
  k t2_2 w) (fun _ =>
  mv t3 fun t32 =>
  C Tryz.prog N.frame_Scan #[t32] w fun t33 w =>
  mv t33 fun t31 =>
  o1 Tryz.prog (Instr.extract t31 0) w fun t34 w =>
  o1 Tryz.prog (Instr.extract t31 1) w fun t35 w =>
  o1 Tryz.prog (Instr.extract t31 2) w fun t36 w =>
  mv t34 fun t5 =>
  mv t35 fun t6 =>
  mv t36 fun t4_1 =>
  mv t4_1 fun t37 =>
  o1 Tryz.prog (bin .neq 30 (.tmp 37) (.const .nilIface) t37 .nilIface) w fun t38 w =>
  mv t38 fun t39 =>
  gd t39 true (fun k1 => mv t4_1 fun v => k1 v w) w fun t40 w =>
  gd t39 true (fun k2 => C Tryz.prog N.frame_Torn #[t40] w k2) w fun t41 w =>
  gd t39 true (fun k3 => o1 Tryz.prog (Op.unary .not t41) w k3) w fun t42 w =>
  pk t39 t42 (.bool false) fun t43 =>
  br t43 (fun _ =>
  o1 Tryz.prog (Instr.makeInterface 87 (.int .i64 14)) w fun t44 w =>
  C Tryz.prog N.keys_fault #[.string ⟨#[99, 111, 117, 110, 116, 101, 114]⟩, t44] w fun t45 w =>
  mv t45 fun t2_3 =>
  k t2_3 w) (fun _ =>
  mv t5 fun t46 =>
  o1 Tryz.prog (Builtin.len_ #[150] 3 #[t46]) w fun t47 w =>
  mv (.int .i64 0) fun t48 =>
  lp [t2, undef, undef, undef, t48] w fun I1 μ1 => ∀ (x1 : Env) (w1 : World), I1 [x1 2, x1 8, x1 9, x1 10, x1 48] w1 →
  o1 Tryz.prog (bin .lss 3 (.tmp 48) (.tmp 47) (x1 48) t47) w1 fun t49 w =>
  br t49 (fun _ =>
  o1 Tryz.prog (Instr.indexAt 150 t46 (x1 48)) w fun t50 w =>
  o1 Tryz.prog (Instr.loadAt 26 t50) w fun t51 w =>
  mv t51 fun t8 =>
  mv t8 fun t52 =>
  C Tryz.prog N.pack_Read #[t52] w fun t53 w =>
  mv t53 fun t9 =>
  mv t9 fun t54 =>
  mv a0 fun t55 =>
  nilOk t55 = true ∧ mv t55 fun t56 =>
  o1 Tryz.prog (Instr.fieldAt 100 t56 4) w fun t57 w =>
  o1 Tryz.prog (Instr.loadAt 37 t57) w fun t58 w =>
  o1 Tryz.prog (Builtin.len_ #[37] 3 #[t58]) w fun t59 w =>
  o1 Tryz.prog (convert 3 79 t59) w fun t60 w =>
  C Tryz.prog N.pack_Reader_Uint #[t54, t60] w fun t61 w =>
  o1 Tryz.prog (convert 79 3 t61) w fun t62 w =>
  mv t62 fun t10 =>
  mv t9 fun t63 =>
  C Tryz.prog N.pack_Reader_Done #[t63] w fun t64 w =>
  o1 Tryz.prog (bin .neq 30 (.tmp 64) (.const .nilIface) t64 .nilIface) w fun t65 w =>
  mv t65 fun t66 =>
  gd t66 false (fun k4 => mv t10 fun v => k4 v w) w fun t67 w =>
  gd t66 false (fun k5 => mv a0 fun v => k5 v w) w fun t68 w =>
  gd t66 false (fun k6 => nilOk t68 = true ∧ mv t68 fun v => k6 v w) w fun t69 w =>
  gd t66 false (fun k7 => o1 Tryz.prog (Instr.fieldAt 100 t69 5) w k7) w fun t70 w =>
  gd t66 false (fun k8 => o1 Tryz.prog (Instr.loadAt 3 t70) w k8) w fun t71 w =>
  gd t66 false (fun k9 => o1 Tryz.prog (bin .leq 3 (.tmp 67) (.tmp 71) t67 t71) w k9) w fun t72 w =>
  pk t66 (.bool true) t72 fun t73 =>
  br t73 (fun _ =>
  o1 Tryz.prog (Instr.makeInterface 87 (.int .i64 14)) w fun t74 w =>
  C Tryz.prog N.keys_fault #[.string ⟨#[99, 111, 117, 110, 116, 101, 114]⟩, t74] w fun t75 w =>
  mv t75 fun t2_4 =>
  k t2_4 w) (fun _ =>
  mv a0 fun t76 =>
  mv t10 fun t77 =>
  nilOk t76 = true ∧ mv t76 fun t78 =>
  o1 Tryz.prog (Instr.fieldAt 100 t78 5) w fun t79 w =>
  o0 Tryz.prog (Instr.storeAt 3 t79 t77) w fun _ w =>
  o1 Tryz.prog (bin .add 3 (.tmp 48) (.const (.int .i64 1)) (x1 48) (.int .i64 1)) w fun t80 w =>
  mv t80 fun t48_1 =>
  I1 [(x1 2), t8, t9, t10, t48_1] w ∧ μ1 [(x1 2), t8, t9, t10, t48_1] w < μ1 [x1 2, x1 8, x1 9, x1 10, x1 48] w1)) (fun _ =>
  mv t4_1 fun t81 =>
  o1 Tryz.prog (bin .neq 30 (.tmp 81) (.const .nilIface) t81 .nilIface) w fun t82 w =>
  br t82 (fun _ =>
  dr w.drew fun S2 =>
  mv a0 fun t83 =>
  nilOk t83 = true ∧ mv t83 fun t84 =>
  tk Tryz.prog S2 (Instr.fieldAt 100 t84 0) fun t85 =>
  tk Tryz.prog S2 (Instr.loadAt 53 t85) fun t86 =>
  mv a0 fun t87 =>
  nilOk t87 = true ∧ mv t87 fun t88 =>
  tk Tryz.prog S2 (Instr.fieldAt 100 t88 1) fun t89 =>
  tk Tryz.prog S2 (Instr.loadAt 9 t89) fun t90 =>
  mv t6 fun t91 =>
  C Tryz.prog N.files_FS_Cut #[t86, t90, t91] w.drew fun t92 w =>
  S2 w ∧
  mv t92 fun t2_5 =>
  k t2_5 w) (fun _ =>
  mv .nilIface fun t2_6 =>
  k t2_6 w)))))
theorem C.keys_Signer_count {k : Value → World → Prop} {a0 : Value} {w : World} (h : F.keys_Signer_count k a0 w) : C Tryz.prog N.keys_Signer_count #[a0] w k :=
  den_calls (H := { moves := [(1, (.take 0 (.take 1 (.take 2 (.take 3 (.take 4 (.take 5 (.take 6 (.take 7 (.force 8 (.take 9 (.take 10 (.take 11 (.take 12 (.take 13 .fin))))))))))))))), (19, (.take 0 (.take 1 (.take 2 (.take 3 (.take 4 (.take 5 (.take 6 (.take 7 (.take 8 (.force 9 (.take 10 .fin))))))))))))], vars := [2, 3, 4, 5, 6, 8, 9, 10, 23, 27, 48] }) (args := [a0]) mixed Tryz.func44 (by kernel_rfl) (by kernel_rfl) (by kernel_rfl) h

-- isthmus/sha.Sum
def F.sha_Sum (k : Value → World → Prop) (a0 : Value) (w : World) : Prop :=
  o1 Tryz.prog (Instr.alloc 23 true (.tuple #[])) w fun t2 w =>
  C Tryz.prog N.sha_start #[] w fun t5 w =>
  mv a0 fun t6 =>
  o1 Tryz.prog (Builtin.len_ #[26] 3 #[t6]) w fun t7 w =>
  o1 Tryz.prog (convert 3 79 t7) w fun t8 w =>
  o1 Tryz.prog (Instr.alloc 157 true (.tuple #[])) w fun t3 w =>
  o0 Tryz.prog (Instr.storeAt 157 t3 t5) w fun _ w =>
  mv t8 fun t4 =>
  lp [a0] w fun I1 μ1 => ∀ (x1 : Env) (w1 : World), I1 [x1 0] w1 →
  mv (x1 0) fun t9 =>
  o1 Tryz.prog (Builtin.len_ #[26] 3 #[t9]) w1 fun t10 w =>
  o1 Tryz.prog (bin .geq 3 (.tmp 10) (.const (.int .i64 64)) t10 (.int .i64 64)) w fun t11 w =>
  br t11 (fun _ =>
  mv (x1 0) fun t12 =>
  o1 Tryz.prog (Instr.sliceAt 26 t12 none (some (.int .i64 64)) none) w fun t13 w =>
  C Tryz.prog N.sha_words_mix #[t3, t13] w fun t14 w =>
  mv (x1 0) fun t15 =>
  o1 Tryz.prog (Instr.sliceAt 26 t15 (some (.int .i64 64)) none none) w fun t16 w =>
  mv t16 fun t0 =>
  I1 [t0] w ∧ μ1 [t0] w < μ1 [x1 0] w1) (fun _ =>
  o1 Tryz.prog (Instr.loadAt 157 t3) w fun t17 w =>
  mv (x1 0) fun t18 =>
  mv t4 fun t19 =>
  C Tryz.prog N.sha_words_end #[t17, t18, t19] w fun t20 w =>
  o0 Tryz.prog (Instr.storeAt 23 t2 t20) w fun _ w =>
  rc Tryz.prog 23 t2 w fun r0 =>
  k r0 w)
theorem C.sha_Sum {k : Value → World → Prop} {a0 : Value} {w : World} (h : F.sha_Sum k a0 w) : C Tryz.prog N.sha_Sum #[a0] w k :=
  den_calls (H := { moves := [], vars := [0, 4] }) (args := [a0]) mixed Tryz.func45 (by kernel_rfl) (by kernel_rfl) (by kernel_rfl) h

-- (*isthmus/keys.Signer).reserve
def F.keys_Signer_reserve (k : Value → World → Prop) (a0 : Value) (w : World) : Prop :=
  mv .nilIface fun t2 =>
  dr w.drew fun S1 =>
  mv a0 fun t8 =>
  nilOk t8 = true ∧ mv t8 fun t9 =>
  tk Tryz.prog S1 (Instr.fieldAt 100 t9 5) fun t10 =>
  tk Tryz.prog S1 (Instr.loadAt 3 t10) fun t11 =>
  tk Tryz.prog S1 (bin .add 3 (.tmp 11) (.const (.int .i64 1)) t11 (.int .i64 1)) fun t12 =>
  tk Tryz.prog S1 (convert 3 79 t12) fun t13 =>
  C Tryz.prog N.pack_New #[] w.drew fun t7 w =>
  S1 w ∧
  C Tryz.prog N.pack_Writer_Uint #[t7, t13] w fun t14 w =>
  S1 w ∧
  C Tryz.prog N.pack_Writer_Done #[t14] w fun t15 w =>
  S1 w ∧
  C Tryz.prog N.frame_Frame #[t15] w fun t16 w =>
  S1 w ∧
  mv t16 fun t6 =>
  tk Tryz.prog S1 (Instr.extract t6 0) fun t17 =>
  tk Tryz.prog S1 (Instr.extract t6 1) fun t18 =>
  mv t17 fun t3 =>
  mv t18 fun t4 =>
  mv t4 fun t19 =>
  o1 Tryz.prog (bin .neq 30 (.tmp 19) (.const .nilIface) t19 .nilIface) w fun t20 w =>
  br t20 (fun _ =>
  mv t4 fun t21 =>
  mv t21 fun t2_1 =>
  k t2_1 w) (fun _ =>
  dr w.drew fun S2 =>
  mv a0 fun t22 =>
  nilOk t22 = true ∧ mv t22 fun t23 =>
  tk Tryz.prog S2 (Instr.fieldAt 100 t23 0) fun t24 =>
  tk Tryz.prog S2 (Instr.loadAt 53 t24) fun t25 =>
  mv a0 fun t26 =>
  nilOk t26 = true ∧ mv t26 fun t27 =>
  tk Tryz.prog S2 (Instr.fieldAt 100 t27 1) fun t28 =>
  tk Tryz.prog S2 (Instr.loadAt 9 t28) fun t29 =>
  mv t3 fun t30 =>
  C Tryz.prog N.files_FS_Append #[t25, t29, t30] w.drew fun t31 w =>
  S2 w ∧
  mv t31 fun t5 =>
  mv t5 fun t32 =>
  o1 Tryz.prog (bin .neq 30 (.tmp 32) (.const .nilIface) t32 .nilIface) w fun t33 w =>
  br t33 (fun _ =>
  mv t5 fun t34 =>
  mv t34 fun t2_2 =>
  k t2_2 w) (fun _ =>
  dr w.drew fun S3 =>
  mv a0 fun t35 =>
  nilOk t35 = true ∧ mv t35 fun t36 =>
  tk Tryz.prog S3 (Instr.fieldAt 100 t36 0) fun t37 =>
  tk Tryz.prog S3 (Instr.loadAt 53 t37) fun t38 =>
  mv a0 fun t39 =>
  nilOk t39 = true ∧ mv t39 fun t40 =>
  tk Tryz.prog S3 (Instr.fieldAt 100 t40 1) fun t41 =>
  tk Tryz.prog S3 (Instr.loadAt 9 t41) fun t42 =>
  C Tryz.prog N.files_FS_Sync #[t38, t42] w.drew fun t43 w =>
  S3 w ∧
  mv t43 fun t2_3 =>
  k t2_3 w))
theorem C.keys_Signer_reserve {k : Value → World → Prop} {a0 : Value} {w : World} (h : F.keys_Signer_reserve k a0 w) : C Tryz.prog N.keys_Signer_reserve #[a0] w k :=
  den_calls (H := { moves := [(1, (.take 1 (.take 2 (.take 3 (.take 4 (.take 5 (.take 6 (.force 0 (.force 7 (.force 8 (.force 9 (.take 10 (.take 11 (.take 12 (.take 13 (.take 14 .fin)))))))))))))))), (4, (.take 0 (.take 1 (.take 2 (.take 3 (.take 4 (.take 5 (.take 6 (.take 7 (.take 8 (.force 9 (.take 10 .fin)))))))))))), (7, (.take 0 (.take 1 (.take 2 (.take 3 (.take 4 (.take 5 (.take 6 (.take 7 (.force 8 (.take 9 .fin)))))))))))], vars := [2, 3, 4, 5] }) (args := [a0]) mixed Tryz.func46 (by kernel_rfl) (by kernel_rfl) (by kernel_rfl) h

-- isthmus/wots.Sign
def F.wots_Sign (k : Value → World → Prop) (a0 a1 a2 : Value) (w : World) : Prop :=
  o1 Tryz.prog (Instr.box 23 a0) w fun t3 w =>
  mv (.slice none 0 0) fun t6 =>
  mv .nilIface fun t7 =>
  mv a1 fun t9 =>
  mv a2 fun t10 =>
  o1 Tryz.prog (Builtin.len_ #[26] 3 #[t10]) w fun t11 w =>
  C Tryz.prog N.wots_check #[t9, t11] w fun t12 w =>
  mv t12 fun t8 =>
  mv t8 fun t13 =>
  o1 Tryz.prog (bin .neq 30 (.tmp 13) (.const .nilIface) t13 .nilIface) w fun t14 w =>
  br t14 (fun _ =>
  mv t8 fun t15 =>
  mv (.slice none 0 0) fun t6_1 =>
  mv t15 fun t7_1 =>
  k (.tuple #[t6_1, t7_1]) w) (fun _ =>
  dr w.drew fun S1 =>
  tk Tryz.prog S1 (Instr.loadAt 23 t3) fun t16 =>
  mv a1 fun t17 =>
  mv a2 fun t18 =>
  C Tryz.prog N.wots_Digits #[t18] w.drew fun t19 w =>
  S1 w ∧
  C Tryz.prog N.wots_chains #[t16, t17, t19] w fun t20 w =>
  S1 w ∧
  mv t20 fun t6_2 =>
  mv .nilIface fun t7_2 =>
  k (.tuple #[t6_2, t7_2]) w)
theorem C.wots_Sign {k : Value → World → Prop} {a0 a1 a2 : Value} {w : World} (h : F.wots_Sign k a0 a1 a2 w) : C Tryz.prog N.wots_Sign #[a0, a1, a2] w k :=
  den_calls (H := { moves := [(4, (.take 0 (.take 1 (.take 2 (.force 3 (.force 4 (.take 5 (.take 6 .fin))))))))], vars := [6, 7, 8] }) (args := [a0, a1, a2]) mixed Tryz.func47 (by kernel_rfl) (by kernel_rfl) (by kernel_rfl) h

-- isthmus/sha.Path
def F.sha_Path (k : Value → World → Prop) (a0 a1 : Value) (w : World) : Prop :=
  mv (.slice none 0 0) fun t4 =>
  mv .nilIface fun t5 =>
  mv a1 fun t11 =>
  o1 Tryz.prog (bin .lss 3 (.tmp 11) (.const (.int .i64 0)) t11 (.int .i64 0)) w fun t12 w =>
  mv t12 fun t13 =>
  gd t13 false (fun k1 => mv a1 fun v => k1 v w) w fun t14 w =>
  gd t13 false (fun k2 => mv a0 fun v => k2 v w) w fun t15 w =>
  gd t13 false (fun k3 => o1 Tryz.prog (Builtin.len_ #[37] 3 #[t15]) w k3) w fun t16 w =>
  gd t13 false (fun k4 => o1 Tryz.prog (bin .geq 3 (.tmp 14) (.tmp 16) t14 t16) w k4) w fun t17 w =>
  pk t13 (.bool true) t17 fun t18 =>
  br t18 (fun _ =>
  o1 Tryz.prog (Instr.makeInterface 87 (.int .i64 1)) w fun t19 w =>
  o1 Tryz.prog (Instr.build 138 #[(0, .string ⟨#[112, 108, 97, 99, 101]⟩), (1, t19)]) w fun t20 w =>
  o1 Tryz.prog (Instr.box 138 t20) w fun t21 w =>
  o1 Tryz.prog (Instr.makeInterface 136 t21) w fun t22 w =>
  mv (.slice none 0 0) fun t4_1 =>
  mv t22 fun t5_1 =>
  k (.tuple #[t4_1, t5_1]) w) (fun _ =>
  mv a0 fun t23 =>
  o1 Tryz.prog (Builtin.len_ #[37] 3 #[t23]) w fun t24 w =>
  o1 Tryz.prog (bin .eql 3 (.tmp 24) (.const (.int .i64 1)) t24 (.int .i64 1)) w fun t25 w =>
  br t25 (fun _ =>
  mv (.slice none 0 0) fun t4_2 =>
  mv .nilIface fun t5_2 =>
  k (.tuple #[t4_2, t5_2]) w) (fun _ =>
  mv a0 fun t26 =>
  o1 Tryz.prog (Builtin.len_ #[37] 3 #[t26]) w fun t27 w =>
  C Tryz.prog N.sha_half #[t27] w fun t28 w =>
  mv t28 fun t6 =>
  mv a0 fun t29 =>
  mv t6 fun t30 =>
  tk Tryz.prog (fun w' => w' = w.drew) (Instr.sliceAt 37 t29 none (some t30) none) fun t31 =>
  mv a0 fun t32 =>
  mv t6 fun t33 =>
  tk Tryz.prog (fun w' => w' = w.drew) (Instr.sliceAt 37 t32 (some t33) none none) fun t34 =>
  mv t31 fun t7 =>
  mv t34 fun t8 =>
  mv a1 fun t35 =>
  mv t6 fun t36 =>
  o1 Tryz.prog (bin .geq 3 (.tmp 35) (.tmp 36) t35 t36) w.drew fun t37 w =>
  jn (fun x1 => [x1 1, x1 7, x1 8]) (fun k5 =>
  br t37 (fun _ =>
  mv t8 fun t38 =>
  mv t7 fun t39 =>
  mv a1 fun t40 =>
  mv t6 fun t41 =>
  o1 Tryz.prog (bin .sub 3 (.tmp 40) (.tmp 41) t40 t41) w fun t42 w =>
  mv t38 fun t7_1 =>
  mv t39 fun t8_1 =>
  mv t42 fun t1 =>
  k5 [t1, t7_1, t8_1] w) (fun _ =>
  k5 [a1, t7, t8] w)) fun x1 w =>
  mv (x1 7) fun t44 =>
  mv (x1 1) fun t45 =>
  C Tryz.prog N.sha_Path #[t44, t45] w fun t46 w =>
  mv t46 fun t43 =>
  o1 Tryz.prog (Instr.extract t43 0) w fun t47 w =>
  o1 Tryz.prog (Instr.extract t43 1) w fun t48 w =>
  mv t47 fun t9 =>
  mv t48 fun t10 =>
  mv t9 fun t49 =>
  mv (x1 8) fun t50 =>
  C Tryz.prog N.sha_Root #[t50] w fun t51 w =>
  o1 Tryz.prog (Instr.buildSlice 37 1 #[(0, t51)]) w fun t52 w =>
  ob Tryz.prog (fun _ => Builtin.append_ #[37, 37] 37 #[t49, t52]) w fun t53 w =>
  mv t10 fun t54 =>
  mv t53 fun t4_3 =>
  mv t54 fun t5_3 =>
  k (.tuple #[t4_3, t5_3]) w))
theorem C.sha_Path {k : Value → World → Prop} {a0 a1 : Value} {w : World} (h : F.sha_Path k a0 a1 w) : C Tryz.prog N.sha_Path #[a0, a1] w k :=
  den_calls (H := { moves := [(6, (.take 0 (.take 1 (.take 2 (.take 3 (.take 4 (.take 5 (.take 6 (.take 7 .fin)))))))))], vars := [1, 4, 5, 6, 7, 8, 9, 10] }) (args := [a0, a1]) mixed Tryz.func48 (by kernel_rfl) (by kernel_rfl) (by kernel_rfl) h

-- (isthmus/keys.signature).bytes
def F.keys_signature_bytes (k : Value → World → Prop) (a0 : Value) (w : World) : Prop :=
  o1 Tryz.prog (Instr.box 74 a0) w fun t1 w =>
  mv (.slice none 0 0) fun t2 =>
  dr w.drew fun S1 =>
  tk Tryz.prog S1 (Instr.fieldAt 74 t1 0) fun t7 =>
  tk Tryz.prog S1 (Instr.loadAt 3 t7) fun t8 =>
  tk Tryz.prog S1 (convert 3 79 t8) fun t9 =>
  tk Tryz.prog S1 (Instr.fieldAt 74 t1 1) fun t11 =>
  tk Tryz.prog S1 (Instr.loadAt 26 t11) fun t12 =>
  tk Tryz.prog S1 (Instr.fieldAt 74 t1 2) fun t14 =>
  tk Tryz.prog S1 (Instr.loadAt 37 t14) fun t15 =>
  tk Tryz.prog S1 (Builtin.len_ #[37] 3 #[t15]) fun t16 =>
  tk Tryz.prog S1 (convert 3 79 t16) fun t17 =>
  C Tryz.prog N.pack_New #[] w.drew fun t6 w =>
  S1 w ∧
  C Tryz.prog N.pack_Writer_Uint #[t6, t9] w fun t10 w =>
  S1 w ∧
  C Tryz.prog N.pack_Writer_Bytes #[t10, t12] w fun t13 w =>
  S1 w ∧
  C Tryz.prog N.pack_Writer_Uint #[t13, t17] w fun t18 w =>
  S1 w ∧
  mv t18 fun t3 =>
  o1 Tryz.prog (Instr.fieldAt 74 t1 2) w fun t19 w =>
  o1 Tryz.prog (Instr.loadAt 37 t19) w fun t20 w =>
  o1 Tryz.prog (Builtin.len_ #[37] 3 #[t20]) w fun t21 w =>
  mv (.int .i64 0) fun t22 =>
  lp [t22] w fun I1 μ1 => ∀ (x1 : Env) (w1 : World), I1 [x1 22] w1 →
  o1 Tryz.prog (bin .lss 3 (.tmp 22) (.tmp 21) (x1 22) t21) w1 fun t23 w =>
  br t23 (fun _ =>
  o1 Tryz.prog (Instr.indexAt 37 t20 (x1 22)) w fun t24 w =>
  o1 Tryz.prog (Instr.loadAt 23 t24) w fun t25 w =>
  o1 Tryz.prog (Instr.alloc 23 true (.tuple #[])) w fun t5 w =>
  o0 Tryz.prog (Instr.storeAt 23 t5 t25) w fun _ w =>
  mv t3 fun t26 =>
  o1 Tryz.prog (Instr.loadAt 23 t5) w fun t27 w =>
  C Tryz.prog N.pack_Writer_Hash #[t26, t27] w fun t28 w =>
  o1 Tryz.prog (bin .add 3 (.tmp 22) (.const (.int .i64 1)) (x1 22) (.int .i64 1)) w fun t29 w =>
  mv t29 fun t22_1 =>
  I1 [t22_1] w ∧ μ1 [t22_1] w < μ1 [x1 22] w1) (fun _ =>
  mv t3 fun t30 =>
  C Tryz.prog N.pack_Writer_Done #[t30] w fun t31 w =>
  mv t31 fun t2_1 =>
  k t2_1 w)
theorem C.keys_signature_bytes {k : Value → World → Prop} {a0 : Value} {w : World} (h : F.keys_signature_bytes k a0 w) : C Tryz.prog N.keys_signature_bytes #[a0] w k :=
  den_calls (H := { moves := [(1, (.take 1 (.take 2 (.take 3 (.take 5 (.take 6 (.take 8 (.take 9 (.take 10 (.take 11 (.force 0 (.force 4 (.force 7 (.force 12 (.take 13 .fin)))))))))))))))], vars := [2, 3, 22] }) (args := [a0]) mixed Tryz.func49 (by kernel_rfl) (by kernel_rfl) (by kernel_rfl) h

-- isthmus/files.fault
def F.files_fault (k : Value → World → Prop) (a0 a1 : Value) (w : World) : Prop :=
  mv .nilIface fun t4 =>
  mv a0 fun t5 =>
  o1 Tryz.prog (bin .add 9 (.const (.string ⟨#[102, 105, 108, 101, 32]⟩)) (.tmp 5) (.string ⟨#[102, 105, 108, 101, 32]⟩) t5) w fun t6 w =>
  mv a1 fun t7 =>
  o1 Tryz.prog (Instr.makeInterface 87 t7) w fun t8 w =>
  o1 Tryz.prog (Instr.build 138 #[(0, t6), (1, t8)]) w fun t9 w =>
  o1 Tryz.prog (Instr.box 138 t9) w fun t10 w =>
  o1 Tryz.prog (Instr.makeInterface 136 t10) w fun t11 w =>
  mv t11 fun t4_1 =>
  k t4_1 w
theorem C.files_fault {k : Value → World → Prop} {a0 a1 : Value} {w : World} (h : F.files_fault k a0 a1 w) : C Tryz.prog N.files_fault #[a0, a1] w k :=
  den_calls (H := { moves := [], vars := [4] }) (args := [a0, a1]) mixed Tryz.func50 (by kernel_rfl) (by kernel_rfl) (by kernel_rfl) h

-- (*isthmus/files.FS).ready
def F.files_FS_ready (k : Value → World → Prop) (a0 a1 : Value) (w : World) : Prop :=
  mv .nilIface fun t4 =>
  mv a1 fun t7 =>
  o1 Tryz.prog (Builtin.len_ #[111] 3 #[t7]) w fun t8 w =>
  mv (.int .i64 0) fun t9 =>
  lp [t4, undef, t9] w fun I1 μ1 => ∀ (x1 : Env) (w1 : World), I1 [x1 4, x1 6, x1 9] w1 →
  o1 Tryz.prog (bin .lss 3 (.tmp 9) (.tmp 8) (x1 9) t8) w1 fun t10 w =>
  br t10 (fun _ =>
  o1 Tryz.prog (Instr.indexAt 111 t7 (x1 9)) w fun t11 w =>
  o1 Tryz.prog (Instr.loadAt 9 t11) w fun t12 w =>
  mv t12 fun t6 =>
  mv a0 fun t13 =>
  o1 Tryz.prog (bin .eql 53 (.tmp 13) (.const (.pointer none)) t13 (.pointer none)) w fun t14 w =>
  mv t14 fun t15 =>
  gd t15 false (fun k1 => mv t6 fun v => k1 v w) w fun t16 w =>
  gd t15 false (fun k2 => C Tryz.prog N.files_named #[t16] w k2) w fun t17 w =>
  gd t15 false (fun k3 => o1 Tryz.prog (Op.unary .not t17) w k3) w fun t18 w =>
  pk t15 (.bool true) t18 fun t19 =>
  br t19 (fun _ =>
  mv t6 fun t20 =>
  C Tryz.prog N.files_fault #[t20, .int .i64 1] w fun t21 w =>
  mv t21 fun t4_1 =>
  k t4_1 w) (fun _ =>
  o1 Tryz.prog (bin .add 3 (.tmp 9) (.const (.int .i64 1)) (x1 9) (.int .i64 1)) w fun t22 w =>
  mv t22 fun t9_1 =>
  I1 [(x1 4), t6, t9_1] w ∧ μ1 [(x1 4), t6, t9_1] w < μ1 [x1 4, x1 6, x1 9] w1)) (fun _ =>
  mv a0 fun t24 =>
  o1 Tryz.prog (bin .eql 53 (.tmp 24) (.const (.pointer none)) t24 (.pointer none)) w fun t25 w =>
  mv t25 fun t23 =>
  br t23 (fun _ =>
  C Tryz.prog N.files_fault #[.string ⟨#[]⟩, .int .i64 1] w fun t26 w =>
  mv t26 fun t4_2 =>
  k t4_2 w) (fun _ =>
  mv a0 fun t28 =>
  nilOk t28 = true ∧ mv t28 fun t29 =>
  o1 Tryz.prog (Instr.fieldAt 104 t29 4) w fun t30 w =>
  o1 Tryz.prog (Instr.loadAt 4 t30) w fun t31 w =>
  mv t31 fun t27 =>
  br t27 (fun _ =>
  C Tryz.prog N.files_fault #[.string ⟨#[]⟩, .int .i64 13] w fun t32 w =>
  mv t32 fun t4_3 =>
  k t4_3 w) (fun _ =>
  mv .nilIface fun t4_4 =>
  k t4_4 w)))
theorem C.files_FS_ready {k : Value → World → Prop} {a0 a1 : Value} {w : World} (h : F.files_FS_ready k a0 a1 w) : C Tryz.prog N.files_FS_ready #[a0, a1] w k :=
  den_calls (H := { moves := [], vars := [4, 6, 9, 23, 27] }) (args := [a0, a1]) mixed Tryz.func51 (by kernel_rfl) (by kernel_rfl) (by kernel_rfl) h

-- (*isthmus/files.FS).List
-- isthmus/wots.Public
def F.wots_Public (k : Value → World → Prop) (a0 a1 a2 : Value) (w : World) : Prop :=
  o1 Tryz.prog (Instr.box 23 a0) w fun t3 w =>
  o1 Tryz.prog (Instr.alloc 23 true (.tuple #[])) w fun t6 w =>
  mv .nilIface fun t7 =>
  mv a1 fun t11 =>
  mv a2 fun t12 =>
  C Tryz.prog N.wots_check #[t11, t12] w fun t13 w =>
  mv t13 fun t8 =>
  mv t8 fun t14 =>
  o1 Tryz.prog (bin .neq 30 (.tmp 14) (.const .nilIface) t14 .nilIface) w fun t15 w =>
  br t15 (fun _ =>
  o1 Tryz.prog (Instr.build 23 #[]) w fun t16 w =>
  mv t8 fun t17 =>
  o0 Tryz.prog (Instr.storeAt 23 t6 t16) w fun _ w =>
  mv t17 fun t7_1 =>
  rc Tryz.prog 23 t6 w fun r0 =>
  k (.tuple #[r0, t7_1]) w) (fun _ =>
  mv a2 fun t18 =>
  C Tryz.prog N.wots_Len #[t18] w fun t19 w =>
  o1 Tryz.prog (Instr.makeSlice 63 t19 t19) w fun t20 w =>
  mv t20 fun t9 =>
  mv t9 fun t21 =>
  o1 Tryz.prog (Builtin.len_ #[63] 3 #[t21]) w fun t22 w =>
  mv (.int .i64 0) fun t23 =>
  lp [undef, t23] w fun I1 μ1 => ∀ (x1 : Env) (w1 : World), I1 [x1 10, x1 23] w1 →
  o1 Tryz.prog (bin .lss 3 (.tmp 23) (.tmp 22) (x1 23) t22) w1 fun t24 w =>
  br t24 (fun _ =>
  mv (x1 23) fun t25 =>
  mv t25 fun t10 =>
  mv t9 fun t26 =>
  mv t10 fun t27 =>
  o1 Tryz.prog (Instr.indexAt 63 t26 t27) w fun t28 w =>
  o0 Tryz.prog (Instr.storeAt 3 t28 (.int .i64 15)) w fun _ w =>
  o1 Tryz.prog (bin .add 3 (.tmp 23) (.const (.int .i64 1)) (x1 23) (.int .i64 1)) w fun t29 w =>
  mv t29 fun t23_1 =>
  I1 [t10, t23_1] w ∧ μ1 [t10, t23_1] w < μ1 [x1 10, x1 23] w1) (fun _ =>
  o1 Tryz.prog (Instr.loadAt 23 t3) w fun t30 w =>
  mv a1 fun t31 =>
  mv t9 fun t32 =>
  C Tryz.prog N.wots_chains #[t30, t31, t32] w fun t33 w =>
  C Tryz.prog N.sha_Leaf #[t33] w fun t34 w =>
  o0 Tryz.prog (Instr.storeAt 23 t6 t34) w fun _ w =>
  mv .nilIface fun t7_2 =>
  rc Tryz.prog 23 t6 w fun r0 =>
  k (.tuple #[r0, t7_2]) w))
theorem C.wots_Public {k : Value → World → Prop} {a0 a1 a2 : Value} {w : World} (h : F.wots_Public k a0 a1 a2 w) : C Tryz.prog N.wots_Public #[a0, a1, a2] w k :=
  den_calls (H := { moves := [], vars := [7, 8, 9, 10, 23] }) (args := [a0, a1, a2]) mixed Tryz.func53 (by kernel_rfl) (by kernel_rfl) (by kernel_rfl) h

-- isthmus/sha.half
def F.sha_half (k : Value → World → Prop) (a0 : Value) (w : World) : Prop :=
  mv (.int .i64 0) fun t2 =>
  mv a0 fun t3 =>
  o1 Tryz.prog (bin .sub 3 (.tmp 3) (.const (.int .i64 1)) t3 (.int .i64 1)) w fun t4 w =>
  o1 Tryz.prog (convert 3 49 t4) w fun t5 w =>
  C Tryz.prog N.math_bits_Len #[t5] w fun t6 w =>
  o1 Tryz.prog (bin .sub 3 (.tmp 6) (.const (.int .i64 1)) t6 (.int .i64 1)) w fun t7 w =>
  o1 Tryz.prog (bin .shl 3 (.const (.int .i64 1)) (.tmp 7) (.int .i64 1) t7) w fun t8 w =>
  mv t8 fun t2_1 =>
  k t2_1 w
theorem C.sha_half {k : Value → World → Prop} {a0 : Value} {w : World} (h : F.sha_half k a0 w) : C Tryz.prog N.sha_half #[a0] w k :=
  den_calls (H := { moves := [], vars := [2] }) (args := [a0]) mixed Tryz.func54 (by kernel_rfl) (by kernel_rfl) (by kernel_rfl) h

-- isthmus/sha.Node
def F.sha_Node (k : Value → World → Prop) (a0 a1 : Value) (w : World) : Prop :=
  o1 Tryz.prog (Instr.box 23 a0) w fun t2 w =>
  o1 Tryz.prog (Instr.box 23 a1) w fun t3 w =>
  o1 Tryz.prog (Instr.alloc 23 true (.tuple #[])) w fun t4 w =>
  dr w.drew fun S1 =>
  tk Tryz.prog S1 (Instr.sliceAt 23 t2 none none none) fun t6 =>
  tk Tryz.prog S1 (Instr.sliceAt 23 t3 none none none) fun t8 =>
  o1 Tryz.prog (Instr.buildSlice 26 1 #[(0, .int .u8 1)]) w.drew fun t5 w =>
  S1 w ∧
  ob Tryz.prog (fun _ => Builtin.append_ #[26, 26] 26 #[t5, t6]) w fun t7 w =>
  S1 w ∧
  ob Tryz.prog (fun _ => Builtin.append_ #[26, 26] 26 #[t7, t8]) w fun t9 w =>
  S1 w ∧
  C Tryz.prog N.sha_Sum #[t9] w fun t10 w =>
  S1 w ∧
  o0 Tryz.prog (Instr.storeAt 23 t4 t10) w fun _ w =>
  rc Tryz.prog 23 t4 w fun r0 =>
  k r0 w
theorem C.sha_Node {k : Value → World → Prop} {a0 a1 : Value} {w : World} (h : F.sha_Node k a0 a1 w) : C Tryz.prog N.sha_Node #[a0, a1] w k :=
  den_calls (H := { moves := [(1, (.take 1 (.take 3 (.force 0 (.force 2 (.force 4 (.force 5 (.last 6))))))))], vars := [] }) (args := [a0, a1]) mixed Tryz.func55 (by kernel_rfl) (by kernel_rfl) (by kernel_rfl) h

-- isthmus/isthmusref01.Sum
def F.isthmusref01_Sum (k : Value → World → Prop) (a0 : Value) (w : World) : Prop :=
  o1 Tryz.prog (Instr.alloc 23 true (.tuple #[])) w fun t2 w =>
  C Tryz.prog N.isthmusref01_constants #[] w fun t24 w =>
  mv t24 fun t23 =>
  o1 Tryz.prog (Instr.extract t23 0) w fun t25 w =>
  o1 Tryz.prog (Instr.extract t23 1) w fun t26 w =>
  o1 Tryz.prog (Instr.alloc 175 true (.tuple #[])) w fun t3 w =>
  o1 Tryz.prog (Instr.alloc 156 true (.tuple #[])) w fun t4 w =>
  o0 Tryz.prog (Instr.storeAt 175 t3 t25) w fun _ w =>
  o0 Tryz.prog (Instr.storeAt 156 t4 t26) w fun _ w =>
  mv (.slice none 0 0) fun t5 =>
  mv t5 fun t27 =>
  mv a0 fun t28 =>
  ob Tryz.prog (fun _ => Builtin.append_ #[26, 26] 26 #[t27, t28]) w fun t29 w =>
  o1 Tryz.prog (Instr.buildSlice 26 1 #[(0, .int .u8 128)]) w fun t30 w =>
  ob Tryz.prog (fun _ => Builtin.append_ #[26, 26] 26 #[t29, t30]) w fun t31 w =>
  mv t31 fun t5_1 =>
  lp [t5_1] w fun I1 μ1 => ∀ (x1 : Env) (w1 : World), I1 [x1 5] w1 →
  mv (x1 5) fun t32 =>
  o1 Tryz.prog (Builtin.len_ #[26] 3 #[t32]) w1 fun t33 w =>
  o1 Tryz.prog (bin .rem 3 (.tmp 33) (.const (.int .i64 64)) t33 (.int .i64 64)) w fun t34 w =>
  o1 Tryz.prog (bin .neq 3 (.tmp 34) (.const (.int .i64 56)) t34 (.int .i64 56)) w fun t35 w =>
  br t35 (fun _ =>
  mv (x1 5) fun t36 =>
  o1 Tryz.prog (Instr.buildSlice 26 1 #[(0, .int .u8 0)]) w fun t37 w =>
  ob Tryz.prog (fun _ => Builtin.append_ #[26, 26] 26 #[t36, t37]) w fun t38 w =>
  mv t38 fun t5_2 =>
  I1 [t5_2] w ∧ μ1 [t5_2] w < μ1 [x1 5] w1) (fun _ =>
  mv a0 fun t39 =>
  o1 Tryz.prog (Builtin.len_ #[26] 3 #[t39]) w fun t40 w =>
  o1 Tryz.prog (convert 3 79 t40) w fun t41 w =>
  o1 Tryz.prog (bin .mul 79 (.tmp 41) (.const (.int .u64 8)) t41 (.int .u64 8)) w fun t42 w =>
  mv t42 fun t6 =>
  mv (.int .i64 7) fun t7 =>
  lp [(x1 5), t7] w fun I2 μ2 => ∀ (x2 : Env) (w2 : World), I2 [x2 5, x2 7] w2 →
  mv (x2 7) fun t43 =>
  o1 Tryz.prog (bin .geq 3 (.tmp 43) (.const (.int .i64 0)) t43 (.int .i64 0)) w2 fun t44 w =>
  br t44 (fun _ =>
  mv (x2 5) fun t47 =>
  mv t6 fun t48 =>
  mv (x2 7) fun t49 =>
  o1 Tryz.prog (bin .mul 3 (.const (.int .i64 8)) (.tmp 49) (.int .i64 8) t49) w fun t50 w =>
  o1 Tryz.prog (convert 3 49 t50) w fun t51 w =>
  o1 Tryz.prog (bin .shr 79 (.tmp 48) (.tmp 51) t48 t51) w fun t52 w =>
  o1 Tryz.prog (convert 79 5 t52) w fun t53 w =>
  o1 Tryz.prog (Instr.buildSlice 26 1 #[(0, t53)]) w fun t54 w =>
  ob Tryz.prog (fun _ => Builtin.append_ #[26, 26] 26 #[t47, t54]) w fun t55 w =>
  mv t55 fun t5_3 =>
  mv (x2 7) fun t45 =>
  o1 Tryz.prog (bin .sub 3 (.tmp 45) (.const (.int .i64 1)) t45 (.int .i64 1)) w fun t46 w =>
  mv t46 fun t7_1 =>
  I2 [t5_3, t7_1] w ∧ μ2 [t5_3, t7_1] w < μ2 [x2 5, x2 7] w2) (fun _ =>
  mv (.int .i64 0) fun t8 =>
  lp [t8, undef, undef, undef, undef, undef, undef, undef, undef, undef, undef] w fun I3 μ3 => ∀ (x3 : Env) (w3 : World), I3 [x3 8, x3 10, x3 11, x3 12, x3 13, x3 15, x3 16, x3 17, x3 18, x3 19, x3 20] w3 →
  mv (x3 8) fun t56 =>
  mv (x2 5) fun t57 =>
  o1 Tryz.prog (Builtin.len_ #[26] 3 #[t57]) w3 fun t58 w =>
  o1 Tryz.prog (bin .lss 3 (.tmp 56) (.tmp 58) t56 t58) w fun t59 w =>
  br t59 (fun _ =>
  o1 Tryz.prog (Instr.alloc 175 true (.tuple #[])) w fun t9 w =>
  mv (.int .i64 0) fun t10 =>
  lp [t10, (x3 11), (x3 12), (x3 13)] w fun I4 μ4 => ∀ (x4 : Env) (w4 : World), I4 [x4 10, x4 11, x4 12, x4 13] w4 →
  mv (x4 10) fun t62 =>
  o1 Tryz.prog (bin .lss 3 (.tmp 62) (.const (.int .i64 64)) t62 (.int .i64 64)) w4 fun t63 w =>
  br t63 (fun _ =>
  jn (fun x5 => [x5 11, x5 12, x5 13]) (fun k1 =>
  mv (x4 10) fun t66 =>
  o1 Tryz.prog (bin .lss 3 (.tmp 66) (.const (.int .i64 16)) t66 (.int .i64 16)) w fun t67 w =>
  br t67 (fun _ =>
  mv (x3 8) fun t68 =>
  mv (x4 10) fun t69 =>
  o1 Tryz.prog (bin .mul 3 (.const (.int .i64 4)) (.tmp 69) (.int .i64 4) t69) w fun t70 w =>
  o1 Tryz.prog (bin .add 3 (.tmp 68) (.tmp 70) t68 t70) w fun t71 w =>
  mv t71 fun t11 =>
  dr w.drew fun S1 =>
  mv (x4 10) fun t72 =>
  mv (x2 5) fun t73 =>
  mv t11 fun t74 =>
  tk Tryz.prog S1 (Instr.indexAt 26 t73 t74) fun t75 =>
  tk Tryz.prog S1 (Instr.loadAt 5 t75) fun t76 =>
  tk Tryz.prog S1 (convert 5 155 t76) fun t77 =>
  tk Tryz.prog S1 (bin .shl 155 (.tmp 77) (.const (.int .u64 24)) t77 (.int .u64 24)) fun t78 =>
  mv (x2 5) fun t79 =>
  mv t11 fun t80 =>
  tk Tryz.prog S1 (bin .add 3 (.tmp 80) (.const (.int .i64 1)) t80 (.int .i64 1)) fun t81 =>
  tk Tryz.prog S1 (Instr.indexAt 26 t79 t81) fun t82 =>
  tk Tryz.prog S1 (Instr.loadAt 5 t82) fun t83 =>
  tk Tryz.prog S1 (convert 5 155 t83) fun t84 =>
  tk Tryz.prog S1 (bin .shl 155 (.tmp 84) (.const (.int .u64 16)) t84 (.int .u64 16)) fun t85 =>
  tk Tryz.prog S1 (bin .or 155 (.tmp 78) (.tmp 85) t78 t85) fun t86 =>
  mv (x2 5) fun t87 =>
  mv t11 fun t88 =>
  tk Tryz.prog S1 (bin .add 3 (.tmp 88) (.const (.int .i64 2)) t88 (.int .i64 2)) fun t89 =>
  tk Tryz.prog S1 (Instr.indexAt 26 t87 t89) fun t90 =>
  tk Tryz.prog S1 (Instr.loadAt 5 t90) fun t91 =>
  tk Tryz.prog S1 (convert 5 155 t91) fun t92 =>
  tk Tryz.prog S1 (bin .shl 155 (.tmp 92) (.const (.int .u64 8)) t92 (.int .u64 8)) fun t93 =>
  tk Tryz.prog S1 (bin .or 155 (.tmp 86) (.tmp 93) t86 t93) fun t94 =>
  mv (x2 5) fun t95 =>
  mv t11 fun t96 =>
  tk Tryz.prog S1 (bin .add 3 (.tmp 96) (.const (.int .i64 3)) t96 (.int .i64 3)) fun t97 =>
  tk Tryz.prog S1 (Instr.indexAt 26 t95 t97) fun t98 =>
  tk Tryz.prog S1 (Instr.loadAt 5 t98) fun t99 =>
  tk Tryz.prog S1 (convert 5 155 t99) fun t100 =>
  tk Tryz.prog S1 (bin .or 155 (.tmp 94) (.tmp 100) t94 t100) fun t101 =>
  tk Tryz.prog S1 (Instr.indexAt 175 t9 t72) fun t102 =>
  o0 Tryz.prog (Instr.storeAt 155 t102 t101) w.drew fun _ w =>
  k1 [t11, (x4 12), (x4 13)] w) (fun _ =>
  mv (x4 10) fun t103 =>
  tk Tryz.prog (fun w' => w' = w.drew) (bin .sub 3 (.tmp 103) (.const (.int .i64 15)) t103 (.int .i64 15)) fun t104 =>
  tk Tryz.prog (fun w' => w' = w.drew) (Instr.indexAt 175 t9 t104) fun t105 =>
  tk Tryz.prog (fun w' => w' = w.drew) (Instr.loadAt 155 t105) fun t106 =>
  mv (x4 10) fun t107 =>
  tk Tryz.prog (fun w' => w' = w.drew) (bin .sub 3 (.tmp 107) (.const (.int .i64 2)) t107 (.int .i64 2)) fun t108 =>
  tk Tryz.prog (fun w' => w' = w.drew) (Instr.indexAt 175 t9 t108) fun t109 =>
  tk Tryz.prog (fun w' => w' = w.drew) (Instr.loadAt 155 t109) fun t110 =>
  mv t106 fun t12 =>
  mv t110 fun t13 =>
  dr w.drew.drew fun S2 =>
  mv (x4 10) fun t111 =>
  mv t13 fun t112 =>
  mv t13 fun t114 =>
  mv t13 fun t117 =>
  tk Tryz.prog S2 (bin .shr 155 (.tmp 117) (.const (.int .u64 10)) t117 (.int .u64 10)) fun t118 =>
  mv (x4 10) fun t120 =>
  tk Tryz.prog S2 (bin .sub 3 (.tmp 120) (.const (.int .i64 7)) t120 (.int .i64 7)) fun t121 =>
  tk Tryz.prog S2 (Instr.indexAt 175 t9 t121) fun t122 =>
  tk Tryz.prog S2 (Instr.loadAt 155 t122) fun t123 =>
  mv t12 fun t125 =>
  mv t12 fun t127 =>
  mv t12 fun t130 =>
  tk Tryz.prog S2 (bin .shr 155 (.tmp 130) (.const (.int .u64 3)) t130 (.int .u64 3)) fun t131 =>
  mv (x4 10) fun t134 =>
  tk Tryz.prog S2 (bin .sub 3 (.tmp 134) (.const (.int .i64 16)) t134 (.int .i64 16)) fun t135 =>
  tk Tryz.prog S2 (Instr.indexAt 175 t9 t135) fun t136 =>
  tk Tryz.prog S2 (Instr.loadAt 155 t136) fun t137 =>
  C Tryz.prog N.isthmusref01_turn #[t112, .int .u64 17] w.drew.drew fun t113 w =>
  S2 w ∧
  C Tryz.prog N.isthmusref01_turn #[t114, .int .u64 19] w fun t115 w =>
  S2 w ∧
  tk Tryz.prog S2 (bin .xor 155 (.tmp 113) (.tmp 115) t113 t115) fun t116 =>
  tk Tryz.prog S2 (bin .xor 155 (.tmp 116) (.tmp 118) t116 t118) fun t119 =>
  tk Tryz.prog S2 (bin .add 155 (.tmp 119) (.tmp 123) t119 t123) fun t124 =>
  C Tryz.prog N.isthmusref01_turn #[t125, .int .u64 7] w fun t126 w =>
  S2 w ∧
  C Tryz.prog N.isthmusref01_turn #[t127, .int .u64 18] w fun t128 w =>
  S2 w ∧
  tk Tryz.prog S2 (bin .xor 155 (.tmp 126) (.tmp 128) t126 t128) fun t129 =>
  tk Tryz.prog S2 (bin .xor 155 (.tmp 129) (.tmp 131) t129 t131) fun t132 =>
  tk Tryz.prog S2 (bin .add 155 (.tmp 124) (.tmp 132) t124 t132) fun t133 =>
  tk Tryz.prog S2 (bin .add 155 (.tmp 133) (.tmp 137) t133 t137) fun t138 =>
  tk Tryz.prog S2 (Instr.indexAt 175 t9 t111) fun t139 =>
  o0 Tryz.prog (Instr.storeAt 155 t139 t138) w fun _ w =>
  k1 [(x4 11), t12, t13] w)) fun x5 w =>
  mv (x4 10) fun t64 =>
  o1 Tryz.prog (bin .add 3 (.tmp 64) (.const (.int .i64 1)) t64 (.int .i64 1)) w fun t65 w =>
  mv t65 fun t10_1 =>
  I4 [t10_1, (x5 11), (x5 12), (x5 13)] w ∧ μ4 [t10_1, (x5 11), (x5 12), (x5 13)] w < μ4 [x4 10, x4 11, x4 12, x4 13] w4) (fun _ =>
  o1 Tryz.prog (Instr.loadAt 156 t4) w fun t140 w =>
  o1 Tryz.prog (Instr.alloc 156 true (.tuple #[])) w fun t14 w =>
  o0 Tryz.prog (Instr.storeAt 156 t14 t140) w fun _ w =>
  mv (.int .i64 0) fun t15 =>
  lp [t15, (x3 16), (x3 17), (x3 18), (x3 19)] w fun I6 μ6 => ∀ (x6 : Env) (w5 : World), I6 [x6 15, x6 16, x6 17, x6 18, x6 19] w5 →
  mv (x6 15) fun t141 =>
  o1 Tryz.prog (bin .lss 3 (.tmp 141) (.const (.int .i64 64)) t141 (.int .i64 64)) w5 fun t142 w =>
  br t142 (fun _ =>
  tk Tryz.prog (fun w' => w' = w.drew) (Instr.indexAt 156 t14 (.int .i64 4)) fun t145 =>
  tk Tryz.prog (fun w' => w' = w.drew) (Instr.loadAt 155 t145) fun t146 =>
  tk Tryz.prog (fun w' => w' = w.drew) (Instr.indexAt 156 t14 (.int .i64 0)) fun t147 =>
  tk Tryz.prog (fun w' => w' = w.drew) (Instr.loadAt 155 t147) fun t148 =>
  mv t146 fun t16 =>
  mv t148 fun t17 =>
  dr w.drew.drew fun S3 =>
  tk Tryz.prog S3 (Instr.indexAt 156 t14 (.int .i64 7)) fun t149 =>
  tk Tryz.prog S3 (Instr.loadAt 155 t149) fun t150 =>
  mv t16 fun t151 =>
  mv t16 fun t153 =>
  mv t16 fun t156 =>
  mv t16 fun t160 =>
  tk Tryz.prog S3 (Instr.indexAt 156 t14 (.int .i64 5)) fun t161 =>
  tk Tryz.prog S3 (Instr.loadAt 155 t161) fun t162 =>
  tk Tryz.prog S3 (bin .and 155 (.tmp 160) (.tmp 162) t160 t162) fun t163 =>
  mv t16 fun t164 =>
  tk Tryz.prog S3 (bin .xor 155 (.const (.int .u32 4294967295)) (.tmp 164) (.int .u32 4294967295) t164) fun t165 =>
  tk Tryz.prog S3 (Instr.indexAt 156 t14 (.int .i64 6)) fun t166 =>
  tk Tryz.prog S3 (Instr.loadAt 155 t166) fun t167 =>
  tk Tryz.prog S3 (bin .and 155 (.tmp 165) (.tmp 167) t165 t167) fun t168 =>
  tk Tryz.prog S3 (bin .or 155 (.tmp 163) (.tmp 168) t163 t168) fun t169 =>
  mv (x6 15) fun t171 =>
  tk Tryz.prog S3 (Instr.indexAt 175 t3 t171) fun t172 =>
  tk Tryz.prog S3 (Instr.loadAt 155 t172) fun t173 =>
  mv (x6 15) fun t175 =>
  tk Tryz.prog S3 (Instr.indexAt 175 t9 t175) fun t176 =>
  tk Tryz.prog S3 (Instr.loadAt 155 t176) fun t177 =>
  C Tryz.prog N.isthmusref01_turn #[t151, .int .u64 6] w.drew.drew fun t152 w =>
  S3 w ∧
  C Tryz.prog N.isthmusref01_turn #[t153, .int .u64 11] w fun t154 w =>
  S3 w ∧
  tk Tryz.prog S3 (bin .xor 155 (.tmp 152) (.tmp 154) t152 t154) fun t155 =>
  C Tryz.prog N.isthmusref01_turn #[t156, .int .u64 25] w fun t157 w =>
  S3 w ∧
  tk Tryz.prog S3 (bin .xor 155 (.tmp 155) (.tmp 157) t155 t157) fun t158 =>
  tk Tryz.prog S3 (bin .add 155 (.tmp 150) (.tmp 158) t150 t158) fun t159 =>
  tk Tryz.prog S3 (bin .add 155 (.tmp 159) (.tmp 169) t159 t169) fun t170 =>
  tk Tryz.prog S3 (bin .add 155 (.tmp 170) (.tmp 173) t170 t173) fun t174 =>
  tk Tryz.prog S3 (bin .add 155 (.tmp 174) (.tmp 177) t174 t177) fun t178 =>
  mv t178 fun t18 =>
  dr w.drew fun S4 =>
  mv t17 fun t179 =>
  mv t17 fun t181 =>
  mv t17 fun t184 =>
  mv t17 fun t187 =>
  tk Tryz.prog S4 (Instr.indexAt 156 t14 (.int .i64 1)) fun t188 =>
  tk Tryz.prog S4 (Instr.loadAt 155 t188) fun t189 =>
  tk Tryz.prog S4 (bin .and 155 (.tmp 187) (.tmp 189) t187 t189) fun t190 =>
  mv t17 fun t191 =>
  tk Tryz.prog S4 (Instr.indexAt 156 t14 (.int .i64 2)) fun t192 =>
  tk Tryz.prog S4 (Instr.loadAt 155 t192) fun t193 =>
  tk Tryz.prog S4 (bin .and 155 (.tmp 191) (.tmp 193) t191 t193) fun t194 =>
  tk Tryz.prog S4 (bin .or 155 (.tmp 190) (.tmp 194) t190 t194) fun t195 =>
  tk Tryz.prog S4 (Instr.indexAt 156 t14 (.int .i64 1)) fun t196 =>
  tk Tryz.prog S4 (Instr.loadAt 155 t196) fun t197 =>
  tk Tryz.prog S4 (Instr.indexAt 156 t14 (.int .i64 2)) fun t198 =>
  tk Tryz.prog S4 (Instr.loadAt 155 t198) fun t199 =>
  tk Tryz.prog S4 (bin .and 155 (.tmp 197) (.tmp 199) t197 t199) fun t200 =>
  tk Tryz.prog S4 (bin .or 155 (.tmp 195) (.tmp 200) t195 t200) fun t201 =>
  C Tryz.prog N.isthmusref01_turn #[t179, .int .u64 2] w.drew fun t180 w =>
  S4 w ∧
  C Tryz.prog N.isthmusref01_turn #[t181, .int .u64 13] w fun t182 w =>
  S4 w ∧
  tk Tryz.prog S4 (bin .xor 155 (.tmp 180) (.tmp 182) t180 t182) fun t183 =>
  C Tryz.prog N.isthmusref01_turn #[t184, .int .u64 22] w fun t185 w =>
  S4 w ∧
  tk Tryz.prog S4 (bin .xor 155 (.tmp 183) (.tmp 185) t183 t185) fun t186 =>
  tk Tryz.prog S4 (bin .add 155 (.tmp 186) (.tmp 201) t186 t201) fun t202 =>
  mv t202 fun t19 =>
  mv t18 fun t203 =>
  mv t19 fun t204 =>
  o1 Tryz.prog (bin .add 155 (.tmp 203) (.tmp 204) t203 t204) w fun t205 w =>
  o1 Tryz.prog (Instr.indexAt 156 t14 (.int .i64 0)) w fun t206 w =>
  o1 Tryz.prog (Instr.loadAt 155 t206) w fun t207 w =>
  o1 Tryz.prog (Instr.indexAt 156 t14 (.int .i64 1)) w fun t208 w =>
  o1 Tryz.prog (Instr.loadAt 155 t208) w fun t209 w =>
  o1 Tryz.prog (Instr.indexAt 156 t14 (.int .i64 2)) w fun t210 w =>
  o1 Tryz.prog (Instr.loadAt 155 t210) w fun t211 w =>
  o1 Tryz.prog (Instr.indexAt 156 t14 (.int .i64 3)) w fun t212 w =>
  o1 Tryz.prog (Instr.loadAt 155 t212) w fun t213 w =>
  mv t18 fun t214 =>
  o1 Tryz.prog (bin .add 155 (.tmp 213) (.tmp 214) t213 t214) w fun t215 w =>
  o1 Tryz.prog (Instr.indexAt 156 t14 (.int .i64 4)) w fun t216 w =>
  o1 Tryz.prog (Instr.loadAt 155 t216) w fun t217 w =>
  o1 Tryz.prog (Instr.indexAt 156 t14 (.int .i64 5)) w fun t218 w =>
  o1 Tryz.prog (Instr.loadAt 155 t218) w fun t219 w =>
  o1 Tryz.prog (Instr.indexAt 156 t14 (.int .i64 6)) w fun t220 w =>
  o1 Tryz.prog (Instr.loadAt 155 t220) w fun t221 w =>
  o1 Tryz.prog (Instr.build 156 #[(0, t205), (1, t207), (2, t209), (3, t211), (4, t215), (5, t217), (6, t219), (7, t221)]) w fun t222 w =>
  o0 Tryz.prog (Instr.storeAt 156 t14 t222) w fun _ w =>
  mv (x6 15) fun t143 =>
  o1 Tryz.prog (bin .add 3 (.tmp 143) (.const (.int .i64 1)) t143 (.int .i64 1)) w fun t144 w =>
  mv t144 fun t15_1 =>
  I6 [t15_1, t16, t17, t18, t19] w ∧ μ6 [t15_1, t16, t17, t18, t19] w < μ6 [x6 15, x6 16, x6 17, x6 18, x6 19] w5) (fun _ =>
  mv (.int .i64 0) fun t20 =>
  lp [t20] w fun I7 μ7 => ∀ (x7 : Env) (w6 : World), I7 [x7 20] w6 →
  mv (x7 20) fun t223 =>
  o1 Tryz.prog (bin .lss 3 (.tmp 223) (.const (.int .i64 8)) t223 (.int .i64 8)) w6 fun t224 w =>
  br t224 (fun _ =>
  dr w.drew fun S5 =>
  mv (x7 20) fun t227 =>
  mv (x7 20) fun t228 =>
  tk Tryz.prog S5 (Instr.indexAt 156 t4 t228) fun t229 =>
  tk Tryz.prog S5 (Instr.loadAt 155 t229) fun t230 =>
  mv (x7 20) fun t231 =>
  tk Tryz.prog S5 (Instr.indexAt 156 t14 t231) fun t232 =>
  tk Tryz.prog S5 (Instr.loadAt 155 t232) fun t233 =>
  tk Tryz.prog S5 (bin .add 155 (.tmp 230) (.tmp 233) t230 t233) fun t234 =>
  tk Tryz.prog S5 (Instr.indexAt 156 t4 t227) fun t235 =>
  o0 Tryz.prog (Instr.storeAt 155 t235 t234) w.drew fun _ w =>
  mv (x7 20) fun t225 =>
  o1 Tryz.prog (bin .add 3 (.tmp 225) (.const (.int .i64 1)) t225 (.int .i64 1)) w fun t226 w =>
  mv t226 fun t20_1 =>
  I7 [t20_1] w ∧ μ7 [t20_1] w < μ7 [x7 20] w6) (fun _ =>
  mv (x3 8) fun t60 =>
  o1 Tryz.prog (bin .add 3 (.tmp 60) (.const (.int .i64 64)) t60 (.int .i64 64)) w fun t61 w =>
  mv t61 fun t8_1 =>
  I3 [t8_1, (x4 10), (x4 11), (x4 12), (x4 13), (x6 15), (x6 16), (x6 17), (x6 18), (x6 19), (x7 20)] w ∧ μ3 [t8_1, (x4 10), (x4 11), (x4 12), (x4 13), (x6 15), (x6 16), (x6 17), (x6 18), (x6 19), (x7 20)] w < μ3 [x3 8, x3 10, x3 11, x3 12, x3 13, x3 15, x3 16, x3 17, x3 18, x3 19, x3 20] w3)))) (fun _ =>
  o1 Tryz.prog (Instr.alloc 23 true (.tuple #[])) w fun t21 w =>
  mv (.int .i64 0) fun t22 =>
  lp [t22] w fun I8 μ8 => ∀ (x8 : Env) (w7 : World), I8 [x8 22] w7 →
  mv (x8 22) fun t236 =>
  o1 Tryz.prog (bin .lss 3 (.tmp 236) (.const (.int .i64 32)) t236 (.int .i64 32)) w7 fun t237 w =>
  br t237 (fun _ =>
  mv (x8 22) fun t240 =>
  mv (x8 22) fun t241 =>
  o1 Tryz.prog (bin .quo 3 (.tmp 241) (.const (.int .i64 4)) t241 (.int .i64 4)) w fun t242 w =>
  o1 Tryz.prog (Instr.indexAt 156 t4 t242) w fun t243 w =>
  o1 Tryz.prog (Instr.loadAt 155 t243) w fun t244 w =>
  mv (x8 22) fun t245 =>
  o1 Tryz.prog (bin .rem 3 (.tmp 245) (.const (.int .i64 4)) t245 (.int .i64 4)) w fun t246 w =>
  o1 Tryz.prog (bin .mul 3 (.const (.int .i64 8)) (.tmp 246) (.int .i64 8) t246) w fun t247 w =>
  o1 Tryz.prog (bin .sub 3 (.const (.int .i64 24)) (.tmp 247) (.int .i64 24) t247) w fun t248 w =>
  o1 Tryz.prog (convert 3 49 t248) w fun t249 w =>
  o1 Tryz.prog (bin .shr 155 (.tmp 244) (.tmp 249) t244 t249) w fun t250 w =>
  o1 Tryz.prog (convert 155 5 t250) w fun t251 w =>
  o1 Tryz.prog (Instr.indexAt 23 t21 t240) w fun t252 w =>
  o0 Tryz.prog (Instr.storeAt 5 t252 t251) w fun _ w =>
  mv (x8 22) fun t238 =>
  o1 Tryz.prog (bin .add 3 (.tmp 238) (.const (.int .i64 1)) t238 (.int .i64 1)) w fun t239 w =>
  mv t239 fun t22_1 =>
  I8 [t22_1] w ∧ μ8 [t22_1] w < μ8 [x8 22] w7) (fun _ =>
  o1 Tryz.prog (Instr.loadAt 23 t21) w fun t253 w =>
  o0 Tryz.prog (Instr.storeAt 23 t2 t253) w fun _ w =>
  rc Tryz.prog 23 t2 w fun r0 =>
  k r0 w))))
theorem C.isthmusref01_Sum {k : Value → World → Prop} {a0 : Value} {w : World} (h : F.isthmusref01_Sum k a0 w) : C Tryz.prog N.isthmusref01_Sum #[a0] w k :=
  den_calls (H := { moves := [(20, (.take 0 (.take 1 (.take 2 (.take 3 (.take 4 (.take 5 (.take 6 (.take 7 (.take 8 (.take 9 (.take 10 (.take 11 (.take 12 (.take 13 (.take 14 (.take 15 (.take 16 (.take 17 (.take 18 (.take 19 (.take 20 (.take 21 (.take 22 (.take 23 (.take 24 (.take 25 (.take 26 (.take 27 (.take 28 (.take 29 (.take 30 (.last 31))))))))))))))))))))))))))))))))), (21, (.take 0 (.take 1 (.take 2 (.take 3 (.take 4 (.take 5 (.take 6 (.take 7 (.take 8 (.take 9 .fin))))))))))), (22, (.take 0 (.take 1 (.take 3 (.take 6 (.take 7 (.take 9 (.take 10 (.take 11 (.take 12 (.take 14 (.take 16 (.take 19 (.take 20 (.take 23 (.take 24 (.take 25 (.take 26 (.force 2 (.force 4 (.take 5 (.take 8 (.take 13 (.force 15 (.force 17 (.take 18 (.take 21 (.take 22 (.take 27 (.take 28 (.last 29))))))))))))))))))))))))))))))), (27, (.take 0 (.take 1 (.take 2 (.take 3 (.take 4 (.take 5 .fin))))))), (28, (.take 0 (.take 1 (.take 2 (.take 4 (.take 7 (.take 11 (.take 12 (.take 13 (.take 14 (.take 15 (.take 16 (.take 17 (.take 18 (.take 19 (.take 20 (.take 22 (.take 23 (.take 24 (.take 26 (.take 27 (.take 28 (.force 3 (.force 5 (.take 6 (.force 8 (.take 9 (.take 10 (.take 21 (.take 25 (.take 29 (.take 30 .fin)))))))))))))))))))))))))))))))), (29, (.take 0 (.take 2 (.take 5 (.take 8 (.take 9 (.take 10 (.take 11 (.take 12 (.take 13 (.take 14 (.take 15 (.take 16 (.take 17 (.take 18 (.take 19 (.take 20 (.take 21 (.take 22 (.force 1 (.force 3 (.take 4 (.force 6 (.take 7 (.take 23 (.take 24 .fin)))))))))))))))))))))))))), (34, (.take 0 (.take 1 (.take 2 (.take 3 (.take 4 (.take 5 (.take 6 (.take 7 (.take 8 (.last 9)))))))))))], vars := [5, 6, 7, 8, 10, 11, 12, 13, 15, 16, 17, 18, 19, 20, 22] }) (args := [a0]) mixed Tryz.func56 (by kernel_rfl) (by kernel_rfl) (by kernel_rfl) h

-- isthmus/isthmusref01.split
def F.isthmusref01_split (k : Value → World → Prop) (a0 : Value) (w : World) : Prop :=
  mv (.int .i64 0) fun t2 =>
  mv (.int .i64 1) fun t3 =>
  lp [t3] w fun I1 μ1 => ∀ (x1 : Env) (w1 : World), I1 [x1 3] w1 →
  mv (x1 3) fun t4 =>
  mv a0 fun t5 =>
  mv (x1 3) fun t6 =>
  o1 Tryz.prog (bin .sub 3 (.tmp 5) (.tmp 6) t5 t6) w1 fun t7 w =>
  o1 Tryz.prog (bin .lss 3 (.tmp 4) (.tmp 7) t4 t7) w fun t8 w =>
  br t8 (fun _ =>
  mv (x1 3) fun t9 =>
  o1 Tryz.prog (bin .mul 3 (.const (.int .i64 2)) (.tmp 9) (.int .i64 2) t9) w fun t10 w =>
  mv t10 fun t3_1 =>
  I1 [t3_1] w ∧ μ1 [t3_1] w < μ1 [x1 3] w1) (fun _ =>
  mv (x1 3) fun t11 =>
  mv t11 fun t2_1 =>
  k t2_1 w)
theorem C.isthmusref01_split {k : Value → World → Prop} {a0 : Value} {w : World} (h : F.isthmusref01_split k a0 w) : C Tryz.prog N.isthmusref01_split #[a0] w k :=
  den_calls (H := { moves := [], vars := [2, 3] }) (args := [a0]) mixed Tryz.func57 (by kernel_rfl) (by kernel_rfl) (by kernel_rfl) h

-- isthmus/isthmusref01.Node
def F.isthmusref01_Node (k : Value → World → Prop) (a0 a1 : Value) (w : World) : Prop :=
  o1 Tryz.prog (Instr.box 23 a0) w fun t2 w =>
  o1 Tryz.prog (Instr.box 23 a1) w fun t3 w =>
  o1 Tryz.prog (Instr.alloc 23 true (.tuple #[])) w fun t4 w =>
  o1 Tryz.prog (Instr.buildSlice 26 1 #[(0, .int .u8 1)]) w fun t6 w =>
  mv t6 fun t5 =>
  mv t5 fun t7 =>
  o1 Tryz.prog (Instr.sliceAt 23 t2 none none none) w fun t8 w =>
  ob Tryz.prog (fun _ => Builtin.append_ #[26, 26] 26 #[t7, t8]) w fun t9 w =>
  mv t9 fun t5_1 =>
  mv t5_1 fun t10 =>
  o1 Tryz.prog (Instr.sliceAt 23 t3 none none none) w fun t11 w =>
  ob Tryz.prog (fun _ => Builtin.append_ #[26, 26] 26 #[t10, t11]) w fun t12 w =>
  C Tryz.prog N.isthmusref01_Sum #[t12] w fun t13 w =>
  o0 Tryz.prog (Instr.storeAt 23 t4 t13) w fun _ w =>
  rc Tryz.prog 23 t4 w fun r0 =>
  k r0 w
theorem C.isthmusref01_Node {k : Value → World → Prop} {a0 a1 : Value} {w : World} (h : F.isthmusref01_Node k a0 a1 w) : C Tryz.prog N.isthmusref01_Node #[a0, a1] w k :=
  den_calls (H := { moves := [], vars := [5] }) (args := [a0, a1]) mixed Tryz.func58 (by kernel_rfl) (by kernel_rfl) (by kernel_rfl) h

-- isthmus/isthmusref05.Public
def F.isthmusref05_Public (k : Value → World → Prop) (a0 a1 a2 : Value) (w : World) : Prop :=
  o1 Tryz.prog (Instr.box 23 a0) w fun t3 w =>
  o1 Tryz.prog (Instr.alloc 23 true (.tuple #[])) w fun t6 w =>
  mv (.int .i64 0) fun t7 =>
  mv a1 fun t10 =>
  mv a2 fun t11 =>
  C Tryz.prog N.isthmusref05_check #[t10, t11] w fun t12 w =>
  o1 Tryz.prog (Op.unary .not t12) w fun t13 w =>
  br t13 (fun _ =>
  o1 Tryz.prog (Instr.build 23 #[]) w fun t14 w =>
  o0 Tryz.prog (Instr.storeAt 23 t6 t14) w fun _ w =>
  mv (.int .i64 1) fun t7_1 =>
  rc Tryz.prog 23 t6 w fun r0 =>
  k (.tuple #[r0, t7_1]) w) (fun _ =>
  mv (.slice none 0 0) fun t8 =>
  mv (.int .i64 0) fun t9 =>
  lp [t8, t9] w fun I1 μ1 => ∀ (x1 : Env) (w1 : World), I1 [x1 8, x1 9] w1 →
  mv (x1 9) fun t15 =>
  mv a2 fun t16 =>
  o1 Tryz.prog (bin .mul 3 (.const (.int .i64 2)) (.tmp 16) (.int .i64 2) t16) w1 fun t17 w =>
  o1 Tryz.prog (bin .add 3 (.tmp 17) (.const (.int .i64 3)) t17 (.int .i64 3)) w fun t18 w =>
  o1 Tryz.prog (bin .lss 3 (.tmp 15) (.tmp 18) t15 t18) w fun t19 w =>
  br t19 (fun _ =>
  mv (x1 8) fun t22 =>
  o1 Tryz.prog (Instr.loadAt 23 t3) w fun t23 w =>
  mv a1 fun t24 =>
  mv (x1 9) fun t25 =>
  C Tryz.prog N.isthmusref05_at #[t23, t24, t25, .int .i64 15] w fun t26 w =>
  C Tryz.prog N.isthmusref02_Hash #[t22, t26] w fun t27 w =>
  mv t27 fun t8_1 =>
  mv (x1 9) fun t20 =>
  o1 Tryz.prog (bin .add 3 (.tmp 20) (.const (.int .i64 1)) t20 (.int .i64 1)) w fun t21 w =>
  mv t21 fun t9_1 =>
  I1 [t8_1, t9_1] w ∧ μ1 [t8_1, t9_1] w < μ1 [x1 8, x1 9] w1) (fun _ =>
  mv (x1 8) fun t28 =>
  C Tryz.prog N.isthmusref01_Leaf #[t28] w fun t29 w =>
  o0 Tryz.prog (Instr.storeAt 23 t6 t29) w fun _ w =>
  mv (.int .i64 0) fun t7_2 =>
  rc Tryz.prog 23 t6 w fun r0 =>
  k (.tuple #[r0, t7_2]) w))
theorem C.isthmusref05_Public {k : Value → World → Prop} {a0 a1 a2 : Value} {w : World} (h : F.isthmusref05_Public k a0 a1 a2 w) : C Tryz.prog N.isthmusref05_Public #[a0, a1, a2] w k :=
  den_calls (H := { moves := [], vars := [7, 8, 9] }) (args := [a0, a1, a2]) mixed Tryz.func59 (by kernel_rfl) (by kernel_rfl) (by kernel_rfl) h

-- isthmus/pack.Read
def F.pack_Read (k : Value → World → Prop) (a0 : Value) (w : World) : Prop :=
  mv (.pointer none) fun t2 =>
  mv a0 fun t3 =>
  o1 Tryz.prog (Instr.build 181 #[(0, t3)]) w fun t4 w =>
  o1 Tryz.prog (Instr.box 181 t4) w fun t5 w =>
  mv t5 fun t2_1 =>
  k t2_1 w
theorem C.pack_Read {k : Value → World → Prop} {a0 : Value} {w : World} (h : F.pack_Read k a0 w) : C Tryz.prog N.pack_Read #[a0] w k :=
  den_calls (H := { moves := [], vars := [2] }) (args := [a0]) mixed Tryz.func60 (by kernel_rfl) (by kernel_rfl) (by kernel_rfl) h

-- (*isthmus/pack.Reader).Uint
def F.pack_Reader_Uint (k : Value → World → Prop) (a0 a1 : Value) (w : World) : Prop :=
  mv (.int .u64 0) fun t4 =>
  mv a0 fun t8 =>
  C Tryz.prog N.pack_Reader_live #[t8] w fun t9 w =>
  o1 Tryz.prog (Op.unary .not t9) w fun t10 w =>
  br t10 (fun _ =>
  mv (.int .u64 0) fun t4_1 =>
  k t4_1 w) (fun _ =>
  mv a0 fun t12 =>
  nilOk t12 = true ∧ mv t12 fun t13 =>
  o1 Tryz.prog (Instr.fieldAt 181 t13 0) w fun t14 w =>
  o1 Tryz.prog (Instr.loadAt 26 t14) w fun t15 w =>
  C Tryz.prog N.pack_number #[t15] w fun t16 w =>
  mv t16 fun t11 =>
  o1 Tryz.prog (Instr.extract t11 0) w fun t17 w =>
  o1 Tryz.prog (Instr.extract t11 1) w fun t18 w =>
  o1 Tryz.prog (Instr.extract t11 2) w fun t19 w =>
  mv t17 fun t5 =>
  mv t18 fun t6 =>
  mv t19 fun t7 =>
  mv t7 fun t21 =>
  o1 Tryz.prog (bin .neq 87 (.tmp 21) (.const (.int .i64 0)) t21 (.int .i64 0)) w fun t22 w =>
  mv t22 fun t20 =>
  br t20 (fun _ =>
  mv a0 fun t23 =>
  mv t7 fun t24 =>
  C Tryz.prog N.pack_Reader_fail #[t23, .string ⟨#[110, 117, 109, 98, 101, 114]⟩, t24] w fun t25 w =>
  mv (.int .u64 0) fun t4_2 =>
  k t4_2 w) (fun _ =>
  mv t5 fun t27 =>
  mv a1 fun t28 =>
  o1 Tryz.prog (bin .gtr 79 (.tmp 27) (.tmp 28) t27 t28) w fun t29 w =>
  mv t29 fun t26 =>
  br t26 (fun _ =>
  mv a0 fun t30 =>
  C Tryz.prog N.pack_Reader_fail #[t30, .string ⟨#[110, 117, 109, 98, 101, 114]⟩, .int .i64 4] w fun t31 w =>
  mv (.int .u64 0) fun t4_3 =>
  k t4_3 w) (fun _ =>
  mv a0 fun t32 =>
  mv a0 fun t33 =>
  nilOk t33 = true ∧ mv t33 fun t34 =>
  o1 Tryz.prog (Instr.fieldAt 181 t34 0) w fun t35 w =>
  o1 Tryz.prog (Instr.loadAt 26 t35) w fun t36 w =>
  mv t6 fun t37 =>
  o1 Tryz.prog (Instr.sliceAt 26 t36 (some t37) none none) w fun t38 w =>
  nilOk t32 = true ∧ mv t32 fun t39 =>
  o1 Tryz.prog (Instr.fieldAt 181 t39 0) w fun t40 w =>
  o0 Tryz.prog (Instr.storeAt 26 t40 t38) w fun _ w =>
  mv t5 fun t41 =>
  mv t41 fun t4_4 =>
  k t4_4 w)))
theorem C.pack_Reader_Uint {k : Value → World → Prop} {a0 a1 : Value} {w : World} (h : F.pack_Reader_Uint k a0 a1 w) : C Tryz.prog N.pack_Reader_Uint #[a0, a1] w k :=
  den_calls (H := { moves := [], vars := [4, 5, 6, 7, 20, 26] }) (args := [a0, a1]) mixed Tryz.func61 (by kernel_rfl) (by kernel_rfl) (by kernel_rfl) h

-- (*isthmus/pack.Reader).Bytes
def F.pack_Reader_Bytes (k : Value → World → Prop) (a0 a1 : Value) (w : World) : Prop :=
  mv (.slice none 0 0) fun t4 =>
  mv a1 fun t7 =>
  o1 Tryz.prog (bin .lss 3 (.tmp 7) (.const (.int .i64 0)) t7 (.int .i64 0)) w fun t8 w =>
  jn (fun x1 => []) (fun k1 =>
  br t8 (fun _ =>
  mv a0 fun t9 =>
  C Tryz.prog N.pack_Reader_fail #[t9, .string ⟨#[98, 111, 117, 110, 100]⟩, .int .i64 1] w fun t10 w =>
  k1 [] w) (fun _ =>
  k1 [] w)) fun x1 w =>
  mv a0 fun t11 =>
  C Tryz.prog N.pack_Reader_live #[t11] w fun t12 w =>
  o1 Tryz.prog (Op.unary .not t12) w fun t13 w =>
  br t13 (fun _ =>
  mv (.slice none 0 0) fun t4_1 =>
  k t4_1 w) (fun _ =>
  mv a0 fun t14 =>
  nilOk t14 = true ∧ mv t14 fun t15 =>
  o1 Tryz.prog (Instr.fieldAt 181 t15 0) w fun t16 w =>
  o1 Tryz.prog (Instr.loadAt 26 t16) w fun t17 w =>
  mv t17 fun t5 =>
  mv a0 fun t18 =>
  C Tryz.prog N.pack_Reader_Uint #[t18, .int .u64 18446744073709551615] w fun t19 w =>
  mv t19 fun t6 =>
  mv a0 fun t25 =>
  C Tryz.prog N.pack_Reader_live #[t25] w fun t26 w =>
  o1 Tryz.prog (Op.unary .not t26) w fun t27 w =>
  mv t27 fun t24 =>
  br t24 (fun _ =>
  mv (.slice none 0 0) fun t4_2 =>
  k t4_2 w) (fun _ =>
  mv t6 fun t29 =>
  mv a1 fun t30 =>
  o1 Tryz.prog (convert 3 79 t30) w fun t31 w =>
  o1 Tryz.prog (bin .gtr 79 (.tmp 29) (.tmp 31) t29 t31) w fun t32 w =>
  mv t32 fun t28 =>
  jn (fun x2 => [x2 4, x2 35]) (fun k2 =>
  br t28 (fun _ =>
  mv a0 fun t33 =>
  C Tryz.prog N.pack_Reader_fail #[t33, .string ⟨#[108, 101, 110, 103, 116, 104]⟩, .int .i64 2] w fun t34 w =>
  k2 [t4, undef] w) (fun _ =>
  mv t6 fun t36 =>
  mv a0 fun t37 =>
  nilOk t37 = true ∧ mv t37 fun t38 =>
  o1 Tryz.prog (Instr.fieldAt 181 t38 0) w fun t39 w =>
  o1 Tryz.prog (Instr.loadAt 26 t39) w fun t40 w =>
  o1 Tryz.prog (Builtin.len_ #[26] 3 #[t40]) w fun t41 w =>
  o1 Tryz.prog (convert 3 79 t41) w fun t42 w =>
  o1 Tryz.prog (bin .gtr 79 (.tmp 36) (.tmp 42) t36 t42) w fun t43 w =>
  mv t43 fun t35 =>
  br t35 (fun _ =>
  mv a0 fun t44 =>
  C Tryz.prog N.pack_Reader_fail #[t44, .string ⟨#[98, 121, 116, 101, 115]⟩, .int .i64 12] w fun t45 w =>
  k2 [t4, t35] w) (fun _ =>
  mv a0 fun t20 =>
  mv t6 fun t21 =>
  o1 Tryz.prog (convert 79 3 t21) w fun t22 w =>
  C Tryz.prog N.pack_Reader_take #[t20, .string ⟨#[98, 121, 116, 101, 115]⟩, t22] w fun t23 w =>
  mv t23 fun t4_3 =>
  k t4_3 w))) fun x2 w =>
  mv a0 fun t46 =>
  mv t5 fun t47 =>
  nilOk t46 = true ∧ mv t46 fun t48 =>
  o1 Tryz.prog (Instr.fieldAt 181 t48 0) w fun t49 w =>
  o0 Tryz.prog (Instr.storeAt 26 t49 t47) w fun _ w =>
  mv (.slice none 0 0) fun t4_4 =>
  k t4_4 w))
theorem C.pack_Reader_Bytes {k : Value → World → Prop} {a0 a1 : Value} {w : World} (h : F.pack_Reader_Bytes k a0 a1 w) : C Tryz.prog N.pack_Reader_Bytes #[a0, a1] w k :=
  den_calls (H := { moves := [], vars := [4, 5, 6, 24, 28, 35] }) (args := [a0, a1]) mixed Tryz.func62 (by kernel_rfl) (by kernel_rfl) (by kernel_rfl) h

-- (*isthmus/pack.Reader).Hash
def F.pack_Reader_Hash (k : Value → World → Prop) (a0 : Value) (w : World) : Prop :=
  o1 Tryz.prog (Instr.alloc 23 true (.tuple #[])) w fun t2 w =>
  o1 Tryz.prog (Instr.alloc 23 true (.tuple #[])) w fun t3 w =>
  dr w.drew fun S1 =>
  tk Tryz.prog S1 (Instr.sliceAt 23 t3 none none none) fun t4 =>
  mv a0 fun t5 =>
  C Tryz.prog N.pack_Reader_take #[t5, .string ⟨#[115, 117, 109]⟩, .int .i64 32] w.drew fun t6 w =>
  S1 w ∧
  ob Tryz.prog (fun _ => Builtin.copy_ #[26, 26] 3 #[t4, t6]) w fun t7 w =>
  o1 Tryz.prog (Instr.loadAt 23 t3) w fun t8 w =>
  o0 Tryz.prog (Instr.storeAt 23 t2 t8) w fun _ w =>
  rc Tryz.prog 23 t2 w fun r0 =>
  k r0 w
theorem C.pack_Reader_Hash {k : Value → World → Prop} {a0 : Value} {w : World} (h : F.pack_Reader_Hash k a0 w) : C Tryz.prog N.pack_Reader_Hash #[a0] w k :=
  den_calls (H := { moves := [(2, (.take 0 (.take 1 (.force 2 (.last 3)))))], vars := [] }) (args := [a0]) mixed Tryz.func63 (by kernel_rfl) (by kernel_rfl) (by kernel_rfl) h

-- (*isthmus/pack.Reader).Done
def F.pack_Reader_Done (k : Value → World → Prop) (a0 : Value) (w : World) : Prop :=
  mv .nilIface fun t2 =>
  mv a0 fun t3 =>
  C Tryz.prog N.pack_Reader_live #[t3] w fun t4 w =>
  mv t4 fun t5 =>
  gd t5 true (fun k1 => mv a0 fun v => k1 v w) w fun t6 w =>
  gd t5 true (fun k2 => nilOk t6 = true ∧ mv t6 fun v => k2 v w) w fun t7 w =>
  gd t5 true (fun k3 => o1 Tryz.prog (Instr.fieldAt 181 t7 0) w k3) w fun t8 w =>
  gd t5 true (fun k4 => o1 Tryz.prog (Instr.loadAt 26 t8) w k4) w fun t9 w =>
  gd t5 true (fun k5 => o1 Tryz.prog (Builtin.len_ #[26] 3 #[t9]) w k5) w fun t10 w =>
  gd t5 true (fun k6 => o1 Tryz.prog (bin .gtr 3 (.tmp 10) (.const (.int .i64 0)) t10 (.int .i64 0)) w k6) w fun t11 w =>
  pk t5 t11 (.bool false) fun t12 =>
  br t12 (fun _ =>
  o1 Tryz.prog (Instr.makeInterface 87 (.int .i64 3)) w fun t13 w =>
  o1 Tryz.prog (Instr.build 138 #[(0, .string ⟨#[101, 110, 100]⟩), (1, t13)]) w fun t14 w =>
  o1 Tryz.prog (Instr.box 138 t14) w fun t15 w =>
  o1 Tryz.prog (Instr.makeInterface 136 t15) w fun t16 w =>
  mv t16 fun t2_1 =>
  k t2_1 w) (fun _ =>
  mv a0 fun t17 =>
  C Tryz.prog N.pack_Reader_Err #[t17] w fun t18 w =>
  mv t18 fun t2_2 =>
  k t2_2 w)
theorem C.pack_Reader_Done {k : Value → World → Prop} {a0 : Value} {w : World} (h : F.pack_Reader_Done k a0 w) : C Tryz.prog N.pack_Reader_Done #[a0] w k :=
  den_calls (H := { moves := [], vars := [2] }) (args := [a0]) mixed Tryz.func64 (by kernel_rfl) (by kernel_rfl) (by kernel_rfl) h

-- isthmus/isthmusref02.fail
def F.isthmusref02_fail (k : Value → World → Prop) (a0 a1 : Value) (w : World) : Prop :=
  o1 Tryz.prog (Instr.box 78 a0) w fun t2 w =>
  o1 Tryz.prog (Instr.alloc 78 true (.tuple #[])) w fun t4 w =>
  o1 Tryz.prog (Instr.fieldAt 78 t2 1) w fun t5 w =>
  o1 Tryz.prog (Instr.loadAt 3 t5) w fun t6 w =>
  o1 Tryz.prog (bin .eql 3 (.tmp 6) (.const (.int .i64 0)) t6 (.int .i64 0)) w fun t7 w =>
  jn (fun x1 => []) (fun k1 =>
  br t7 (fun _ =>
  mv a1 fun t8 =>
  o1 Tryz.prog (Instr.fieldAt 78 t2 1) w fun t9 w =>
  o0 Tryz.prog (Instr.storeAt 3 t9 t8) w fun _ w =>
  k1 [] w) (fun _ =>
  k1 [] w)) fun x1 w =>
  o1 Tryz.prog (Instr.loadAt 78 t2) w fun t10 w =>
  o0 Tryz.prog (Instr.storeAt 78 t4 t10) w fun _ w =>
  rc Tryz.prog 78 t4 w fun r0 =>
  k r0 w
theorem C.isthmusref02_fail {k : Value → World → Prop} {a0 a1 : Value} {w : World} (h : F.isthmusref02_fail k a0 a1 w) : C Tryz.prog N.isthmusref02_fail #[a0, a1] w k :=
  den_calls (H := { moves := [], vars := [] }) (args := [a0, a1]) mixed Tryz.func65 (by kernel_rfl) (by kernel_rfl) (by kernel_rfl) h

-- errors.as
def F.errors_as (k : Value → World → Prop) (a0 a1 a2 a3 : Value) (w : World) : Prop :=
  o1 Tryz.prog (Instr.box 127 a2) w fun t6 w =>
  mv (.bool false) fun t8 =>
  lp [a0, t8, undef, undef, undef, undef, undef, undef, undef] w fun I1 μ1 => ∀ (x1 : Env) (w1 : World), I1 [x1 0, x1 8, x1 9, x1 10, x1 11, x1 12, x1 14, x1 15, x1 50] w1 →
  mv (x1 0) fun t16 =>
  oN Tryz.prog (callFunc N.internal_reflectlite_TypeOf #[t16]) w1 fun t17 w =>
  mv a3 fun t18 =>
  iv Tryz.prog t17 "AssignableTo" #[t18] w fun t19 w =>
  br t19 (fun _ =>
  o1 Tryz.prog (Instr.loadAt 127 t6) w fun t20 w =>
  oN Tryz.prog (callFunc N.internal_reflectlite_Value_Elem #[t20]) w fun t21 w =>
  mv (x1 0) fun t22 =>
  oN Tryz.prog (callFunc N.internal_reflectlite_ValueOf #[t22]) w fun t23 w =>
  oN Tryz.prog (callFunc N.internal_reflectlite_Value_Set #[t21, t23]) w fun t24 w =>
  mv (.bool true) fun t8_1 =>
  k t8_1 w) (fun _ =>
  mv (x1 0) fun t26 =>
  o1 Tryz.prog (Instr.typeAssert t26 30 192 true) w fun t27 w =>
  mv t27 fun t25 =>
  o1 Tryz.prog (Instr.extract t25 0) w fun t28 w =>
  o1 Tryz.prog (Instr.extract t25 1) w fun t29 w =>
  mv t28 fun t9 =>
  mv t29 fun t10 =>
  mv t10 fun t30 =>
  mv t30 fun t31 =>
  gd t31 true (fun k1 => mv t9 fun v => k1 v w) w fun t32 w =>
  gd t31 true (fun k2 => mv a1 fun v => k2 v w) w fun t33 w =>
  gd t31 true (fun k3 => iv Tryz.prog t32 "As" #[t33] w k3) w fun t34 w =>
  pk t31 t34 (.bool false) fun t35 =>
  br t35 (fun _ =>
  mv (.bool true) fun t8_2 =>
  k t8_2 w) (fun _ =>
  mv (x1 0) fun t36 =>
  o1 Tryz.prog (Instr.typeAssert t36 30 195 true) w fun t37 w =>
  o1 Tryz.prog (Instr.extract t37 1) w fun t38 w =>
  o1 Tryz.prog (Instr.extract t37 0) w fun t39 w =>
  br t38 (fun _ =>
  mv t39 fun t11 =>
  mv t11 fun t40 =>
  iv Tryz.prog t40 "Unwrap" #[] w fun t41 w =>
  mv t41 fun t0 =>
  mv t0 fun t42 =>
  o1 Tryz.prog (bin .eql 30 (.tmp 42) (.const .nilIface) t42 .nilIface) w fun t43 w =>
  br t43 (fun _ =>
  mv (.bool false) fun t8_3 =>
  k t8_3 w) (fun _ =>
  I1 [t0, (x1 8), t9, t10, t11, (x1 12), (x1 14), (x1 15), (x1 50)] w ∧ μ1 [t0, (x1 8), t9, t10, t11, (x1 12), (x1 14), (x1 15), (x1 50)] w < μ1 [x1 0, x1 8, x1 9, x1 10, x1 11, x1 12, x1 14, x1 15, x1 50] w1)) (fun _ =>
  o1 Tryz.prog (Instr.typeAssert t36 30 196 true) w fun t44 w =>
  o1 Tryz.prog (Instr.extract t44 1) w fun t45 w =>
  o1 Tryz.prog (Instr.extract t44 0) w fun t46 w =>
  br t45 (fun _ =>
  mv t46 fun t12 =>
  mv t12 fun t47 =>
  iv Tryz.prog t47 "Unwrap" #[] w fun t48 w =>
  o1 Tryz.prog (Builtin.len_ #[197] 3 #[t48]) w fun t49 w =>
  mv (.int .i64 0) fun t50 =>
  lp [(x1 8), (x1 14), t50] w fun I2 μ2 => ∀ (x2 : Env) (w2 : World), I2 [x2 8, x2 14, x2 50] w2 →
  o1 Tryz.prog (bin .lss 3 (.tmp 50) (.tmp 49) (x2 50) t49) w2 fun t51 w =>
  br t51 (fun _ =>
  jn (fun x3 => [x3 8, x3 14]) (fun k4 =>
  o1 Tryz.prog (Instr.indexAt 197 t48 (x2 50)) w fun t52 w =>
  o1 Tryz.prog (Instr.loadAt 30 t52) w fun t53 w =>
  mv t53 fun t14 =>
  mv t14 fun t54 =>
  o1 Tryz.prog (bin .eql 30 (.tmp 54) (.const .nilIface) t54 .nilIface) w fun t55 w =>
  br t55 (fun _ =>
  k4 [(x2 8), t14] w) (fun _ =>
  mv t14 fun t56 =>
  mv a1 fun t57 =>
  o1 Tryz.prog (Instr.loadAt 127 t6) w fun t58 w =>
  mv a3 fun t59 =>
  C Tryz.prog N.errors_as #[t56, t57, t58, t59] w fun t60 w =>
  br t60 (fun _ =>
  mv (.bool true) fun t8_4 =>
  k t8_4 w) (fun _ =>
  k4 [(x2 8), t14] w))) fun x3 w =>
  o1 Tryz.prog (bin .add 3 (.tmp 50) (.const (.int .i64 1)) (x2 50) (.int .i64 1)) w fun t61 w =>
  mv t61 fun t50_1 =>
  I2 [(x3 8), (x3 14), t50_1] w ∧ μ2 [(x3 8), (x3 14), t50_1] w < μ2 [x2 8, x2 14, x2 50] w2) (fun _ =>
  mv (.bool false) fun t8_5 =>
  k t8_5 w)) (fun _ =>
  mv t36 fun t15 =>
  mv (.bool false) fun t8_6 =>
  k t8_6 w))))
theorem C.errors_as {k : Value → World → Prop} {a0 a1 a2 a3 : Value} {w : World} (h : F.errors_as k a0 a1 a2 a3 w) : C Tryz.prog N.errors_as #[a0, a1, a2, a3] w k :=
  den_calls (H := { moves := [], vars := [0, 8, 9, 10, 11, 12, 14, 15, 50] }) (args := [a0, a1, a2, a3]) mixed Tryz.func69 (by kernel_rfl) (by kernel_rfl) (by kernel_rfl) h

end Go.Proofs.YtbbmgkbinnomgaaGreatDoor
