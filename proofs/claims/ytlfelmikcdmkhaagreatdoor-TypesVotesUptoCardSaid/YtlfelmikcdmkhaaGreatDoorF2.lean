/- What each function asks: printed by hoas.py off the loaded program; each is held against the program by the kernel. -/
import Derived.Test.YtlfelmikcdmkhaaGreatDoorN
set_option linter.unusedVariables false
set_option linter.unusedSimpArgs false
set_option linter.unusedSectionVars false
namespace Go.Proofs.YtlfelmikcdmkhaaGreatDoor
open Go Go.Isk
set_option maxRecDepth 100000
-- isthmus/types.decode[isthmus/api.Header]
-- isthmus/types.getHeader
-- isthmus/isthmusref11.ReadHeader
-- isthmus/types.decode[isthmus/api.Block]
-- isthmus/types.getBlock
-- isthmus/isthmusref11.ReadBlock
-- isthmus/types.EncodeVote
-- isthmus/types.decode[[]isthmus/api.Validator]
-- isthmus/types.getSet
-- isthmus/isthmusref11.ReadSet
-- slices.ContainsFunc[[]isthmus/api.Validator,isthmus/api.Validator]
def F.slices_ContainsFunc_api_Validator_api_Validator (k : Value → World → Prop) (a0 a1 : Value) (w : World) : Prop :=
  mv (.bool false) fun t4 =>
  mv a0 fun t5 =>
  mv a1 fun t6 =>
  C Tryz.prog N.slices_IndexFunc_api_Validator_api_Validator #[t5, t6] w fun t7 w =>
  o1 Tryz.prog (bin .geq 3 (.tmp 7) (.const (.int .i64 0)) t7 (.int .i64 0)) w fun t8 w =>
  mv t8 fun t4_1 =>
  k t4_1 w
theorem C.slices_ContainsFunc_api_Validator_api_Validator {k : Value → World → Prop} {a0 a1 : Value} {w : World} (h : F.slices_ContainsFunc_api_Validator_api_Validator k a0 a1 w) : C Tryz.prog N.slices_ContainsFunc_api_Validator_api_Validator #[a0, a1] w k :=
  den_calls (H := { moves := [], vars := [4] }) (args := [a0, a1]) mixed Tryz.func91 (by kernel_rfl) (by kernel_rfl) (by kernel_rfl) h

-- isthmus/types.CheckSet$1
def F.types_CheckSet_1 (k : Value → World → Prop) (a0 a1 : Value) (w : World) : Prop :=
  o1 Tryz.prog (Instr.box 76 a0) w fun t2 w =>
  mv (.bool false) fun t3 =>
  o1 Tryz.prog (Instr.fieldAt 76 t2 0) w fun t4 w =>
  o1 Tryz.prog (Instr.loadAt 9 t4) w fun t5 w =>
  o1 Tryz.prog (Instr.fieldAt 76 a1 0) w fun t6 w =>
  o1 Tryz.prog (Instr.loadAt 9 t6) w fun t7 w =>
  o1 Tryz.prog (bin .eql 9 (.tmp 5) (.tmp 7) t5 t7) w fun t8 w =>
  mv t8 fun t3_1 =>
  k t3_1 w
theorem C.types_CheckSet_1 {k : Value → World → Prop} {a0 a1 : Value} {w : World} (h : F.types_CheckSet_1 k a0 a1 w) : C Tryz.prog N.types_CheckSet_1 #[a0, a1] w k :=
  den_calls (H := { moves := [], vars := [3] }) (args := [a0, a1]) mixed Tryz.func92 (by kernel_rfl) (by kernel_rfl) (by kernel_rfl) h

-- isthmus/pack.New
def F.pack_New (k : Value → World → Prop) (w : World) : Prop :=
  mv (.pointer none) fun t0 =>
  o1 Tryz.prog (Instr.build 209 #[]) w fun t1 w =>
  o1 Tryz.prog (Instr.box 209 t1) w fun t2 w =>
  mv t2 fun t0_1 =>
  k t0_1 w
theorem C.pack_New {k : Value → World → Prop} {w : World} (h : F.pack_New k  w) : C Tryz.prog N.pack_New #[] w k :=
  den_calls (H := { moves := [], vars := [0] }) (args := []) mixed Tryz.func93 (by kernel_rfl) (by kernel_rfl) (by kernel_rfl) h

-- isthmus/types.putValidator
-- (*isthmus/pack.Writer).Done
def F.pack_Writer_Done (k : Value → World → Prop) (a0 : Value) (w : World) : Prop :=
  mv (.slice none 0 0) fun t2 =>
  mv a0 fun t3 =>
  o1 Tryz.prog (bin .eql 142 (.tmp 3) (.const (.pointer none)) t3 (.pointer none)) w fun t4 w =>
  br t4 (fun _ =>
  mv (.slice none 0 0) fun t2_1 =>
  k t2_1 w) (fun _ =>
  mv a0 fun t5 =>
  nilOk t5 = true ∧ mv t5 fun t6 =>
  o1 Tryz.prog (Instr.fieldAt 209 t6 0) w fun t7 w =>
  o1 Tryz.prog (Instr.loadAt 39 t7) w fun t8 w =>
  ob Tryz.prog (fun _ => Builtin.append_ #[39, 39] 39 #[.slice none 0 0, t8]) w fun t9 w =>
  mv t9 fun t2_2 =>
  k t2_2 w)
theorem C.pack_Writer_Done {k : Value → World → Prop} {a0 : Value} {w : World} (h : F.pack_Writer_Done k a0 w) : C Tryz.prog N.pack_Writer_Done #[a0] w k :=
  den_calls (H := { moves := [], vars := [2] }) (args := [a0]) mixed Tryz.func95 (by kernel_rfl) (by kernel_rfl) (by kernel_rfl) h

-- isthmus/isthmusref11.validator
-- isthmus/types.encode[[]isthmus/api.Validator]
-- isthmus/types.putSet
-- isthmus/keys.Check
def F.keys_Check (k : Value → World → Prop) (a0 : Value) (w : World) : Prop :=
  o1 Tryz.prog (Instr.box 83 a0) w fun t1 w =>
  mv .nilIface fun t2 =>
  o1 Tryz.prog (Instr.fieldAt 83 t1 0) w fun t3 w =>
  o1 Tryz.prog (Instr.loadAt 3 t3) w fun t4 w =>
  o1 Tryz.prog (bin .lss 3 (.tmp 4) (.const (.int .i64 1)) t4 (.int .i64 1)) w fun t5 w =>
  mv t5 fun t6 =>
  gd t6 false (fun k1 => o1 Tryz.prog (Instr.fieldAt 83 t1 0) w k1) w fun t7 w =>
  gd t6 false (fun k2 => o1 Tryz.prog (Instr.loadAt 3 t7) w k2) w fun t8 w =>
  gd t6 false (fun k3 => o1 Tryz.prog (bin .gtr 3 (.tmp 8) (.const (.int .i64 32)) t8 (.int .i64 32)) w k3) w fun t9 w =>
  pk t6 (.bool true) t9 fun t10 =>
  mv t10 fun t11 =>
  gd t11 false (fun k4 => o1 Tryz.prog (Instr.fieldAt 83 t1 1) w k4) w fun t12 w =>
  gd t11 false (fun k5 => o1 Tryz.prog (Instr.loadAt 3 t12) w k5) w fun t13 w =>
  gd t11 false (fun k6 => o1 Tryz.prog (bin .lss 3 (.tmp 13) (.const (.int .i64 0)) t13 (.int .i64 0)) w k6) w fun t14 w =>
  pk t11 (.bool true) t14 fun t15 =>
  mv t15 fun t16 =>
  gd t16 false (fun k7 => o1 Tryz.prog (Instr.fieldAt 83 t1 1) w k7) w fun t17 w =>
  gd t16 false (fun k8 => o1 Tryz.prog (Instr.loadAt 3 t17) w k8) w fun t18 w =>
  gd t16 false (fun k9 => o1 Tryz.prog (bin .gtr 3 (.tmp 18) (.const (.int .i64 10)) t18 (.int .i64 10)) w k9) w fun t19 w =>
  pk t16 (.bool true) t19 fun t20 =>
  br t20 (fun _ =>
  o1 Tryz.prog (Instr.makeInterface 93 (.int .i64 20)) w fun t21 w =>
  C Tryz.prog N.keys_fault #[.string ⟨#[112, 97, 114, 97, 109, 115]⟩, t21] w fun t22 w =>
  mv t22 fun t2_1 =>
  k t2_1 w) (fun _ =>
  mv .nilIface fun t2_2 =>
  k t2_2 w)
theorem C.keys_Check {k : Value → World → Prop} {a0 : Value} {w : World} (h : F.keys_Check k a0 w) : C Tryz.prog N.keys_Check #[a0] w k :=
  den_calls (H := { moves := [], vars := [2] }) (args := [a0]) mixed Tryz.func99 (by kernel_rfl) (by kernel_rfl) (by kernel_rfl) h

-- isthmus/keys.Verify
def F.keys_Verify (k : Value → World → Prop) (a0 a1 a2 a3 : Value) (w : World) : Prop :=
  o1 Tryz.prog (Instr.box 23 a0) w fun t4 w =>
  o1 Tryz.prog (Instr.box 83 a1) w fun t5 w =>
  mv .nilIface fun t8 =>
  o1 Tryz.prog (Instr.loadAt 83 t5) w fun t14 w =>
  C Tryz.prog N.keys_Check #[t14] w fun t15 w =>
  mv t15 fun t9 =>
  mv t9 fun t16 =>
  o1 Tryz.prog (bin .neq 34 (.tmp 16) (.const .nilIface) t16 .nilIface) w fun t17 w =>
  br t17 (fun _ =>
  mv t9 fun t18 =>
  mv t18 fun t8_1 =>
  k t8_1 w) (fun _ =>
  mv a3 fun t20 =>
  C Tryz.prog N.keys_read #[t20] w fun t21 w =>
  mv t21 fun t19 =>
  o1 Tryz.prog (Instr.extract t19 0) w fun t22 w =>
  o1 Tryz.prog (Instr.extract t19 1) w fun t23 w =>
  o1 Tryz.prog (Instr.alloc 212 true (.tuple #[])) w fun t10 w =>
  o0 Tryz.prog (Instr.storeAt 212 t10 t22) w fun _ w =>
  mv t23 fun t11 =>
  mv t11 fun t24 =>
  o1 Tryz.prog (bin .neq 34 (.tmp 24) (.const .nilIface) t24 .nilIface) w fun t25 w =>
  br t25 (fun _ =>
  mv t11 fun t26 =>
  mv t26 fun t8_2 =>
  k t8_2 w) (fun _ =>
  mv a2 fun t28 =>
  o1 Tryz.prog (Instr.fieldAt 83 t5 0) w fun t29 w =>
  o1 Tryz.prog (Instr.loadAt 3 t29) w fun t30 w =>
  C Tryz.prog N.wots_Digest #[t28, t30] w fun t31 w =>
  mv t31 fun t27 =>
  o1 Tryz.prog (Instr.extract t27 0) w fun t32 w =>
  o1 Tryz.prog (Instr.extract t27 1) w fun t33 w =>
  mv t32 fun t12 =>
  mv t33 fun t11_1 =>
  mv t11_1 fun t34 =>
  o1 Tryz.prog (bin .neq 34 (.tmp 34) (.const .nilIface) t34 .nilIface) w fun t35 w =>
  br t35 (fun _ =>
  mv t11_1 fun t36 =>
  mv t36 fun t8_3 =>
  k t8_3 w) (fun _ =>
  o1 Tryz.prog (Instr.fieldAt 212 t10 1) w fun t38 w =>
  o1 Tryz.prog (Instr.loadAt 39 t38) w fun t39 w =>
  o1 Tryz.prog (Instr.fieldAt 212 t10 0) w fun t40 w =>
  o1 Tryz.prog (Instr.loadAt 3 t40) w fun t41 w =>
  mv t12 fun t42 =>
  C Tryz.prog N.wots_From #[t39, t41, t42] w fun t43 w =>
  mv t43 fun t37 =>
  o1 Tryz.prog (Instr.extract t37 0) w fun t44 w =>
  o1 Tryz.prog (Instr.extract t37 1) w fun t45 w =>
  o1 Tryz.prog (Instr.alloc 23 true (.tuple #[])) w fun t13 w =>
  o0 Tryz.prog (Instr.storeAt 23 t13 t44) w fun _ w =>
  mv t45 fun t11_2 =>
  mv t11_2 fun t46 =>
  o1 Tryz.prog (bin .neq 34 (.tmp 46) (.const .nilIface) t46 .nilIface) w fun t47 w =>
  br t47 (fun _ =>
  o1 Tryz.prog (Instr.makeInterface 93 (.int .i64 21)) w fun t48 w =>
  C Tryz.prog N.keys_fault #[.string ⟨#[99, 104, 97, 105, 110, 115]⟩, t48] w fun t49 w =>
  mv t49 fun t8_4 =>
  k t8_4 w) (fun _ =>
  dr w.drew fun S1 =>
  tk Tryz.prog S1 (Instr.loadAt 23 t13) fun t51 =>
  tk Tryz.prog S1 (Instr.fieldAt 212 t10 0) fun t52 =>
  tk Tryz.prog S1 (Instr.loadAt 3 t52) fun t53 =>
  tk Tryz.prog S1 (Instr.fieldAt 83 t5 1) fun t54 =>
  tk Tryz.prog S1 (Instr.loadAt 3 t54) fun t55 =>
  tk Tryz.prog S1 (bin .shl 3 (.const (.int .i64 1)) (.tmp 55) (.int .i64 1) t55) fun t56 =>
  tk Tryz.prog S1 (Instr.fieldAt 212 t10 2) fun t57 =>
  tk Tryz.prog S1 (Instr.loadAt 99 t57) fun t58 =>
  C Tryz.prog N.sha_Fold #[t51, t53, t56, t58] w.drew fun t59 w =>
  S1 w ∧
  mv t59 fun t50 =>
  tk Tryz.prog S1 (Instr.extract t50 0) fun t60 =>
  tk Tryz.prog (fun _ => True) (Instr.extract t50 1) fun t61 =>
  o0 Tryz.prog (Instr.storeAt 23 t13 t60) w fun _ w =>
  mv t61 fun t11_3 =>
  mv t11_3 fun t62 =>
  o1 Tryz.prog (bin .neq 34 (.tmp 62) (.const .nilIface) t62 .nilIface) w fun t63 w =>
  mv t63 fun t64 =>
  gd t64 false (fun k1 => o1 Tryz.prog (Instr.loadAt 23 t13) w k1) w fun t65 w =>
  gd t64 false (fun k2 => o1 Tryz.prog (Instr.loadAt 23 t4) w k2) w fun t66 w =>
  gd t64 false (fun k3 => o1 Tryz.prog (bin .neq 23 (.tmp 65) (.tmp 66) t65 t66) w k3) w fun t67 w =>
  pk t64 (.bool true) t67 fun t68 =>
  br t68 (fun _ =>
  o1 Tryz.prog (Instr.makeInterface 93 (.int .i64 21)) w fun t69 w =>
  C Tryz.prog N.keys_fault #[.string ⟨#[114, 111, 111, 116]⟩, t69] w fun t70 w =>
  mv t70 fun t8_5 =>
  k t8_5 w) (fun _ =>
  mv .nilIface fun t8_6 =>
  k t8_6 w)))))
theorem C.keys_Verify {k : Value → World → Prop} {a0 a1 a2 a3 : Value} {w : World} (h : F.keys_Verify k a0 a1 a2 a3 w) : C Tryz.prog N.keys_Verify #[a0, a1, a2, a3] w k :=
  den_calls (H := { moves := [(13, (.take 0 (.take 1 (.take 2 (.take 3 (.take 4 (.take 5 (.take 6 (.take 7 (.force 8 (.take 9 (.take 10 (.pure 11 (.late 12 (.pure 13 .fin)))))))))))))))], vars := [8, 9, 11, 12] }) (args := [a0, a1, a2, a3]) mixed Tryz.func100 (by kernel_rfl) (by kernel_rfl) (by kernel_rfl) h

-- isthmus/isthmusref06.Check
def F.isthmusref06_Check (k : Value → World → Prop) (a0 : Value) (w : World) : Prop :=
  o1 Tryz.prog (Instr.box 83 a0) w fun t1 w =>
  mv (.int .i64 0) fun t2 =>
  o1 Tryz.prog (Instr.fieldAt 83 t1 0) w fun t3 w =>
  o1 Tryz.prog (Instr.loadAt 3 t3) w fun t4 w =>
  o1 Tryz.prog (bin .lss 3 (.tmp 4) (.const (.int .i64 1)) t4 (.int .i64 1)) w fun t5 w =>
  mv t5 fun t6 =>
  gd t6 false (fun k1 => o1 Tryz.prog (Instr.fieldAt 83 t1 0) w k1) w fun t7 w =>
  gd t6 false (fun k2 => o1 Tryz.prog (Instr.loadAt 3 t7) w k2) w fun t8 w =>
  gd t6 false (fun k3 => o1 Tryz.prog (bin .gtr 3 (.tmp 8) (.const (.int .i64 32)) t8 (.int .i64 32)) w k3) w fun t9 w =>
  pk t6 (.bool true) t9 fun t10 =>
  mv t10 fun t11 =>
  gd t11 false (fun k4 => o1 Tryz.prog (Instr.fieldAt 83 t1 1) w k4) w fun t12 w =>
  gd t11 false (fun k5 => o1 Tryz.prog (Instr.loadAt 3 t12) w k5) w fun t13 w =>
  gd t11 false (fun k6 => o1 Tryz.prog (bin .lss 3 (.tmp 13) (.const (.int .i64 0)) t13 (.int .i64 0)) w k6) w fun t14 w =>
  pk t11 (.bool true) t14 fun t15 =>
  mv t15 fun t16 =>
  gd t16 false (fun k7 => o1 Tryz.prog (Instr.fieldAt 83 t1 1) w k7) w fun t17 w =>
  gd t16 false (fun k8 => o1 Tryz.prog (Instr.loadAt 3 t17) w k8) w fun t18 w =>
  gd t16 false (fun k9 => o1 Tryz.prog (bin .gtr 3 (.tmp 18) (.const (.int .i64 10)) t18 (.int .i64 10)) w k9) w fun t19 w =>
  pk t16 (.bool true) t19 fun t20 =>
  br t20 (fun _ =>
  mv (.int .i64 20) fun t2_1 =>
  k t2_1 w) (fun _ =>
  mv (.int .i64 0) fun t2_2 =>
  k t2_2 w)
theorem C.isthmusref06_Check {k : Value → World → Prop} {a0 : Value} {w : World} (h : F.isthmusref06_Check k a0 w) : C Tryz.prog N.isthmusref06_Check #[a0] w k :=
  den_calls (H := { moves := [], vars := [2] }) (args := [a0]) mixed Tryz.func101 (by kernel_rfl) (by kernel_rfl) (by kernel_rfl) h

-- isthmus/isthmusref06.Verify
def F.isthmusref06_Verify (k : Value → World → Prop) (a0 a1 a2 a3 : Value) (w : World) : Prop :=
  o1 Tryz.prog (Instr.box 23 a0) w fun t4 w =>
  o1 Tryz.prog (Instr.box 83 a1) w fun t5 w =>
  mv (.int .i64 0) fun t8 =>
  o1 Tryz.prog (Instr.loadAt 83 t5) w fun t17 w =>
  C Tryz.prog N.isthmusref06_Check #[t17] w fun t18 w =>
  o1 Tryz.prog (bin .neq 3 (.tmp 18) (.const (.int .i64 0)) t18 (.int .i64 0)) w fun t19 w =>
  br t19 (fun _ =>
  mv (.int .i64 20) fun t8_1 =>
  k t8_1 w) (fun _ =>
  mv a3 fun t21 =>
  C Tryz.prog N.isthmusref06_Parts #[t21] w fun t22 w =>
  mv t22 fun t20 =>
  o1 Tryz.prog (Instr.extract t20 0) w fun t23 w =>
  o1 Tryz.prog (Instr.extract t20 1) w fun t24 w =>
  o1 Tryz.prog (Instr.alloc 221 true (.tuple #[])) w fun t9 w =>
  o0 Tryz.prog (Instr.storeAt 221 t9 t23) w fun _ w =>
  mv t24 fun t10 =>
  mv t10 fun t25 =>
  o1 Tryz.prog (bin .neq 3 (.tmp 25) (.const (.int .i64 0)) t25 (.int .i64 0)) w fun t26 w =>
  br t26 (fun _ =>
  mv t10 fun t27 =>
  mv t27 fun t8_2 =>
  k t8_2 w) (fun _ =>
  mv a2 fun t29 =>
  o1 Tryz.prog (Instr.fieldAt 83 t5 0) w fun t30 w =>
  o1 Tryz.prog (Instr.loadAt 3 t30) w fun t31 w =>
  C Tryz.prog N.isthmusref05_Digest #[t29, t31] w fun t32 w =>
  mv t32 fun t28 =>
  o1 Tryz.prog (Instr.extract t28 0) w fun t33 w =>
  o1 Tryz.prog (Instr.extract t28 1) w fun t34 w =>
  mv t33 fun t11 =>
  mv t34 fun t12 =>
  o1 Tryz.prog (Instr.fieldAt 221 t9 1) w fun t36 w =>
  o1 Tryz.prog (Instr.loadAt 39 t36) w fun t37 w =>
  o1 Tryz.prog (Instr.fieldAt 221 t9 0) w fun t38 w =>
  o1 Tryz.prog (Instr.loadAt 3 t38) w fun t39 w =>
  mv t11 fun t40 =>
  C Tryz.prog N.isthmusref05_From #[t37, t39, t40] w fun t41 w =>
  mv t41 fun t35 =>
  o1 Tryz.prog (Instr.extract t35 0) w fun t42 w =>
  o1 Tryz.prog (Instr.extract t35 1) w fun t43 w =>
  o1 Tryz.prog (Instr.alloc 23 true (.tuple #[])) w fun t13 w =>
  o0 Tryz.prog (Instr.storeAt 23 t13 t42) w fun _ w =>
  mv t43 fun t14 =>
  o1 Tryz.prog (Instr.loadAt 23 t13) w fun t45 w =>
  o1 Tryz.prog (Instr.fieldAt 221 t9 0) w fun t46 w =>
  o1 Tryz.prog (Instr.loadAt 3 t46) w fun t47 w =>
  o1 Tryz.prog (Instr.fieldAt 83 t5 1) w fun t48 w =>
  o1 Tryz.prog (Instr.loadAt 3 t48) w fun t49 w =>
  o1 Tryz.prog (convert 3 185 t49) w fun t50 w =>
  o1 Tryz.prog (bin .shl 3 (.const (.int .i64 1)) (.tmp 50) (.int .i64 1) t50) w fun t51 w =>
  o1 Tryz.prog (Instr.fieldAt 221 t9 2) w fun t52 w =>
  o1 Tryz.prog (Instr.loadAt 99 t52) w fun t53 w =>
  C Tryz.prog N.isthmusref01_Fold #[t45, t47, t51, t53] w fun t54 w =>
  mv t54 fun t44 =>
  o1 Tryz.prog (Instr.extract t44 0) w fun t55 w =>
  o1 Tryz.prog (Instr.extract t44 1) w fun t56 w =>
  o1 Tryz.prog (Instr.alloc 23 true (.tuple #[])) w fun t15 w =>
  o0 Tryz.prog (Instr.storeAt 23 t15 t55) w fun _ w =>
  mv t56 fun t16 =>
  mv t14 fun t57 =>
  o1 Tryz.prog (bin .neq 3 (.tmp 57) (.const (.int .i64 0)) t57 (.int .i64 0)) w fun t58 w =>
  mv t58 fun t59 =>
  gd t59 false (fun k1 => mv t16 fun v => k1 v w) w fun t60 w =>
  gd t59 false (fun k2 => o1 Tryz.prog (bin .neq 3 (.tmp 60) (.const (.int .i64 0)) t60 (.int .i64 0)) w k2) w fun t61 w =>
  pk t59 (.bool true) t61 fun t62 =>
  mv t62 fun t63 =>
  gd t63 false (fun k3 => o1 Tryz.prog (Instr.loadAt 23 t15) w k3) w fun t64 w =>
  gd t63 false (fun k4 => o1 Tryz.prog (Instr.loadAt 23 t4) w k4) w fun t65 w =>
  gd t63 false (fun k5 => o1 Tryz.prog (bin .neq 23 (.tmp 64) (.tmp 65) t64 t65) w k5) w fun t66 w =>
  pk t63 (.bool true) t66 fun t67 =>
  br t67 (fun _ =>
  mv (.int .i64 21) fun t8_3 =>
  k t8_3 w) (fun _ =>
  mv (.int .i64 0) fun t8_4 =>
  k t8_4 w)))
theorem C.isthmusref06_Verify {k : Value → World → Prop} {a0 a1 a2 a3 : Value} {w : World} (h : F.isthmusref06_Verify k a0 a1 a2 a3 w) : C Tryz.prog N.isthmusref06_Verify #[a0, a1, a2, a3] w k :=
  den_calls (H := { moves := [], vars := [8, 10, 11, 12, 14, 16] }) (args := [a0, a1, a2, a3]) mixed Tryz.func102 (by kernel_rfl) (by kernel_rfl) (by kernel_rfl) h

-- (*isthmus/pack.Writer).Text
def F.pack_Writer_Text (k : Value → World → Prop) (a0 a1 : Value) (w : World) : Prop :=
  mv (.pointer none) fun t4 =>
  mv a0 fun t5 =>
  mv a1 fun t6 =>
  o1 Tryz.prog (convert 9 39 t6) w fun t7 w =>
  C Tryz.prog N.pack_Writer_Bytes #[t5, t7] w fun t8 w =>
  mv t8 fun t4_1 =>
  k t4_1 w
theorem C.pack_Writer_Text {k : Value → World → Prop} {a0 a1 : Value} {w : World} (h : F.pack_Writer_Text k a0 a1 w) : C Tryz.prog N.pack_Writer_Text #[a0, a1] w k :=
  den_calls (H := { moves := [], vars := [4] }) (args := [a0, a1]) mixed Tryz.func103 (by kernel_rfl) (by kernel_rfl) (by kernel_rfl) h

-- (*isthmus/pack.Writer).Int
def F.pack_Writer_Int (k : Value → World → Prop) (a0 a1 : Value) (w : World) : Prop :=
  mv (.pointer none) fun t4 =>
  mv a0 fun t5 =>
  mv a1 fun t6 =>
  o1 Tryz.prog (convert 3 105 t6) w fun t7 w =>
  o1 Tryz.prog (bin .shl 105 (.tmp 7) (.const (.int .u64 1)) t7 (.int .u64 1)) w fun t8 w =>
  mv a1 fun t9 =>
  o1 Tryz.prog (bin .shr 3 (.tmp 9) (.const (.int .u64 63)) t9 (.int .u64 63)) w fun t10 w =>
  o1 Tryz.prog (convert 3 105 t10) w fun t11 w =>
  o1 Tryz.prog (bin .xor 105 (.tmp 8) (.tmp 11) t8 t11) w fun t12 w =>
  C Tryz.prog N.pack_Writer_Uint #[t5, t12] w fun t13 w =>
  mv t13 fun t4_1 =>
  k t4_1 w
theorem C.pack_Writer_Int {k : Value → World → Prop} {a0 a1 : Value} {w : World} (h : F.pack_Writer_Int k a0 a1 w) : C Tryz.prog N.pack_Writer_Int #[a0, a1] w k :=
  den_calls (H := { moves := [], vars := [4] }) (args := [a0, a1]) mixed Tryz.func104 (by kernel_rfl) (by kernel_rfl) (by kernel_rfl) h

-- (*isthmus/pack.Writer).Hash
def F.pack_Writer_Hash (k : Value → World → Prop) (a0 a1 : Value) (w : World) : Prop :=
  o1 Tryz.prog (Instr.box 23 a1) w fun t3 w =>
  mv (.pointer none) fun t4 =>
  mv a0 fun t5 =>
  o1 Tryz.prog (Instr.sliceAt 23 t3 none none none) w fun t6 w =>
  C Tryz.prog N.pack_Writer_raw #[t5, t6] w fun t7 w =>
  mv t7 fun t4_1 =>
  k t4_1 w
theorem C.pack_Writer_Hash {k : Value → World → Prop} {a0 a1 : Value} {w : World} (h : F.pack_Writer_Hash k a0 a1 w) : C Tryz.prog N.pack_Writer_Hash #[a0, a1] w k :=
  den_calls (H := { moves := [], vars := [4] }) (args := [a0, a1]) mixed Tryz.func105 (by kernel_rfl) (by kernel_rfl) (by kernel_rfl) h

-- errors.as
def F.errors_as (k : Value → World → Prop) (a0 a1 a2 a3 : Value) (w : World) : Prop :=
  o1 Tryz.prog (Instr.box 159 a2) w fun t6 w =>
  mv (.bool false) fun t8 =>
  lp [a0, t8, undef, undef, undef, undef, undef, undef, undef] w fun I1 μ1 => ∀ (x1 : Env) (w1 : World), I1 [x1 0, x1 8, x1 9, x1 10, x1 11, x1 12, x1 14, x1 15, x1 50] w1 →
  mv (x1 0) fun t16 =>
  oN Tryz.prog (callFunc N.internal_reflectlite_TypeOf #[t16]) w1 fun t17 w =>
  mv a3 fun t18 =>
  iv Tryz.prog t17 "AssignableTo" #[t18] w fun t19 w =>
  br t19 (fun _ =>
  o1 Tryz.prog (Instr.loadAt 159 t6) w fun t20 w =>
  oN Tryz.prog (callFunc N.internal_reflectlite_Value_Elem #[t20]) w fun t21 w =>
  mv (x1 0) fun t22 =>
  oN Tryz.prog (callFunc N.internal_reflectlite_ValueOf #[t22]) w fun t23 w =>
  oN Tryz.prog (callFunc N.internal_reflectlite_Value_Set #[t21, t23]) w fun t24 w =>
  mv (.bool true) fun t8_1 =>
  k t8_1 w) (fun _ =>
  mv (x1 0) fun t26 =>
  o1 Tryz.prog (Instr.typeAssert t26 34 236 true) w fun t27 w =>
  mv t27 fun t25 =>
  o1 Tryz.prog (Instr.extract t25 0) w fun t28 w =>
  o1 Tryz.prog (Instr.extract t25 1) w fun t29 w =>
  mv t28 fun t9 =>
  mv t29 fun t10 =>
  mv t10 fun t30 =>
  mv t30 fun t31 =>
  gd t31 true (fun k1 => mv t9 fun v => k1 v w) w fun t32 w =>
  gd t31 true (fun k2 => mv a1 fun v => k2 v w) w fun t33 w =>
  gd t31 true (fun k3 => iv Tryz.prog t32 "As" #[t33] w k3) w fun t34 w =>
  pk t31 t34 (.bool false) fun t35 =>
  br t35 (fun _ =>
  mv (.bool true) fun t8_2 =>
  k t8_2 w) (fun _ =>
  mv (x1 0) fun t36 =>
  o1 Tryz.prog (Instr.typeAssert t36 34 239 true) w fun t37 w =>
  o1 Tryz.prog (Instr.extract t37 1) w fun t38 w =>
  o1 Tryz.prog (Instr.extract t37 0) w fun t39 w =>
  br t38 (fun _ =>
  mv t39 fun t11 =>
  mv t11 fun t40 =>
  iv Tryz.prog t40 "Unwrap" #[] w fun t41 w =>
  mv t41 fun t0 =>
  mv t0 fun t42 =>
  o1 Tryz.prog (bin .eql 34 (.tmp 42) (.const .nilIface) t42 .nilIface) w fun t43 w =>
  br t43 (fun _ =>
  mv (.bool false) fun t8_3 =>
  k t8_3 w) (fun _ =>
  I1 [t0, (x1 8), t9, t10, t11, (x1 12), (x1 14), (x1 15), (x1 50)] w ∧ μ1 [t0, (x1 8), t9, t10, t11, (x1 12), (x1 14), (x1 15), (x1 50)] w < μ1 [x1 0, x1 8, x1 9, x1 10, x1 11, x1 12, x1 14, x1 15, x1 50] w1)) (fun _ =>
  o1 Tryz.prog (Instr.typeAssert t36 34 240 true) w fun t44 w =>
  o1 Tryz.prog (Instr.extract t44 1) w fun t45 w =>
  o1 Tryz.prog (Instr.extract t44 0) w fun t46 w =>
  br t45 (fun _ =>
  mv t46 fun t12 =>
  mv t12 fun t47 =>
  iv Tryz.prog t47 "Unwrap" #[] w fun t48 w =>
  o1 Tryz.prog (Builtin.len_ #[241] 3 #[t48]) w fun t49 w =>
  mv (.int .i64 0) fun t50 =>
  lp [(x1 8), (x1 14), t50] w fun I2 μ2 => ∀ (x2 : Env) (w2 : World), I2 [x2 8, x2 14, x2 50] w2 →
  o1 Tryz.prog (bin .lss 3 (.tmp 50) (.tmp 49) (x2 50) t49) w2 fun t51 w =>
  br t51 (fun _ =>
  jn (fun x3 => [x3 8, x3 14]) (fun k4 =>
  o1 Tryz.prog (Instr.indexAt 241 t48 (x2 50)) w fun t52 w =>
  o1 Tryz.prog (Instr.loadAt 34 t52) w fun t53 w =>
  mv t53 fun t14 =>
  mv t14 fun t54 =>
  o1 Tryz.prog (bin .eql 34 (.tmp 54) (.const .nilIface) t54 .nilIface) w fun t55 w =>
  br t55 (fun _ =>
  k4 [(x2 8), t14] w) (fun _ =>
  mv t14 fun t56 =>
  mv a1 fun t57 =>
  o1 Tryz.prog (Instr.loadAt 159 t6) w fun t58 w =>
  mv a3 fun t59 =>
  C Tryz.prog N.errors_as #[t56, t57, t58, t59] w fun t60 w =>
  br t60 (fun _ =>
  mv (.bool true) fun t8_4 =>
  k t8_4 w) (fun _ =>
  k4 [(x2 8), t14] w))) fun x3 w =>
  o1 Tryz.prog (bin .add 3 (.tmp 50) (.const (.int .i64 1)) (x2 50) (.int .i64 1)) w fun t61 w =>
  mv t61 fun t50_1 =>
  I2 [(x3 8), (x3 14), t50_1] w ∧ μ2 [(x3 8), (x3 14), t50_1] w < μ2 [x2 8, x2 14, x2 50] w2) (fun _ =>
  mv (.bool false) fun t8_5 =>
  k t8_5 w)) (fun _ =>
  mv t36 fun t15 =>
  mv (.bool false) fun t8_6 =>
  k t8_6 w))))
theorem C.errors_as {k : Value → World → Prop} {a0 a1 a2 a3 : Value} {w : World} (h : F.errors_as k a0 a1 a2 a3 w) : C Tryz.prog N.errors_as #[a0, a1, a2, a3] w k :=
  den_calls (H := { moves := [], vars := [0, 8, 9, 10, 11, 12, 14, 15, 50] }) (args := [a0, a1, a2, a3]) mixed Tryz.func109 (by kernel_rfl) (by kernel_rfl) (by kernel_rfl) h

-- slices.ContainsFunc[[]byte,byte]
def F.slices_ContainsFunc_bytes (k : Value → World → Prop) (a0 a1 : Value) (w : World) : Prop :=
  mv (.bool false) fun t4 =>
  mv a0 fun t5 =>
  mv a1 fun t6 =>
  C Tryz.prog N.slices_IndexFunc_bytes #[t5, t6] w fun t7 w =>
  o1 Tryz.prog (bin .geq 3 (.tmp 7) (.const (.int .i64 0)) t7 (.int .i64 0)) w fun t8 w =>
  mv t8 fun t4_1 =>
  k t4_1 w
theorem C.slices_ContainsFunc_bytes {k : Value → World → Prop} {a0 a1 : Value} {w : World} (h : F.slices_ContainsFunc_bytes k a0 a1 w) : C Tryz.prog N.slices_ContainsFunc_bytes #[a0, a1] w k :=
  den_calls (H := { moves := [], vars := [4] }) (args := [a0, a1]) mixed Tryz.func110 (by kernel_rfl) (by kernel_rfl) (by kernel_rfl) h

-- isthmus/types.named$1
def F.types_named_1 (k : Value → World → Prop) (a0 : Value) (w : World) : Prop :=
  mv (.bool false) fun t2 =>
  mv a0 fun t3 =>
  o1 Tryz.prog (bin .lss 5 (.tmp 3) (.const (.int .u8 33)) t3 (.int .u8 33)) w fun t4 w =>
  mv t4 fun t5 =>
  gd t5 false (fun k1 => mv a0 fun v => k1 v w) w fun t6 w =>
  gd t5 false (fun k2 => o1 Tryz.prog (bin .gtr 5 (.tmp 6) (.const (.int .u8 126)) t6 (.int .u8 126)) w k2) w fun t7 w =>
  pk t5 (.bool true) t7 fun t8 =>
  mv t8 fun t2_1 =>
  k t2_1 w
theorem C.types_named_1 {k : Value → World → Prop} {a0 : Value} {w : World} (h : F.types_named_1 k a0 w) : C Tryz.prog N.types_named_1 #[a0] w k :=
  den_calls (H := { moves := [], vars := [2] }) (args := [a0]) mixed Tryz.func111 (by kernel_rfl) (by kernel_rfl) (by kernel_rfl) h

-- slices.IndexFunc[[][]byte,[]byte]
-- isthmus/sha.half
def F.sha_half (k : Value → World → Prop) (a0 : Value) (w : World) : Prop :=
  mv (.int .i64 0) fun t2 =>
  mv a0 fun t3 =>
  o1 Tryz.prog (bin .sub 3 (.tmp 3) (.const (.int .i64 1)) t3 (.int .i64 1)) w fun t4 w =>
  o1 Tryz.prog (convert 3 185 t4) w fun t5 w =>
  C Tryz.prog N.math_bits_Len #[t5] w fun t6 w =>
  o1 Tryz.prog (bin .sub 3 (.tmp 6) (.const (.int .i64 1)) t6 (.int .i64 1)) w fun t7 w =>
  o1 Tryz.prog (bin .shl 3 (.const (.int .i64 1)) (.tmp 7) (.int .i64 1) t7) w fun t8 w =>
  mv t8 fun t2_1 =>
  k t2_1 w
theorem C.sha_half {k : Value → World → Prop} {a0 : Value} {w : World} (h : F.sha_half k a0 w) : C Tryz.prog N.sha_half #[a0] w k :=
  den_calls (H := { moves := [], vars := [2] }) (args := [a0]) mixed Tryz.func113 (by kernel_rfl) (by kernel_rfl) (by kernel_rfl) h

-- isthmus/sha.Node
def F.sha_Node (k : Value → World → Prop) (a0 a1 : Value) (w : World) : Prop :=
  o1 Tryz.prog (Instr.box 23 a0) w fun t2 w =>
  o1 Tryz.prog (Instr.box 23 a1) w fun t3 w =>
  o1 Tryz.prog (Instr.alloc 23 true (.tuple #[])) w fun t4 w =>
  dr w.drew fun S1 =>
  tk Tryz.prog S1 (Instr.sliceAt 23 t2 none none none) fun t6 =>
  tk Tryz.prog S1 (Instr.sliceAt 23 t3 none none none) fun t8 =>
  o1 Tryz.prog (Instr.buildSlice 39 1 #[(0, .int .u8 1)]) w.drew fun t5 w =>
  S1 w ∧
  ob Tryz.prog (fun _ => Builtin.append_ #[39, 39] 39 #[t5, t6]) w fun t7 w =>
  S1 w ∧
  ob Tryz.prog (fun _ => Builtin.append_ #[39, 39] 39 #[t7, t8]) w fun t9 w =>
  S1 w ∧
  C Tryz.prog N.sha_Sum #[t9] w fun t10 w =>
  S1 w ∧
  o0 Tryz.prog (Instr.storeAt 23 t4 t10) w fun _ w =>
  rc Tryz.prog 23 t4 w fun r0 =>
  k r0 w
theorem C.sha_Node {k : Value → World → Prop} {a0 a1 : Value} {w : World} (h : F.sha_Node k a0 a1 w) : C Tryz.prog N.sha_Node #[a0, a1] w k :=
  den_calls (H := { moves := [(1, (.take 1 (.take 3 (.force 0 (.force 2 (.force 4 (.force 5 (.last 6))))))))], vars := [] }) (args := [a0, a1]) mixed Tryz.func114 (by kernel_rfl) (by kernel_rfl) (by kernel_rfl) h

-- isthmus/isthmusref01.split
def F.isthmusref01_split (k : Value → World → Prop) (a0 : Value) (w : World) : Prop :=
  mv (.int .i64 0) fun t2 =>
  mv (.int .i64 1) fun t3 =>
  lp [t3] w fun I1 μ1 => ∀ (x1 : Env) (w1 : World), I1 [x1 3] w1 →
  mv (x1 3) fun t4 =>
  mv a0 fun t5 =>
  mv (x1 3) fun t6 =>
  o1 Tryz.prog (bin .sub 3 (.tmp 5) (.tmp 6) t5 t6) w1 fun t7 w =>
  o1 Tryz.prog (bin .lss 3 (.tmp 4) (.tmp 7) t4 t7) w fun t8 w =>
  br t8 (fun _ =>
  mv (x1 3) fun t9 =>
  o1 Tryz.prog (bin .mul 3 (.const (.int .i64 2)) (.tmp 9) (.int .i64 2) t9) w fun t10 w =>
  mv t10 fun t3_1 =>
  I1 [t3_1] w ∧ μ1 [t3_1] w < μ1 [x1 3] w1) (fun _ =>
  mv (x1 3) fun t11 =>
  mv t11 fun t2_1 =>
  k t2_1 w)
theorem C.isthmusref01_split {k : Value → World → Prop} {a0 : Value} {w : World} (h : F.isthmusref01_split k a0 w) : C Tryz.prog N.isthmusref01_split #[a0] w k :=
  den_calls (H := { moves := [], vars := [2, 3] }) (args := [a0]) mixed Tryz.func115 (by kernel_rfl) (by kernel_rfl) (by kernel_rfl) h

-- isthmus/isthmusref01.Node
def F.isthmusref01_Node (k : Value → World → Prop) (a0 a1 : Value) (w : World) : Prop :=
  o1 Tryz.prog (Instr.box 23 a0) w fun t2 w =>
  o1 Tryz.prog (Instr.box 23 a1) w fun t3 w =>
  o1 Tryz.prog (Instr.alloc 23 true (.tuple #[])) w fun t4 w =>
  o1 Tryz.prog (Instr.buildSlice 39 1 #[(0, .int .u8 1)]) w fun t6 w =>
  mv t6 fun t5 =>
  mv t5 fun t7 =>
  o1 Tryz.prog (Instr.sliceAt 23 t2 none none none) w fun t8 w =>
  ob Tryz.prog (fun _ => Builtin.append_ #[39, 39] 39 #[t7, t8]) w fun t9 w =>
  mv t9 fun t5_1 =>
  mv t5_1 fun t10 =>
  o1 Tryz.prog (Instr.sliceAt 23 t3 none none none) w fun t11 w =>
  ob Tryz.prog (fun _ => Builtin.append_ #[39, 39] 39 #[t10, t11]) w fun t12 w =>
  C Tryz.prog N.isthmusref01_Sum #[t12] w fun t13 w =>
  o0 Tryz.prog (Instr.storeAt 23 t4 t13) w fun _ w =>
  rc Tryz.prog 23 t4 w fun r0 =>
  k r0 w
theorem C.isthmusref01_Node {k : Value → World → Prop} {a0 a1 : Value} {w : World} (h : F.isthmusref01_Node k a0 a1 w) : C Tryz.prog N.isthmusref01_Node #[a0, a1] w k :=
  den_calls (H := { moves := [], vars := [5] }) (args := [a0, a1]) mixed Tryz.func116 (by kernel_rfl) (by kernel_rfl) (by kernel_rfl) h

-- isthmus/sha.start
def F.sha_start (k : Value → World → Prop) (w : World) : Prop :=
  o1 Tryz.prog (Instr.alloc 178 true (.tuple #[])) w fun t0 w =>
  o1 Tryz.prog (Instr.build 178 #[(0, .int .u32 1779033703), (1, .int .u32 3144134277), (2, .int .u32 1013904242), (3, .int .u32 2773480762), (4, .int .u32 1359893119), (5, .int .u32 2600822924), (6, .int .u32 528734635), (7, .int .u32 1541459225)]) w fun t1 w =>
  o0 Tryz.prog (Instr.storeAt 178 t0 t1) w fun _ w =>
  rc Tryz.prog 178 t0 w fun r0 =>
  k r0 w
theorem C.sha_start {k : Value → World → Prop} {w : World} (h : F.sha_start k  w) : C Tryz.prog N.sha_start #[] w k :=
  den_calls (H := { moves := [], vars := [] }) (args := []) mixed Tryz.func117 (by kernel_rfl) (by kernel_rfl) (by kernel_rfl) h

-- (*isthmus/sha.words).mix
def F.sha_words_mix (k : Value → World → Prop) (a0 a1 : Value) (w : World) : Prop :=
  o1 Tryz.prog (Instr.alloc 182 true (.tuple #[])) w fun t4 w =>
  mv (.int .i64 0) fun t24 =>
  lp [undef, t24] w fun I1 μ1 => ∀ (x1 : Env) (w1 : World), I1 [x1 5, x1 24] w1 →
  o1 Tryz.prog (bin .lss 3 (.tmp 24) (.const (.int .i64 16)) (x1 24) (.int .i64 16)) w1 fun t25 w =>
  br t25 (fun _ =>
  mv (x1 24) fun t26 =>
  mv t26 fun t5 =>
  dr w.drew fun S1 =>
  mv t5 fun t27 =>
  mv a1 fun t28 =>
  mv t5 fun t29 =>
  tk Tryz.prog S1 (bin .mul 3 (.const (.int .i64 4)) (.tmp 29) (.int .i64 4) t29) fun t30 =>
  tk Tryz.prog S1 (Instr.indexAt 39 t28 t30) fun t31 =>
  tk Tryz.prog S1 (Instr.loadAt 5 t31) fun t32 =>
  tk Tryz.prog S1 (convert 5 176 t32) fun t33 =>
  tk Tryz.prog S1 (bin .shl 176 (.tmp 33) (.const (.int .u64 24)) t33 (.int .u64 24)) fun t34 =>
  mv a1 fun t35 =>
  mv t5 fun t36 =>
  tk Tryz.prog S1 (bin .mul 3 (.const (.int .i64 4)) (.tmp 36) (.int .i64 4) t36) fun t37 =>
  tk Tryz.prog S1 (bin .add 3 (.tmp 37) (.const (.int .i64 1)) t37 (.int .i64 1)) fun t38 =>
  tk Tryz.prog S1 (Instr.indexAt 39 t35 t38) fun t39 =>
  tk Tryz.prog S1 (Instr.loadAt 5 t39) fun t40 =>
  tk Tryz.prog S1 (convert 5 176 t40) fun t41 =>
  tk Tryz.prog S1 (bin .shl 176 (.tmp 41) (.const (.int .u64 16)) t41 (.int .u64 16)) fun t42 =>
  tk Tryz.prog S1 (bin .or 176 (.tmp 34) (.tmp 42) t34 t42) fun t43 =>
  mv a1 fun t44 =>
  mv t5 fun t45 =>
  tk Tryz.prog S1 (bin .mul 3 (.const (.int .i64 4)) (.tmp 45) (.int .i64 4) t45) fun t46 =>
  tk Tryz.prog S1 (bin .add 3 (.tmp 46) (.const (.int .i64 2)) t46 (.int .i64 2)) fun t47 =>
  tk Tryz.prog S1 (Instr.indexAt 39 t44 t47) fun t48 =>
  tk Tryz.prog S1 (Instr.loadAt 5 t48) fun t49 =>
  tk Tryz.prog S1 (convert 5 176 t49) fun t50 =>
  tk Tryz.prog S1 (bin .shl 176 (.tmp 50) (.const (.int .u64 8)) t50 (.int .u64 8)) fun t51 =>
  tk Tryz.prog S1 (bin .or 176 (.tmp 43) (.tmp 51) t43 t51) fun t52 =>
  mv a1 fun t53 =>
  mv t5 fun t54 =>
  tk Tryz.prog S1 (bin .mul 3 (.const (.int .i64 4)) (.tmp 54) (.int .i64 4) t54) fun t55 =>
  tk Tryz.prog S1 (bin .add 3 (.tmp 55) (.const (.int .i64 3)) t55 (.int .i64 3)) fun t56 =>
  tk Tryz.prog S1 (Instr.indexAt 39 t53 t56) fun t57 =>
  tk Tryz.prog S1 (Instr.loadAt 5 t57) fun t58 =>
  tk Tryz.prog S1 (convert 5 176 t58) fun t59 =>
  tk Tryz.prog S1 (bin .or 176 (.tmp 52) (.tmp 59) t52 t59) fun t60 =>
  tk Tryz.prog S1 (Instr.indexAt 182 t4 t27) fun t61 =>
  o0 Tryz.prog (Instr.storeAt 176 t61 t60) w.drew fun _ w =>
  o1 Tryz.prog (bin .add 3 (.tmp 24) (.const (.int .i64 1)) (x1 24) (.int .i64 1)) w fun t62 w =>
  mv t62 fun t24_1 =>
  I1 [t5, t24_1] w ∧ μ1 [t5, t24_1] w < μ1 [x1 5, x1 24] w1) (fun _ =>
  mv (.int .i64 16) fun t6 =>
  lp [t6, undef, undef, undef, undef] w fun I2 μ2 => ∀ (x2 : Env) (w2 : World), I2 [x2 6, x2 7, x2 8, x2 9, x2 10] w2 →
  mv (x2 6) fun t63 =>
  o1 Tryz.prog (bin .lss 3 (.tmp 63) (.const (.int .i64 64)) t63 (.int .i64 64)) w2 fun t64 w =>
  br t64 (fun _ =>
  mv (x2 6) fun t67 =>
  tk Tryz.prog (fun w' => w' = w.drew) (bin .sub 3 (.tmp 67) (.const (.int .i64 15)) t67 (.int .i64 15)) fun t68 =>
  tk Tryz.prog (fun w' => w' = w.drew) (Instr.indexAt 182 t4 t68) fun t69 =>
  tk Tryz.prog (fun w' => w' = w.drew) (Instr.loadAt 176 t69) fun t70 =>
  mv (x2 6) fun t71 =>
  tk Tryz.prog (fun w' => w' = w.drew) (bin .sub 3 (.tmp 71) (.const (.int .i64 2)) t71 (.int .i64 2)) fun t72 =>
  tk Tryz.prog (fun w' => w' = w.drew) (Instr.indexAt 182 t4 t72) fun t73 =>
  tk Tryz.prog (fun w' => w' = w.drew) (Instr.loadAt 176 t73) fun t74 =>
  mv t70 fun t7 =>
  mv t74 fun t8 =>
  mv t7 fun t75 =>
  C Tryz.prog N.math_bits_RotateLeft32 #[t75, .int .i64 (-7)] w.drew fun t76 w =>
  mv t7 fun t77 =>
  C Tryz.prog N.math_bits_RotateLeft32 #[t77, .int .i64 (-18)] w fun t78 w =>
  o1 Tryz.prog (bin .xor 176 (.tmp 76) (.tmp 78) t76 t78) w fun t79 w =>
  mv t7 fun t80 =>
  o1 Tryz.prog (bin .shr 176 (.tmp 80) (.const (.int .u64 3)) t80 (.int .u64 3)) w fun t81 w =>
  o1 Tryz.prog (bin .xor 176 (.tmp 79) (.tmp 81) t79 t81) w fun t82 w =>
  mv t82 fun t9 =>
  mv t8 fun t83 =>
  C Tryz.prog N.math_bits_RotateLeft32 #[t83, .int .i64 (-17)] w fun t84 w =>
  mv t8 fun t85 =>
  C Tryz.prog N.math_bits_RotateLeft32 #[t85, .int .i64 (-19)] w fun t86 w =>
  o1 Tryz.prog (bin .xor 176 (.tmp 84) (.tmp 86) t84 t86) w fun t87 w =>
  mv t8 fun t88 =>
  o1 Tryz.prog (bin .shr 176 (.tmp 88) (.const (.int .u64 10)) t88 (.int .u64 10)) w fun t89 w =>
  o1 Tryz.prog (bin .xor 176 (.tmp 87) (.tmp 89) t87 t89) w fun t90 w =>
  mv t90 fun t10 =>
  dr w.drew fun S2 =>
  mv (x2 6) fun t91 =>
  mv (x2 6) fun t92 =>
  tk Tryz.prog S2 (bin .sub 3 (.tmp 92) (.const (.int .i64 16)) t92 (.int .i64 16)) fun t93 =>
  tk Tryz.prog S2 (Instr.indexAt 182 t4 t93) fun t94 =>
  tk Tryz.prog S2 (Instr.loadAt 176 t94) fun t95 =>
  mv t9 fun t96 =>
  tk Tryz.prog S2 (bin .add 176 (.tmp 95) (.tmp 96) t95 t96) fun t97 =>
  mv (x2 6) fun t98 =>
  tk Tryz.prog S2 (bin .sub 3 (.tmp 98) (.const (.int .i64 7)) t98 (.int .i64 7)) fun t99 =>
  tk Tryz.prog S2 (Instr.indexAt 182 t4 t99) fun t100 =>
  tk Tryz.prog S2 (Instr.loadAt 176 t100) fun t101 =>
  tk Tryz.prog S2 (bin .add 176 (.tmp 97) (.tmp 101) t97 t101) fun t102 =>
  mv t10 fun t103 =>
  tk Tryz.prog S2 (bin .add 176 (.tmp 102) (.tmp 103) t102 t103) fun t104 =>
  tk Tryz.prog S2 (Instr.indexAt 182 t4 t91) fun t105 =>
  o0 Tryz.prog (Instr.storeAt 176 t105 t104) w.drew fun _ w =>
  mv (x2 6) fun t65 =>
  o1 Tryz.prog (bin .add 3 (.tmp 65) (.const (.int .i64 1)) t65 (.int .i64 1)) w fun t66 w =>
  mv t66 fun t6_1 =>
  I2 [t6_1, t7, t8, t9, t10] w ∧ μ2 [t6_1, t7, t8, t9, t10] w < μ2 [x2 6, x2 7, x2 8, x2 9, x2 10] w2) (fun _ =>
  mv a0 fun t106 =>
  nilOk t106 = true ∧ mv t106 fun t107 =>
  tk Tryz.prog (fun w' => w' = w.drew) (Instr.indexAt 178 t107 (.int .i64 0)) fun t108 =>
  tk Tryz.prog (fun w' => w' = w.drew) (Instr.loadAt 176 t108) fun t109 =>
  mv a0 fun t110 =>
  nilOk t110 = true ∧ mv t110 fun t111 =>
  tk Tryz.prog (fun w' => w' = w.drew) (Instr.indexAt 178 t111 (.int .i64 1)) fun t112 =>
  tk Tryz.prog (fun w' => w' = w.drew) (Instr.loadAt 176 t112) fun t113 =>
  mv a0 fun t114 =>
  nilOk t114 = true ∧ mv t114 fun t115 =>
  tk Tryz.prog (fun w' => w' = w.drew) (Instr.indexAt 178 t115 (.int .i64 2)) fun t116 =>
  tk Tryz.prog (fun w' => w' = w.drew) (Instr.loadAt 176 t116) fun t117 =>
  mv a0 fun t118 =>
  nilOk t118 = true ∧ mv t118 fun t119 =>
  tk Tryz.prog (fun w' => w' = w.drew) (Instr.indexAt 178 t119 (.int .i64 3)) fun t120 =>
  tk Tryz.prog (fun w' => w' = w.drew) (Instr.loadAt 176 t120) fun t121 =>
  mv a0 fun t122 =>
  nilOk t122 = true ∧ mv t122 fun t123 =>
  tk Tryz.prog (fun w' => w' = w.drew) (Instr.indexAt 178 t123 (.int .i64 4)) fun t124 =>
  tk Tryz.prog (fun w' => w' = w.drew) (Instr.loadAt 176 t124) fun t125 =>
  mv a0 fun t126 =>
  nilOk t126 = true ∧ mv t126 fun t127 =>
  tk Tryz.prog (fun w' => w' = w.drew) (Instr.indexAt 178 t127 (.int .i64 5)) fun t128 =>
  tk Tryz.prog (fun w' => w' = w.drew) (Instr.loadAt 176 t128) fun t129 =>
  mv a0 fun t130 =>
  nilOk t130 = true ∧ mv t130 fun t131 =>
  tk Tryz.prog (fun w' => w' = w.drew) (Instr.indexAt 178 t131 (.int .i64 6)) fun t132 =>
  tk Tryz.prog (fun w' => w' = w.drew) (Instr.loadAt 176 t132) fun t133 =>
  mv a0 fun t134 =>
  nilOk t134 = true ∧ mv t134 fun t135 =>
  tk Tryz.prog (fun w' => w' = w.drew) (Instr.indexAt 178 t135 (.int .i64 7)) fun t136 =>
  tk Tryz.prog (fun w' => w' = w.drew) (Instr.loadAt 176 t136) fun t137 =>
  mv t109 fun t11 =>
  mv t113 fun t12 =>
  mv t117 fun t13 =>
  mv t121 fun t14 =>
  mv t125 fun t15 =>
  mv t129 fun t16 =>
  mv t133 fun t17 =>
  mv t137 fun t18 =>
  mv (.int .i64 0) fun t138 =>
  lp [t11, t12, t13, t14, t15, t16, t17, t18, undef, undef, undef, t138] w.drew fun I3 μ3 => ∀ (x3 : Env) (w3 : World), I3 [x3 11, x3 12, x3 13, x3 14, x3 15, x3 16, x3 17, x3 18, x3 19, x3 20, x3 21, x3 138] w3 →
  o1 Tryz.prog (bin .lss 3 (.tmp 138) (.const (.int .i64 64)) (x3 138) (.int .i64 64)) w3 fun t139 w =>
  br t139 (fun _ =>
  mv (x3 138) fun t140 =>
  mv t140 fun t19 =>
  dr w.drew fun S3 =>
  mv (x3 18) fun t141 =>
  mv (x3 15) fun t142 =>
  mv (x3 15) fun t144 =>
  mv (x3 15) fun t147 =>
  mv (x3 15) fun t151 =>
  mv (x3 16) fun t152 =>
  tk Tryz.prog S3 (bin .and 176 (.tmp 151) (.tmp 152) t151 t152) fun t153 =>
  mv (x3 15) fun t154 =>
  tk Tryz.prog S3 (Op.unary .xor t154) fun t155 =>
  mv (x3 17) fun t156 =>
  tk Tryz.prog S3 (bin .and 176 (.tmp 155) (.tmp 156) t155 t156) fun t157 =>
  tk Tryz.prog S3 (bin .xor 176 (.tmp 153) (.tmp 157) t153 t157) fun t158 =>
  mv t19 fun t160 =>
  tk Tryz.prog S3 (Instr.indexAt 182 (.pointer (some ⟨1, 0, none⟩)) t160) fun t161 =>
  tk Tryz.prog S3 (Instr.loadAt 176 t161) fun t162 =>
  mv t19 fun t164 =>
  tk Tryz.prog S3 (Instr.indexAt 182 t4 t164) fun t165 =>
  tk Tryz.prog S3 (Instr.loadAt 176 t165) fun t166 =>
  C Tryz.prog N.math_bits_RotateLeft32 #[t142, .int .i64 (-6)] w.drew fun t143 w =>
  S3 w ∧
  C Tryz.prog N.math_bits_RotateLeft32 #[t144, .int .i64 (-11)] w fun t145 w =>
  S3 w ∧
  tk Tryz.prog S3 (bin .xor 176 (.tmp 143) (.tmp 145) t143 t145) fun t146 =>
  C Tryz.prog N.math_bits_RotateLeft32 #[t147, .int .i64 (-25)] w fun t148 w =>
  S3 w ∧
  tk Tryz.prog S3 (bin .xor 176 (.tmp 146) (.tmp 148) t146 t148) fun t149 =>
  tk Tryz.prog S3 (bin .add 176 (.tmp 141) (.tmp 149) t141 t149) fun t150 =>
  tk Tryz.prog S3 (bin .add 176 (.tmp 150) (.tmp 158) t150 t158) fun t159 =>
  tk Tryz.prog S3 (bin .add 176 (.tmp 159) (.tmp 162) t159 t162) fun t163 =>
  tk Tryz.prog S3 (bin .add 176 (.tmp 163) (.tmp 166) t163 t166) fun t167 =>
  mv t167 fun t20 =>
  mv (x3 11) fun t168 =>
  C Tryz.prog N.math_bits_RotateLeft32 #[t168, .int .i64 (-2)] w fun t169 w =>
  mv (x3 11) fun t170 =>
  C Tryz.prog N.math_bits_RotateLeft32 #[t170, .int .i64 (-13)] w fun t171 w =>
  o1 Tryz.prog (bin .xor 176 (.tmp 169) (.tmp 171) t169 t171) w fun t172 w =>
  mv (x3 11) fun t173 =>
  C Tryz.prog N.math_bits_RotateLeft32 #[t173, .int .i64 (-22)] w fun t174 w =>
  o1 Tryz.prog (bin .xor 176 (.tmp 172) (.tmp 174) t172 t174) w fun t175 w =>
  mv (x3 11) fun t176 =>
  mv (x3 12) fun t177 =>
  o1 Tryz.prog (bin .and 176 (.tmp 176) (.tmp 177) t176 t177) w fun t178 w =>
  mv (x3 11) fun t179 =>
  mv (x3 13) fun t180 =>
  o1 Tryz.prog (bin .and 176 (.tmp 179) (.tmp 180) t179 t180) w fun t181 w =>
  o1 Tryz.prog (bin .xor 176 (.tmp 178) (.tmp 181) t178 t181) w fun t182 w =>
  mv (x3 12) fun t183 =>
  mv (x3 13) fun t184 =>
  o1 Tryz.prog (bin .and 176 (.tmp 183) (.tmp 184) t183 t184) w fun t185 w =>
  o1 Tryz.prog (bin .xor 176 (.tmp 182) (.tmp 185) t182 t185) w fun t186 w =>
  o1 Tryz.prog (bin .add 176 (.tmp 175) (.tmp 186) t175 t186) w fun t187 w =>
  mv t187 fun t21 =>
  mv (x3 17) fun t188 =>
  mv (x3 16) fun t189 =>
  mv (x3 15) fun t190 =>
  mv (x3 14) fun t191 =>
  mv t20 fun t192 =>
  o1 Tryz.prog (bin .add 176 (.tmp 191) (.tmp 192) t191 t192) w fun t193 w =>
  mv (x3 13) fun t194 =>
  mv (x3 12) fun t195 =>
  mv (x3 11) fun t196 =>
  mv t20 fun t197 =>
  mv t21 fun t198 =>
  o1 Tryz.prog (bin .add 176 (.tmp 197) (.tmp 198) t197 t198) w fun t199 w =>
  mv t188 fun t18_1 =>
  mv t189 fun t17_1 =>
  mv t190 fun t16_1 =>
  mv t193 fun t15_1 =>
  mv t194 fun t14_1 =>
  mv t195 fun t13_1 =>
  mv t196 fun t12_1 =>
  mv t199 fun t11_1 =>
  o1 Tryz.prog (bin .add 3 (.tmp 138) (.const (.int .i64 1)) (x3 138) (.int .i64 1)) w fun t200 w =>
  mv t200 fun t138_1 =>
  I3 [t11_1, t12_1, t13_1, t14_1, t15_1, t16_1, t17_1, t18_1, t19, t20, t21, t138_1] w ∧ μ3 [t11_1, t12_1, t13_1, t14_1, t15_1, t16_1, t17_1, t18_1, t19, t20, t21, t138_1] w < μ3 [x3 11, x3 12, x3 13, x3 14, x3 15, x3 16, x3 17, x3 18, x3 19, x3 20, x3 21, x3 138] w3) (fun _ =>
  mv (x3 11) fun t201 =>
  mv (x3 12) fun t202 =>
  mv (x3 13) fun t203 =>
  mv (x3 14) fun t204 =>
  mv (x3 15) fun t205 =>
  mv (x3 16) fun t206 =>
  mv (x3 17) fun t207 =>
  mv (x3 18) fun t208 =>
  o1 Tryz.prog (Instr.build 177 #[(0, t201), (1, t202), (2, t203), (3, t204), (4, t205), (5, t206), (6, t207), (7, t208)]) w fun t209 w =>
  mv (.int .i64 0) fun t210 =>
  lp [undef, undef, t210] w fun I4 μ4 => ∀ (x4 : Env) (w4 : World), I4 [x4 22, x4 23, x4 210] w4 →
  o1 Tryz.prog (bin .lss 3 (.tmp 210) (.const (.int .i64 8)) (x4 210) (.int .i64 8)) w4 fun t211 w =>
  br t211 (fun _ =>
  mv (x4 210) fun t212 =>
  o1 Tryz.prog (Instr.index 177 t209 (x4 210)) w fun t213 w =>
  mv t212 fun t22 =>
  mv t213 fun t23 =>
  dr w.drew fun S4 =>
  mv a0 fun t214 =>
  mv t22 fun t215 =>
  nilOk t214 = true ∧ mv t214 fun t216 =>
  tk Tryz.prog S4 (Instr.indexAt 178 t216 t215) fun t217 =>
  tk Tryz.prog S4 (Instr.loadAt 176 t217) fun t218 =>
  mv t23 fun t219 =>
  tk Tryz.prog S4 (bin .add 176 (.tmp 218) (.tmp 219) t218 t219) fun t220 =>
  nilOk t214 = true ∧ mv t214 fun t221 =>
  tk Tryz.prog S4 (Instr.indexAt 178 t221 t215) fun t222 =>
  o0 Tryz.prog (Instr.storeAt 176 t222 t220) w.drew fun _ w =>
  o1 Tryz.prog (bin .add 3 (.tmp 210) (.const (.int .i64 1)) (x4 210) (.int .i64 1)) w fun t223 w =>
  mv t223 fun t210_1 =>
  I4 [t22, t23, t210_1] w ∧ μ4 [t22, t23, t210_1] w < μ4 [x4 22, x4 23, x4 210] w4) (fun _ =>
  k (.tuple #[]) w))))
theorem C.sha_words_mix {k : Value → World → Prop} {a0 a1 : Value} {w : World} (h : F.sha_words_mix k a0 a1 w) : C Tryz.prog N.sha_words_mix #[a0, a1] w k :=
  den_calls (H := { moves := [(4, (.take 0 (.take 1 (.take 2 (.take 3 (.take 4 (.take 5 (.take 6 (.take 7 (.take 8 (.take 9 (.take 10 (.take 11 (.take 12 (.take 13 (.take 14 (.take 15 (.take 16 (.take 17 (.take 18 (.take 19 (.take 20 (.take 21 (.take 22 (.take 23 (.take 24 (.take 25 (.take 26 (.take 27 (.take 28 (.take 29 (.take 30 (.take 31 (.take 32 (.take 33 (.take 34 (.last 35))))))))))))))))))))))))))))))))))))), (9, (.take 0 (.take 1 (.take 2 (.take 3 (.take 4 (.take 5 (.take 6 (.take 7 (.take 8 (.take 9 .fin))))))))))), (12, (.take 0 (.take 1 (.take 2 (.take 3 (.take 4 (.take 5 (.take 6 (.take 7 (.take 8 (.take 9 (.take 10 (.take 11 (.take 12 (.take 13 (.take 14 (.last 15))))))))))))))))), (13, (.take 0 (.take 1 (.take 2 (.take 3 (.take 4 (.take 5 (.take 6 (.take 7 (.take 8 (.take 9 (.take 10 (.take 11 (.take 12 (.take 13 (.take 14 (.take 15 (.take 16 (.take 17 (.take 18 (.take 19 (.take 20 (.take 21 (.take 22 (.take 23 (.take 24 (.take 25 (.take 26 (.take 27 (.take 28 (.take 29 (.take 30 (.take 31 (.take 32 (.take 33 (.take 34 (.take 35 (.take 36 (.take 37 (.take 38 (.take 39 .fin))))))))))))))))))))))))))))))))))))))))), (17, (.take 0 (.take 1 (.take 3 (.take 6 (.take 10 (.take 11 (.take 12 (.take 13 (.take 14 (.take 15 (.take 16 (.take 17 (.take 19 (.take 20 (.take 21 (.take 23 (.take 24 (.take 25 (.force 2 (.force 4 (.take 5 (.force 7 (.take 8 (.take 9 (.take 18 (.take 22 (.take 26 (.take 27 .fin))))))))))))))))))))))))))))), (24, (.take 0 (.take 1 (.take 2 (.take 3 (.take 4 (.take 5 (.take 6 (.take 7 (.take 8 (.last 9)))))))))))], vars := [5, 6, 7, 8, 9, 10, 11, 12, 13, 14, 15, 16, 17, 18, 19, 20, 21, 22, 23, 24, 138, 210] }) (args := [a0, a1]) mixed Tryz.func118 (by kernel_rfl) (by kernel_rfl) (by kernel_rfl) h

-- (isthmus/sha.words).end
def F.sha_words_end (k : Value → World → Prop) (a0 a1 a2 : Value) (w : World) : Prop :=
  o1 Tryz.prog (Instr.box 178 a0) w fun t3 w =>
  o1 Tryz.prog (Instr.alloc 23 true (.tuple #[])) w fun t6 w =>
  o1 Tryz.prog (Instr.alloc 247 true (.tuple #[])) w fun t7 w =>
  o1 Tryz.prog (Instr.sliceAt 247 t7 none none none) w fun t16 w =>
  mv a1 fun t17 =>
  ob Tryz.prog (fun _ => Builtin.copy_ #[39, 39] 3 #[t16, t17]) w fun t18 w =>
  mv t18 fun t8 =>
  mv t8 fun t19 =>
  o1 Tryz.prog (Instr.indexAt 247 t7 t19) w fun t20 w =>
  o0 Tryz.prog (Instr.storeAt 5 t20 (.int .u8 128)) w fun _ w =>
  mv (.int .i64 64) fun t9 =>
  mv t8 fun t21 =>
  o1 Tryz.prog (bin .add 3 (.tmp 21) (.const (.int .i64 9)) t21 (.int .i64 9)) w fun t22 w =>
  o1 Tryz.prog (bin .gtr 3 (.tmp 22) (.const (.int .i64 64)) t22 (.int .i64 64)) w fun t23 w =>
  jn (fun x1 => [x1 9]) (fun k1 =>
  br t23 (fun _ =>
  mv (.int .i64 128) fun t9_1 =>
  k1 [t9_1] w) (fun _ =>
  k1 [t9] w)) fun x1 w =>
  mv (.int .i64 0) fun t24 =>
  lp [undef, t24] w fun I2 μ2 => ∀ (x2 : Env) (w1 : World), I2 [x2 10, x2 24] w1 →
  o1 Tryz.prog (bin .lss 3 (.tmp 24) (.const (.int .i64 8)) (x2 24) (.int .i64 8)) w1 fun t25 w =>
  br t25 (fun _ =>
  mv (x2 24) fun t26 =>
  mv t26 fun t10 =>
  mv (x1 9) fun t27 =>
  o1 Tryz.prog (bin .sub 3 (.tmp 27) (.const (.int .i64 1)) t27 (.int .i64 1)) w fun t28 w =>
  mv t10 fun t29 =>
  o1 Tryz.prog (bin .sub 3 (.tmp 28) (.tmp 29) t28 t29) w fun t30 w =>
  mv a2 fun t31 =>
  o1 Tryz.prog (bin .mul 105 (.tmp 31) (.const (.int .u64 8)) t31 (.int .u64 8)) w fun t32 w =>
  mv t10 fun t33 =>
  o1 Tryz.prog (bin .mul 3 (.const (.int .i64 8)) (.tmp 33) (.int .i64 8) t33) w fun t34 w =>
  o1 Tryz.prog (convert 3 185 t34) w fun t35 w =>
  o1 Tryz.prog (bin .shr 105 (.tmp 32) (.tmp 35) t32 t35) w fun t36 w =>
  o1 Tryz.prog (convert 105 5 t36) w fun t37 w =>
  o1 Tryz.prog (Instr.indexAt 247 t7 t30) w fun t38 w =>
  o0 Tryz.prog (Instr.storeAt 5 t38 t37) w fun _ w =>
  o1 Tryz.prog (bin .add 3 (.tmp 24) (.const (.int .i64 1)) (x2 24) (.int .i64 1)) w fun t39 w =>
  mv t39 fun t24_1 =>
  I2 [t10, t24_1] w ∧ μ2 [t10, t24_1] w < μ2 [x2 10, x2 24] w1) (fun _ =>
  mv (.int .i64 0) fun t11 =>
  lp [t11] w fun I3 μ3 => ∀ (x3 : Env) (w2 : World), I3 [x3 11] w2 →
  mv (x3 11) fun t40 =>
  mv (x1 9) fun t41 =>
  o1 Tryz.prog (bin .lss 3 (.tmp 40) (.tmp 41) t40 t41) w2 fun t42 w =>
  br t42 (fun _ =>
  mv (x3 11) fun t45 =>
  mv (x3 11) fun t46 =>
  o1 Tryz.prog (bin .add 3 (.tmp 46) (.const (.int .i64 64)) t46 (.int .i64 64)) w fun t47 w =>
  o1 Tryz.prog (Instr.sliceAt 247 t7 (some t45) (some t47) none) w fun t48 w =>
  C Tryz.prog N.sha_words_mix #[t3, t48] w fun t49 w =>
  mv (x3 11) fun t43 =>
  o1 Tryz.prog (bin .add 3 (.tmp 43) (.const (.int .i64 64)) t43 (.int .i64 64)) w fun t44 w =>
  mv t44 fun t11_1 =>
  I3 [t11_1] w ∧ μ3 [t11_1] w < μ3 [x3 11] w2) (fun _ =>
  o1 Tryz.prog (Instr.alloc 23 true (.tuple #[])) w fun t12 w =>
  o1 Tryz.prog (Instr.loadAt 178 t3) w fun t50 w =>
  mv (.int .i64 0) fun t51 =>
  lp [undef, undef, undef, t51, undef] w fun I4 μ4 => ∀ (x4 : Env) (w3 : World), I4 [x4 13, x4 14, x4 15, x4 51, x4 55] w3 →
  o1 Tryz.prog (bin .lss 3 (.tmp 51) (.const (.int .i64 8)) (x4 51) (.int .i64 8)) w3 fun t52 w =>
  br t52 (fun _ =>
  mv (x4 51) fun t53 =>
  o1 Tryz.prog (Instr.index 178 t50 (x4 51)) w fun t54 w =>
  mv t53 fun t13 =>
  mv t54 fun t14 =>
  mv (.int .i64 0) fun t55 =>
  lp [(x4 15), t55] w fun I5 μ5 => ∀ (x5 : Env) (w4 : World), I5 [x5 15, x5 55] w4 →
  o1 Tryz.prog (bin .lss 3 (.tmp 55) (.const (.int .i64 4)) (x5 55) (.int .i64 4)) w4 fun t56 w =>
  br t56 (fun _ =>
  mv (x5 55) fun t57 =>
  mv t57 fun t15 =>
  mv t13 fun t58 =>
  o1 Tryz.prog (bin .mul 3 (.const (.int .i64 4)) (.tmp 58) (.int .i64 4) t58) w fun t59 w =>
  mv t15 fun t60 =>
  o1 Tryz.prog (bin .add 3 (.tmp 59) (.tmp 60) t59 t60) w fun t61 w =>
  mv t14 fun t62 =>
  mv t15 fun t63 =>
  o1 Tryz.prog (bin .mul 3 (.const (.int .i64 8)) (.tmp 63) (.int .i64 8) t63) w fun t64 w =>
  o1 Tryz.prog (bin .sub 3 (.const (.int .i64 24)) (.tmp 64) (.int .i64 24) t64) w fun t65 w =>
  o1 Tryz.prog (convert 3 185 t65) w fun t66 w =>
  o1 Tryz.prog (bin .shr 176 (.tmp 62) (.tmp 66) t62 t66) w fun t67 w =>
  o1 Tryz.prog (convert 176 5 t67) w fun t68 w =>
  o1 Tryz.prog (Instr.indexAt 23 t12 t61) w fun t69 w =>
  o0 Tryz.prog (Instr.storeAt 5 t69 t68) w fun _ w =>
  o1 Tryz.prog (bin .add 3 (.tmp 55) (.const (.int .i64 1)) (x5 55) (.int .i64 1)) w fun t70 w =>
  mv t70 fun t55_1 =>
  I5 [t15, t55_1] w ∧ μ5 [t15, t55_1] w < μ5 [x5 15, x5 55] w4) (fun _ =>
  o1 Tryz.prog (bin .add 3 (.tmp 51) (.const (.int .i64 1)) (x4 51) (.int .i64 1)) w fun t71 w =>
  mv t71 fun t51_1 =>
  I4 [t13, t14, (x5 15), t51_1, (x5 55)] w ∧ μ4 [t13, t14, (x5 15), t51_1, (x5 55)] w < μ4 [x4 13, x4 14, x4 15, x4 51, x4 55] w3)) (fun _ =>
  o1 Tryz.prog (Instr.loadAt 23 t12) w fun t72 w =>
  o0 Tryz.prog (Instr.storeAt 23 t6 t72) w fun _ w =>
  rc Tryz.prog 23 t6 w fun r0 =>
  k r0 w)))
theorem C.sha_words_end {k : Value → World → Prop} {a0 a1 a2 : Value} {w : World} (h : F.sha_words_end k a0 a1 a2 w) : C Tryz.prog N.sha_words_end #[a0, a1, a2] w k :=
  den_calls (H := { moves := [], vars := [8, 9, 10, 11, 13, 14, 15, 24, 51, 55] }) (args := [a0, a1, a2]) mixed Tryz.func119 (by kernel_rfl) (by kernel_rfl) (by kernel_rfl) h

-- isthmus/isthmusref01.constants
def F.isthmusref01_constants (k : Value → World → Prop) (w : World) : Prop :=
  o1 Tryz.prog (Instr.alloc 182 true (.tuple #[])) w fun t0 w =>
  o1 Tryz.prog (Instr.alloc 177 true (.tuple #[])) w fun t1 w =>
  o1 Tryz.prog (Instr.build 182 #[(0, .int .u32 1116352408), (1, .int .u32 1899447441), (2, .int .u32 3049323471), (3, .int .u32 3921009573), (4, .int .u32 961987163), (5, .int .u32 1508970993), (6, .int .u32 2453635748), (7, .int .u32 2870763221), (8, .int .u32 3624381080), (9, .int .u32 310598401), (10, .int .u32 607225278), (11, .int .u32 1426881987), (12, .int .u32 1925078388), (13, .int .u32 2162078206), (14, .int .u32 2614888103), (15, .int .u32 3248222580), (16, .int .u32 3835390401), (17, .int .u32 4022224774), (18, .int .u32 264347078), (19, .int .u32 604807628), (20, .int .u32 770255983), (21, .int .u32 1249150122), (22, .int .u32 1555081692), (23, .int .u32 1996064986), (24, .int .u32 2554220882), (25, .int .u32 2821834349), (26, .int .u32 2952996808), (27, .int .u32 3210313671), (28, .int .u32 3336571891), (29, .int .u32 3584528711), (30, .int .u32 113926993), (31, .int .u32 338241895), (32, .int .u32 666307205), (33, .int .u32 773529912), (34, .int .u32 1294757372), (35, .int .u32 1396182291), (36, .int .u32 1695183700), (37, .int .u32 1986661051), (38, .int .u32 2177026350), (39, .int .u32 2456956037), (40, .int .u32 2730485921), (41, .int .u32 2820302411), (42, .int .u32 3259730800), (43, .int .u32 3345764771), (44, .int .u32 3516065817), (45, .int .u32 3600352804), (46, .int .u32 4094571909), (47, .int .u32 275423344), (48, .int .u32 430227734), (49, .int .u32 506948616), (50, .int .u32 659060556), (51, .int .u32 883997877), (52, .int .u32 958139571), (53, .int .u32 1322822218), (54, .int .u32 1537002063), (55, .int .u32 1747873779), (56, .int .u32 1955562222), (57, .int .u32 2024104815), (58, .int .u32 2227730452), (59, .int .u32 2361852424), (60, .int .u32 2428436474), (61, .int .u32 2756734187), (62, .int .u32 3204031479), (63, .int .u32 3329325298)]) w fun t2 w =>
  o1 Tryz.prog (Instr.build 177 #[(0, .int .u32 1779033703), (1, .int .u32 3144134277), (2, .int .u32 1013904242), (3, .int .u32 2773480762), (4, .int .u32 1359893119), (5, .int .u32 2600822924), (6, .int .u32 528734635), (7, .int .u32 1541459225)]) w fun t3 w =>
  o0 Tryz.prog (Instr.storeAt 182 t0 t2) w fun _ w =>
  o0 Tryz.prog (Instr.storeAt 177 t1 t3) w fun _ w =>
  rc Tryz.prog 182 t0 w fun r0 =>
  rc Tryz.prog 177 t1 w fun r1 =>
  k (.tuple #[r0, r1]) w
theorem C.isthmusref01_constants {k : Value → World → Prop} {w : World} (h : F.isthmusref01_constants k  w) : C Tryz.prog N.isthmusref01_constants #[] w k :=
  den_calls (H := { moves := [], vars := [] }) (args := []) mixed Tryz.func120 (by kernel_rfl) (by kernel_rfl) (by kernel_rfl) h

-- isthmus/isthmusref01.turn
def F.isthmusref01_turn (k : Value → World → Prop) (a0 a1 : Value) (w : World) : Prop :=
  mv (.int .u32 0) fun t4 =>
  mv a0 fun t5 =>
  mv a1 fun t6 =>
  o1 Tryz.prog (bin .shr 176 (.tmp 5) (.tmp 6) t5 t6) w fun t7 w =>
  mv a0 fun t8 =>
  mv a1 fun t9 =>
  o1 Tryz.prog (bin .sub 185 (.const (.int .u64 32)) (.tmp 9) (.int .u64 32) t9) w fun t10 w =>
  o1 Tryz.prog (bin .shl 176 (.tmp 8) (.tmp 10) t8 t10) w fun t11 w =>
  o1 Tryz.prog (bin .or 176 (.tmp 7) (.tmp 11) t7 t11) w fun t12 w =>
  mv t12 fun t4_1 =>
  k t4_1 w
theorem C.isthmusref01_turn {k : Value → World → Prop} {a0 a1 : Value} {w : World} (h : F.isthmusref01_turn k a0 a1 w) : C Tryz.prog N.isthmusref01_turn #[a0, a1] w k :=
  den_calls (H := { moves := [], vars := [4] }) (args := [a0, a1]) mixed Tryz.func121 (by kernel_rfl) (by kernel_rfl) (by kernel_rfl) h

-- (*isthmus/pack.Writer).Uint
def F.pack_Writer_Uint (k : Value → World → Prop) (a0 a1 : Value) (w : World) : Prop :=
  mv (.pointer none) fun t4 =>
  mv a0 fun t5 =>
  o1 Tryz.prog (bin .eql 142 (.tmp 5) (.const (.pointer none)) t5 (.pointer none)) w fun t6 w =>
  br t6 (fun _ =>
  mv (.pointer none) fun t4_1 =>
  k t4_1 w) (fun _ =>
  lp [a1] w fun I1 μ1 => ∀ (x1 : Env) (w1 : World), I1 [x1 1] w1 →
  mv (x1 1) fun t7 =>
  o1 Tryz.prog (bin .geq 105 (.tmp 7) (.const (.int .u64 128)) t7 (.int .u64 128)) w1 fun t8 w =>
  br t8 (fun _ =>
  mv a0 fun t11 =>
  mv a0 fun t12 =>
  nilOk t12 = true ∧ mv t12 fun t13 =>
  o1 Tryz.prog (Instr.fieldAt 209 t13 0) w fun t14 w =>
  o1 Tryz.prog (Instr.loadAt 39 t14) w fun t15 w =>
  mv (x1 1) fun t16 =>
  o1 Tryz.prog (convert 105 5 t16) w fun t17 w =>
  o1 Tryz.prog (bin .or 5 (.tmp 17) (.const (.int .u8 128)) t17 (.int .u8 128)) w fun t18 w =>
  o1 Tryz.prog (Instr.buildSlice 39 1 #[(0, t18)]) w fun t19 w =>
  ob Tryz.prog (fun _ => Builtin.append_ #[39, 39] 39 #[t15, t19]) w fun t20 w =>
  nilOk t11 = true ∧ mv t11 fun t21 =>
  o1 Tryz.prog (Instr.fieldAt 209 t21 0) w fun t22 w =>
  o0 Tryz.prog (Instr.storeAt 39 t22 t20) w fun _ w =>
  mv (x1 1) fun t9 =>
  o1 Tryz.prog (bin .shr 105 (.tmp 9) (.const (.int .u64 7)) t9 (.int .u64 7)) w fun t10 w =>
  mv t10 fun t1 =>
  I1 [t1] w ∧ μ1 [t1] w < μ1 [x1 1] w1) (fun _ =>
  mv a0 fun t23 =>
  mv a0 fun t24 =>
  nilOk t24 = true ∧ mv t24 fun t25 =>
  o1 Tryz.prog (Instr.fieldAt 209 t25 0) w fun t26 w =>
  o1 Tryz.prog (Instr.loadAt 39 t26) w fun t27 w =>
  mv (x1 1) fun t28 =>
  o1 Tryz.prog (convert 105 5 t28) w fun t29 w =>
  o1 Tryz.prog (Instr.buildSlice 39 1 #[(0, t29)]) w fun t30 w =>
  ob Tryz.prog (fun _ => Builtin.append_ #[39, 39] 39 #[t27, t30]) w fun t31 w =>
  nilOk t23 = true ∧ mv t23 fun t32 =>
  o1 Tryz.prog (Instr.fieldAt 209 t32 0) w fun t33 w =>
  o0 Tryz.prog (Instr.storeAt 39 t33 t31) w fun _ w =>
  mv a0 fun t34 =>
  mv t34 fun t4_2 =>
  k t4_2 w))
theorem C.pack_Writer_Uint {k : Value → World → Prop} {a0 a1 : Value} {w : World} (h : F.pack_Writer_Uint k a0 a1 w) : C Tryz.prog N.pack_Writer_Uint #[a0, a1] w k :=
  den_calls (H := { moves := [], vars := [1, 4] }) (args := [a0, a1]) mixed Tryz.func122 (by kernel_rfl) (by kernel_rfl) (by kernel_rfl) h

-- (*isthmus/pack.Writer).Bytes
def F.pack_Writer_Bytes (k : Value → World → Prop) (a0 a1 : Value) (w : World) : Prop :=
  mv (.pointer none) fun t4 =>
  mv a0 fun t5 =>
  mv a1 fun t6 =>
  o1 Tryz.prog (Builtin.len_ #[39] 3 #[t6]) w fun t7 w =>
  o1 Tryz.prog (convert 3 105 t7) w fun t8 w =>
  C Tryz.prog N.pack_Writer_Uint #[t5, t8] w fun t9 w =>
  mv a1 fun t10 =>
  C Tryz.prog N.pack_Writer_raw #[t9, t10] w fun t11 w =>
  mv t11 fun t4_1 =>
  k t4_1 w
theorem C.pack_Writer_Bytes {k : Value → World → Prop} {a0 a1 : Value} {w : World} (h : F.pack_Writer_Bytes k a0 a1 w) : C Tryz.prog N.pack_Writer_Bytes #[a0, a1] w k :=
  den_calls (H := { moves := [], vars := [4] }) (args := [a0, a1]) mixed Tryz.func123 (by kernel_rfl) (by kernel_rfl) (by kernel_rfl) h

-- isthmus/types.putVote
-- isthmus/types.VerifyTrust$1
def F.types_VerifyTrust_1 (k : Value → World → Prop) (a0 a1 a2 : Value) (w : World) : Prop :=
  o1 Tryz.prog (Instr.box 76 a0) w fun t3 w =>
  mv (.bool false) fun t4 =>
  o1 Tryz.prog (Instr.fieldAt 29 a1 3) w fun t5 w =>
  o1 Tryz.prog (Instr.loadAt 27 t5) w fun t6 w =>
  o1 Tryz.prog (Instr.makeFunc (.func 127) #[] #[a2, t3]) w fun t7 w =>
  C Tryz.prog N.slices_ContainsFunc_api_Vote_api_Vote #[t6, t7] w fun t8 w =>
  mv t8 fun t4_1 =>
  k t4_1 w
theorem C.types_VerifyTrust_1 {k : Value → World → Prop} {a0 a1 a2 : Value} {w : World} (h : F.types_VerifyTrust_1 k a0 a1 a2 w) : C Tryz.prog N.types_VerifyTrust_1 #[a0, a1, a2] w k :=
  den_calls (H := { moves := [], vars := [4] }) (args := [a0, a1, a2]) mixed Tryz.func125 (by kernel_rfl) (by kernel_rfl) (by kernel_rfl) h

-- slices.ContainsFunc[[]isthmus/api.Vote,isthmus/api.Vote]
def F.slices_ContainsFunc_api_Vote_api_Vote (k : Value → World → Prop) (a0 a1 : Value) (w : World) : Prop :=
  mv (.bool false) fun t4 =>
  mv a0 fun t5 =>
  mv a1 fun t6 =>
  C Tryz.prog N.slices_IndexFunc_api_Vote_api_Vote #[t5, t6] w fun t7 w =>
  o1 Tryz.prog (bin .geq 3 (.tmp 7) (.const (.int .i64 0)) t7 (.int .i64 0)) w fun t8 w =>
  mv t8 fun t4_1 =>
  k t4_1 w
theorem C.slices_ContainsFunc_api_Vote_api_Vote {k : Value → World → Prop} {a0 a1 : Value} {w : World} (h : F.slices_ContainsFunc_api_Vote_api_Vote k a0 a1 w) : C Tryz.prog N.slices_ContainsFunc_api_Vote_api_Vote #[a0, a1] w k :=
  den_calls (H := { moves := [], vars := [4] }) (args := [a0, a1]) mixed Tryz.func126 (by kernel_rfl) (by kernel_rfl) (by kernel_rfl) h

-- isthmus/types.VerifyTrust$1$1
def F.types_VerifyTrust_1_1 (k : Value → World → Prop) (a0 a1 a2 : Value) (w : World) : Prop :=
  o1 Tryz.prog (Instr.box 49 a0) w fun t3 w =>
  mv (.bool false) fun t4 =>
  tk Tryz.prog (fun w' => w' = w.drew) (Instr.fieldAt 49 t3 4) fun t5 =>
  tk Tryz.prog (fun w' => w' = w.drew) (Instr.loadAt 3 t5) fun t6 =>
  tk Tryz.prog (fun w' => w' = w.drew) (bin .geq 3 (.tmp 6) (.const (.int .i64 0)) t6 (.int .i64 0)) fun t7 =>
  mv t7 fun t8 =>
  gdT t8 true (fun k1 => tk Tryz.prog (fun w' => w' = w.drew) (Instr.fieldAt 49 t3 4) k1) fun t9 =>
  gdT t8 true (fun k2 => tk Tryz.prog (fun w' => w' = w.drew) (Instr.loadAt 3 t9) k2) fun t10 =>
  gdT t8 true (fun k3 => tk Tryz.prog (fun w' => w' = w.drew) (Instr.loadAt 70 a1) k3) fun t11 =>
  gdT t8 true (fun k4 => tk Tryz.prog (fun w' => w' = w.drew) (Builtin.len_ #[70] 3 #[t11]) k4) fun t12 =>
  gdT t8 true (fun k5 => tk Tryz.prog (fun w' => w' = w.drew) (bin .lss 3 (.tmp 10) (.tmp 12) t10 t12) k5) fun t13 =>
  pk t8 t13 (.bool false) fun t14 =>
  mv t14 fun t15 =>
  gdT t15 true (fun k6 => tk Tryz.prog (fun w' => w' = w.drew) (Instr.loadAt 70 a1) k6) fun t16 =>
  gdT t15 true (fun k7 => tk Tryz.prog (fun w' => w' = w.drew) (Instr.fieldAt 49 t3 4) k7) fun t17 =>
  gdT t15 true (fun k8 => tk Tryz.prog (fun w' => w' = w.drew) (Instr.loadAt 3 t17) k8) fun t18 =>
  gdT t15 true (fun k9 => tk Tryz.prog (fun w' => w' = w.drew) (Instr.indexAt 70 t16 t18) k9) fun t19 =>
  gdT t15 true (fun k10 => tk Tryz.prog (fun w' => w' = w.drew) (Instr.fieldAt 76 t19 0) k10) fun t20 =>
  gdT t15 true (fun k11 => tk Tryz.prog (fun w' => w' = w.drew) (Instr.loadAt 9 t20) k11) fun t21 =>
  gdT t15 true (fun k12 => tk Tryz.prog (fun w' => w' = w.drew) (Instr.fieldAt 76 a2 0) k12) fun t22 =>
  gdT t15 true (fun k13 => tk Tryz.prog (fun w' => w' = w.drew) (Instr.loadAt 9 t22) k13) fun t23 =>
  gdT t15 true (fun k14 => tk Tryz.prog (fun w' => w' = w.drew) (bin .eql 9 (.tmp 21) (.tmp 23) t21 t23) k14) fun t24 =>
  pk t15 t24 (.bool false) fun t25 =>
  mv t25 fun t26 =>
  gdT t26 true (fun k15 => tk Tryz.prog (fun w' => w' = w.drew) (Instr.loadAt 70 a1) k15) fun t27 =>
  gdT t26 true (fun k16 => tk Tryz.prog (fun w' => w' = w.drew) (Instr.fieldAt 49 t3 4) k16) fun t28 =>
  gdT t26 true (fun k17 => tk Tryz.prog (fun w' => w' = w.drew) (Instr.loadAt 3 t28) k17) fun t29 =>
  gdT t26 true (fun k18 => tk Tryz.prog (fun w' => w' = w.drew) (Instr.indexAt 70 t27 t29) k18) fun t30 =>
  gdT t26 true (fun k19 => tk Tryz.prog (fun w' => w' = w.drew) (Instr.fieldAt 76 t30 1) k19) fun t31 =>
  gdT t26 true (fun k20 => tk Tryz.prog (fun w' => w' = w.drew) (Instr.loadAt 23 t31) k20) fun t32 =>
  gdT t26 true (fun k21 => tk Tryz.prog (fun w' => w' = w.drew) (Instr.fieldAt 76 a2 1) k21) fun t33 =>
  gdT t26 true (fun k22 => tk Tryz.prog (fun w' => w' = w.drew) (Instr.loadAt 23 t33) k22) fun t34 =>
  gdT t26 true (fun k23 => tk Tryz.prog (fun w' => w' = w.drew) (bin .eql 23 (.tmp 32) (.tmp 34) t32 t34) k23) fun t35 =>
  pk t26 t35 (.bool false) fun t36 =>
  mv t36 fun t4_1 =>
  k t4_1 w.drew
theorem C.types_VerifyTrust_1_1 {k : Value → World → Prop} {a0 a1 a2 : Value} {w : World} (h : F.types_VerifyTrust_1_1 k a0 a1 a2 w) : C Tryz.prog N.types_VerifyTrust_1_1 #[a0, a1, a2] w k :=
  den_calls (H := { moves := [(1, (.take 0 (.take 1 (.take 2 (.take 3 (.take 4 (.take 5 (.take 6 (.take 7 (.take 8 (.take 9 (.take 10 (.take 11 (.take 12 (.take 13 (.take 14 (.take 15 (.take 16 (.take 17 (.take 18 (.take 19 (.take 20 (.take 21 (.take 22 (.take 23 (.take 24 (.take 25 (.take 26 (.take 27 (.take 28 (.take 29 (.take 30 (.take 31 (.take 32 .fin))))))))))))))))))))))))))))))))))], vars := [4] }) (args := [a0, a1, a2]) mixed Tryz.func127 (by kernel_rfl) (by kernel_rfl) (by kernel_rfl) h

-- isthmus/pack.Read
def F.pack_Read (k : Value → World → Prop) (a0 : Value) (w : World) : Prop :=
  mv (.pointer none) fun t2 =>
  mv a0 fun t3 =>
  o1 Tryz.prog (Instr.build 250 #[(0, t3)]) w fun t4 w =>
  o1 Tryz.prog (Instr.box 250 t4) w fun t5 w =>
  mv t5 fun t2_1 =>
  k t2_1 w
theorem C.pack_Read {k : Value → World → Prop} {a0 : Value} {w : World} (h : F.pack_Read k a0 w) : C Tryz.prog N.pack_Read #[a0] w k :=
  den_calls (H := { moves := [], vars := [2] }) (args := [a0]) mixed Tryz.func128 (by kernel_rfl) (by kernel_rfl) (by kernel_rfl) h

-- (*isthmus/pack.Reader).Done
def F.pack_Reader_Done (k : Value → World → Prop) (a0 : Value) (w : World) : Prop :=
  mv .nilIface fun t2 =>
  mv a0 fun t3 =>
  C Tryz.prog N.pack_Reader_live #[t3] w fun t4 w =>
  mv t4 fun t5 =>
  gd t5 true (fun k1 => mv a0 fun v => k1 v w) w fun t6 w =>
  gd t5 true (fun k2 => nilOk t6 = true ∧ mv t6 fun v => k2 v w) w fun t7 w =>
  gd t5 true (fun k3 => o1 Tryz.prog (Instr.fieldAt 250 t7 0) w k3) w fun t8 w =>
  gd t5 true (fun k4 => o1 Tryz.prog (Instr.loadAt 39 t8) w k4) w fun t9 w =>
  gd t5 true (fun k5 => o1 Tryz.prog (Builtin.len_ #[39] 3 #[t9]) w k5) w fun t10 w =>
  gd t5 true (fun k6 => o1 Tryz.prog (bin .gtr 3 (.tmp 10) (.const (.int .i64 0)) t10 (.int .i64 0)) w k6) w fun t11 w =>
  pk t5 t11 (.bool false) fun t12 =>
  br t12 (fun _ =>
  o1 Tryz.prog (Instr.makeInterface 93 (.int .i64 3)) w fun t13 w =>
  o1 Tryz.prog (Instr.build 173 #[(0, .string ⟨#[101, 110, 100]⟩), (1, t13)]) w fun t14 w =>
  o1 Tryz.prog (Instr.box 173 t14) w fun t15 w =>
  o1 Tryz.prog (Instr.makeInterface 171 t15) w fun t16 w =>
  mv t16 fun t2_1 =>
  k t2_1 w) (fun _ =>
  mv a0 fun t17 =>
  C Tryz.prog N.pack_Reader_Err #[t17] w fun t18 w =>
  mv t18 fun t2_2 =>
  k t2_2 w)
theorem C.pack_Reader_Done {k : Value → World → Prop} {a0 : Value} {w : World} (h : F.pack_Reader_Done k a0 w) : C Tryz.prog N.pack_Reader_Done #[a0] w k :=
  den_calls (H := { moves := [], vars := [2] }) (args := [a0]) mixed Tryz.func129 (by kernel_rfl) (by kernel_rfl) (by kernel_rfl) h

-- (*isthmus/pack.Reader).Int
-- (*isthmus/pack.Reader).Hash
def F.pack_Reader_Hash (k : Value → World → Prop) (a0 : Value) (w : World) : Prop :=
  o1 Tryz.prog (Instr.alloc 23 true (.tuple #[])) w fun t2 w =>
  o1 Tryz.prog (Instr.alloc 23 true (.tuple #[])) w fun t3 w =>
  dr w.drew fun S1 =>
  tk Tryz.prog S1 (Instr.sliceAt 23 t3 none none none) fun t4 =>
  mv a0 fun t5 =>
  C Tryz.prog N.pack_Reader_take #[t5, .string ⟨#[115, 117, 109]⟩, .int .i64 32] w.drew fun t6 w =>
  S1 w ∧
  ob Tryz.prog (fun _ => Builtin.copy_ #[39, 39] 3 #[t4, t6]) w fun t7 w =>
  o1 Tryz.prog (Instr.loadAt 23 t3) w fun t8 w =>
  o0 Tryz.prog (Instr.storeAt 23 t2 t8) w fun _ w =>
  rc Tryz.prog 23 t2 w fun r0 =>
  k r0 w
theorem C.pack_Reader_Hash {k : Value → World → Prop} {a0 : Value} {w : World} (h : F.pack_Reader_Hash k a0 w) : C Tryz.prog N.pack_Reader_Hash #[a0] w k :=
  den_calls (H := { moves := [(2, (.take 0 (.take 1 (.force 2 (.last 3)))))], vars := [] }) (args := [a0]) mixed Tryz.func131 (by kernel_rfl) (by kernel_rfl) (by kernel_rfl) h

-- (*isthmus/pack.Reader).Bytes
def F.pack_Reader_Bytes (k : Value → World → Prop) (a0 a1 : Value) (w : World) : Prop :=
  mv (.slice none 0 0) fun t4 =>
  mv a1 fun t7 =>
  o1 Tryz.prog (bin .lss 3 (.tmp 7) (.const (.int .i64 0)) t7 (.int .i64 0)) w fun t8 w =>
  jn (fun x1 => []) (fun k1 =>
  br t8 (fun _ =>
  mv a0 fun t9 =>
  C Tryz.prog N.pack_Reader_fail #[t9, .string ⟨#[98, 111, 117, 110, 100]⟩, .int .i64 1] w fun t10 w =>
  k1 [] w) (fun _ =>
  k1 [] w)) fun x1 w =>
  mv a0 fun t11 =>
  C Tryz.prog N.pack_Reader_live #[t11] w fun t12 w =>
  o1 Tryz.prog (Op.unary .not t12) w fun t13 w =>
  br t13 (fun _ =>
  mv (.slice none 0 0) fun t4_1 =>
  k t4_1 w) (fun _ =>
  mv a0 fun t14 =>
  nilOk t14 = true ∧ mv t14 fun t15 =>
  o1 Tryz.prog (Instr.fieldAt 250 t15 0) w fun t16 w =>
  o1 Tryz.prog (Instr.loadAt 39 t16) w fun t17 w =>
  mv t17 fun t5 =>
  mv a0 fun t18 =>
  C Tryz.prog N.pack_Reader_Uint #[t18, .int .u64 18446744073709551615] w fun t19 w =>
  mv t19 fun t6 =>
  mv a0 fun t25 =>
  C Tryz.prog N.pack_Reader_live #[t25] w fun t26 w =>
  o1 Tryz.prog (Op.unary .not t26) w fun t27 w =>
  mv t27 fun t24 =>
  br t24 (fun _ =>
  mv (.slice none 0 0) fun t4_2 =>
  k t4_2 w) (fun _ =>
  mv t6 fun t29 =>
  mv a1 fun t30 =>
  o1 Tryz.prog (convert 3 105 t30) w fun t31 w =>
  o1 Tryz.prog (bin .gtr 105 (.tmp 29) (.tmp 31) t29 t31) w fun t32 w =>
  mv t32 fun t28 =>
  jn (fun x2 => [x2 4, x2 35]) (fun k2 =>
  br t28 (fun _ =>
  mv a0 fun t33 =>
  C Tryz.prog N.pack_Reader_fail #[t33, .string ⟨#[108, 101, 110, 103, 116, 104]⟩, .int .i64 2] w fun t34 w =>
  k2 [t4, undef] w) (fun _ =>
  mv t6 fun t36 =>
  mv a0 fun t37 =>
  nilOk t37 = true ∧ mv t37 fun t38 =>
  o1 Tryz.prog (Instr.fieldAt 250 t38 0) w fun t39 w =>
  o1 Tryz.prog (Instr.loadAt 39 t39) w fun t40 w =>
  o1 Tryz.prog (Builtin.len_ #[39] 3 #[t40]) w fun t41 w =>
  o1 Tryz.prog (convert 3 105 t41) w fun t42 w =>
  o1 Tryz.prog (bin .gtr 105 (.tmp 36) (.tmp 42) t36 t42) w fun t43 w =>
  mv t43 fun t35 =>
  br t35 (fun _ =>
  mv a0 fun t44 =>
  C Tryz.prog N.pack_Reader_fail #[t44, .string ⟨#[98, 121, 116, 101, 115]⟩, .int .i64 12] w fun t45 w =>
  k2 [t4, t35] w) (fun _ =>
  mv a0 fun t20 =>
  mv t6 fun t21 =>
  o1 Tryz.prog (convert 105 3 t21) w fun t22 w =>
  C Tryz.prog N.pack_Reader_take #[t20, .string ⟨#[98, 121, 116, 101, 115]⟩, t22] w fun t23 w =>
  mv t23 fun t4_3 =>
  k t4_3 w))) fun x2 w =>
  mv a0 fun t46 =>
  mv t5 fun t47 =>
  nilOk t46 = true ∧ mv t46 fun t48 =>
  o1 Tryz.prog (Instr.fieldAt 250 t48 0) w fun t49 w =>
  o0 Tryz.prog (Instr.storeAt 39 t49 t47) w fun _ w =>
  mv (.slice none 0 0) fun t4_4 =>
  k t4_4 w))
theorem C.pack_Reader_Bytes {k : Value → World → Prop} {a0 a1 : Value} {w : World} (h : F.pack_Reader_Bytes k a0 a1 w) : C Tryz.prog N.pack_Reader_Bytes #[a0, a1] w k :=
  den_calls (H := { moves := [], vars := [4, 5, 6, 24, 28, 35] }) (args := [a0, a1]) mixed Tryz.func132 (by kernel_rfl) (by kernel_rfl) (by kernel_rfl) h

-- isthmus/isthmusref02.ReadInt
end Go.Proofs.YtlfelmikcdmkhaaGreatDoor
