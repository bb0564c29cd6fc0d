/- What each function asks: printed by hoas.py off the loaded program; each is held against the program by the kernel. -/
import Derived.Test.YtlfelmikcdmkhaaGreatDoorN
set_option linter.unusedVariables false
set_option linter.unusedSimpArgs false
set_option linter.unusedSectionVars false
namespace Go.Proofs.YtlfelmikcdmkhaaGreatDoor
open Go Go.Isk
set_option maxRecDepth 100000
-- isthmus/types.decode[isthmus/api.Header]
def F.types_decode_api_Header (k : Value → World → Prop) (a0 a1 : Value) (w : World) : Prop :=
  o1 Tryz.prog (Instr.alloc 25 true (.tuple #[])) w fun t4 w =>
  mv .nilIface fun t5 =>
  mv a0 fun t9 =>
  C Tryz.prog N.pack_Read #[t9] w fun t10 w =>
  mv t10 fun t6 =>
  mv a1 fun t11 =>
  mv t6 fun t12 =>
  cv Tryz.prog t11 #[t12] w fun t13 w =>
  o1 Tryz.prog (Instr.alloc 25 true (.tuple #[])) w fun t7 w =>
  o0 Tryz.prog (Instr.storeAt 25 t7 t13) w fun _ w =>
  mv t6 fun t14 =>
  C Tryz.prog N.pack_Reader_Done #[t14] w fun t15 w =>
  o1 Tryz.prog (bin .neq 34 (.tmp 15) (.const .nilIface) t15 .nilIface) w fun t16 w =>
  br t16 (fun _ =>
  o1 Tryz.prog (Instr.alloc 25 true (.tuple #[])) w fun t8 w =>
  dr w.drew fun S1 =>
  tk Tryz.prog S1 (Instr.loadAt 25 t8) fun t17 =>
  C Tryz.prog N.types_fault #[.string ⟨#[98, 121, 116, 101, 115]⟩, .int .i64 3] w.drew fun t18 w =>
  S1 w ∧
  o0 Tryz.prog (Instr.storeAt 25 t4 t17) w fun _ w =>
  S1 w ∧
  mv t18 fun t5_1 =>
  rc Tryz.prog 25 t4 w fun r0 =>
  k (.tuple #[r0, t5_1]) w) (fun _ =>
  o1 Tryz.prog (Instr.loadAt 25 t7) w fun t19 w =>
  o0 Tryz.prog (Instr.storeAt 25 t4 t19) w fun _ w =>
  mv .nilIface fun t5_2 =>
  rc Tryz.prog 25 t4 w fun r0 =>
  k (.tuple #[r0, t5_2]) w)
theorem C.types_decode_api_Header {k : Value → World → Prop} {a0 a1 : Value} {w : World} (h : F.types_decode_api_Header k a0 a1 w) : C Tryz.prog N.types_decode_api_Header #[a0, a1] w k :=
  den_calls (H := { moves := [(5, (.take 0 (.force 1 (.force 2 (.take 3 .fin)))))], vars := [5, 6] }) (args := [a0, a1]) mixed Tryz.func81 (by kernel_rfl) (by kernel_rfl) (by kernel_rfl) h

-- isthmus/types.getHeader
def F.types_getHeader (k : Value → World → Prop) (a0 : Value) (w : World) : Prop :=
  o1 Tryz.prog (Instr.alloc 25 true (.tuple #[])) w fun t2 w =>
  mv a0 fun t3 =>
  C Tryz.prog N.pack_Reader_Text #[t3, .int .i64 64] w fun t4 w =>
  mv a0 fun t5 =>
  C Tryz.prog N.pack_Reader_Int #[t5] w fun t6 w =>
  mv a0 fun t7 =>
  C Tryz.prog N.pack_Reader_Int #[t7] w fun t8 w =>
  mv a0 fun t9 =>
  C Tryz.prog N.pack_Reader_Hash #[t9] w fun t10 w =>
  mv a0 fun t11 =>
  C Tryz.prog N.pack_Reader_Hash #[t11] w fun t12 w =>
  mv a0 fun t13 =>
  C Tryz.prog N.pack_Reader_Hash #[t13] w fun t14 w =>
  mv a0 fun t15 =>
  C Tryz.prog N.pack_Reader_Hash #[t15] w fun t16 w =>
  mv a0 fun t17 =>
  C Tryz.prog N.pack_Reader_Hash #[t17] w fun t18 w =>
  mv a0 fun t19 =>
  C Tryz.prog N.pack_Reader_Int #[t19] w fun t20 w =>
  o1 Tryz.prog (Instr.build 25 #[(0, t4), (1, t6), (2, t8), (3, t10), (4, t12), (5, t14), (6, t16), (7, t18), (8, t20)]) w fun t21 w =>
  o0 Tryz.prog (Instr.storeAt 25 t2 t21) w fun _ w =>
  rc Tryz.prog 25 t2 w fun r0 =>
  k r0 w
theorem C.types_getHeader {k : Value → World → Prop} {a0 : Value} {w : World} (h : F.types_getHeader k a0 w) : C Tryz.prog N.types_getHeader #[a0] w k :=
  den_calls (H := { moves := [], vars := [] }) (args := [a0]) mixed Tryz.func82 (by kernel_rfl) (by kernel_rfl) (by kernel_rfl) h

-- isthmus/isthmusref11.ReadHeader
def F.isthmusref11_ReadHeader (k : Value → World → Prop) (a0 : Value) (w : World) : Prop :=
  o1 Tryz.prog (Instr.box 119 a0) w fun t1 w =>
  o1 Tryz.prog (Instr.alloc 119 true (.tuple #[])) w fun t2 w =>
  o1 Tryz.prog (Instr.alloc 25 true (.tuple #[])) w fun t3 w =>
  o1 Tryz.prog (Instr.build 25 #[]) w fun t6 w =>
  o1 Tryz.prog (Instr.alloc 25 true (.tuple #[])) w fun t4 w =>
  o0 Tryz.prog (Instr.storeAt 25 t4 t6) w fun _ w =>
  o1 Tryz.prog (Instr.loadAt 119 t1) w fun t8 w =>
  C Tryz.prog N.isthmusref02_ReadBytes #[t8, .int .i64 64] w fun t9 w =>
  mv t9 fun t7 =>
  o1 Tryz.prog (Instr.extract t7 0) w fun t10 w =>
  o1 Tryz.prog (Instr.extract t7 1) w fun t11 w =>
  o0 Tryz.prog (Instr.storeAt 119 t1 t10) w fun _ w =>
  mv t11 fun t5 =>
  mv t5 fun t12 =>
  o1 Tryz.prog (convert 39 9 t12) w fun t13 w =>
  o1 Tryz.prog (Instr.fieldAt 25 t4 0) w fun t14 w =>
  o0 Tryz.prog (Instr.storeAt 9 t14 t13) w fun _ w =>
  o1 Tryz.prog (Instr.loadAt 119 t1) w fun t16 w =>
  C Tryz.prog N.isthmusref02_ReadInt #[t16] w fun t17 w =>
  mv t17 fun t15 =>
  o1 Tryz.prog (Instr.extract t15 0) w fun t18 w =>
  o1 Tryz.prog (Instr.extract t15 1) w fun t19 w =>
  o0 Tryz.prog (Instr.storeAt 119 t1 t18) w fun _ w =>
  o1 Tryz.prog (Instr.fieldAt 25 t4 1) w fun t20 w =>
  o0 Tryz.prog (Instr.storeAt 3 t20 t19) w fun _ w =>
  o1 Tryz.prog (Instr.loadAt 119 t1) w fun t22 w =>
  C Tryz.prog N.isthmusref02_ReadInt #[t22] w fun t23 w =>
  mv t23 fun t21 =>
  o1 Tryz.prog (Instr.extract t21 0) w fun t24 w =>
  o1 Tryz.prog (Instr.extract t21 1) w fun t25 w =>
  o0 Tryz.prog (Instr.storeAt 119 t1 t24) w fun _ w =>
  o1 Tryz.prog (Instr.fieldAt 25 t4 2) w fun t26 w =>
  o0 Tryz.prog (Instr.storeAt 3 t26 t25) w fun _ w =>
  o1 Tryz.prog (Instr.loadAt 119 t1) w fun t28 w =>
  C Tryz.prog N.isthmusref02_ReadHash #[t28] w fun t29 w =>
  mv t29 fun t27 =>
  o1 Tryz.prog (Instr.extract t27 0) w fun t30 w =>
  o1 Tryz.prog (Instr.extract t27 1) w fun t31 w =>
  o0 Tryz.prog (Instr.storeAt 119 t1 t30) w fun _ w =>
  o1 Tryz.prog (Instr.fieldAt 25 t4 3) w fun t32 w =>
  o0 Tryz.prog (Instr.storeAt 23 t32 t31) w fun _ w =>
  o1 Tryz.prog (Instr.loadAt 119 t1) w fun t34 w =>
  C Tryz.prog N.isthmusref02_ReadHash #[t34] w fun t35 w =>
  mv t35 fun t33 =>
  o1 Tryz.prog (Instr.extract t33 0) w fun t36 w =>
  o1 Tryz.prog (Instr.extract t33 1) w fun t37 w =>
  o0 Tryz.prog (Instr.storeAt 119 t1 t36) w fun _ w =>
  o1 Tryz.prog (Instr.fieldAt 25 t4 4) w fun t38 w =>
  o0 Tryz.prog (Instr.storeAt 23 t38 t37) w fun _ w =>
  o1 Tryz.prog (Instr.loadAt 119 t1) w fun t40 w =>
  C Tryz.prog N.isthmusref02_ReadHash #[t40] w fun t41 w =>
  mv t41 fun t39 =>
  o1 Tryz.prog (Instr.extract t39 0) w fun t42 w =>
  o1 Tryz.prog (Instr.extract t39 1) w fun t43 w =>
  o0 Tryz.prog (Instr.storeAt 119 t1 t42) w fun _ w =>
  o1 Tryz.prog (Instr.fieldAt 25 t4 5) w fun t44 w =>
  o0 Tryz.prog (Instr.storeAt 23 t44 t43) w fun _ w =>
  o1 Tryz.prog (Instr.loadAt 119 t1) w fun t46 w =>
  C Tryz.prog N.isthmusref02_ReadHash #[t46] w fun t47 w =>
  mv t47 fun t45 =>
  o1 Tryz.prog (Instr.extract t45 0) w fun t48 w =>
  o1 Tryz.prog (Instr.extract t45 1) w fun t49 w =>
  o0 Tryz.prog (Instr.storeAt 119 t1 t48) w fun _ w =>
  o1 Tryz.prog (Instr.fieldAt 25 t4 6) w fun t50 w =>
  o0 Tryz.prog (Instr.storeAt 23 t50 t49) w fun _ w =>
  o1 Tryz.prog (Instr.loadAt 119 t1) w fun t52 w =>
  C Tryz.prog N.isthmusref02_ReadHash #[t52] w fun t53 w =>
  mv t53 fun t51 =>
  o1 Tryz.prog (Instr.extract t51 0) w fun t54 w =>
  o1 Tryz.prog (Instr.extract t51 1) w fun t55 w =>
  o0 Tryz.prog (Instr.storeAt 119 t1 t54) w fun _ w =>
  o1 Tryz.prog (Instr.fieldAt 25 t4 7) w fun t56 w =>
  o0 Tryz.prog (Instr.storeAt 23 t56 t55) w fun _ w =>
  o1 Tryz.prog (Instr.loadAt 119 t1) w fun t58 w =>
  C Tryz.prog N.isthmusref02_ReadInt #[t58] w fun t59 w =>
  mv t59 fun t57 =>
  o1 Tryz.prog (Instr.extract t57 0) w fun t60 w =>
  o1 Tryz.prog (Instr.extract t57 1) w fun t61 w =>
  o0 Tryz.prog (Instr.storeAt 119 t1 t60) w fun _ w =>
  o1 Tryz.prog (Instr.fieldAt 25 t4 8) w fun t62 w =>
  o0 Tryz.prog (Instr.storeAt 3 t62 t61) w fun _ w =>
  dr w.drew fun S1 =>
  tk Tryz.prog S1 (Instr.loadAt 119 t1) fun t63 =>
  tk Tryz.prog S1 (Instr.loadAt 25 t4) fun t64 =>
  o0 Tryz.prog (Instr.storeAt 119 t2 t63) w.drew fun _ w =>
  S1 w ∧
  o0 Tryz.prog (Instr.storeAt 25 t3 t64) w fun _ w =>
  rc Tryz.prog 119 t2 w fun r0 =>
  rc Tryz.prog 25 t3 w fun r1 =>
  k (.tuple #[r0, r1]) w
theorem C.isthmusref11_ReadHeader {k : Value → World → Prop} {a0 : Value} {w : World} (h : F.isthmusref11_ReadHeader k a0 w) : C Tryz.prog N.isthmusref11_ReadHeader #[a0] w k :=
  den_calls (H := { moves := [(12, (.take 0 (.take 1 (.force 2 (.last 3)))))], vars := [5] }) (args := [a0]) mixed Tryz.func83 (by kernel_rfl) (by kernel_rfl) (by kernel_rfl) h

-- isthmus/types.decode[isthmus/api.Block]
def F.types_decode_api_Block (k : Value → World → Prop) (a0 a1 : Value) (w : World) : Prop :=
  o1 Tryz.prog (Instr.alloc 31 true (.tuple #[])) w fun t4 w =>
  mv .nilIface fun t5 =>
  mv a0 fun t9 =>
  C Tryz.prog N.pack_Read #[t9] w fun t10 w =>
  mv t10 fun t6 =>
  mv a1 fun t11 =>
  mv t6 fun t12 =>
  cv Tryz.prog t11 #[t12] w fun t13 w =>
  o1 Tryz.prog (Instr.alloc 31 true (.tuple #[])) w fun t7 w =>
  o0 Tryz.prog (Instr.storeAt 31 t7 t13) w fun _ w =>
  mv t6 fun t14 =>
  C Tryz.prog N.pack_Reader_Done #[t14] w fun t15 w =>
  o1 Tryz.prog (bin .neq 34 (.tmp 15) (.const .nilIface) t15 .nilIface) w fun t16 w =>
  br t16 (fun _ =>
  o1 Tryz.prog (Instr.alloc 31 true (.tuple #[])) w fun t8 w =>
  dr w.drew fun S1 =>
  tk Tryz.prog S1 (Instr.loadAt 31 t8) fun t17 =>
  C Tryz.prog N.types_fault #[.string ⟨#[98, 121, 116, 101, 115]⟩, .int .i64 3] w.drew fun t18 w =>
  S1 w ∧
  o0 Tryz.prog (Instr.storeAt 31 t4 t17) w fun _ w =>
  S1 w ∧
  mv t18 fun t5_1 =>
  rc Tryz.prog 31 t4 w fun r0 =>
  k (.tuple #[r0, t5_1]) w) (fun _ =>
  o1 Tryz.prog (Instr.loadAt 31 t7) w fun t19 w =>
  o0 Tryz.prog (Instr.storeAt 31 t4 t19) w fun _ w =>
  mv .nilIface fun t5_2 =>
  rc Tryz.prog 31 t4 w fun r0 =>
  k (.tuple #[r0, t5_2]) w)
theorem C.types_decode_api_Block {k : Value → World → Prop} {a0 a1 : Value} {w : World} (h : F.types_decode_api_Block k a0 a1 w) : C Tryz.prog N.types_decode_api_Block #[a0, a1] w k :=
  den_calls (H := { moves := [(5, (.take 0 (.force 1 (.force 2 (.take 3 .fin)))))], vars := [5, 6] }) (args := [a0, a1]) mixed Tryz.func84 (by kernel_rfl) (by kernel_rfl) (by kernel_rfl) h

-- isthmus/types.getBlock
def F.types_getBlock (k : Value → World → Prop) (a0 : Value) (w : World) : Prop :=
  o1 Tryz.prog (Instr.alloc 31 true (.tuple #[])) w fun t2 w =>
  mv a0 fun t4 =>
  C Tryz.prog N.types_getHeader #[t4] w fun t5 w =>
  o1 Tryz.prog (Instr.build 31 #[(0, t5)]) w fun t6 w =>
  o1 Tryz.prog (Instr.alloc 31 true (.tuple #[])) w fun t3 w =>
  o0 Tryz.prog (Instr.storeAt 31 t3 t6) w fun _ w =>
  mv a0 fun t7 =>
  C Tryz.prog N.pack_Reader_Count #[t7, .int .i64 64] w fun t8 w =>
  mv (.int .i64 0) fun t9 =>
  lp [t9] w fun I1 μ1 => ∀ (x1 : Env) (w1 : World), I1 [x1 9] w1 →
  o1 Tryz.prog (bin .lss 3 (.tmp 9) (.tmp 8) (x1 9) t8) w1 fun t10 w =>
  br t10 (fun _ =>
  dr w.drew fun S1 =>
  tk Tryz.prog S1 (Instr.fieldAt 31 t3 1) fun t11 =>
  tk Tryz.prog S1 (Instr.loadAt 26 t11) fun t12 =>
  mv a0 fun t13 =>
  C Tryz.prog N.pack_Reader_Bytes #[t13, .int .i64 65536] w.drew fun t14 w =>
  S1 w ∧
  o1 Tryz.prog (Instr.buildSlice 26 1 #[(0, t14)]) w fun t15 w =>
  S1 w ∧
  ob Tryz.prog (fun _ => Builtin.append_ #[26, 26] 26 #[t12, t15]) w fun t16 w =>
  S1 w ∧
  tk Tryz.prog S1 (Instr.fieldAt 31 t3 1) fun t17 =>
  o0 Tryz.prog (Instr.storeAt 26 t17 t16) w fun _ w =>
  o1 Tryz.prog (bin .add 3 (.tmp 9) (.const (.int .i64 1)) (x1 9) (.int .i64 1)) w fun t18 w =>
  mv t18 fun t9_1 =>
  I1 [t9_1] w ∧ μ1 [t9_1] w < μ1 [x1 9] w1) (fun _ =>
  mv a0 fun t19 =>
  C Tryz.prog N.types_getCommit #[t19] w fun t20 w =>
  o1 Tryz.prog (Instr.fieldAt 31 t3 2) w fun t21 w =>
  o0 Tryz.prog (Instr.storeAt 29 t21 t20) w fun _ w =>
  o1 Tryz.prog (Instr.loadAt 31 t3) w fun t22 w =>
  o0 Tryz.prog (Instr.storeAt 31 t2 t22) w fun _ w =>
  rc Tryz.prog 31 t2 w fun r0 =>
  k r0 w)
theorem C.types_getBlock {k : Value → World → Prop} {a0 : Value} {w : World} (h : F.types_getBlock k a0 w) : C Tryz.prog N.types_getBlock #[a0] w k :=
  den_calls (H := { moves := [(4, (.take 0 (.take 1 (.take 2 (.force 3 (.force 4 (.force 5 (.take 6 (.last 7)))))))))], vars := [9] }) (args := [a0]) mixed Tryz.func85 (by kernel_rfl) (by kernel_rfl) (by kernel_rfl) h

-- isthmus/isthmusref11.ReadBlock
def F.isthmusref11_ReadBlock (k : Value → World → Prop) (a0 : Value) (w : World) : Prop :=
  o1 Tryz.prog (Instr.box 119 a0) w fun t1 w =>
  o1 Tryz.prog (Instr.alloc 119 true (.tuple #[])) w fun t2 w =>
  o1 Tryz.prog (Instr.alloc 31 true (.tuple #[])) w fun t3 w =>
  o1 Tryz.prog (Instr.build 31 #[]) w fun t8 w =>
  o1 Tryz.prog (Instr.alloc 31 true (.tuple #[])) w fun t4 w =>
  o0 Tryz.prog (Instr.storeAt 31 t4 t8) w fun _ w =>
  o1 Tryz.prog (Instr.loadAt 119 t1) w fun t10 w =>
  C Tryz.prog N.isthmusref11_ReadHeader #[t10] w fun t11 w =>
  mv t11 fun t9 =>
  o1 Tryz.prog (Instr.extract t9 0) w fun t12 w =>
  o1 Tryz.prog (Instr.extract t9 1) w fun t13 w =>
  o0 Tryz.prog (Instr.storeAt 119 t1 t12) w fun _ w =>
  o1 Tryz.prog (Instr.fieldAt 31 t4 0) w fun t14 w =>
  o0 Tryz.prog (Instr.storeAt 25 t14 t13) w fun _ w =>
  o1 Tryz.prog (Instr.loadAt 119 t1) w fun t16 w =>
  C Tryz.prog N.isthmusref02_ReadCount #[t16, .int .i64 64] w fun t17 w =>
  mv t17 fun t15 =>
  o1 Tryz.prog (Instr.extract t15 0) w fun t18 w =>
  o1 Tryz.prog (Instr.extract t15 1) w fun t19 w =>
  o0 Tryz.prog (Instr.storeAt 119 t1 t18) w fun _ w =>
  mv t19 fun t5 =>
  mv (.int .i64 0) fun t6 =>
  lp [t6, undef] w fun I1 μ1 => ∀ (x1 : Env) (w1 : World), I1 [x1 6, x1 7] w1 →
  mv (x1 6) fun t20 =>
  mv t5 fun t21 =>
  o1 Tryz.prog (bin .lss 3 (.tmp 20) (.tmp 21) t20 t21) w1 fun t22 w =>
  br t22 (fun _ =>
  mv (.slice none 0 0) fun t7 =>
  o1 Tryz.prog (Instr.loadAt 119 t1) w fun t26 w =>
  C Tryz.prog N.isthmusref02_ReadBytes #[t26, .int .i64 65536] w fun t27 w =>
  mv t27 fun t25 =>
  o1 Tryz.prog (Instr.extract t25 0) w fun t28 w =>
  o1 Tryz.prog (Instr.extract t25 1) w fun t29 w =>
  o0 Tryz.prog (Instr.storeAt 119 t1 t28) w fun _ w =>
  mv t29 fun t7_1 =>
  o1 Tryz.prog (Instr.fieldAt 31 t4 1) w fun t30 w =>
  o1 Tryz.prog (Instr.loadAt 26 t30) w fun t31 w =>
  mv t7_1 fun t32 =>
  o1 Tryz.prog (Instr.buildSlice 26 1 #[(0, t32)]) w fun t33 w =>
  ob Tryz.prog (fun _ => Builtin.append_ #[26, 26] 26 #[t31, t33]) w fun t34 w =>
  o1 Tryz.prog (Instr.fieldAt 31 t4 1) w fun t35 w =>
  o0 Tryz.prog (Instr.storeAt 26 t35 t34) w fun _ w =>
  mv (x1 6) fun t23 =>
  o1 Tryz.prog (bin .add 3 (.tmp 23) (.const (.int .i64 1)) t23 (.int .i64 1)) w fun t24 w =>
  mv t24 fun t6_1 =>
  I1 [t6_1, t7_1] w ∧ μ1 [t6_1, t7_1] w < μ1 [x1 6, x1 7] w1) (fun _ =>
  o1 Tryz.prog (Instr.loadAt 119 t1) w fun t37 w =>
  C Tryz.prog N.isthmusref11_ReadCommit #[t37] w fun t38 w =>
  mv t38 fun t36 =>
  o1 Tryz.prog (Instr.extract t36 0) w fun t39 w =>
  o1 Tryz.prog (Instr.extract t36 1) w fun t40 w =>
  o0 Tryz.prog (Instr.storeAt 119 t1 t39) w fun _ w =>
  o1 Tryz.prog (Instr.fieldAt 31 t4 2) w fun t41 w =>
  o0 Tryz.prog (Instr.storeAt 29 t41 t40) w fun _ w =>
  dr w.drew fun S1 =>
  tk Tryz.prog S1 (Instr.loadAt 119 t1) fun t42 =>
  tk Tryz.prog S1 (Instr.loadAt 31 t4) fun t43 =>
  o0 Tryz.prog (Instr.storeAt 119 t2 t42) w.drew fun _ w =>
  S1 w ∧
  o0 Tryz.prog (Instr.storeAt 31 t3 t43) w fun _ w =>
  rc Tryz.prog 119 t2 w fun r0 =>
  rc Tryz.prog 31 t3 w fun r1 =>
  k (.tuple #[r0, r1]) w)
theorem C.isthmusref11_ReadBlock {k : Value → World → Prop} {a0 : Value} {w : World} (h : F.isthmusref11_ReadBlock k a0 w) : C Tryz.prog N.isthmusref11_ReadBlock #[a0] w k :=
  den_calls (H := { moves := [(11, (.take 0 (.take 1 (.force 2 (.last 3)))))], vars := [5, 6, 7] }) (args := [a0]) mixed Tryz.func86 (by kernel_rfl) (by kernel_rfl) (by kernel_rfl) h

-- isthmus/types.EncodeVote
def F.types_EncodeVote (k : Value → World → Prop) (a0 : Value) (w : World) : Prop :=
  o1 Tryz.prog (Instr.box 49 a0) w fun t1 w =>
  mv (.slice none 0 0) fun t2 =>
  o1 Tryz.prog (Instr.loadAt 49 t1) w fun t3 w =>
  C Tryz.prog N.types_encode_api_Vote #[t3, .func (.func 124) #[] #[]] w fun t4 w =>
  mv t4 fun t2_1 =>
  k t2_1 w
theorem C.types_EncodeVote {k : Value → World → Prop} {a0 : Value} {w : World} (h : F.types_EncodeVote k a0 w) : C Tryz.prog N.types_EncodeVote #[a0] w k :=
  den_calls (H := { moves := [], vars := [2] }) (args := [a0]) mixed Tryz.func87 (by kernel_rfl) (by kernel_rfl) (by kernel_rfl) h

-- slices.ContainsFunc[[]isthmus/api.Validator,isthmus/api.Validator]
def F.slices_ContainsFunc_api_Validator_api_Validator (k : Value → World → Prop) (a0 a1 : Value) (w : World) : Prop :=
  mv (.bool false) fun t4 =>
  mv a0 fun t5 =>
  mv a1 fun t6 =>
  C Tryz.prog N.slices_IndexFunc_api_Validator_api_Validator #[t5, t6] w fun t7 w =>
  o1 Tryz.prog (bin .geq 3 (.tmp 7) (.const (.int .i64 0)) t7 (.int .i64 0)) w fun t8 w =>
  mv t8 fun t4_1 =>
  k t4_1 w
theorem C.slices_ContainsFunc_api_Validator_api_Validator {k : Value → World → Prop} {a0 a1 : Value} {w : World} (h : F.slices_ContainsFunc_api_Validator_api_Validator k a0 a1 w) : C Tryz.prog N.slices_ContainsFunc_api_Validator_api_Validator #[a0, a1] w k :=
  den_calls (H := { moves := [], vars := [4] }) (args := [a0, a1]) mixed Tryz.func91 (by kernel_rfl) (by kernel_rfl) (by kernel_rfl) h

-- isthmus/types.CheckSet$1
def F.types_CheckSet_1 (k : Value → World → Prop) (a0 a1 : Value) (w : World) : Prop :=
  o1 Tryz.prog (Instr.box 76 a0) w fun t2 w =>
  mv (.bool false) fun t3 =>
  o1 Tryz.prog (Instr.fieldAt 76 t2 0) w fun t4 w =>
  o1 Tryz.prog (Instr.loadAt 9 t4) w fun t5 w =>
  o1 Tryz.prog (Instr.fieldAt 76 a1 0) w fun t6 w =>
  o1 Tryz.prog (Instr.loadAt 9 t6) w fun t7 w =>
  o1 Tryz.prog (bin .eql 9 (.tmp 5) (.tmp 7) t5 t7) w fun t8 w =>
  mv t8 fun t3_1 =>
  k t3_1 w
theorem C.types_CheckSet_1 {k : Value → World → Prop} {a0 a1 : Value} {w : World} (h : F.types_CheckSet_1 k a0 a1 w) : C Tryz.prog N.types_CheckSet_1 #[a0, a1] w k :=
  den_calls (H := { moves := [], vars := [3] }) (args := [a0, a1]) mixed Tryz.func92 (by kernel_rfl) (by kernel_rfl) (by kernel_rfl) h

-- isthmus/pack.New
def F.pack_New (k : Value → World → Prop) (w : World) : Prop :=
  mv (.pointer none) fun t0 =>
  o1 Tryz.prog (Instr.build 209 #[]) w fun t1 w =>
  o1 Tryz.prog (Instr.box 209 t1) w fun t2 w =>
  mv t2 fun t0_1 =>
  k t0_1 w
theorem C.pack_New {k : Value → World → Prop} {w : World} (h : F.pack_New k  w) : C Tryz.prog N.pack_New #[] w k :=
  den_calls (H := { moves := [], vars := [0] }) (args := []) mixed Tryz.func93 (by kernel_rfl) (by kernel_rfl) (by kernel_rfl) h

-- isthmus/types.putValidator
def F.types_putValidator (k : Value → World → Prop) (a0 a1 : Value) (w : World) : Prop :=
  o1 Tryz.prog (Instr.box 76 a1) w fun t3 w =>
  dr w.drew fun S1 =>
  mv a0 fun t4 =>
  tk Tryz.prog S1 (Instr.fieldAt 76 t3 0) fun t5 =>
  tk Tryz.prog S1 (Instr.loadAt 9 t5) fun t6 =>
  tk Tryz.prog S1 (Instr.fieldAt 76 t3 1) fun t8 =>
  tk Tryz.prog S1 (Instr.loadAt 23 t8) fun t9 =>
  tk Tryz.prog S1 (Instr.fieldAt 76 t3 2) fun t11 =>
  tk Tryz.prog S1 (Instr.loadAt 3 t11) fun t12 =>
  C Tryz.prog N.pack_Writer_Text #[t4, t6] w.drew fun t7 w =>
  S1 w ∧
  C Tryz.prog N.pack_Writer_Hash #[t7, t9] w fun t10 w =>
  S1 w ∧
  C Tryz.prog N.pack_Writer_Int #[t10, t12] w fun t13 w =>
  k (.tuple #[]) w
theorem C.types_putValidator {k : Value → World → Prop} {a0 a1 : Value} {w : World} (h : F.types_putValidator k a0 a1 w) : C Tryz.prog N.types_putValidator #[a0, a1] w k :=
  den_calls (H := { moves := [(1, (.take 0 (.take 1 (.take 2 (.take 4 (.take 5 (.take 7 (.take 8 (.force 3 (.force 6 (.last 9)))))))))))], vars := [] }) (args := [a0, a1]) mixed Tryz.func94 (by kernel_rfl) (by kernel_rfl) (by kernel_rfl) h

-- (*isthmus/pack.Writer).Done
def F.pack_Writer_Done (k : Value → World → Prop) (a0 : Value) (w : World) : Prop :=
  mv (.slice none 0 0) fun t2 =>
  mv a0 fun t3 =>
  o1 Tryz.prog (bin .eql 142 (.tmp 3) (.const (.pointer none)) t3 (.pointer none)) w fun t4 w =>
  br t4 (fun _ =>
  mv (.slice none 0 0) fun t2_1 =>
  k t2_1 w) (fun _ =>
  mv a0 fun t5 =>
  nilOk t5 = true ∧ mv t5 fun t6 =>
  o1 Tryz.prog (Instr.fieldAt 209 t6 0) w fun t7 w =>
  o1 Tryz.prog (Instr.loadAt 39 t7) w fun t8 w =>
  ob Tryz.prog (fun _ => Builtin.append_ #[39, 39] 39 #[.slice none 0 0, t8]) w fun t9 w =>
  mv t9 fun t2_2 =>
  k t2_2 w)
theorem C.pack_Writer_Done {k : Value → World → Prop} {a0 : Value} {w : World} (h : F.pack_Writer_Done k a0 w) : C Tryz.prog N.pack_Writer_Done #[a0] w k :=
  den_calls (H := { moves := [], vars := [2] }) (args := [a0]) mixed Tryz.func95 (by kernel_rfl) (by kernel_rfl) (by kernel_rfl) h

-- isthmus/isthmusref11.validator
def F.isthmusref11_validator (k : Value → World → Prop) (a0 a1 : Value) (w : World) : Prop :=
  o1 Tryz.prog (Instr.box 76 a1) w fun t3 w =>
  mv (.slice none 0 0) fun t4 =>
  dr w.drew fun S1 =>
  mv a0 fun t5 =>
  tk Tryz.prog S1 (Instr.fieldAt 76 t3 0) fun t6 =>
  tk Tryz.prog S1 (Instr.loadAt 9 t6) fun t7 =>
  tk Tryz.prog S1 (Instr.fieldAt 76 t3 1) fun t9 =>
  tk Tryz.prog S1 (Instr.loadAt 23 t9) fun t10 =>
  tk Tryz.prog S1 (Instr.fieldAt 76 t3 2) fun t12 =>
  tk Tryz.prog S1 (Instr.loadAt 3 t12) fun t13 =>
  C Tryz.prog N.isthmusref02_Text #[t5, t7] w.drew fun t8 w =>
  S1 w ∧
  C Tryz.prog N.isthmusref02_Hash #[t8, t10] w fun t11 w =>
  S1 w ∧
  C Tryz.prog N.isthmusref02_Int #[t11, t13] w fun t14 w =>
  S1 w ∧
  mv t14 fun t4_1 =>
  k t4_1 w
theorem C.isthmusref11_validator {k : Value → World → Prop} {a0 a1 : Value} {w : World} (h : F.isthmusref11_validator k a0 a1 w) : C Tryz.prog N.isthmusref11_validator #[a0, a1] w k :=
  den_calls (H := { moves := [(1, (.take 0 (.take 1 (.take 2 (.take 4 (.take 5 (.take 7 (.take 8 (.force 3 (.force 6 (.force 9 (.take 10 .fin))))))))))))], vars := [4] }) (args := [a0, a1]) mixed Tryz.func96 (by kernel_rfl) (by kernel_rfl) (by kernel_rfl) h

-- isthmus/types.encode[[]isthmus/api.Validator]
def F.types_encode_api_Validator (k : Value → World → Prop) (a0 a1 : Value) (w : World) : Prop :=
  mv (.slice none 0 0) fun t4 =>
  C Tryz.prog N.pack_New #[] w fun t6 w =>
  mv t6 fun t5 =>
  mv a1 fun t7 =>
  mv t5 fun t8 =>
  mv a0 fun t9 =>
  cv Tryz.prog t7 #[t8, t9] w fun t10 w =>
  mv t5 fun t11 =>
  C Tryz.prog N.pack_Writer_Done #[t11] w fun t12 w =>
  mv t12 fun t4_1 =>
  k t4_1 w
theorem C.types_encode_api_Validator {k : Value → World → Prop} {a0 a1 : Value} {w : World} (h : F.types_encode_api_Validator k a0 a1 w) : C Tryz.prog N.types_encode_api_Validator #[a0, a1] w k :=
  den_calls (H := { moves := [], vars := [4, 5] }) (args := [a0, a1]) mixed Tryz.func97 (by kernel_rfl) (by kernel_rfl) (by kernel_rfl) h

-- isthmus/types.putSet
def F.types_putSet (k : Value → World → Prop) (a0 a1 : Value) (w : World) : Prop :=
  mv a0 fun t6 =>
  mv a1 fun t7 =>
  o1 Tryz.prog (Builtin.len_ #[70] 3 #[t7]) w fun t8 w =>
  o1 Tryz.prog (convert 3 105 t8) w fun t9 w =>
  C Tryz.prog N.pack_Writer_Uint #[t6, t9] w fun t10 w =>
  mv a1 fun t11 =>
  o1 Tryz.prog (Builtin.len_ #[70] 3 #[t11]) w fun t12 w =>
  mv (.int .i64 0) fun t13 =>
  lp [t13] w fun I1 μ1 => ∀ (x1 : Env) (w1 : World), I1 [x1 13] w1 →
  o1 Tryz.prog (bin .lss 3 (.tmp 13) (.tmp 12) (x1 13) t12) w1 fun t14 w =>
  br t14 (fun _ =>
  o1 Tryz.prog (Instr.indexAt 70 t11 (x1 13)) w fun t15 w =>
  o1 Tryz.prog (Instr.loadAt 76 t15) w fun t16 w =>
  o1 Tryz.prog (Instr.alloc 76 true (.tuple #[])) w fun t5 w =>
  o0 Tryz.prog (Instr.storeAt 76 t5 t16) w fun _ w =>
  mv a0 fun t17 =>
  o1 Tryz.prog (Instr.loadAt 76 t5) w fun t18 w =>
  C Tryz.prog N.types_putValidator #[t17, t18] w fun t19 w =>
  o1 Tryz.prog (bin .add 3 (.tmp 13) (.const (.int .i64 1)) (x1 13) (.int .i64 1)) w fun t20 w =>
  mv t20 fun t13_1 =>
  I1 [t13_1] w ∧ μ1 [t13_1] w < μ1 [x1 13] w1) (fun _ =>
  k (.tuple #[]) w)
theorem C.types_putSet {k : Value → World → Prop} {a0 a1 : Value} {w : World} (h : F.types_putSet k a0 a1 w) : C Tryz.prog N.types_putSet #[a0, a1] w k :=
  den_calls (H := { moves := [], vars := [13] }) (args := [a0, a1]) mixed Tryz.func98 (by kernel_rfl) (by kernel_rfl) (by kernel_rfl) h

-- (*isthmus/pack.Writer).Text
def F.pack_Writer_Text (k : Value → World → Prop) (a0 a1 : Value) (w : World) : Prop :=
  mv (.pointer none) fun t4 =>
  mv a0 fun t5 =>
  mv a1 fun t6 =>
  o1 Tryz.prog (convert 9 39 t6) w fun t7 w =>
  C Tryz.prog N.pack_Writer_Bytes #[t5, t7] w fun t8 w =>
  mv t8 fun t4_1 =>
  k t4_1 w
theorem C.pack_Writer_Text {k : Value → World → Prop} {a0 a1 : Value} {w : World} (h : F.pack_Writer_Text k a0 a1 w) : C Tryz.prog N.pack_Writer_Text #[a0, a1] w k :=
  den_calls (H := { moves := [], vars := [4] }) (args := [a0, a1]) mixed Tryz.func103 (by kernel_rfl) (by kernel_rfl) (by kernel_rfl) h

-- (*isthmus/pack.Writer).Int
def F.pack_Writer_Int (k : Value → World → Prop) (a0 a1 : Value) (w : World) : Prop :=
  mv (.pointer none) fun t4 =>
  mv a0 fun t5 =>
  mv a1 fun t6 =>
  o1 Tryz.prog (convert 3 105 t6) w fun t7 w =>
  o1 Tryz.prog (bin .shl 105 (.tmp 7) (.const (.int .u64 1)) t7 (.int .u64 1)) w fun t8 w =>
  mv a1 fun t9 =>
  o1 Tryz.prog (bin .shr 3 (.tmp 9) (.const (.int .u64 63)) t9 (.int .u64 63)) w fun t10 w =>
  o1 Tryz.prog (convert 3 105 t10) w fun t11 w =>
  o1 Tryz.prog (bin .xor 105 (.tmp 8) (.tmp 11) t8 t11) w fun t12 w =>
  C Tryz.prog N.pack_Writer_Uint #[t5, t12] w fun t13 w =>
  mv t13 fun t4_1 =>
  k t4_1 w
theorem C.pack_Writer_Int {k : Value → World → Prop} {a0 a1 : Value} {w : World} (h : F.pack_Writer_Int k a0 a1 w) : C Tryz.prog N.pack_Writer_Int #[a0, a1] w k :=
  den_calls (H := { moves := [], vars := [4] }) (args := [a0, a1]) mixed Tryz.func104 (by kernel_rfl) (by kernel_rfl) (by kernel_rfl) h

-- (*isthmus/pack.Writer).Hash
def F.pack_Writer_Hash (k : Value → World → Prop) (a0 a1 : Value) (w : World) : Prop :=
  o1 Tryz.prog (Instr.box 23 a1) w fun t3 w =>
  mv (.pointer none) fun t4 =>
  mv a0 fun t5 =>
  o1 Tryz.prog (Instr.sliceAt 23 t3 none none none) w fun t6 w =>
  C Tryz.prog N.pack_Writer_raw #[t5, t6] w fun t7 w =>
  mv t7 fun t4_1 =>
  k t4_1 w
theorem C.pack_Writer_Hash {k : Value → World → Prop} {a0 a1 : Value} {w : World} (h : F.pack_Writer_Hash k a0 a1 w) : C Tryz.prog N.pack_Writer_Hash #[a0, a1] w k :=
  den_calls (H := { moves := [], vars := [4] }) (args := [a0, a1]) mixed Tryz.func105 (by kernel_rfl) (by kernel_rfl) (by kernel_rfl) h

-- errors.as
def F.errors_as (k : Value → World → Prop) (a0 a1 a2 a3 : Value) (w : World) : Prop :=
  o1 Tryz.prog (Instr.box 159 a2) w fun t6 w =>
  mv (.bool false) fun t8 =>
  lp [a0, t8, undef, undef, undef, undef, undef, undef, undef] w fun I1 μ1 => ∀ (x1 : Env) (w1 : World), I1 [x1 0, x1 8, x1 9, x1 10, x1 11, x1 12, x1 14, x1 15, x1 50] w1 →
  mv (x1 0) fun t16 =>
  oN Tryz.prog (callFunc N.internal_reflectlite_TypeOf #[t16]) w1 fun t17 w =>
  mv a3 fun t18 =>
  iv Tryz.prog t17 "AssignableTo" #[t18] w fun t19 w =>
  br t19 (fun _ =>
  o1 Tryz.prog (Instr.loadAt 159 t6) w fun t20 w =>
  oN Tryz.prog (callFunc N.internal_reflectlite_Value_Elem #[t20]) w fun t21 w =>
  mv (x1 0) fun t22 =>
  oN Tryz.prog (callFunc N.internal_reflectlite_ValueOf #[t22]) w fun t23 w =>
  oN Tryz.prog (callFunc N.internal_reflectlite_Value_Set #[t21, t23]) w fun t24 w =>
  mv (.bool true) fun t8_1 =>
  k t8_1 w) (fun _ =>
  mv (x1 0) fun t26 =>
  o1 Tryz.prog (Instr.typeAssert t26 34 236 true) w fun t27 w =>
  mv t27 fun t25 =>
  o1 Tryz.prog (Instr.extract t25 0) w fun t28 w =>
  o1 Tryz.prog (Instr.extract t25 1) w fun t29 w =>
  mv t28 fun t9 =>
  mv t29 fun t10 =>
  mv t10 fun t30 =>
  mv t30 fun t31 =>
  gd t31 true (fun k1 => mv t9 fun v => k1 v w) w fun t32 w =>
  gd t31 true (fun k2 => mv a1 fun v => k2 v w) w fun t33 w =>
  gd t31 true (fun k3 => iv Tryz.prog t32 "As" #[t33] w k3) w fun t34 w =>
  pk t31 t34 (.bool false) fun t35 =>
  br t35 (fun _ =>
  mv (.bool true) fun t8_2 =>
  k t8_2 w) (fun _ =>
  mv (x1 0) fun t36 =>
  o1 Tryz.prog (Instr.typeAssert t36 34 239 true) w fun t37 w =>
  o1 Tryz.prog (Instr.extract t37 1) w fun t38 w =>
  o1 Tryz.prog (Instr.extract t37 0) w fun t39 w =>
  br t38 (fun _ =>
  mv t39 fun t11 =>
  mv t11 fun t40 =>
  iv Tryz.prog t40 "Unwrap" #[] w fun t41 w =>
  mv t41 fun t0 =>
  mv t0 fun t42 =>
  o1 Tryz.prog (bin .eql 34 (.tmp 42) (.const .nilIface) t42 .nilIface) w fun t43 w =>
  br t43 (fun _ =>
  mv (.bool false) fun t8_3 =>
  k t8_3 w) (fun _ =>
  I1 [t0, (x1 8), t9, t10, t11, (x1 12), (x1 14), (x1 15), (x1 50)] w ∧ μ1 [t0, (x1 8), t9, t10, t11, (x1 12), (x1 14), (x1 15), (x1 50)] w < μ1 [x1 0, x1 8, x1 9, x1 10, x1 11, x1 12, x1 14, x1 15, x1 50] w1)) (fun _ =>
  o1 Tryz.prog (Instr.typeAssert t36 34 240 true) w fun t44 w =>
  o1 Tryz.prog (Instr.extract t44 1) w fun t45 w =>
  o1 Tryz.prog (Instr.extract t44 0) w fun t46 w =>
  br t45 (fun _ =>
  mv t46 fun t12 =>
  mv t12 fun t47 =>
  iv Tryz.prog t47 "Unwrap" #[] w fun t48 w =>
  o1 Tryz.prog (Builtin.len_ #[241] 3 #[t48]) w fun t49 w =>
  mv (.int .i64 0) fun t50 =>
  lp [(x1 8), (x1 14), t50] w fun I2 μ2 => ∀ (x2 : Env) (w2 : World), I2 [x2 8, x2 14, x2 50] w2 →
  o1 Tryz.prog (bin .lss 3 (.tmp 50) (.tmp 49) (x2 50) t49) w2 fun t51 w =>
  br t51 (fun _ =>
  jn (fun x3 => [x3 8, x3 14]) (fun k4 =>
  o1 Tryz.prog (Instr.indexAt 241 t48 (x2 50)) w fun t52 w =>
  o1 Tryz.prog (Instr.loadAt 34 t52) w fun t53 w =>
  mv t53 fun t14 =>
  mv t14 fun t54 =>
  o1 Tryz.prog (bin .eql 34 (.tmp 54) (.const .nilIface) t54 .nilIface) w fun t55 w =>
  br t55 (fun _ =>
  k4 [(x2 8), t14] w) (fun _ =>
  mv t14 fun t56 =>
  mv a1 fun t57 =>
  o1 Tryz.prog (Instr.loadAt 159 t6) w fun t58 w =>
  mv a3 fun t59 =>
  C Tryz.prog N.errors_as #[t56, t57, t58, t59] w fun t60 w =>
  br t60 (fun _ =>
  mv (.bool true) fun t8_4 =>
  k t8_4 w) (fun _ =>
  k4 [(x2 8), t14] w))) fun x3 w =>
  o1 Tryz.prog (bin .add 3 (.tmp 50) (.const (.int .i64 1)) (x2 50) (.int .i64 1)) w fun t61 w =>
  mv t61 fun t50_1 =>
  I2 [(x3 8), (x3 14), t50_1] w ∧ μ2 [(x3 8), (x3 14), t50_1] w < μ2 [x2 8, x2 14, x2 50] w2) (fun _ =>
  mv (.bool false) fun t8_5 =>
  k t8_5 w)) (fun _ =>
  mv t36 fun t15 =>
  mv (.bool false) fun t8_6 =>
  k t8_6 w))))
theorem C.errors_as {k : Value → World → Prop} {a0 a1 a2 a3 : Value} {w : World} (h : F.errors_as k a0 a1 a2 a3 w) : C Tryz.prog N.errors_as #[a0, a1, a2, a3] w k :=
  den_calls (H := { moves := [], vars := [0, 8, 9, 10, 11, 12, 14, 15, 50] }) (args := [a0, a1, a2, a3]) mixed Tryz.func109 (by kernel_rfl) (by kernel_rfl) (by kernel_rfl) h

-- slices.ContainsFunc[[]byte,byte]
def F.slices_ContainsFunc_byte_byte_110 (k : Value → World → Prop) (a0 a1 : Value) (w : World) : Prop :=
  mv (.bool false) fun t4 =>
  mv a0 fun t5 =>
  mv a1 fun t6 =>
  C Tryz.prog N.slices_IndexFunc_byte_byte_154 #[t5, t6] w fun t7 w =>
  o1 Tryz.prog (bin .geq 3 (.tmp 7) (.const (.int .i64 0)) t7 (.int .i64 0)) w fun t8 w =>
  mv t8 fun t4_1 =>
  k t4_1 w
theorem C.slices_ContainsFunc_byte_byte_110 {k : Value → World → Prop} {a0 a1 : Value} {w : World} (h : F.slices_ContainsFunc_byte_byte_110 k a0 a1 w) : C Tryz.prog N.slices_ContainsFunc_byte_byte_110 #[a0, a1] w k :=
  den_calls (H := { moves := [], vars := [4] }) (args := [a0, a1]) mixed Tryz.func110 (by kernel_rfl) (by kernel_rfl) (by kernel_rfl) h

-- isthmus/types.named$1
def F.types_named_1 (k : Value → World → Prop) (a0 : Value) (w : World) : Prop :=
  mv (.bool false) fun t2 =>
  mv a0 fun t3 =>
  o1 Tryz.prog (bin .lss 5 (.tmp 3) (.const (.int .u8 33)) t3 (.int .u8 33)) w fun t4 w =>
  mv t4 fun t5 =>
  gd t5 false (fun k1 => mv a0 fun v => k1 v w) w fun t6 w =>
  gd t5 false (fun k2 => o1 Tryz.prog (bin .gtr 5 (.tmp 6) (.const (.int .u8 126)) t6 (.int .u8 126)) w k2) w fun t7 w =>
  pk t5 (.bool true) t7 fun t8 =>
  mv t8 fun t2_1 =>
  k t2_1 w
theorem C.types_named_1 {k : Value → World → Prop} {a0 : Value} {w : World} (h : F.types_named_1 k a0 w) : C Tryz.prog N.types_named_1 #[a0] w k :=
  den_calls (H := { moves := [], vars := [2] }) (args := [a0]) mixed Tryz.func111 (by kernel_rfl) (by kernel_rfl) (by kernel_rfl) h

-- (*isthmus/pack.Writer).Uint
def F.pack_Writer_Uint (k : Value → World → Prop) (a0 a1 : Value) (w : World) : Prop :=
  mv (.pointer none) fun t4 =>
  mv a0 fun t5 =>
  o1 Tryz.prog (bin .eql 142 (.tmp 5) (.const (.pointer none)) t5 (.pointer none)) w fun t6 w =>
  br t6 (fun _ =>
  mv (.pointer none) fun t4_1 =>
  k t4_1 w) (fun _ =>
  lp [a1] w fun I1 μ1 => ∀ (x1 : Env) (w1 : World), I1 [x1 1] w1 →
  mv (x1 1) fun t7 =>
  o1 Tryz.prog (bin .geq 105 (.tmp 7) (.const (.int .u64 128)) t7 (.int .u64 128)) w1 fun t8 w =>
  br t8 (fun _ =>
  mv a0 fun t11 =>
  mv a0 fun t12 =>
  nilOk t12 = true ∧ mv t12 fun t13 =>
  o1 Tryz.prog (Instr.fieldAt 209 t13 0) w fun t14 w =>
  o1 Tryz.prog (Instr.loadAt 39 t14) w fun t15 w =>
  mv (x1 1) fun t16 =>
  o1 Tryz.prog (convert 105 5 t16) w fun t17 w =>
  o1 Tryz.prog (bin .or 5 (.tmp 17) (.const (.int .u8 128)) t17 (.int .u8 128)) w fun t18 w =>
  o1 Tryz.prog (Instr.buildSlice 39 1 #[(0, t18)]) w fun t19 w =>
  ob Tryz.prog (fun _ => Builtin.append_ #[39, 39] 39 #[t15, t19]) w fun t20 w =>
  nilOk t11 = true ∧ mv t11 fun t21 =>
  o1 Tryz.prog (Instr.fieldAt 209 t21 0) w fun t22 w =>
  o0 Tryz.prog (Instr.storeAt 39 t22 t20) w fun _ w =>
  mv (x1 1) fun t9 =>
  o1 Tryz.prog (bin .shr 105 (.tmp 9) (.const (.int .u64 7)) t9 (.int .u64 7)) w fun t10 w =>
  mv t10 fun t1 =>
  I1 [t1] w ∧ μ1 [t1] w < μ1 [x1 1] w1) (fun _ =>
  mv a0 fun t23 =>
  mv a0 fun t24 =>
  nilOk t24 = true ∧ mv t24 fun t25 =>
  o1 Tryz.prog (Instr.fieldAt 209 t25 0) w fun t26 w =>
  o1 Tryz.prog (Instr.loadAt 39 t26) w fun t27 w =>
  mv (x1 1) fun t28 =>
  o1 Tryz.prog (convert 105 5 t28) w fun t29 w =>
  o1 Tryz.prog (Instr.buildSlice 39 1 #[(0, t29)]) w fun t30 w =>
  ob Tryz.prog (fun _ => Builtin.append_ #[39, 39] 39 #[t27, t30]) w fun t31 w =>
  nilOk t23 = true ∧ mv t23 fun t32 =>
  o1 Tryz.prog (Instr.fieldAt 209 t32 0) w fun t33 w =>
  o0 Tryz.prog (Instr.storeAt 39 t33 t31) w fun _ w =>
  mv a0 fun t34 =>
  mv t34 fun t4_2 =>
  k t4_2 w))
theorem C.pack_Writer_Uint {k : Value → World → Prop} {a0 a1 : Value} {w : World} (h : F.pack_Writer_Uint k a0 a1 w) : C Tryz.prog N.pack_Writer_Uint #[a0, a1] w k :=
  den_calls (H := { moves := [], vars := [1, 4] }) (args := [a0, a1]) mixed Tryz.func122 (by kernel_rfl) (by kernel_rfl) (by kernel_rfl) h

-- (*isthmus/pack.Writer).Bytes
def F.pack_Writer_Bytes (k : Value → World → Prop) (a0 a1 : Value) (w : World) : Prop :=
  mv (.pointer none) fun t4 =>
  mv a0 fun t5 =>
  mv a1 fun t6 =>
  o1 Tryz.prog (Builtin.len_ #[39] 3 #[t6]) w fun t7 w =>
  o1 Tryz.prog (convert 3 105 t7) w fun t8 w =>
  C Tryz.prog N.pack_Writer_Uint #[t5, t8] w fun t9 w =>
  mv a1 fun t10 =>
  C Tryz.prog N.pack_Writer_raw #[t9, t10] w fun t11 w =>
  mv t11 fun t4_1 =>
  k t4_1 w
theorem C.pack_Writer_Bytes {k : Value → World → Prop} {a0 a1 : Value} {w : World} (h : F.pack_Writer_Bytes k a0 a1 w) : C Tryz.prog N.pack_Writer_Bytes #[a0, a1] w k :=
  den_calls (H := { moves := [], vars := [4] }) (args := [a0, a1]) mixed Tryz.func123 (by kernel_rfl) (by kernel_rfl) (by kernel_rfl) h

-- isthmus/types.putVote
def F.types_putVote (k : Value → World → Prop) (a0 a1 : Value) (w : World) : Prop :=
  o1 Tryz.prog (Instr.box 49 a1) w fun t3 w =>
  dr w.drew fun S1 =>
  mv a0 fun t4 =>
  tk Tryz.prog S1 (Instr.fieldAt 49 t3 0) fun t5 =>
  tk Tryz.prog S1 (Instr.loadAt 3 t5) fun t6 =>
  tk Tryz.prog S1 (Instr.fieldAt 49 t3 1) fun t8 =>
  tk Tryz.prog S1 (Instr.loadAt 3 t8) fun t9 =>
  tk Tryz.prog S1 (Instr.fieldAt 49 t3 2) fun t11 =>
  tk Tryz.prog S1 (Instr.loadAt 3 t11) fun t12 =>
  tk Tryz.prog S1 (Instr.fieldAt 49 t3 3) fun t14 =>
  tk Tryz.prog S1 (Instr.loadAt 23 t14) fun t15 =>
  tk Tryz.prog S1 (Instr.fieldAt 49 t3 4) fun t17 =>
  tk Tryz.prog S1 (Instr.loadAt 3 t17) fun t18 =>
  tk Tryz.prog S1 (Instr.fieldAt 49 t3 5) fun t20 =>
  tk Tryz.prog S1 (Instr.loadAt 39 t20) fun t21 =>
  C Tryz.prog N.pack_Writer_Int #[t4, t6] w.drew fun t7 w =>
  S1 w ∧
  C Tryz.prog N.pack_Writer_Int #[t7, t9] w fun t10 w =>
  S1 w ∧
  C Tryz.prog N.pack_Writer_Int #[t10, t12] w fun t13 w =>
  S1 w ∧
  C Tryz.prog N.pack_Writer_Hash #[t13, t15] w fun t16 w =>
  S1 w ∧
  C Tryz.prog N.pack_Writer_Int #[t16, t18] w fun t19 w =>
  S1 w ∧
  C Tryz.prog N.pack_Writer_Bytes #[t19, t21] w fun t22 w =>
  k (.tuple #[]) w
theorem C.types_putVote {k : Value → World → Prop} {a0 a1 : Value} {w : World} (h : F.types_putVote k a0 a1 w) : C Tryz.prog N.types_putVote #[a0, a1] w k :=
  den_calls (H := { moves := [(1, (.take 0 (.take 1 (.take 2 (.take 4 (.take 5 (.take 7 (.take 8 (.take 10 (.take 11 (.take 13 (.take 14 (.take 16 (.take 17 (.force 3 (.force 6 (.force 9 (.force 12 (.force 15 (.last 18))))))))))))))))))))], vars := [] }) (args := [a0, a1]) mixed Tryz.func124 (by kernel_rfl) (by kernel_rfl) (by kernel_rfl) h

-- isthmus/types.VerifyTrust$1
def F.types_VerifyTrust_1 (k : Value → World → Prop) (a0 a1 a2 : Value) (w : World) : Prop :=
  o1 Tryz.prog (Instr.box 76 a0) w fun t3 w =>
  mv (.bool false) fun t4 =>
  o1 Tryz.prog (Instr.fieldAt 29 a1 3) w fun t5 w =>
  o1 Tryz.prog (Instr.loadAt 27 t5) w fun t6 w =>
  o1 Tryz.prog (Instr.makeFunc (.func 127) #[] #[a2, t3]) w fun t7 w =>
  C Tryz.prog N.slices_ContainsFunc_api_Vote_api_Vote #[t6, t7] w fun t8 w =>
  mv t8 fun t4_1 =>
  k t4_1 w
theorem C.types_VerifyTrust_1 {k : Value → World → Prop} {a0 a1 a2 : Value} {w : World} (h : F.types_VerifyTrust_1 k a0 a1 a2 w) : C Tryz.prog N.types_VerifyTrust_1 #[a0, a1, a2] w k :=
  den_calls (H := { moves := [], vars := [4] }) (args := [a0, a1, a2]) mixed Tryz.func125 (by kernel_rfl) (by kernel_rfl) (by kernel_rfl) h

-- slices.ContainsFunc[[]isthmus/api.Vote,isthmus/api.Vote]
def F.slices_ContainsFunc_api_Vote_api_Vote (k : Value → World → Prop) (a0 a1 : Value) (w : World) : Prop :=
  mv (.bool false) fun t4 =>
  mv a0 fun t5 =>
  mv a1 fun t6 =>
  C Tryz.prog N.slices_IndexFunc_api_Vote_api_Vote #[t5, t6] w fun t7 w =>
  o1 Tryz.prog (bin .geq 3 (.tmp 7) (.const (.int .i64 0)) t7 (.int .i64 0)) w fun t8 w =>
  mv t8 fun t4_1 =>
  k t4_1 w
theorem C.slices_ContainsFunc_api_Vote_api_Vote {k : Value → World → Prop} {a0 a1 : Value} {w : World} (h : F.slices_ContainsFunc_api_Vote_api_Vote k a0 a1 w) : C Tryz.prog N.slices_ContainsFunc_api_Vote_api_Vote #[a0, a1] w k :=
  den_calls (H := { moves := [], vars := [4] }) (args := [a0, a1]) mixed Tryz.func126 (by kernel_rfl) (by kernel_rfl) (by kernel_rfl) h

-- isthmus/types.VerifyTrust$1$1
def F.types_VerifyTrust_1_1 (k : Value → World → Prop) (a0 a1 a2 : Value) (w : World) : Prop :=
  o1 Tryz.prog (Instr.box 49 a0) w fun t3 w =>
  mv (.bool false) fun t4 =>
  tk Tryz.prog (fun w' => w' = w.drew) (Instr.fieldAt 49 t3 4) fun t5 =>
  tk Tryz.prog (fun w' => w' = w.drew) (Instr.loadAt 3 t5) fun t6 =>
  tk Tryz.prog (fun w' => w' = w.drew) (bin .geq 3 (.tmp 6) (.const (.int .i64 0)) t6 (.int .i64 0)) fun t7 =>
  mv t7 fun t8 =>
  gdT t8 true (fun k1 => tk Tryz.prog (fun w' => w' = w.drew) (Instr.fieldAt 49 t3 4) k1) fun t9 =>
  gdT t8 true (fun k2 => tk Tryz.prog (fun w' => w' = w.drew) (Instr.loadAt 3 t9) k2) fun t10 =>
  gdT t8 true (fun k3 => tk Tryz.prog (fun w' => w' = w.drew) (Instr.loadAt 70 a1) k3) fun t11 =>
  gdT t8 true (fun k4 => tk Tryz.prog (fun w' => w' = w.drew) (Builtin.len_ #[70] 3 #[t11]) k4) fun t12 =>
  gdT t8 true (fun k5 => tk Tryz.prog (fun w' => w' = w.drew) (bin .lss 3 (.tmp 10) (.tmp 12) t10 t12) k5) fun t13 =>
  pk t8 t13 (.bool false) fun t14 =>
  mv t14 fun t15 =>
  gdT t15 true (fun k6 => tk Tryz.prog (fun w' => w' = w.drew) (Instr.loadAt 70 a1) k6) fun t16 =>
  gdT t15 true (fun k7 => tk Tryz.prog (fun w' => w' = w.drew) (Instr.fieldAt 49 t3 4) k7) fun t17 =>
  gdT t15 true (fun k8 => tk Tryz.prog (fun w' => w' = w.drew) (Instr.loadAt 3 t17) k8) fun t18 =>
  gdT t15 true (fun k9 => tk Tryz.prog (fun w' => w' = w.drew) (Instr.indexAt 70 t16 t18) k9) fun t19 =>
  gdT t15 true (fun k10 => tk Tryz.prog (fun w' => w' = w.drew) (Instr.fieldAt 76 t19 0) k10) fun t20 =>
  gdT t15 true (fun k11 => tk Tryz.prog (fun w' => w' = w.drew) (Instr.loadAt 9 t20) k11) fun t21 =>
  gdT t15 true (fun k12 => tk Tryz.prog (fun w' => w' = w.drew) (Instr.fieldAt 76 a2 0) k12) fun t22 =>
  gdT t15 true (fun k13 => tk Tryz.prog (fun w' => w' = w.drew) (Instr.loadAt 9 t22) k13) fun t23 =>
  gdT t15 true (fun k14 => tk Tryz.prog (fun w' => w' = w.drew) (bin .eql 9 (.tmp 21) (.tmp 23) t21 t23) k14) fun t24 =>
  pk t15 t24 (.bool false) fun t25 =>
  mv t25 fun t26 =>
  gdT t26 true (fun k15 => tk Tryz.prog (fun w' => w' = w.drew) (Instr.loadAt 70 a1) k15) fun t27 =>
  gdT t26 true (fun k16 => tk Tryz.prog (fun w' => w' = w.drew) (Instr.fieldAt 49 t3 4) k16) fun t28 =>
  gdT t26 true (fun k17 => tk Tryz.prog (fun w' => w' = w.drew) (Instr.loadAt 3 t28) k17) fun t29 =>
  gdT t26 true (fun k18 => tk Tryz.prog (fun w' => w' = w.drew) (Instr.indexAt 70 t27 t29) k18) fun t30 =>
  gdT t26 true (fun k19 => tk Tryz.prog (fun w' => w' = w.drew) (Instr.fieldAt 76 t30 1) k19) fun t31 =>
  gdT t26 true (fun k20 => tk Tryz.prog (fun w' => w' = w.drew) (Instr.loadAt 23 t31) k20) fun t32 =>
  gdT t26 true (fun k21 => tk Tryz.prog (fun w' => w' = w.drew) (Instr.fieldAt 76 a2 1) k21) fun t33 =>
  gdT t26 true (fun k22 => tk Tryz.prog (fun w' => w' = w.drew) (Instr.loadAt 23 t33) k22) fun t34 =>
  gdT t26 true (fun k23 => tk Tryz.prog (fun w' => w' = w.drew) (bin .eql 23 (.tmp 32) (.tmp 34) t32 t34) k23) fun t35 =>
  pk t26 t35 (.bool false) fun t36 =>
  mv t36 fun t4_1 =>
  k t4_1 w.drew
theorem C.types_VerifyTrust_1_1 {k : Value → World → Prop} {a0 a1 a2 : Value} {w : World} (h : F.types_VerifyTrust_1_1 k a0 a1 a2 w) : C Tryz.prog N.types_VerifyTrust_1_1 #[a0, a1, a2] w k :=
  den_calls (H := { moves := [(1, (.take 0 (.take 1 (.take 2 (.take 3 (.take 4 (.take 5 (.take 6 (.take 7 (.take 8 (.take 9 (.take 10 (.take 11 (.take 12 (.take 13 (.take 14 (.take 15 (.take 16 (.take 17 (.take 18 (.take 19 (.take 20 (.take 21 (.take 22 (.take 23 (.take 24 (.take 25 (.take 26 (.take 27 (.take 28 (.take 29 (.take 30 (.take 31 (.take 32 .fin))))))))))))))))))))))))))))))))))], vars := [4] }) (args := [a0, a1, a2]) mixed Tryz.func127 (by kernel_rfl) (by kernel_rfl) (by kernel_rfl) h

-- isthmus/pack.Read
def F.pack_Read (k : Value → World → Prop) (a0 : Value) (w : World) : Prop :=
  mv (.pointer none) fun t2 =>
  mv a0 fun t3 =>
  o1 Tryz.prog (Instr.build 250 #[(0, t3)]) w fun t4 w =>
  o1 Tryz.prog (Instr.box 250 t4) w fun t5 w =>
  mv t5 fun t2_1 =>
  k t2_1 w
theorem C.pack_Read {k : Value → World → Prop} {a0 : Value} {w : World} (h : F.pack_Read k a0 w) : C Tryz.prog N.pack_Read #[a0] w k :=
  den_calls (H := { moves := [], vars := [2] }) (args := [a0]) mixed Tryz.func128 (by kernel_rfl) (by kernel_rfl) (by kernel_rfl) h

-- (*isthmus/pack.Reader).Done
def F.pack_Reader_Done (k : Value → World → Prop) (a0 : Value) (w : World) : Prop :=
  mv .nilIface fun t2 =>
  mv a0 fun t3 =>
  C Tryz.prog N.pack_Reader_live #[t3] w fun t4 w =>
  mv t4 fun t5 =>
  gd t5 true (fun k1 => mv a0 fun v => k1 v w) w fun t6 w =>
  gd t5 true (fun k2 => nilOk t6 = true ∧ mv t6 fun v => k2 v w) w fun t7 w =>
  gd t5 true (fun k3 => o1 Tryz.prog (Instr.fieldAt 250 t7 0) w k3) w fun t8 w =>
  gd t5 true (fun k4 => o1 Tryz.prog (Instr.loadAt 39 t8) w k4) w fun t9 w =>
  gd t5 true (fun k5 => o1 Tryz.prog (Builtin.len_ #[39] 3 #[t9]) w k5) w fun t10 w =>
  gd t5 true (fun k6 => o1 Tryz.prog (bin .gtr 3 (.tmp 10) (.const (.int .i64 0)) t10 (.int .i64 0)) w k6) w fun t11 w =>
  pk t5 t11 (.bool false) fun t12 =>
  br t12 (fun _ =>
  o1 Tryz.prog (Instr.makeInterface 93 (.int .i64 3)) w fun t13 w =>
  o1 Tryz.prog (Instr.build 173 #[(0, .string ⟨#[101, 110, 100]⟩), (1, t13)]) w fun t14 w =>
  o1 Tryz.prog (Instr.box 173 t14) w fun t15 w =>
  o1 Tryz.prog (Instr.makeInterface 171 t15) w fun t16 w =>
  mv t16 fun t2_1 =>
  k t2_1 w) (fun _ =>
  mv a0 fun t17 =>
  C Tryz.prog N.pack_Reader_Err #[t17] w fun t18 w =>
  mv t18 fun t2_2 =>
  k t2_2 w)
theorem C.pack_Reader_Done {k : Value → World → Prop} {a0 : Value} {w : World} (h : F.pack_Reader_Done k a0 w) : C Tryz.prog N.pack_Reader_Done #[a0] w k :=
  den_calls (H := { moves := [], vars := [2] }) (args := [a0]) mixed Tryz.func129 (by kernel_rfl) (by kernel_rfl) (by kernel_rfl) h

-- (*isthmus/pack.Reader).Int
def F.pack_Reader_Int (k : Value → World → Prop) (a0 : Value) (w : World) : Prop :=
  mv (.int .i64 0) fun t2 =>
  mv a0 fun t4 =>
  C Tryz.prog N.pack_Reader_Uint #[t4, .int .u64 18446744073709551615] w fun t5 w =>
  mv t5 fun t3 =>
  mv t3 fun t6 =>
  o1 Tryz.prog (bin .shr 105 (.tmp 6) (.const (.int .u64 1)) t6 (.int .u64 1)) w fun t7 w =>
  o1 Tryz.prog (convert 105 3 t7) w fun t8 w =>
  mv t3 fun t9 =>
  o1 Tryz.prog (bin .and 105 (.tmp 9) (.const (.int .u64 1)) t9 (.int .u64 1)) w fun t10 w =>
  o1 Tryz.prog (convert 105 3 t10) w fun t11 w =>
  o1 Tryz.prog (Op.unary .neg t11) w fun t12 w =>
  o1 Tryz.prog (bin .xor 3 (.tmp 8) (.tmp 12) t8 t12) w fun t13 w =>
  mv t13 fun t2_1 =>
  k t2_1 w
theorem C.pack_Reader_Int {k : Value → World → Prop} {a0 : Value} {w : World} (h : F.pack_Reader_Int k a0 w) : C Tryz.prog N.pack_Reader_Int #[a0] w k :=
  den_calls (H := { moves := [], vars := [2, 3] }) (args := [a0]) mixed Tryz.func130 (by kernel_rfl) (by kernel_rfl) (by kernel_rfl) h

-- (*isthmus/pack.Reader).Hash
def F.pack_Reader_Hash (k : Value → World → Prop) (a0 : Value) (w : World) : Prop :=
  o1 Tryz.prog (Instr.alloc 23 true (.tuple #[])) w fun t2 w =>
  o1 Tryz.prog (Instr.alloc 23 true (.tuple #[])) w fun t3 w =>
  dr w.drew fun S1 =>
  tk Tryz.prog S1 (Instr.sliceAt 23 t3 none none none) fun t4 =>
  mv a0 fun t5 =>
  C Tryz.prog N.pack_Reader_take #[t5, .string ⟨#[115, 117, 109]⟩, .int .i64 32] w.drew fun t6 w =>
  S1 w ∧
  ob Tryz.prog (fun _ => Builtin.copy_ #[39, 39] 3 #[t4, t6]) w fun t7 w =>
  o1 Tryz.prog (Instr.loadAt 23 t3) w fun t8 w =>
  o0 Tryz.prog (Instr.storeAt 23 t2 t8) w fun _ w =>
  rc Tryz.prog 23 t2 w fun r0 =>
  k r0 w
theorem C.pack_Reader_Hash {k : Value → World → Prop} {a0 : Value} {w : World} (h : F.pack_Reader_Hash k a0 w) : C Tryz.prog N.pack_Reader_Hash #[a0] w k :=
  den_calls (H := { moves := [(2, (.take 0 (.take 1 (.force 2 (.last 3)))))], vars := [] }) (args := [a0]) mixed Tryz.func131 (by kernel_rfl) (by kernel_rfl) (by kernel_rfl) h

-- (*isthmus/pack.Reader).Bytes
def F.pack_Reader_Bytes (k : Value → World → Prop) (a0 a1 : Value) (w : World) : Prop :=
  mv (.slice none 0 0) fun t4 =>
  mv a1 fun t7 =>
  o1 Tryz.prog (bin .lss 3 (.tmp 7) (.const (.int .i64 0)) t7 (.int .i64 0)) w fun t8 w =>
  jn (fun x1 => []) (fun k1 =>
  br t8 (fun _ =>
  mv a0 fun t9 =>
  C Tryz.prog N.pack_Reader_fail #[t9, .string ⟨#[98, 111, 117, 110, 100]⟩, .int .i64 1] w fun t10 w =>
  k1 [] w) (fun _ =>
  k1 [] w)) fun x1 w =>
  mv a0 fun t11 =>
  C Tryz.prog N.pack_Reader_live #[t11] w fun t12 w =>
  o1 Tryz.prog (Op.unary .not t12) w fun t13 w =>
  br t13 (fun _ =>
  mv (.slice none 0 0) fun t4_1 =>
  k t4_1 w) (fun _ =>
  mv a0 fun t14 =>
  nilOk t14 = true ∧ mv t14 fun t15 =>
  o1 Tryz.prog (Instr.fieldAt 250 t15 0) w fun t16 w =>
  o1 Tryz.prog (Instr.loadAt 39 t16) w fun t17 w =>
  mv t17 fun t5 =>
  mv a0 fun t18 =>
  C Tryz.prog N.pack_Reader_Uint #[t18, .int .u64 18446744073709551615] w fun t19 w =>
  mv t19 fun t6 =>
  mv a0 fun t25 =>
  C Tryz.prog N.pack_Reader_live #[t25] w fun t26 w =>
  o1 Tryz.prog (Op.unary .not t26) w fun t27 w =>
  mv t27 fun t24 =>
  br t24 (fun _ =>
  mv (.slice none 0 0) fun t4_2 =>
  k t4_2 w) (fun _ =>
  mv t6 fun t29 =>
  mv a1 fun t30 =>
  o1 Tryz.prog (convert 3 105 t30) w fun t31 w =>
  o1 Tryz.prog (bin .gtr 105 (.tmp 29) (.tmp 31) t29 t31) w fun t32 w =>
  mv t32 fun t28 =>
  jn (fun x2 => [x2 4, x2 35]) (fun k2 =>
  br t28 (fun _ =>
  mv a0 fun t33 =>
  C Tryz.prog N.pack_Reader_fail #[t33, .string ⟨#[108, 101, 110, 103, 116, 104]⟩, .int .i64 2] w fun t34 w =>
  k2 [t4, undef] w) (fun _ =>
  mv t6 fun t36 =>
  mv a0 fun t37 =>
  nilOk t37 = true ∧ mv t37 fun t38 =>
  o1 Tryz.prog (Instr.fieldAt 250 t38 0) w fun t39 w =>
  o1 Tryz.prog (Instr.loadAt 39 t39) w fun t40 w =>
  o1 Tryz.prog (Builtin.len_ #[39] 3 #[t40]) w fun t41 w =>
  o1 Tryz.prog (convert 3 105 t41) w fun t42 w =>
  o1 Tryz.prog (bin .gtr 105 (.tmp 36) (.tmp 42) t36 t42) w fun t43 w =>
  mv t43 fun t35 =>
  br t35 (fun _ =>
  mv a0 fun t44 =>
  C Tryz.prog N.pack_Reader_fail #[t44, .string ⟨#[98, 121, 116, 101, 115]⟩, .int .i64 12] w fun t45 w =>
  k2 [t4, t35] w) (fun _ =>
  mv a0 fun t20 =>
  mv t6 fun t21 =>
  o1 Tryz.prog (convert 105 3 t21) w fun t22 w =>
  C Tryz.prog N.pack_Reader_take #[t20, .string ⟨#[98, 121, 116, 101, 115]⟩, t22] w fun t23 w =>
  mv t23 fun t4_3 =>
  k t4_3 w))) fun x2 w =>
  mv a0 fun t46 =>
  mv t5 fun t47 =>
  nilOk t46 = true ∧ mv t46 fun t48 =>
  o1 Tryz.prog (Instr.fieldAt 250 t48 0) w fun t49 w =>
  o0 Tryz.prog (Instr.storeAt 39 t49 t47) w fun _ w =>
  mv (.slice none 0 0) fun t4_4 =>
  k t4_4 w))
theorem C.pack_Reader_Bytes {k : Value → World → Prop} {a0 a1 : Value} {w : World} (h : F.pack_Reader_Bytes k a0 a1 w) : C Tryz.prog N.pack_Reader_Bytes #[a0, a1] w k :=
  den_calls (H := { moves := [], vars := [4, 5, 6, 24, 28, 35] }) (args := [a0, a1]) mixed Tryz.func132 (by kernel_rfl) (by kernel_rfl) (by kernel_rfl) h

-- isthmus/isthmusref02.ReadInt
def F.isthmusref02_ReadInt (k : Value → World → Prop) (a0 : Value) (w : World) : Prop :=
  o1 Tryz.prog (Instr.box 119 a0) w fun t1 w =>
  o1 Tryz.prog (Instr.alloc 119 true (.tuple #[])) w fun t2 w =>
  mv (.int .i64 0) fun t3 =>
  o1 Tryz.prog (Instr.loadAt 119 t1) w fun t6 w =>
  C Tryz.prog N.isthmusref02_ReadUint #[t6, .int .u64 18446744073709551615] w fun t7 w =>
  mv t7 fun t5 =>
  o1 Tryz.prog (Instr.extract t5 0) w fun t8 w =>
  o1 Tryz.prog (Instr.extract t5 1) w fun t9 w =>
  o0 Tryz.prog (Instr.storeAt 119 t1 t8) w fun _ w =>
  mv t9 fun t4 =>
  mv t4 fun t10 =>
  o1 Tryz.prog (bin .rem 105 (.tmp 10) (.const (.int .u64 2)) t10 (.int .u64 2)) w fun t11 w =>
  o1 Tryz.prog (bin .eql 105 (.tmp 11) (.const (.int .u64 1)) t11 (.int .u64 1)) w fun t12 w =>
  br t12 (fun _ =>
  o1 Tryz.prog (Instr.loadAt 119 t1) w fun t13 w =>
  mv t4 fun t14 =>
  o1 Tryz.prog (bin .quo 105 (.tmp 14) (.const (.int .u64 2)) t14 (.int .u64 2)) w fun t15 w =>
  o1 Tryz.prog (convert 105 3 t15) w fun t16 w =>
  o1 Tryz.prog (Op.unary .neg t16) w fun t17 w =>
  o1 Tryz.prog (bin .sub 3 (.tmp 17) (.const (.int .i64 1)) t17 (.int .i64 1)) w fun t18 w =>
  o0 Tryz.prog (Instr.storeAt 119 t2 t13) w fun _ w =>
  mv t18 fun t3_1 =>
  rc Tryz.prog 119 t2 w fun r0 =>
  k (.tuple #[r0, t3_1]) w) (fun _ =>
  o1 Tryz.prog (Instr.loadAt 119 t1) w fun t19 w =>
  mv t4 fun t20 =>
  o1 Tryz.prog (bin .quo 105 (.tmp 20) (.const (.int .u64 2)) t20 (.int .u64 2)) w fun t21 w =>
  o1 Tryz.prog (convert 105 3 t21) w fun t22 w =>
  o0 Tryz.prog (Instr.storeAt 119 t2 t19) w fun _ w =>
  mv t22 fun t3_2 =>
  rc Tryz.prog 119 t2 w fun r0 =>
  k (.tuple #[r0, t3_2]) w)
theorem C.isthmusref02_ReadInt {k : Value → World → Prop} {a0 : Value} {w : World} (h : F.isthmusref02_ReadInt k a0 w) : C Tryz.prog N.isthmusref02_ReadInt #[a0] w k :=
  den_calls (H := { moves := [], vars := [3, 4] }) (args := [a0]) mixed Tryz.func133 (by kernel_rfl) (by kernel_rfl) (by kernel_rfl) h

end Go.Proofs.YtlfelmikcdmkhaaGreatDoor
