/- What each function asks: printed by hoas.py off the loaded program; each is held against the program by the kernel. -/
import Derived.Test.YtlfelmikcdmkhaaGreatDoorN
set_option linter.unusedVariables false
set_option linter.unusedSimpArgs false
set_option linter.unusedSectionVars false
namespace Go.Proofs.YtlfelmikcdmkhaaGreatDoor
open Go Go.Isk
set_option maxRecDepth 100000
-- isthmus/isthmusref02.ReadHash
def F.isthmusref02_ReadHash (k : Value → World → Prop) (a0 : Value) (w : World) : Prop :=
  o1 Tryz.prog (Instr.box 119 a0) w fun t1 w =>
  o1 Tryz.prog (Instr.alloc 119 true (.tuple #[])) w fun t2 w =>
  o1 Tryz.prog (Instr.alloc 23 true (.tuple #[])) w fun t3 w =>
  o1 Tryz.prog (Instr.alloc 23 true (.tuple #[])) w fun t4 w =>
  o1 Tryz.prog (Instr.fieldAt 119 t1 1) w fun t5 w =>
  o1 Tryz.prog (Instr.loadAt 3 t5) w fun t6 w =>
  o1 Tryz.prog (bin .neq 3 (.tmp 6) (.const (.int .i64 0)) t6 (.int .i64 0)) w fun t7 w =>
  br t7 (fun _ =>
  dr w.drew fun S1 =>
  tk Tryz.prog S1 (Instr.loadAt 119 t1) fun t8 =>
  tk Tryz.prog S1 (Instr.loadAt 23 t4) fun t9 =>
  o0 Tryz.prog (Instr.storeAt 119 t2 t8) w.drew fun _ w =>
  S1 w ∧
  o0 Tryz.prog (Instr.storeAt 23 t3 t9) w fun _ w =>
  rc Tryz.prog 119 t2 w fun r0 =>
  rc Tryz.prog 23 t3 w fun r1 =>
  k (.tuple #[r0, r1]) w) (fun _ =>
  o1 Tryz.prog (Instr.fieldAt 119 t1 0) w fun t10 w =>
  o1 Tryz.prog (Instr.loadAt 39 t10) w fun t11 w =>
  o1 Tryz.prog (Builtin.len_ #[39] 3 #[t11]) w fun t12 w =>
  o1 Tryz.prog (bin .lss 3 (.tmp 12) (.const (.int .i64 32)) t12 (.int .i64 32)) w fun t13 w =>
  br t13 (fun _ =>
  dr w.drew fun S2 =>
  tk Tryz.prog S2 (Instr.loadAt 119 t1) fun t14 =>
  tk Tryz.prog S2 (Instr.loadAt 23 t4) fun t16 =>
  C Tryz.prog N.isthmusref02_fail #[t14, .int .i64 12] w.drew fun t15 w =>
  S2 w ∧
  o0 Tryz.prog (Instr.storeAt 119 t2 t15) w fun _ w =>
  S2 w ∧
  o0 Tryz.prog (Instr.storeAt 23 t3 t16) w fun _ w =>
  rc Tryz.prog 119 t2 w fun r0 =>
  rc Tryz.prog 23 t3 w fun r1 =>
  k (.tuple #[r0, r1]) w) (fun _ =>
  dr w.drew fun S3 =>
  tk Tryz.prog S3 (Instr.sliceAt 23 t4 none none none) fun t17 =>
  tk Tryz.prog S3 (Instr.fieldAt 119 t1 0) fun t18 =>
  tk Tryz.prog S3 (Instr.loadAt 39 t18) fun t19 =>
  ob Tryz.prog (fun _ => Builtin.copy_ #[39, 39] 3 #[t17, t19]) w.drew fun t20 w =>
  o1 Tryz.prog (Instr.fieldAt 119 t1 0) w fun t21 w =>
  o1 Tryz.prog (Instr.loadAt 39 t21) w fun t22 w =>
  o1 Tryz.prog (Instr.sliceAt 39 t22 (some (.int .i64 32)) none none) w fun t23 w =>
  o1 Tryz.prog (Instr.fieldAt 119 t1 0) w fun t24 w =>
  o0 Tryz.prog (Instr.storeAt 39 t24 t23) w fun _ w =>
  dr w.drew fun S4 =>
  tk Tryz.prog S4 (Instr.loadAt 119 t1) fun t25 =>
  tk Tryz.prog S4 (Instr.loadAt 23 t4) fun t26 =>
  o0 Tryz.prog (Instr.storeAt 119 t2 t25) w.drew fun _ w =>
  S4 w ∧
  o0 Tryz.prog (Instr.storeAt 23 t3 t26) w fun _ w =>
  rc Tryz.prog 119 t2 w fun r0 =>
  rc Tryz.prog 23 t3 w fun r1 =>
  k (.tuple #[r0, r1]) w))
theorem C.isthmusref02_ReadHash {k : Value → World → Prop} {a0 : Value} {w : World} (h : F.isthmusref02_ReadHash k a0 w) : C Tryz.prog N.isthmusref02_ReadHash #[a0] w k :=
  den_calls (H := { moves := [(3, (.take 0 (.take 1 (.force 2 (.last 3))))), (5, (.take 0 (.take 2 (.force 1 (.force 3 (.last 4)))))), (6, (.take 0 (.take 1 (.take 2 (.last 3))))), (8, (.take 0 (.take 1 (.force 2 (.last 3)))))], vars := [] }) (args := [a0]) mixed Tryz.func134 (by kernel_rfl) (by kernel_rfl) (by kernel_rfl) h

-- isthmus/isthmusref02.ReadBytes
def F.isthmusref02_ReadBytes (k : Value → World → Prop) (a0 a1 : Value) (w : World) : Prop :=
  o1 Tryz.prog (Instr.box 119 a0) w fun t2 w =>
  o1 Tryz.prog (Instr.alloc 119 true (.tuple #[])) w fun t4 w =>
  mv (.slice none 0 0) fun t5 =>
  mv a1 fun t9 =>
  o1 Tryz.prog (bin .lss 3 (.tmp 9) (.const (.int .i64 0)) t9 (.int .i64 0)) w fun t10 w =>
  br t10 (fun _ =>
  o1 Tryz.prog (Instr.loadAt 119 t2) w fun t11 w =>
  C Tryz.prog N.isthmusref02_fail #[t11, .int .i64 1] w fun t12 w =>
  o0 Tryz.prog (Instr.storeAt 119 t4 t12) w fun _ w =>
  mv (.slice none 0 0) fun t5_1 =>
  rc Tryz.prog 119 t4 w fun r0 =>
  k (.tuple #[r0, t5_1]) w) (fun _ =>
  o1 Tryz.prog (Instr.loadAt 119 t2) w fun t14 w =>
  C Tryz.prog N.isthmusref02_ReadUint #[t14, .int .u64 18446744073709551615] w fun t15 w =>
  mv t15 fun t13 =>
  o1 Tryz.prog (Instr.extract t13 0) w fun t16 w =>
  o1 Tryz.prog (Instr.extract t13 1) w fun t17 w =>
  o1 Tryz.prog (Instr.alloc 119 true (.tuple #[])) w fun t6 w =>
  o0 Tryz.prog (Instr.storeAt 119 t6 t16) w fun _ w =>
  mv t17 fun t7 =>
  o1 Tryz.prog (Instr.fieldAt 119 t6 1) w fun t19 w =>
  o1 Tryz.prog (Instr.loadAt 3 t19) w fun t20 w =>
  o1 Tryz.prog (bin .neq 3 (.tmp 20) (.const (.int .i64 0)) t20 (.int .i64 0)) w fun t21 w =>
  mv t21 fun t18 =>
  br t18 (fun _ =>
  o1 Tryz.prog (Instr.loadAt 119 t2) w fun t22 w =>
  o1 Tryz.prog (Instr.fieldAt 119 t6 1) w fun t23 w =>
  o1 Tryz.prog (Instr.loadAt 3 t23) w fun t24 w =>
  C Tryz.prog N.isthmusref02_fail #[t22, t24] w fun t25 w =>
  o0 Tryz.prog (Instr.storeAt 119 t4 t25) w fun _ w =>
  mv (.slice none 0 0) fun t5_2 =>
  rc Tryz.prog 119 t4 w fun r0 =>
  k (.tuple #[r0, t5_2]) w) (fun _ =>
  mv t7 fun t27 =>
  mv a1 fun t28 =>
  o1 Tryz.prog (convert 3 105 t28) w fun t29 w =>
  o1 Tryz.prog (bin .gtr 105 (.tmp 27) (.tmp 29) t27 t29) w fun t30 w =>
  mv t30 fun t26 =>
  br t26 (fun _ =>
  o1 Tryz.prog (Instr.loadAt 119 t2) w fun t31 w =>
  C Tryz.prog N.isthmusref02_fail #[t31, .int .i64 2] w fun t32 w =>
  o0 Tryz.prog (Instr.storeAt 119 t4 t32) w fun _ w =>
  mv (.slice none 0 0) fun t5_3 =>
  rc Tryz.prog 119 t4 w fun r0 =>
  k (.tuple #[r0, t5_3]) w) (fun _ =>
  mv t7 fun t34 =>
  o1 Tryz.prog (Instr.fieldAt 119 t6 0) w fun t35 w =>
  o1 Tryz.prog (Instr.loadAt 39 t35) w fun t36 w =>
  o1 Tryz.prog (Builtin.len_ #[39] 3 #[t36]) w fun t37 w =>
  o1 Tryz.prog (convert 3 105 t37) w fun t38 w =>
  o1 Tryz.prog (bin .gtr 105 (.tmp 34) (.tmp 38) t34 t38) w fun t39 w =>
  mv t39 fun t33 =>
  br t33 (fun _ =>
  o1 Tryz.prog (Instr.loadAt 119 t2) w fun t40 w =>
  C Tryz.prog N.isthmusref02_fail #[t40, .int .i64 12] w fun t41 w =>
  o0 Tryz.prog (Instr.storeAt 119 t4 t41) w fun _ w =>
  mv (.slice none 0 0) fun t5_4 =>
  rc Tryz.prog 119 t4 w fun r0 =>
  k (.tuple #[r0, t5_4]) w) (fun _ =>
  mv (.slice none 0 0) fun t8 =>
  mv t8 fun t42 =>
  o1 Tryz.prog (Instr.fieldAt 119 t6 0) w fun t43 w =>
  o1 Tryz.prog (Instr.loadAt 39 t43) w fun t44 w =>
  mv t7 fun t45 =>
  o1 Tryz.prog (Instr.sliceAt 39 t44 none (some t45) none) w fun t46 w =>
  ob Tryz.prog (fun _ => Builtin.append_ #[39, 39] 39 #[t42, t46]) w fun t47 w =>
  mv t47 fun t8_1 =>
  o1 Tryz.prog (Instr.fieldAt 119 t6 0) w fun t48 w =>
  o1 Tryz.prog (Instr.loadAt 39 t48) w fun t49 w =>
  mv t7 fun t50 =>
  o1 Tryz.prog (Instr.sliceAt 39 t49 (some t50) none none) w fun t51 w =>
  o1 Tryz.prog (Instr.fieldAt 119 t6 0) w fun t52 w =>
  o0 Tryz.prog (Instr.storeAt 39 t52 t51) w fun _ w =>
  o1 Tryz.prog (Instr.loadAt 119 t6) w fun t53 w =>
  mv t8_1 fun t54 =>
  o0 Tryz.prog (Instr.storeAt 119 t4 t53) w fun _ w =>
  mv t54 fun t5_5 =>
  rc Tryz.prog 119 t4 w fun r0 =>
  k (.tuple #[r0, t5_5]) w))))
theorem C.isthmusref02_ReadBytes {k : Value → World → Prop} {a0 a1 : Value} {w : World} (h : F.isthmusref02_ReadBytes k a0 a1 w) : C Tryz.prog N.isthmusref02_ReadBytes #[a0, a1] w k :=
  den_calls (H := { moves := [], vars := [5, 7, 8, 18, 26, 33] }) (args := [a0, a1]) mixed Tryz.func135 (by kernel_rfl) (by kernel_rfl) (by kernel_rfl) h

-- (*isthmus/pack.Reader).Count
-- isthmus/isthmusref02.ReadCount
-- (*isthmus/pack.Reader).Text
-- isthmus/types.encode[isthmus/api.Vote]
-- slices.IndexFunc[[]isthmus/api.Validator,isthmus/api.Validator]
def F.slices_IndexFunc_api_Validator_api_Validator (k : Value → World → Prop) (a0 a1 : Value) (w : World) : Prop :=
  mv (.int .i64 0) fun t4 =>
  mv a0 fun t6 =>
  o1 Tryz.prog (Builtin.len_ #[70] 3 #[t6]) w fun t7 w =>
  mv (.int .i64 0) fun t8 =>
  lp [t4, undef, t8] w fun I1 μ1 => ∀ (x1 : Env) (w1 : World), I1 [x1 4, x1 5, x1 8] w1 →
  o1 Tryz.prog (bin .lss 3 (.tmp 8) (.tmp 7) (x1 8) t7) w1 fun t9 w =>
  br t9 (fun _ =>
  mv (x1 8) fun t10 =>
  mv t10 fun t5 =>
  mv a1 fun t11 =>
  mv a0 fun t12 =>
  mv t5 fun t13 =>
  o1 Tryz.prog (Instr.indexAt 70 t12 t13) w fun t14 w =>
  o1 Tryz.prog (Instr.loadAt 76 t14) w fun t15 w =>
  cv Tryz.prog t11 #[t15] w fun t16 w =>
  br t16 (fun _ =>
  mv t5 fun t17 =>
  mv t17 fun t4_1 =>
  k t4_1 w) (fun _ =>
  o1 Tryz.prog (bin .add 3 (.tmp 8) (.const (.int .i64 1)) (x1 8) (.int .i64 1)) w fun t18 w =>
  mv t18 fun t8_1 =>
  I1 [(x1 4), t5, t8_1] w ∧ μ1 [(x1 4), t5, t8_1] w < μ1 [x1 4, x1 5, x1 8] w1)) (fun _ =>
  mv (.int .i64 (-1)) fun t4_2 =>
  k t4_2 w)
theorem C.slices_IndexFunc_api_Validator_api_Validator {k : Value → World → Prop} {a0 a1 : Value} {w : World} (h : F.slices_IndexFunc_api_Validator_api_Validator k a0 a1 w) : C Tryz.prog N.slices_IndexFunc_api_Validator_api_Validator #[a0, a1] w k :=
  den_calls (H := { moves := [], vars := [4, 5, 8] }) (args := [a0, a1]) mixed Tryz.func140 (by kernel_rfl) (by kernel_rfl) (by kernel_rfl) h

-- isthmus/keys.fault
def F.keys_fault (k : Value → World → Prop) (a0 a1 : Value) (w : World) : Prop :=
  mv .nilIface fun t4 =>
  mv a0 fun t5 =>
  mv a1 fun t6 =>
  o1 Tryz.prog (Instr.build 173 #[(0, t5), (1, t6)]) w fun t7 w =>
  o1 Tryz.prog (Instr.box 173 t7) w fun t8 w =>
  o1 Tryz.prog (Instr.makeInterface 171 t8) w fun t9 w =>
  mv t9 fun t4_1 =>
  k t4_1 w
theorem C.keys_fault {k : Value → World → Prop} {a0 a1 : Value} {w : World} (h : F.keys_fault k a0 a1 w) : C Tryz.prog N.keys_fault #[a0, a1] w k :=
  den_calls (H := { moves := [], vars := [4] }) (args := [a0, a1]) mixed Tryz.func141 (by kernel_rfl) (by kernel_rfl) (by kernel_rfl) h

-- isthmus/keys.read
def F.keys_read (k : Value → World → Prop) (a0 : Value) (w : World) : Prop :=
  o1 Tryz.prog (Instr.alloc 212 true (.tuple #[])) w fun t2 w =>
  mv .nilIface fun t3 =>
  mv a0 fun t6 =>
  C Tryz.prog N.pack_Read #[t6] w fun t7 w =>
  mv t7 fun t4 =>
  mv t4 fun t8 =>
  C Tryz.prog N.pack_Reader_Uint #[t8, .int .u64 1023] w fun t9 w =>
  o1 Tryz.prog (convert 105 3 t9) w fun t10 w =>
  mv t4 fun t11 =>
  C Tryz.prog N.pack_Reader_Bytes #[t11, .int .i64 4096] w fun t12 w =>
  o1 Tryz.prog (Instr.build 212 #[(0, t10), (1, t12)]) w fun t13 w =>
  o1 Tryz.prog (Instr.alloc 212 true (.tuple #[])) w fun t5 w =>
  o0 Tryz.prog (Instr.storeAt 212 t5 t13) w fun _ w =>
  mv t4 fun t14 =>
  C Tryz.prog N.pack_Reader_Uint #[t14, .int .u64 10] w fun t15 w =>
  mv (.int .u64 0) fun t16 =>
  lp [t16] w fun I1 μ1 => ∀ (x1 : Env) (w1 : World), I1 [x1 16] w1 →
  o1 Tryz.prog (bin .lss 105 (.tmp 16) (.tmp 15) (x1 16) t15) w1 fun t17 w =>
  br t17 (fun _ =>
  dr w.drew fun S1 =>
  tk Tryz.prog S1 (Instr.fieldAt 212 t5 2) fun t18 =>
  tk Tryz.prog S1 (Instr.loadAt 99 t18) fun t19 =>
  mv t4 fun t20 =>
  C Tryz.prog N.pack_Reader_Hash #[t20] w.drew fun t21 w =>
  S1 w ∧
  o1 Tryz.prog (Instr.buildSlice 99 1 #[(0, t21)]) w fun t22 w =>
  S1 w ∧
  ob Tryz.prog (fun _ => Builtin.append_ #[99, 99] 99 #[t19, t22]) w fun t23 w =>
  S1 w ∧
  tk Tryz.prog S1 (Instr.fieldAt 212 t5 2) fun t24 =>
  o0 Tryz.prog (Instr.storeAt 99 t24 t23) w fun _ w =>
  o1 Tryz.prog (bin .add 105 (.tmp 16) (.const (.int .u64 1)) (x1 16) (.int .u64 1)) w fun t25 w =>
  mv t25 fun t16_1 =>
  I1 [t16_1] w ∧ μ1 [t16_1] w < μ1 [x1 16] w1) (fun _ =>
  mv t4 fun t26 =>
  C Tryz.prog N.pack_Reader_Done #[t26] w fun t27 w =>
  o1 Tryz.prog (bin .neq 34 (.tmp 27) (.const .nilIface) t27 .nilIface) w fun t28 w =>
  br t28 (fun _ =>
  o1 Tryz.prog (Instr.build 212 #[]) w fun t29 w =>
  o1 Tryz.prog (Instr.makeInterface 93 (.int .i64 3)) w fun t30 w =>
  C Tryz.prog N.keys_fault #[.string ⟨#[115, 105, 103, 110, 97, 116, 117, 114, 101]⟩, t30] w fun t31 w =>
  o0 Tryz.prog (Instr.storeAt 212 t2 t29) w fun _ w =>
  mv t31 fun t3_1 =>
  rc Tryz.prog 212 t2 w fun r0 =>
  k (.tuple #[r0, t3_1]) w) (fun _ =>
  o1 Tryz.prog (Instr.loadAt 212 t5) w fun t32 w =>
  o0 Tryz.prog (Instr.storeAt 212 t2 t32) w fun _ w =>
  mv .nilIface fun t3_2 =>
  rc Tryz.prog 212 t2 w fun r0 =>
  k (.tuple #[r0, t3_2]) w))
theorem C.keys_read {k : Value → World → Prop} {a0 : Value} {w : World} (h : F.keys_read k a0 w) : C Tryz.prog N.keys_read #[a0] w k :=
  den_calls (H := { moves := [(5, (.take 0 (.take 1 (.take 2 (.force 3 (.force 4 (.force 5 (.take 6 (.last 7)))))))))], vars := [3, 4, 16] }) (args := [a0]) mixed Tryz.func142 (by kernel_rfl) (by kernel_rfl) (by kernel_rfl) h

-- isthmus/wots.Digest
def F.wots_Digest (k : Value → World → Prop) (a0 a1 : Value) (w : World) : Prop :=
  mv (.slice none 0 0) fun t4 =>
  mv .nilIface fun t5 =>
  mv a1 fun t7 =>
  C Tryz.prog N.wots_digest #[t7] w fun t8 w =>
  o1 Tryz.prog (Op.unary .not t8) w fun t9 w =>
  br t9 (fun _ =>
  C Tryz.prog N.wots_fault #[.string ⟨#[100, 105, 103, 101, 115, 116]⟩, .int .i64 1] w fun t10 w =>
  mv (.slice none 0 0) fun t4_1 =>
  mv t10 fun t5_1 =>
  k (.tuple #[t4_1, t5_1]) w) (fun _ =>
  o1 Tryz.prog (Instr.buildSlice 39 1 #[(0, .int .u8 4)]) w fun t11 w =>
  mv a0 fun t12 =>
  ob Tryz.prog (fun _ => Builtin.append_ #[39, 39] 39 #[t11, t12]) w fun t13 w =>
  C Tryz.prog N.sha_Sum #[t13] w fun t14 w =>
  o1 Tryz.prog (Instr.alloc 23 true (.tuple #[])) w fun t6 w =>
  o0 Tryz.prog (Instr.storeAt 23 t6 t14) w fun _ w =>
  mv a1 fun t15 =>
  o1 Tryz.prog (Instr.sliceAt 23 t6 none (some t15) none) w fun t16 w =>
  ob Tryz.prog (fun _ => Builtin.append_ #[39, 39] 39 #[.slice none 0 0, t16]) w fun t17 w =>
  mv t17 fun t4_2 =>
  mv .nilIface fun t5_2 =>
  k (.tuple #[t4_2, t5_2]) w)
theorem C.wots_Digest {k : Value → World → Prop} {a0 a1 : Value} {w : World} (h : F.wots_Digest k a0 a1 w) : C Tryz.prog N.wots_Digest #[a0, a1] w k :=
  den_calls (H := { moves := [], vars := [4, 5] }) (args := [a0, a1]) mixed Tryz.func143 (by kernel_rfl) (by kernel_rfl) (by kernel_rfl) h

-- isthmus/wots.From
def F.wots_From (k : Value → World → Prop) (a0 a1 a2 : Value) (w : World) : Prop :=
  o1 Tryz.prog (Instr.alloc 23 true (.tuple #[])) w fun t6 w =>
  mv .nilIface fun t7 =>
  mv a1 fun t13 =>
  mv a2 fun t14 =>
  o1 Tryz.prog (Builtin.len_ #[39] 3 #[t14]) w fun t15 w =>
  C Tryz.prog N.wots_check #[t13, t15] w fun t16 w =>
  mv t16 fun t8 =>
  mv t8 fun t17 =>
  o1 Tryz.prog (bin .neq 34 (.tmp 17) (.const .nilIface) t17 .nilIface) w fun t18 w =>
  br t18 (fun _ =>
  o1 Tryz.prog (Instr.build 23 #[]) w fun t19 w =>
  mv t8 fun t20 =>
  o0 Tryz.prog (Instr.storeAt 23 t6 t19) w fun _ w =>
  mv t20 fun t7_1 =>
  rc Tryz.prog 23 t6 w fun r0 =>
  k (.tuple #[r0, t7_1]) w) (fun _ =>
  mv a0 fun t21 =>
  o1 Tryz.prog (Builtin.len_ #[39] 3 #[t21]) w fun t22 w =>
  mv a2 fun t23 =>
  o1 Tryz.prog (Builtin.len_ #[39] 3 #[t23]) w fun t24 w =>
  C Tryz.prog N.wots_Len #[t24] w fun t25 w =>
  o1 Tryz.prog (bin .mul 3 (.const (.int .i64 32)) (.tmp 25) (.int .i64 32) t25) w fun t26 w =>
  o1 Tryz.prog (bin .neq 3 (.tmp 22) (.tmp 26) t22 t26) w fun t27 w =>
  br t27 (fun _ =>
  o1 Tryz.prog (Instr.build 23 #[]) w fun t28 w =>
  C Tryz.prog N.wots_fault #[.string ⟨#[115, 105, 103, 110, 97, 116, 117, 114, 101]⟩, .int .i64 2] w fun t29 w =>
  o0 Tryz.prog (Instr.storeAt 23 t6 t28) w fun _ w =>
  mv t29 fun t7_2 =>
  rc Tryz.prog 23 t6 w fun r0 =>
  k (.tuple #[r0, t7_2]) w) (fun _ =>
  mv (.slice none 0 0) fun t9 =>
  mv a2 fun t30 =>
  C Tryz.prog N.wots_Digits #[t30] w fun t31 w =>
  o1 Tryz.prog (Builtin.len_ #[259] 3 #[t31]) w fun t32 w =>
  mv (.int .i64 0) fun t33 =>
  lp [t9, undef, undef, t33] w fun I1 μ1 => ∀ (x1 : Env) (w1 : World), I1 [x1 9, x1 10, x1 11, x1 33] w1 →
  o1 Tryz.prog (bin .lss 3 (.tmp 33) (.tmp 32) (x1 33) t32) w1 fun t34 w =>
  br t34 (fun _ =>
  mv (x1 33) fun t35 =>
  o1 Tryz.prog (Instr.indexAt 259 t31 (x1 33)) w fun t36 w =>
  o1 Tryz.prog (Instr.loadAt 3 t36) w fun t37 w =>
  mv t35 fun t10 =>
  mv t37 fun t11 =>
  mv a0 fun t38 =>
  mv t10 fun t39 =>
  o1 Tryz.prog (bin .mul 3 (.const (.int .i64 32)) (.tmp 39) (.int .i64 32) t39) w fun t40 w =>
  mv t10 fun t41 =>
  o1 Tryz.prog (bin .add 3 (.tmp 41) (.const (.int .i64 1)) t41 (.int .i64 1)) w fun t42 w =>
  o1 Tryz.prog (bin .mul 3 (.const (.int .i64 32)) (.tmp 42) (.int .i64 32) t42) w fun t43 w =>
  o1 Tryz.prog (Instr.sliceAt 39 t38 (some t40) (some t43) none) w fun t44 w =>
  o1 Tryz.prog (Instr.arrayAt 23 t44) w fun t45 w =>
  o1 Tryz.prog (Instr.loadAt 23 t45) w fun t46 w =>
  mv a1 fun t47 =>
  mv t10 fun t48 =>
  mv t11 fun t49 =>
  C Tryz.prog N.wots_Step #[t46, t47, t48, t49, .int .i64 15] w fun t50 w =>
  o1 Tryz.prog (Instr.alloc 23 true (.tuple #[])) w fun t12 w =>
  o0 Tryz.prog (Instr.storeAt 23 t12 t50) w fun _ w =>
  mv (x1 9) fun t51 =>
  o1 Tryz.prog (Instr.sliceAt 23 t12 none none none) w fun t52 w =>
  ob Tryz.prog (fun _ => Builtin.append_ #[39, 39] 39 #[t51, t52]) w fun t53 w =>
  mv t53 fun t9_1 =>
  o1 Tryz.prog (bin .add 3 (.tmp 33) (.const (.int .i64 1)) (x1 33) (.int .i64 1)) w fun t54 w =>
  mv t54 fun t33_1 =>
  I1 [t9_1, t10, t11, t33_1] w ∧ μ1 [t9_1, t10, t11, t33_1] w < μ1 [x1 9, x1 10, x1 11, x1 33] w1) (fun _ =>
  mv (x1 9) fun t55 =>
  C Tryz.prog N.sha_Leaf #[t55] w fun t56 w =>
  o0 Tryz.prog (Instr.storeAt 23 t6 t56) w fun _ w =>
  mv .nilIface fun t7_3 =>
  rc Tryz.prog 23 t6 w fun r0 =>
  k (.tuple #[r0, t7_3]) w)))
theorem C.wots_From {k : Value → World → Prop} {a0 a1 a2 : Value} {w : World} (h : F.wots_From k a0 a1 a2 w) : C Tryz.prog N.wots_From #[a0, a1, a2] w k :=
  den_calls (H := { moves := [], vars := [7, 8, 9, 10, 11, 33] }) (args := [a0, a1, a2]) mixed Tryz.func144 (by kernel_rfl) (by kernel_rfl) (by kernel_rfl) h

-- isthmus/sha.Fold
def F.sha_Fold (k : Value → World → Prop) (a0 a1 a2 a3 : Value) (w : World) : Prop :=
  o1 Tryz.prog (Instr.box 23 a0) w fun t4 w =>
  o1 Tryz.prog (Instr.alloc 23 true (.tuple #[])) w fun t8 w =>
  mv .nilIface fun t9 =>
  mv a1 fun t13 =>
  o1 Tryz.prog (bin .lss 3 (.tmp 13) (.const (.int .i64 0)) t13 (.int .i64 0)) w fun t14 w =>
  mv t14 fun t15 =>
  gd t15 false (fun k1 => mv a1 fun v => k1 v w) w fun t16 w =>
  gd t15 false (fun k2 => mv a2 fun v => k2 v w) w fun t17 w =>
  gd t15 false (fun k3 => o1 Tryz.prog (bin .geq 3 (.tmp 16) (.tmp 17) t16 t17) w k3) w fun t18 w =>
  pk t15 (.bool true) t18 fun t19 =>
  br t19 (fun _ =>
  o1 Tryz.prog (Instr.build 23 #[]) w fun t20 w =>
  o1 Tryz.prog (Instr.makeInterface 93 (.int .i64 1)) w fun t21 w =>
  o1 Tryz.prog (Instr.build 173 #[(0, .string ⟨#[112, 108, 97, 99, 101]⟩), (1, t21)]) w fun t22 w =>
  o1 Tryz.prog (Instr.box 173 t22) w fun t23 w =>
  o1 Tryz.prog (Instr.makeInterface 171 t23) w fun t24 w =>
  o0 Tryz.prog (Instr.storeAt 23 t8 t20) w fun _ w =>
  mv t24 fun t9_1 =>
  rc Tryz.prog 23 t8 w fun r0 =>
  k (.tuple #[r0, t9_1]) w) (fun _ =>
  mv a1 fun t25 =>
  mv a2 fun t26 =>
  C Tryz.prog N.sha_turns #[t25, t26] w fun t27 w =>
  mv t27 fun t10 =>
  mv t10 fun t28 =>
  o1 Tryz.prog (Builtin.len_ #[262] 3 #[t28]) w fun t29 w =>
  mv a3 fun t30 =>
  o1 Tryz.prog (Builtin.len_ #[99] 3 #[t30]) w fun t31 w =>
  o1 Tryz.prog (bin .neq 3 (.tmp 29) (.tmp 31) t29 t31) w fun t32 w =>
  br t32 (fun _ =>
  o1 Tryz.prog (Instr.build 23 #[]) w fun t33 w =>
  o1 Tryz.prog (Instr.makeInterface 93 (.int .i64 2)) w fun t34 w =>
  o1 Tryz.prog (Instr.build 173 #[(0, .string ⟨#[112, 97, 116, 104]⟩), (1, t34)]) w fun t35 w =>
  o1 Tryz.prog (Instr.box 173 t35) w fun t36 w =>
  o1 Tryz.prog (Instr.makeInterface 171 t36) w fun t37 w =>
  o0 Tryz.prog (Instr.storeAt 23 t8 t33) w fun _ w =>
  mv t37 fun t9_2 =>
  rc Tryz.prog 23 t8 w fun r0 =>
  k (.tuple #[r0, t9_2]) w) (fun _ =>
  mv a3 fun t38 =>
  o1 Tryz.prog (Builtin.len_ #[99] 3 #[t38]) w fun t39 w =>
  mv (.int .i64 0) fun t40 =>
  lp [undef, t40] w fun I1 μ1 => ∀ (x1 : Env) (w1 : World), I1 [x1 11, x1 40] w1 →
  o1 Tryz.prog (bin .lss 3 (.tmp 40) (.tmp 39) (x1 40) t39) w1 fun t41 w =>
  br t41 (fun _ =>
  mv (x1 40) fun t42 =>
  o1 Tryz.prog (Instr.indexAt 99 t38 (x1 40)) w fun t43 w =>
  o1 Tryz.prog (Instr.loadAt 23 t43) w fun t44 w =>
  o1 Tryz.prog (Instr.alloc 23 true (.tuple #[])) w fun t12 w =>
  mv t42 fun t11 =>
  o0 Tryz.prog (Instr.storeAt 23 t12 t44) w fun _ w =>
  mv t10 fun t45 =>
  mv t10 fun t46 =>
  o1 Tryz.prog (Builtin.len_ #[262] 3 #[t46]) w fun t47 w =>
  o1 Tryz.prog (bin .sub 3 (.tmp 47) (.const (.int .i64 1)) t47 (.int .i64 1)) w fun t48 w =>
  mv t11 fun t49 =>
  o1 Tryz.prog (bin .sub 3 (.tmp 48) (.tmp 49) t48 t49) w fun t50 w =>
  o1 Tryz.prog (Instr.indexAt 262 t45 t50) w fun t51 w =>
  o1 Tryz.prog (Instr.loadAt 4 t51) w fun t52 w =>
  jn (fun x2 => []) (fun k4 =>
  br t52 (fun _ =>
  o1 Tryz.prog (Instr.loadAt 23 t12) w fun t53 w =>
  o1 Tryz.prog (Instr.loadAt 23 t4) w fun t54 w =>
  C Tryz.prog N.sha_Node #[t53, t54] w fun t55 w =>
  o0 Tryz.prog (Instr.storeAt 23 t4 t55) w fun _ w =>
  k4 [] w) (fun _ =>
  o1 Tryz.prog (Instr.loadAt 23 t4) w fun t56 w =>
  o1 Tryz.prog (Instr.loadAt 23 t12) w fun t57 w =>
  C Tryz.prog N.sha_Node #[t56, t57] w fun t58 w =>
  o0 Tryz.prog (Instr.storeAt 23 t4 t58) w fun _ w =>
  k4 [] w)) fun x2 w =>
  o1 Tryz.prog (bin .add 3 (.tmp 40) (.const (.int .i64 1)) (x1 40) (.int .i64 1)) w fun t59 w =>
  mv t59 fun t40_1 =>
  I1 [t11, t40_1] w ∧ μ1 [t11, t40_1] w < μ1 [x1 11, x1 40] w1) (fun _ =>
  o1 Tryz.prog (Instr.loadAt 23 t4) w fun t60 w =>
  o0 Tryz.prog (Instr.storeAt 23 t8 t60) w fun _ w =>
  mv .nilIface fun t9_3 =>
  rc Tryz.prog 23 t8 w fun r0 =>
  k (.tuple #[r0, t9_3]) w)))
theorem C.sha_Fold {k : Value → World → Prop} {a0 a1 a2 a3 : Value} {w : World} (h : F.sha_Fold k a0 a1 a2 a3 w) : C Tryz.prog N.sha_Fold #[a0, a1, a2, a3] w k :=
  den_calls (H := { moves := [], vars := [9, 10, 11, 40] }) (args := [a0, a1, a2, a3]) mixed Tryz.func145 (by kernel_rfl) (by kernel_rfl) (by kernel_rfl) h

-- isthmus/isthmusref06.Parts
def F.isthmusref06_Parts (k : Value → World → Prop) (a0 : Value) (w : World) : Prop :=
  o1 Tryz.prog (Instr.alloc 221 true (.tuple #[])) w fun t2 w =>
  mv (.int .i64 0) fun t3 =>
  o1 Tryz.prog (Instr.build 221 #[]) w fun t10 w =>
  o1 Tryz.prog (Instr.alloc 221 true (.tuple #[])) w fun t4 w =>
  o0 Tryz.prog (Instr.storeAt 221 t4 t10) w fun _ w =>
  mv a0 fun t12 =>
  o1 Tryz.prog (Instr.build 119 #[(0, t12)]) w fun t13 w =>
  C Tryz.prog N.isthmusref02_ReadUint #[t13, .int .u64 1023] w fun t14 w =>
  mv t14 fun t11 =>
  o1 Tryz.prog (Instr.extract t11 0) w fun t15 w =>
  o1 Tryz.prog (Instr.extract t11 1) w fun t16 w =>
  o1 Tryz.prog (Instr.alloc 119 true (.tuple #[])) w fun t5 w =>
  o0 Tryz.prog (Instr.storeAt 119 t5 t15) w fun _ w =>
  mv t16 fun t6 =>
  o1 Tryz.prog (Instr.loadAt 119 t5) w fun t18 w =>
  C Tryz.prog N.isthmusref02_ReadBytes #[t18, .int .i64 4096] w fun t19 w =>
  mv t19 fun t17 =>
  o1 Tryz.prog (Instr.extract t17 0) w fun t20 w =>
  o1 Tryz.prog (Instr.extract t17 1) w fun t21 w =>
  o0 Tryz.prog (Instr.storeAt 119 t5 t20) w fun _ w =>
  o1 Tryz.prog (Instr.fieldAt 221 t4 1) w fun t22 w =>
  o0 Tryz.prog (Instr.storeAt 39 t22 t21) w fun _ w =>
  o1 Tryz.prog (Instr.loadAt 119 t5) w fun t24 w =>
  C Tryz.prog N.isthmusref02_ReadUint #[t24, .int .u64 10] w fun t25 w =>
  mv t25 fun t23 =>
  o1 Tryz.prog (Instr.extract t23 0) w fun t26 w =>
  o1 Tryz.prog (Instr.extract t23 1) w fun t27 w =>
  o0 Tryz.prog (Instr.storeAt 119 t5 t26) w fun _ w =>
  mv t27 fun t7 =>
  mv t6 fun t28 =>
  o1 Tryz.prog (convert 105 3 t28) w fun t29 w =>
  o1 Tryz.prog (Instr.fieldAt 221 t4 0) w fun t30 w =>
  o0 Tryz.prog (Instr.storeAt 3 t30 t29) w fun _ w =>
  mv (.int .u64 0) fun t8 =>
  lp [t8] w fun I1 μ1 => ∀ (x1 : Env) (w1 : World), I1 [x1 8] w1 →
  mv (x1 8) fun t31 =>
  mv t7 fun t32 =>
  o1 Tryz.prog (bin .lss 105 (.tmp 31) (.tmp 32) t31 t32) w1 fun t33 w =>
  br t33 (fun _ =>
  o1 Tryz.prog (Instr.alloc 23 true (.tuple #[])) w fun t9 w =>
  o1 Tryz.prog (Instr.loadAt 119 t5) w fun t37 w =>
  C Tryz.prog N.isthmusref02_ReadHash #[t37] w fun t38 w =>
  mv t38 fun t36 =>
  o1 Tryz.prog (Instr.extract t36 0) w fun t39 w =>
  o1 Tryz.prog (Instr.extract t36 1) w fun t40 w =>
  o0 Tryz.prog (Instr.storeAt 119 t5 t39) w fun _ w =>
  o0 Tryz.prog (Instr.storeAt 23 t9 t40) w fun _ w =>
  o1 Tryz.prog (Instr.fieldAt 221 t4 2) w fun t41 w =>
  o1 Tryz.prog (Instr.loadAt 99 t41) w fun t42 w =>
  o1 Tryz.prog (Instr.loadAt 23 t9) w fun t43 w =>
  o1 Tryz.prog (Instr.buildSlice 99 1 #[(0, t43)]) w fun t44 w =>
  ob Tryz.prog (fun _ => Builtin.append_ #[99, 99] 99 #[t42, t44]) w fun t45 w =>
  o1 Tryz.prog (Instr.fieldAt 221 t4 2) w fun t46 w =>
  o0 Tryz.prog (Instr.storeAt 99 t46 t45) w fun _ w =>
  mv (x1 8) fun t34 =>
  o1 Tryz.prog (bin .add 105 (.tmp 34) (.const (.int .u64 1)) t34 (.int .u64 1)) w fun t35 w =>
  mv t35 fun t8_1 =>
  I1 [t8_1] w ∧ μ1 [t8_1] w < μ1 [x1 8] w1) (fun _ =>
  o1 Tryz.prog (Instr.loadAt 119 t5) w fun t47 w =>
  C Tryz.prog N.isthmusref02_Done #[t47] w fun t48 w =>
  o1 Tryz.prog (bin .neq 3 (.tmp 48) (.const (.int .i64 0)) t48 (.int .i64 0)) w fun t49 w =>
  br t49 (fun _ =>
  o1 Tryz.prog (Instr.build 221 #[]) w fun t50 w =>
  o0 Tryz.prog (Instr.storeAt 221 t2 t50) w fun _ w =>
  mv (.int .i64 3) fun t3_1 =>
  rc Tryz.prog 221 t2 w fun r0 =>
  k (.tuple #[r0, t3_1]) w) (fun _ =>
  o1 Tryz.prog (Instr.loadAt 221 t4) w fun t51 w =>
  o0 Tryz.prog (Instr.storeAt 221 t2 t51) w fun _ w =>
  mv (.int .i64 0) fun t3_2 =>
  rc Tryz.prog 221 t2 w fun r0 =>
  k (.tuple #[r0, t3_2]) w))
theorem C.isthmusref06_Parts {k : Value → World → Prop} {a0 : Value} {w : World} (h : F.isthmusref06_Parts k a0 w) : C Tryz.prog N.isthmusref06_Parts #[a0] w k :=
  den_calls (H := { moves := [], vars := [3, 6, 7, 8] }) (args := [a0]) mixed Tryz.func146 (by kernel_rfl) (by kernel_rfl) (by kernel_rfl) h

-- isthmus/isthmusref05.Digest
def F.isthmusref05_Digest (k : Value → World → Prop) (a0 a1 : Value) (w : World) : Prop :=
  mv (.slice none 0 0) fun t4 =>
  mv (.int .i64 0) fun t5 =>
  mv a1 fun t7 =>
  o1 Tryz.prog (bin .lss 3 (.tmp 7) (.const (.int .i64 1)) t7 (.int .i64 1)) w fun t8 w =>
  mv t8 fun t9 =>
  gd t9 false (fun k1 => mv a1 fun v => k1 v w) w fun t10 w =>
  gd t9 false (fun k2 => o1 Tryz.prog (bin .gtr 3 (.tmp 10) (.const (.int .i64 32)) t10 (.int .i64 32)) w k2) w fun t11 w =>
  pk t9 (.bool true) t11 fun t12 =>
  br t12 (fun _ =>
  mv (.slice none 0 0) fun t4_1 =>
  mv (.int .i64 1) fun t5_1 =>
  k (.tuple #[t4_1, t5_1]) w) (fun _ =>
  o1 Tryz.prog (Instr.buildSlice 39 1 #[(0, .int .u8 4)]) w fun t13 w =>
  mv a0 fun t14 =>
  ob Tryz.prog (fun _ => Builtin.append_ #[39, 39] 39 #[t13, t14]) w fun t15 w =>
  C Tryz.prog N.isthmusref01_Sum #[t15] w fun t16 w =>
  o1 Tryz.prog (Instr.alloc 23 true (.tuple #[])) w fun t6 w =>
  o0 Tryz.prog (Instr.storeAt 23 t6 t16) w fun _ w =>
  mv a1 fun t17 =>
  o1 Tryz.prog (Instr.sliceAt 23 t6 none (some t17) none) w fun t18 w =>
  mv t18 fun t4_2 =>
  mv (.int .i64 0) fun t5_2 =>
  k (.tuple #[t4_2, t5_2]) w)
theorem C.isthmusref05_Digest {k : Value → World → Prop} {a0 a1 : Value} {w : World} (h : F.isthmusref05_Digest k a0 a1 w) : C Tryz.prog N.isthmusref05_Digest #[a0, a1] w k :=
  den_calls (H := { moves := [], vars := [4, 5] }) (args := [a0, a1]) mixed Tryz.func147 (by kernel_rfl) (by kernel_rfl) (by kernel_rfl) h

-- isthmus/isthmusref05.From
def F.isthmusref05_From (k : Value → World → Prop) (a0 a1 a2 : Value) (w : World) : Prop :=
  o1 Tryz.prog (Instr.alloc 23 true (.tuple #[])) w fun t6 w =>
  mv (.int .i64 0) fun t7 =>
  mv a1 fun t12 =>
  mv a2 fun t13 =>
  o1 Tryz.prog (Builtin.len_ #[39] 3 #[t13]) w fun t14 w =>
  C Tryz.prog N.isthmusref05_check #[t12, t14] w fun t15 w =>
  o1 Tryz.prog (Op.unary .not t15) w fun t16 w =>
  br t16 (fun _ =>
  o1 Tryz.prog (Instr.build 23 #[]) w fun t17 w =>
  o0 Tryz.prog (Instr.storeAt 23 t6 t17) w fun _ w =>
  mv (.int .i64 1) fun t7_1 =>
  rc Tryz.prog 23 t6 w fun r0 =>
  k (.tuple #[r0, t7_1]) w) (fun _ =>
  mv a2 fun t18 =>
  C Tryz.prog N.isthmusref05_Digits #[t18] w fun t19 w =>
  mv t19 fun t8 =>
  mv a0 fun t20 =>
  o1 Tryz.prog (Builtin.len_ #[39] 3 #[t20]) w fun t21 w =>
  mv t8 fun t22 =>
  o1 Tryz.prog (Builtin.len_ #[259] 3 #[t22]) w fun t23 w =>
  o1 Tryz.prog (bin .mul 3 (.const (.int .i64 32)) (.tmp 23) (.int .i64 32) t23) w fun t24 w =>
  o1 Tryz.prog (bin .neq 3 (.tmp 21) (.tmp 24) t21 t24) w fun t25 w =>
  br t25 (fun _ =>
  o1 Tryz.prog (Instr.build 23 #[]) w fun t26 w =>
  o0 Tryz.prog (Instr.storeAt 23 t6 t26) w fun _ w =>
  mv (.int .i64 2) fun t7_2 =>
  rc Tryz.prog 23 t6 w fun r0 =>
  k (.tuple #[r0, t7_2]) w) (fun _ =>
  mv (.slice none 0 0) fun t9 =>
  mv (.int .i64 0) fun t10 =>
  lp [t9, t10] w fun I1 μ1 => ∀ (x1 : Env) (w1 : World), I1 [x1 9, x1 10] w1 →
  mv (x1 10) fun t27 =>
  mv t8 fun t28 =>
  o1 Tryz.prog (Builtin.len_ #[259] 3 #[t28]) w1 fun t29 w =>
  o1 Tryz.prog (bin .lss 3 (.tmp 27) (.tmp 29) t27 t29) w fun t30 w =>
  br t30 (fun _ =>
  o1 Tryz.prog (Instr.alloc 23 true (.tuple #[])) w fun t11 w =>
  dr w.drew fun S1 =>
  tk Tryz.prog S1 (Instr.sliceAt 23 t11 none none none) fun t33 =>
  mv a0 fun t34 =>
  mv (x1 10) fun t35 =>
  tk Tryz.prog S1 (bin .mul 3 (.const (.int .i64 32)) (.tmp 35) (.int .i64 32) t35) fun t36 =>
  tk Tryz.prog S1 (Instr.sliceAt 39 t34 (some t36) none none) fun t37 =>
  ob Tryz.prog (fun _ => Builtin.copy_ #[39, 39] 3 #[t33, t37]) w.drew fun t38 w =>
  dr w.drew fun S2 =>
  mv (x1 9) fun t39 =>
  tk Tryz.prog S2 (Instr.loadAt 23 t11) fun t40 =>
  mv a1 fun t41 =>
  mv (x1 10) fun t42 =>
  mv t8 fun t43 =>
  mv (x1 10) fun t44 =>
  tk Tryz.prog S2 (Instr.indexAt 259 t43 t44) fun t45 =>
  tk Tryz.prog S2 (Instr.loadAt 3 t45) fun t46 =>
  C Tryz.prog N.isthmusref05_Step #[t40, t41, t42, t46, .int .i64 15] w.drew fun t47 w =>
  S2 w ∧
  C Tryz.prog N.isthmusref02_Hash #[t39, t47] w fun t48 w =>
  S2 w ∧
  mv t48 fun t9_1 =>
  mv (x1 10) fun t31 =>
  o1 Tryz.prog (bin .add 3 (.tmp 31) (.const (.int .i64 1)) t31 (.int .i64 1)) w fun t32 w =>
  mv t32 fun t10_1 =>
  I1 [t9_1, t10_1] w ∧ μ1 [t9_1, t10_1] w < μ1 [x1 9, x1 10] w1) (fun _ =>
  mv (x1 9) fun t49 =>
  C Tryz.prog N.isthmusref01_Leaf #[t49] w fun t50 w =>
  o0 Tryz.prog (Instr.storeAt 23 t6 t50) w fun _ w =>
  mv (.int .i64 0) fun t7_3 =>
  rc Tryz.prog 23 t6 w fun r0 =>
  k (.tuple #[r0, t7_3]) w)))
theorem C.isthmusref05_From {k : Value → World → Prop} {a0 a1 a2 : Value} {w : World} (h : F.isthmusref05_From k a0 a1 a2 w) : C Tryz.prog N.isthmusref05_From #[a0, a1, a2] w k :=
  den_calls (H := { moves := [(11, (.take 0 (.take 1 (.take 2 (.take 3 (.take 4 (.last 5))))))), (12, (.take 0 (.take 1 (.take 2 (.take 3 (.take 4 (.take 5 (.take 6 (.take 7 (.force 8 (.force 9 (.take 10 .fin))))))))))))], vars := [7, 8, 9, 10] }) (args := [a0, a1, a2]) mixed Tryz.func148 (by kernel_rfl) (by kernel_rfl) (by kernel_rfl) h

-- isthmus/isthmusref01.Fold
def F.isthmusref01_Fold (k : Value → World → Prop) (a0 a1 a2 a3 : Value) (w : World) : Prop :=
  o1 Tryz.prog (Instr.box 23 a0) w fun t4 w =>
  o1 Tryz.prog (Instr.alloc 23 true (.tuple #[])) w fun t8 w =>
  mv (.int .i64 0) fun t9 =>
  mv a1 fun t10 =>
  o1 Tryz.prog (bin .lss 3 (.tmp 10) (.const (.int .i64 0)) t10 (.int .i64 0)) w fun t11 w =>
  mv t11 fun t12 =>
  gd t12 false (fun k1 => mv a1 fun v => k1 v w) w fun t13 w =>
  gd t12 false (fun k2 => mv a2 fun v => k2 v w) w fun t14 w =>
  gd t12 false (fun k3 => o1 Tryz.prog (bin .geq 3 (.tmp 13) (.tmp 14) t13 t14) w k3) w fun t15 w =>
  pk t12 (.bool true) t15 fun t16 =>
  br t16 (fun _ =>
  o1 Tryz.prog (Instr.build 23 #[]) w fun t17 w =>
  o0 Tryz.prog (Instr.storeAt 23 t8 t17) w fun _ w =>
  mv (.int .i64 1) fun t9_1 =>
  rc Tryz.prog 23 t8 w fun r0 =>
  k (.tuple #[r0, t9_1]) w) (fun _ =>
  mv a3 fun t18 =>
  o1 Tryz.prog (Builtin.len_ #[99] 3 #[t18]) w fun t19 w =>
  mv a1 fun t20 =>
  mv a2 fun t21 =>
  C Tryz.prog N.isthmusref01_Steps #[t20, t21] w fun t22 w =>
  o1 Tryz.prog (bin .neq 3 (.tmp 19) (.tmp 22) t19 t22) w fun t23 w =>
  br t23 (fun _ =>
  o1 Tryz.prog (Instr.build 23 #[]) w fun t24 w =>
  o0 Tryz.prog (Instr.storeAt 23 t8 t24) w fun _ w =>
  mv (.int .i64 2) fun t9_2 =>
  rc Tryz.prog 23 t8 w fun r0 =>
  k (.tuple #[r0, t9_2]) w) (fun _ =>
  o1 Tryz.prog (Instr.loadAt 23 t4) w fun t25 w =>
  mv a1 fun t26 =>
  mv a2 fun t27 =>
  mv a3 fun t28 =>
  C Tryz.prog N.isthmusref01_fold #[t25, t26, t27, t28] w fun t29 w =>
  o0 Tryz.prog (Instr.storeAt 23 t8 t29) w fun _ w =>
  mv (.int .i64 0) fun t9_3 =>
  rc Tryz.prog 23 t8 w fun r0 =>
  k (.tuple #[r0, t9_3]) w))
theorem C.isthmusref01_Fold {k : Value → World → Prop} {a0 a1 a2 a3 : Value} {w : World} (h : F.isthmusref01_Fold k a0 a1 a2 a3 w) : C Tryz.prog N.isthmusref01_Fold #[a0, a1, a2, a3] w k :=
  den_calls (H := { moves := [], vars := [9] }) (args := [a0, a1, a2, a3]) mixed Tryz.func149 (by kernel_rfl) (by kernel_rfl) (by kernel_rfl) h

-- (*isthmus/pack.Writer).raw
def F.pack_Writer_raw (k : Value → World → Prop) (a0 a1 : Value) (w : World) : Prop :=
  mv (.pointer none) fun t4 =>
  mv a0 fun t5 =>
  o1 Tryz.prog (bin .neq 142 (.tmp 5) (.const (.pointer none)) t5 (.pointer none)) w fun t6 w =>
  jn (fun x1 => []) (fun k1 =>
  br t6 (fun _ =>
  mv a0 fun t7 =>
  mv a0 fun t8 =>
  nilOk t8 = true ∧ mv t8 fun t9 =>
  o1 Tryz.prog (Instr.fieldAt 209 t9 0) w fun t10 w =>
  o1 Tryz.prog (Instr.loadAt 39 t10) w fun t11 w =>
  mv a1 fun t12 =>
  ob Tryz.prog (fun _ => Builtin.append_ #[39, 39] 39 #[t11, t12]) w fun t13 w =>
  nilOk t7 = true ∧ mv t7 fun t14 =>
  o1 Tryz.prog (Instr.fieldAt 209 t14 0) w fun t15 w =>
  o0 Tryz.prog (Instr.storeAt 39 t15 t13) w fun _ w =>
  k1 [] w) (fun _ =>
  k1 [] w)) fun x1 w =>
  mv a0 fun t16 =>
  mv t16 fun t4_1 =>
  k t4_1 w
theorem C.pack_Writer_raw {k : Value → World → Prop} {a0 a1 : Value} {w : World} (h : F.pack_Writer_raw k a0 a1 w) : C Tryz.prog N.pack_Writer_raw #[a0, a1] w k :=
  den_calls (H := { moves := [], vars := [4] }) (args := [a0, a1]) mixed Tryz.func150 (by kernel_rfl) (by kernel_rfl) (by kernel_rfl) h

-- slices.IndexFunc[[]byte,byte]
def F.slices_IndexFunc_bytes (k : Value → World → Prop) (a0 a1 : Value) (w : World) : Prop :=
  mv (.int .i64 0) fun t4 =>
  mv a0 fun t6 =>
  o1 Tryz.prog (Builtin.len_ #[39] 3 #[t6]) w fun t7 w =>
  mv (.int .i64 0) fun t8 =>
  lp [t4, undef, t8] w fun I1 μ1 => ∀ (x1 : Env) (w1 : World), I1 [x1 4, x1 5, x1 8] w1 →
  o1 Tryz.prog (bin .lss 3 (.tmp 8) (.tmp 7) (x1 8) t7) w1 fun t9 w =>
  br t9 (fun _ =>
  mv (x1 8) fun t10 =>
  mv t10 fun t5 =>
  mv a1 fun t11 =>
  mv a0 fun t12 =>
  mv t5 fun t13 =>
  o1 Tryz.prog (Instr.indexAt 39 t12 t13) w fun t14 w =>
  o1 Tryz.prog (Instr.loadAt 5 t14) w fun t15 w =>
  cv Tryz.prog t11 #[t15] w fun t16 w =>
  br t16 (fun _ =>
  mv t5 fun t17 =>
  mv t17 fun t4_1 =>
  k t4_1 w) (fun _ =>
  o1 Tryz.prog (bin .add 3 (.tmp 8) (.const (.int .i64 1)) (x1 8) (.int .i64 1)) w fun t18 w =>
  mv t18 fun t8_1 =>
  I1 [(x1 4), t5, t8_1] w ∧ μ1 [(x1 4), t5, t8_1] w < μ1 [x1 4, x1 5, x1 8] w1)) (fun _ =>
  mv (.int .i64 (-1)) fun t4_2 =>
  k t4_2 w)
theorem C.slices_IndexFunc_bytes {k : Value → World → Prop} {a0 a1 : Value} {w : World} (h : F.slices_IndexFunc_bytes k a0 a1 w) : C Tryz.prog N.slices_IndexFunc_bytes #[a0, a1] w k :=
  den_calls (H := { moves := [], vars := [4, 5, 8] }) (args := [a0, a1]) mixed Tryz.func154 (by kernel_rfl) (by kernel_rfl) (by kernel_rfl) h

-- math/bits.Len
def F.math_bits_Len (k : Value → World → Prop) (a0 : Value) (w : World) : Prop :=
  mv (.int .i64 0) fun t2 =>
  br (.bool false) (fun _ =>
  mv a0 fun t3 =>
  o1 Tryz.prog (convert 185 176 t3) w fun t4 w =>
  C Tryz.prog N.math_bits_Len32 #[t4] w fun t5 w =>
  mv t5 fun t2_1 =>
  k t2_1 w) (fun _ =>
  mv a0 fun t6 =>
  C Tryz.prog N.math_bits_Len64 #[t6] w fun t7 w =>
  mv t7 fun t2_2 =>
  k t2_2 w)
theorem C.math_bits_Len {k : Value → World → Prop} {a0 : Value} {w : World} (h : F.math_bits_Len k a0 w) : C Tryz.prog N.math_bits_Len #[a0] w k :=
  den_calls (H := { moves := [], vars := [2] }) (args := [a0]) mixed Tryz.func155 (by kernel_rfl) (by kernel_rfl) (by kernel_rfl) h

-- math/bits.RotateLeft32
def F.math_bits_RotateLeft32 (k : Value → World → Prop) (a0 a1 : Value) (w : World) : Prop :=
  mv (.int .u32 0) fun t4 =>
  mv a1 fun t6 =>
  o1 Tryz.prog (convert 3 185 t6) w fun t7 w =>
  o1 Tryz.prog (bin .and 185 (.tmp 7) (.const (.int .u64 31)) t7 (.int .u64 31)) w fun t8 w =>
  mv t8 fun t5 =>
  mv a0 fun t9 =>
  mv t5 fun t10 =>
  o1 Tryz.prog (bin .shl 176 (.tmp 9) (.tmp 10) t9 t10) w fun t11 w =>
  mv a0 fun t12 =>
  mv t5 fun t13 =>
  o1 Tryz.prog (bin .sub 185 (.const (.int .u64 32)) (.tmp 13) (.int .u64 32) t13) w fun t14 w =>
  o1 Tryz.prog (bin .shr 176 (.tmp 12) (.tmp 14) t12 t14) w fun t15 w =>
  o1 Tryz.prog (bin .or 176 (.tmp 11) (.tmp 15) t11 t15) w fun t16 w =>
  mv t16 fun t4_1 =>
  k t4_1 w
theorem C.math_bits_RotateLeft32 {k : Value → World → Prop} {a0 a1 : Value} {w : World} (h : F.math_bits_RotateLeft32 k a0 a1 w) : C Tryz.prog N.math_bits_RotateLeft32 #[a0, a1] w k :=
  den_calls (H := { moves := [], vars := [4, 5] }) (args := [a0, a1]) mixed Tryz.func156 (by kernel_rfl) (by kernel_rfl) (by kernel_rfl) h

-- slices.IndexFunc[[]isthmus/api.Vote,isthmus/api.Vote]
def F.slices_IndexFunc_api_Vote_api_Vote (k : Value → World → Prop) (a0 a1 : Value) (w : World) : Prop :=
  mv (.int .i64 0) fun t4 =>
  mv a0 fun t6 =>
  o1 Tryz.prog (Builtin.len_ #[27] 3 #[t6]) w fun t7 w =>
  mv (.int .i64 0) fun t8 =>
  lp [t4, undef, t8] w fun I1 μ1 => ∀ (x1 : Env) (w1 : World), I1 [x1 4, x1 5, x1 8] w1 →
  o1 Tryz.prog (bin .lss 3 (.tmp 8) (.tmp 7) (x1 8) t7) w1 fun t9 w =>
  br t9 (fun _ =>
  mv (x1 8) fun t10 =>
  mv t10 fun t5 =>
  mv a1 fun t11 =>
  mv a0 fun t12 =>
  mv t5 fun t13 =>
  o1 Tryz.prog (Instr.indexAt 27 t12 t13) w fun t14 w =>
  o1 Tryz.prog (Instr.loadAt 49 t14) w fun t15 w =>
  cv Tryz.prog t11 #[t15] w fun t16 w =>
  br t16 (fun _ =>
  mv t5 fun t17 =>
  mv t17 fun t4_1 =>
  k t4_1 w) (fun _ =>
  o1 Tryz.prog (bin .add 3 (.tmp 8) (.const (.int .i64 1)) (x1 8) (.int .i64 1)) w fun t18 w =>
  mv t18 fun t8_1 =>
  I1 [(x1 4), t5, t8_1] w ∧ μ1 [(x1 4), t5, t8_1] w < μ1 [x1 4, x1 5, x1 8] w1)) (fun _ =>
  mv (.int .i64 (-1)) fun t4_2 =>
  k t4_2 w)
theorem C.slices_IndexFunc_api_Vote_api_Vote {k : Value → World → Prop} {a0 a1 : Value} {w : World} (h : F.slices_IndexFunc_api_Vote_api_Vote k a0 a1 w) : C Tryz.prog N.slices_IndexFunc_api_Vote_api_Vote #[a0, a1] w k :=
  den_calls (H := { moves := [], vars := [4, 5, 8] }) (args := [a0, a1]) mixed Tryz.func157 (by kernel_rfl) (by kernel_rfl) (by kernel_rfl) h

-- (*isthmus/pack.Reader).live
def F.pack_Reader_live (k : Value → World → Prop) (a0 : Value) (w : World) : Prop :=
  mv (.bool false) fun t2 =>
  mv a0 fun t3 =>
  o1 Tryz.prog (bin .neq 192 (.tmp 3) (.const (.pointer none)) t3 (.pointer none)) w fun t4 w =>
  mv t4 fun t5 =>
  gd t5 true (fun k1 => mv a0 fun v => k1 v w) w fun t6 w =>
  gd t5 true (fun k2 => nilOk t6 = true ∧ mv t6 fun v => k2 v w) w fun t7 w =>
  gd t5 true (fun k3 => o1 Tryz.prog (Instr.fieldAt 250 t7 1) w k3) w fun t8 w =>
  gd t5 true (fun k4 => o1 Tryz.prog (Instr.loadAt 34 t8) w k4) w fun t9 w =>
  gd t5 true (fun k5 => o1 Tryz.prog (bin .eql 34 (.tmp 9) (.const .nilIface) t9 .nilIface) w k5) w fun t10 w =>
  pk t5 t10 (.bool false) fun t11 =>
  mv t11 fun t2_1 =>
  k t2_1 w
theorem C.pack_Reader_live {k : Value → World → Prop} {a0 : Value} {w : World} (h : F.pack_Reader_live k a0 w) : C Tryz.prog N.pack_Reader_live #[a0] w k :=
  den_calls (H := { moves := [], vars := [2] }) (args := [a0]) mixed Tryz.func158 (by kernel_rfl) (by kernel_rfl) (by kernel_rfl) h

-- (*isthmus/pack.Reader).Err
def F.pack_Reader_Err (k : Value → World → Prop) (a0 : Value) (w : World) : Prop :=
  mv .nilIface fun t2 =>
  mv a0 fun t3 =>
  o1 Tryz.prog (bin .eql 192 (.tmp 3) (.const (.pointer none)) t3 (.pointer none)) w fun t4 w =>
  br t4 (fun _ =>
  o1 Tryz.prog (Instr.makeInterface 93 (.int .i64 1)) w fun t5 w =>
  mv t5 fun t2_1 =>
  k t2_1 w) (fun _ =>
  mv a0 fun t6 =>
  nilOk t6 = true ∧ mv t6 fun t7 =>
  o1 Tryz.prog (Instr.fieldAt 250 t7 1) w fun t8 w =>
  o1 Tryz.prog (Instr.loadAt 34 t8) w fun t9 w =>
  mv t9 fun t2_2 =>
  k t2_2 w)
theorem C.pack_Reader_Err {k : Value → World → Prop} {a0 : Value} {w : World} (h : F.pack_Reader_Err k a0 w) : C Tryz.prog N.pack_Reader_Err #[a0] w k :=
  den_calls (H := { moves := [], vars := [2] }) (args := [a0]) mixed Tryz.func159 (by kernel_rfl) (by kernel_rfl) (by kernel_rfl) h

-- (*isthmus/pack.Reader).Uint
def F.pack_Reader_Uint (k : Value → World → Prop) (a0 a1 : Value) (w : World) : Prop :=
  mv (.int .u64 0) fun t4 =>
  mv a0 fun t8 =>
  C Tryz.prog N.pack_Reader_live #[t8] w fun t9 w =>
  o1 Tryz.prog (Op.unary .not t9) w fun t10 w =>
  br t10 (fun _ =>
  mv (.int .u64 0) fun t4_1 =>
  k t4_1 w) (fun _ =>
  mv a0 fun t12 =>
  nilOk t12 = true ∧ mv t12 fun t13 =>
  o1 Tryz.prog (Instr.fieldAt 250 t13 0) w fun t14 w =>
  o1 Tryz.prog (Instr.loadAt 39 t14) w fun t15 w =>
  C Tryz.prog N.pack_number #[t15] w fun t16 w =>
  mv t16 fun t11 =>
  o1 Tryz.prog (Instr.extract t11 0) w fun t17 w =>
  o1 Tryz.prog (Instr.extract t11 1) w fun t18 w =>
  o1 Tryz.prog (Instr.extract t11 2) w fun t19 w =>
  mv t17 fun t5 =>
  mv t18 fun t6 =>
  mv t19 fun t7 =>
  mv t7 fun t21 =>
  o1 Tryz.prog (bin .neq 93 (.tmp 21) (.const (.int .i64 0)) t21 (.int .i64 0)) w fun t22 w =>
  mv t22 fun t20 =>
  br t20 (fun _ =>
  mv a0 fun t23 =>
  mv t7 fun t24 =>
  C Tryz.prog N.pack_Reader_fail #[t23, .string ⟨#[110, 117, 109, 98, 101, 114]⟩, t24] w fun t25 w =>
  mv (.int .u64 0) fun t4_2 =>
  k t4_2 w) (fun _ =>
  mv t5 fun t27 =>
  mv a1 fun t28 =>
  o1 Tryz.prog (bin .gtr 105 (.tmp 27) (.tmp 28) t27 t28) w fun t29 w =>
  mv t29 fun t26 =>
  br t26 (fun _ =>
  mv a0 fun t30 =>
  C Tryz.prog N.pack_Reader_fail #[t30, .string ⟨#[110, 117, 109, 98, 101, 114]⟩, .int .i64 4] w fun t31 w =>
  mv (.int .u64 0) fun t4_3 =>
  k t4_3 w) (fun _ =>
  mv a0 fun t32 =>
  mv a0 fun t33 =>
  nilOk t33 = true ∧ mv t33 fun t34 =>
  o1 Tryz.prog (Instr.fieldAt 250 t34 0) w fun t35 w =>
  o1 Tryz.prog (Instr.loadAt 39 t35) w fun t36 w =>
  mv t6 fun t37 =>
  o1 Tryz.prog (Instr.sliceAt 39 t36 (some t37) none none) w fun t38 w =>
  nilOk t32 = true ∧ mv t32 fun t39 =>
  o1 Tryz.prog (Instr.fieldAt 250 t39 0) w fun t40 w =>
  o0 Tryz.prog (Instr.storeAt 39 t40 t38) w fun _ w =>
  mv t5 fun t41 =>
  mv t41 fun t4_4 =>
  k t4_4 w)))
theorem C.pack_Reader_Uint {k : Value → World → Prop} {a0 a1 : Value} {w : World} (h : F.pack_Reader_Uint k a0 a1 w) : C Tryz.prog N.pack_Reader_Uint #[a0, a1] w k :=
  den_calls (H := { moves := [], vars := [4, 5, 6, 7, 20, 26] }) (args := [a0, a1]) mixed Tryz.func160 (by kernel_rfl) (by kernel_rfl) (by kernel_rfl) h

-- (*isthmus/pack.Reader).take
def F.pack_Reader_take (k : Value → World → Prop) (a0 a1 a2 : Value) (w : World) : Prop :=
  mv (.slice none 0 0) fun t6 =>
  mv a0 fun t8 =>
  C Tryz.prog N.pack_Reader_live #[t8] w fun t9 w =>
  o1 Tryz.prog (Op.unary .not t9) w fun t10 w =>
  br t10 (fun _ =>
  mv (.slice none 0 0) fun t6_1 =>
  k t6_1 w) (fun _ =>
  mv a0 fun t11 =>
  nilOk t11 = true ∧ mv t11 fun t12 =>
  o1 Tryz.prog (Instr.fieldAt 250 t12 0) w fun t13 w =>
  o1 Tryz.prog (Instr.loadAt 39 t13) w fun t14 w =>
  o1 Tryz.prog (Builtin.len_ #[39] 3 #[t14]) w fun t15 w =>
  mv a2 fun t16 =>
  o1 Tryz.prog (bin .lss 3 (.tmp 15) (.tmp 16) t15 t16) w fun t17 w =>
  br t17 (fun _ =>
  mv a0 fun t18 =>
  mv a1 fun t19 =>
  C Tryz.prog N.pack_Reader_fail #[t18, t19, .int .i64 12] w fun t20 w =>
  mv (.slice none 0 0) fun t6_2 =>
  k t6_2 w) (fun _ =>
  mv a0 fun t21 =>
  nilOk t21 = true ∧ mv t21 fun t22 =>
  o1 Tryz.prog (Instr.fieldAt 250 t22 0) w fun t23 w =>
  o1 Tryz.prog (Instr.loadAt 39 t23) w fun t24 w =>
  mv a2 fun t25 =>
  o1 Tryz.prog (Instr.sliceAt 39 t24 none (some t25) none) w fun t26 w =>
  ob Tryz.prog (fun _ => Builtin.append_ #[39, 39] 39 #[.slice none 0 0, t26]) w fun t27 w =>
  mv t27 fun t7 =>
  mv a0 fun t28 =>
  mv a0 fun t29 =>
  nilOk t29 = true ∧ mv t29 fun t30 =>
  o1 Tryz.prog (Instr.fieldAt 250 t30 0) w fun t31 w =>
  o1 Tryz.prog (Instr.loadAt 39 t31) w fun t32 w =>
  mv a2 fun t33 =>
  o1 Tryz.prog (Instr.sliceAt 39 t32 (some t33) none none) w fun t34 w =>
  nilOk t28 = true ∧ mv t28 fun t35 =>
  o1 Tryz.prog (Instr.fieldAt 250 t35 0) w fun t36 w =>
  o0 Tryz.prog (Instr.storeAt 39 t36 t34) w fun _ w =>
  mv t7 fun t37 =>
  mv t37 fun t6_3 =>
  k t6_3 w))
theorem C.pack_Reader_take {k : Value → World → Prop} {a0 a1 a2 : Value} {w : World} (h : F.pack_Reader_take k a0 a1 a2 w) : C Tryz.prog N.pack_Reader_take #[a0, a1, a2] w k :=
  den_calls (H := { moves := [], vars := [6, 7] }) (args := [a0, a1, a2]) mixed Tryz.func161 (by kernel_rfl) (by kernel_rfl) (by kernel_rfl) h

-- (*isthmus/pack.Reader).fail
def F.pack_Reader_fail (k : Value → World → Prop) (a0 a1 a2 : Value) (w : World) : Prop :=
  mv a0 fun t6 =>
  o1 Tryz.prog (bin .neq 192 (.tmp 6) (.const (.pointer none)) t6 (.pointer none)) w fun t7 w =>
  mv t7 fun t8 =>
  gd t8 true (fun k1 => mv a0 fun v => k1 v w) w fun t9 w =>
  gd t8 true (fun k2 => nilOk t9 = true ∧ mv t9 fun v => k2 v w) w fun t10 w =>
  gd t8 true (fun k3 => o1 Tryz.prog (Instr.fieldAt 250 t10 1) w k3) w fun t11 w =>
  gd t8 true (fun k4 => o1 Tryz.prog (Instr.loadAt 34 t11) w k4) w fun t12 w =>
  gd t8 true (fun k5 => o1 Tryz.prog (bin .eql 34 (.tmp 12) (.const .nilIface) t12 .nilIface) w k5) w fun t13 w =>
  pk t8 t13 (.bool false) fun t14 =>
  jn (fun x1 => []) (fun k6 =>
  br t14 (fun _ =>
  mv a0 fun t15 =>
  mv a1 fun t16 =>
  mv a2 fun t17 =>
  o1 Tryz.prog (Instr.makeInterface 93 t17) w fun t18 w =>
  o1 Tryz.prog (Instr.build 173 #[(0, t16), (1, t18)]) w fun t19 w =>
  o1 Tryz.prog (Instr.box 173 t19) w fun t20 w =>
  o1 Tryz.prog (Instr.makeInterface 171 t20) w fun t21 w =>
  nilOk t15 = true ∧ mv t15 fun t22 =>
  o1 Tryz.prog (Instr.fieldAt 250 t22 1) w fun t23 w =>
  o0 Tryz.prog (Instr.storeAt 34 t23 t21) w fun _ w =>
  k6 [] w) (fun _ =>
  k6 [] w)) fun x1 w =>
  k (.tuple #[]) w
theorem C.pack_Reader_fail {k : Value → World → Prop} {a0 a1 a2 : Value} {w : World} (h : F.pack_Reader_fail k a0 a1 a2 w) : C Tryz.prog N.pack_Reader_fail #[a0, a1, a2] w k :=
  den_calls (H := { moves := [], vars := [] }) (args := [a0, a1, a2]) mixed Tryz.func162 (by kernel_rfl) (by kernel_rfl) (by kernel_rfl) h

-- isthmus/isthmusref02.ReadUint
def F.isthmusref02_ReadUint (k : Value → World → Prop) (a0 a1 : Value) (w : World) : Prop :=
  o1 Tryz.prog (Instr.box 119 a0) w fun t2 w =>
  o1 Tryz.prog (Instr.alloc 119 true (.tuple #[])) w fun t4 w =>
  mv (.int .u64 0) fun t5 =>
  o1 Tryz.prog (Instr.fieldAt 119 t2 1) w fun t9 w =>
  o1 Tryz.prog (Instr.loadAt 3 t9) w fun t10 w =>
  o1 Tryz.prog (bin .neq 3 (.tmp 10) (.const (.int .i64 0)) t10 (.int .i64 0)) w fun t11 w =>
  br t11 (fun _ =>
  o1 Tryz.prog (Instr.loadAt 119 t2) w fun t12 w =>
  o0 Tryz.prog (Instr.storeAt 119 t4 t12) w fun _ w =>
  mv (.int .u64 0) fun t5_1 =>
  rc Tryz.prog 119 t4 w fun r0 =>
  k (.tuple #[r0, t5_1]) w) (fun _ =>
  mv (.int .i64 0) fun t6 =>
  lp [t6] w fun I1 μ1 => ∀ (x1 : Env) (w1 : World), I1 [x1 6] w1 →
  mv (x1 6) fun t13 =>
  o1 Tryz.prog (Instr.fieldAt 119 t2 0) w1 fun t14 w =>
  o1 Tryz.prog (Instr.loadAt 39 t14) w fun t15 w =>
  o1 Tryz.prog (Builtin.len_ #[39] 3 #[t15]) w fun t16 w =>
  o1 Tryz.prog (bin .lss 3 (.tmp 13) (.tmp 16) t13 t16) w fun t17 w =>
  mv t17 fun t18 =>
  gd t18 true (fun k1 => mv (x1 6) fun v => k1 v w) w fun t19 w =>
  gd t18 true (fun k2 => o1 Tryz.prog (bin .lss 3 (.tmp 19) (.const (.int .i64 10)) t19 (.int .i64 10)) w k2) w fun t20 w =>
  pk t18 t20 (.bool false) fun t21 =>
  mv t21 fun t22 =>
  gd t22 true (fun k3 => o1 Tryz.prog (Instr.fieldAt 119 t2 0) w k3) w fun t23 w =>
  gd t22 true (fun k4 => o1 Tryz.prog (Instr.loadAt 39 t23) w k4) w fun t24 w =>
  gd t22 true (fun k5 => mv (x1 6) fun v => k5 v w) w fun t25 w =>
  gd t22 true (fun k6 => o1 Tryz.prog (Instr.indexAt 39 t24 t25) w k6) w fun t26 w =>
  gd t22 true (fun k7 => o1 Tryz.prog (Instr.loadAt 5 t26) w k7) w fun t27 w =>
  gd t22 true (fun k8 => o1 Tryz.prog (bin .geq 5 (.tmp 27) (.const (.int .u8 128)) t27 (.int .u8 128)) w k8) w fun t28 w =>
  pk t22 t28 (.bool false) fun t29 =>
  br t29 (fun _ =>
  mv (x1 6) fun t30 =>
  o1 Tryz.prog (bin .add 3 (.tmp 30) (.const (.int .i64 1)) t30 (.int .i64 1)) w fun t31 w =>
  mv t31 fun t6_1 =>
  I1 [t6_1] w ∧ μ1 [t6_1] w < μ1 [x1 6] w1) (fun _ =>
  mv (x1 6) fun t33 =>
  o1 Tryz.prog (bin .eql 3 (.tmp 33) (.const (.int .i64 10)) t33 (.int .i64 10)) w fun t34 w =>
  mv t34 fun t32 =>
  br t32 (fun _ =>
  o1 Tryz.prog (Instr.loadAt 119 t2) w fun t35 w =>
  C Tryz.prog N.isthmusref02_fail #[t35, .int .i64 3] w fun t36 w =>
  o0 Tryz.prog (Instr.storeAt 119 t4 t36) w fun _ w =>
  mv (.int .u64 0) fun t5_2 =>
  rc Tryz.prog 119 t4 w fun r0 =>
  k (.tuple #[r0, t5_2]) w) (fun _ =>
  mv (x1 6) fun t38 =>
  o1 Tryz.prog (Instr.fieldAt 119 t2 0) w fun t39 w =>
  o1 Tryz.prog (Instr.loadAt 39 t39) w fun t40 w =>
  o1 Tryz.prog (Builtin.len_ #[39] 3 #[t40]) w fun t41 w =>
  o1 Tryz.prog (bin .eql 3 (.tmp 38) (.tmp 41) t38 t41) w fun t42 w =>
  mv t42 fun t37 =>
  br t37 (fun _ =>
  o1 Tryz.prog (Instr.loadAt 119 t2) w fun t43 w =>
  C Tryz.prog N.isthmusref02_fail #[t43, .int .i64 12] w fun t44 w =>
  o0 Tryz.prog (Instr.storeAt 119 t4 t44) w fun _ w =>
  mv (.int .u64 0) fun t5_3 =>
  rc Tryz.prog 119 t4 w fun r0 =>
  k (.tuple #[r0, t5_3]) w) (fun _ =>
  mv (x1 6) fun t46 =>
  o1 Tryz.prog (bin .eql 3 (.tmp 46) (.const (.int .i64 9)) t46 (.int .i64 9)) w fun t47 w =>
  mv t47 fun t48 =>
  gd t48 true (fun k9 => o1 Tryz.prog (Instr.fieldAt 119 t2 0) w k9) w fun t49 w =>
  gd t48 true (fun k10 => o1 Tryz.prog (Instr.loadAt 39 t49) w k10) w fun t50 w =>
  gd t48 true (fun k11 => mv (x1 6) fun v => k11 v w) w fun t51 w =>
  gd t48 true (fun k12 => o1 Tryz.prog (Instr.indexAt 39 t50 t51) w k12) w fun t52 w =>
  gd t48 true (fun k13 => o1 Tryz.prog (Instr.loadAt 5 t52) w k13) w fun t53 w =>
  gd t48 true (fun k14 => o1 Tryz.prog (bin .gtr 5 (.tmp 53) (.const (.int .u8 1)) t53 (.int .u8 1)) w k14) w fun t54 w =>
  pk t48 t54 (.bool false) fun t55 =>
  mv t55 fun t56 =>
  gd t56 false (fun k15 => mv (x1 6) fun v => k15 v w) w fun t57 w =>
  gd t56 false (fun k16 => o1 Tryz.prog (bin .gtr 3 (.tmp 57) (.const (.int .i64 0)) t57 (.int .i64 0)) w k16) w fun t58 w =>
  gd t56 false (fun k17 => mv t58 fun v => k17 v w) w fun t59 w =>
  gd t59 true (fun k18 => o1 Tryz.prog (Instr.fieldAt 119 t2 0) w k18) w fun t60 w =>
  gd t59 true (fun k19 => o1 Tryz.prog (Instr.loadAt 39 t60) w k19) w fun t61 w =>
  gd t59 true (fun k20 => mv (x1 6) fun v => k20 v w) w fun t62 w =>
  gd t59 true (fun k21 => o1 Tryz.prog (Instr.indexAt 39 t61 t62) w k21) w fun t63 w =>
  gd t59 true (fun k22 => o1 Tryz.prog (Instr.loadAt 5 t63) w k22) w fun t64 w =>
  gd t59 true (fun k23 => o1 Tryz.prog (bin .eql 5 (.tmp 64) (.const (.int .u8 0)) t64 (.int .u8 0)) w k23) w fun t65 w =>
  gd t56 false (fun k24 => pk t59 t65 (.bool false) fun v => k24 v w) w fun t66 w =>
  pk t56 (.bool true) t66 fun t67 =>
  mv t67 fun t45 =>
  br t45 (fun _ =>
  o1 Tryz.prog (Instr.loadAt 119 t2) w fun t68 w =>
  C Tryz.prog N.isthmusref02_fail #[t68, .int .i64 3] w fun t69 w =>
  o0 Tryz.prog (Instr.storeAt 119 t4 t69) w fun _ w =>
  mv (.int .u64 0) fun t5_4 =>
  rc Tryz.prog 119 t4 w fun r0 =>
  k (.tuple #[r0, t5_4]) w) (fun _ =>
  mv (.int .u64 0) fun t7 =>
  mv (x1 6) fun t70 =>
  mv t70 fun t8 =>
  lp [t7, t8] w fun I2 μ2 => ∀ (x2 : Env) (w2 : World), I2 [x2 7, x2 8] w2 →
  mv (x2 8) fun t71 =>
  o1 Tryz.prog (bin .geq 3 (.tmp 71) (.const (.int .i64 0)) t71 (.int .i64 0)) w2 fun t72 w =>
  br t72 (fun _ =>
  mv (x2 7) fun t75 =>
  o1 Tryz.prog (bin .mul 105 (.tmp 75) (.const (.int .u64 128)) t75 (.int .u64 128)) w fun t76 w =>
  o1 Tryz.prog (Instr.fieldAt 119 t2 0) w fun t77 w =>
  o1 Tryz.prog (Instr.loadAt 39 t77) w fun t78 w =>
  mv (x2 8) fun t79 =>
  o1 Tryz.prog (Instr.indexAt 39 t78 t79) w fun t80 w =>
  o1 Tryz.prog (Instr.loadAt 5 t80) w fun t81 w =>
  o1 Tryz.prog (bin .rem 5 (.tmp 81) (.const (.int .u8 128)) t81 (.int .u8 128)) w fun t82 w =>
  o1 Tryz.prog (convert 5 105 t82) w fun t83 w =>
  o1 Tryz.prog (bin .add 105 (.tmp 76) (.tmp 83) t76 t83) w fun t84 w =>
  mv t84 fun t7_1 =>
  mv (x2 8) fun t73 =>
  o1 Tryz.prog (bin .sub 3 (.tmp 73) (.const (.int .i64 1)) t73 (.int .i64 1)) w fun t74 w =>
  mv t74 fun t8_1 =>
  I2 [t7_1, t8_1] w ∧ μ2 [t7_1, t8_1] w < μ2 [x2 7, x2 8] w2) (fun _ =>
  mv (x2 7) fun t85 =>
  mv a1 fun t86 =>
  o1 Tryz.prog (bin .gtr 105 (.tmp 85) (.tmp 86) t85 t86) w fun t87 w =>
  br t87 (fun _ =>
  o1 Tryz.prog (Instr.loadAt 119 t2) w fun t88 w =>
  C Tryz.prog N.isthmusref02_fail #[t88, .int .i64 4] w fun t89 w =>
  o0 Tryz.prog (Instr.storeAt 119 t4 t89) w fun _ w =>
  mv (.int .u64 0) fun t5_5 =>
  rc Tryz.prog 119 t4 w fun r0 =>
  k (.tuple #[r0, t5_5]) w) (fun _ =>
  o1 Tryz.prog (Instr.fieldAt 119 t2 0) w fun t90 w =>
  o1 Tryz.prog (Instr.loadAt 39 t90) w fun t91 w =>
  mv (x1 6) fun t92 =>
  o1 Tryz.prog (bin .add 3 (.tmp 92) (.const (.int .i64 1)) t92 (.int .i64 1)) w fun t93 w =>
  o1 Tryz.prog (Instr.sliceAt 39 t91 (some t93) none none) w fun t94 w =>
  o1 Tryz.prog (Instr.fieldAt 119 t2 0) w fun t95 w =>
  o0 Tryz.prog (Instr.storeAt 39 t95 t94) w fun _ w =>
  o1 Tryz.prog (Instr.loadAt 119 t2) w fun t96 w =>
  mv (x2 7) fun t97 =>
  o0 Tryz.prog (Instr.storeAt 119 t4 t96) w fun _ w =>
  mv t97 fun t5_6 =>
  rc Tryz.prog 119 t4 w fun r0 =>
  k (.tuple #[r0, t5_6]) w)))))))
theorem C.isthmusref02_ReadUint {k : Value → World → Prop} {a0 a1 : Value} {w : World} (h : F.isthmusref02_ReadUint k a0 a1 w) : C Tryz.prog N.isthmusref02_ReadUint #[a0, a1] w k :=
  den_calls (H := { moves := [], vars := [5, 6, 7, 8, 32, 37, 45] }) (args := [a0, a1]) mixed Tryz.func163 (by kernel_rfl) (by kernel_rfl) (by kernel_rfl) h

-- isthmus/isthmusref02.fail
def F.isthmusref02_fail (k : Value → World → Prop) (a0 a1 : Value) (w : World) : Prop :=
  o1 Tryz.prog (Instr.box 119 a0) w fun t2 w =>
  o1 Tryz.prog (Instr.alloc 119 true (.tuple #[])) w fun t4 w =>
  o1 Tryz.prog (Instr.fieldAt 119 t2 1) w fun t5 w =>
  o1 Tryz.prog (Instr.loadAt 3 t5) w fun t6 w =>
  o1 Tryz.prog (bin .eql 3 (.tmp 6) (.const (.int .i64 0)) t6 (.int .i64 0)) w fun t7 w =>
  jn (fun x1 => []) (fun k1 =>
  br t7 (fun _ =>
  mv a1 fun t8 =>
  o1 Tryz.prog (Instr.fieldAt 119 t2 1) w fun t9 w =>
  o0 Tryz.prog (Instr.storeAt 3 t9 t8) w fun _ w =>
  k1 [] w) (fun _ =>
  k1 [] w)) fun x1 w =>
  o1 Tryz.prog (Instr.loadAt 119 t2) w fun t10 w =>
  o0 Tryz.prog (Instr.storeAt 119 t4 t10) w fun _ w =>
  rc Tryz.prog 119 t4 w fun r0 =>
  k r0 w
theorem C.isthmusref02_fail {k : Value → World → Prop} {a0 a1 : Value} {w : World} (h : F.isthmusref02_fail k a0 a1 w) : C Tryz.prog N.isthmusref02_fail #[a0, a1] w k :=
  den_calls (H := { moves := [], vars := [] }) (args := [a0, a1]) mixed Tryz.func164 (by kernel_rfl) (by kernel_rfl) (by kernel_rfl) h

-- isthmus/wots.digest
def F.wots_digest (k : Value → World → Prop) (a0 : Value) (w : World) : Prop :=
  mv (.bool false) fun t2 =>
  mv a0 fun t3 =>
  o1 Tryz.prog (bin .geq 3 (.tmp 3) (.const (.int .i64 1)) t3 (.int .i64 1)) w fun t4 w =>
  mv t4 fun t5 =>
  gd t5 true (fun k1 => mv a0 fun v => k1 v w) w fun t6 w =>
  gd t5 true (fun k2 => o1 Tryz.prog (bin .leq 3 (.tmp 6) (.const (.int .i64 32)) t6 (.int .i64 32)) w k2) w fun t7 w =>
  pk t5 t7 (.bool false) fun t8 =>
  mv t8 fun t2_1 =>
  k t2_1 w
theorem C.wots_digest {k : Value → World → Prop} {a0 : Value} {w : World} (h : F.wots_digest k a0 w) : C Tryz.prog N.wots_digest #[a0] w k :=
  den_calls (H := { moves := [], vars := [2] }) (args := [a0]) mixed Tryz.func165 (by kernel_rfl) (by kernel_rfl) (by kernel_rfl) h

-- isthmus/wots.fault
def F.wots_fault (k : Value → World → Prop) (a0 a1 : Value) (w : World) : Prop :=
  mv .nilIface fun t4 =>
  mv a0 fun t5 =>
  mv a1 fun t6 =>
  o1 Tryz.prog (Instr.makeInterface 93 t6) w fun t7 w =>
  o1 Tryz.prog (Instr.build 173 #[(0, t5), (1, t7)]) w fun t8 w =>
  o1 Tryz.prog (Instr.box 173 t8) w fun t9 w =>
  o1 Tryz.prog (Instr.makeInterface 171 t9) w fun t10 w =>
  mv t10 fun t4_1 =>
  k t4_1 w
theorem C.wots_fault {k : Value → World → Prop} {a0 a1 : Value} {w : World} (h : F.wots_fault k a0 a1 w) : C Tryz.prog N.wots_fault #[a0, a1] w k :=
  den_calls (H := { moves := [], vars := [4] }) (args := [a0, a1]) mixed Tryz.func166 (by kernel_rfl) (by kernel_rfl) (by kernel_rfl) h

-- isthmus/wots.check
def F.wots_check (k : Value → World → Prop) (a0 a1 : Value) (w : World) : Prop :=
  mv .nilIface fun t4 =>
  mv a0 fun t6 =>
  o1 Tryz.prog (bin .lss 3 (.tmp 6) (.const (.int .i64 0)) t6 (.int .i64 0)) w fun t7 w =>
  mv t7 fun t8 =>
  gd t8 false (fun k1 => mv a0 fun v => k1 v w) w fun t9 w =>
  gd t8 false (fun k2 => o1 Tryz.prog (bin .geq 3 (.tmp 9) (.const (.int .i64 1024)) t9 (.int .i64 1024)) w k2) w fun t10 w =>
  pk t8 (.bool true) t10 fun t11 =>
  mv t11 fun t5 =>
  br t5 (fun _ =>
  C Tryz.prog N.wots_fault #[.string ⟨#[108, 101, 97, 102]⟩, .int .i64 1] w fun t12 w =>
  mv t12 fun t4_1 =>
  k t4_1 w) (fun _ =>
  mv a1 fun t14 =>
  C Tryz.prog N.wots_digest #[t14] w fun t15 w =>
  o1 Tryz.prog (Op.unary .not t15) w fun t16 w =>
  mv t16 fun t13 =>
  br t13 (fun _ =>
  C Tryz.prog N.wots_fault #[.string ⟨#[100, 105, 103, 101, 115, 116]⟩, .int .i64 1] w fun t17 w =>
  mv t17 fun t4_2 =>
  k t4_2 w) (fun _ =>
  mv .nilIface fun t4_3 =>
  k t4_3 w))
theorem C.wots_check {k : Value → World → Prop} {a0 a1 : Value} {w : World} (h : F.wots_check k a0 a1 w) : C Tryz.prog N.wots_check #[a0, a1] w k :=
  den_calls (H := { moves := [], vars := [4, 5, 13] }) (args := [a0, a1]) mixed Tryz.func167 (by kernel_rfl) (by kernel_rfl) (by kernel_rfl) h

-- isthmus/wots.Len
def F.wots_Len (k : Value → World → Prop) (a0 : Value) (w : World) : Prop :=
  mv (.int .i64 0) fun t2 =>
  mv a0 fun t3 =>
  C Tryz.prog N.wots_digest #[t3] w fun t4 w =>
  o1 Tryz.prog (Op.unary .not t4) w fun t5 w =>
  br t5 (fun _ =>
  mv (.int .i64 0) fun t2_1 =>
  k t2_1 w) (fun _ =>
  mv a0 fun t6 =>
  o1 Tryz.prog (bin .mul 3 (.const (.int .i64 2)) (.tmp 6) (.int .i64 2) t6) w fun t7 w =>
  o1 Tryz.prog (bin .add 3 (.tmp 7) (.const (.int .i64 3)) t7 (.int .i64 3)) w fun t8 w =>
  mv t8 fun t2_2 =>
  k t2_2 w)
theorem C.wots_Len {k : Value → World → Prop} {a0 : Value} {w : World} (h : F.wots_Len k a0 w) : C Tryz.prog N.wots_Len #[a0] w k :=
  den_calls (H := { moves := [], vars := [2] }) (args := [a0]) mixed Tryz.func168 (by kernel_rfl) (by kernel_rfl) (by kernel_rfl) h

-- isthmus/wots.Digits
def F.wots_Digits (k : Value → World → Prop) (a0 : Value) (w : World) : Prop :=
  mv (.slice none 0 0) fun t2 =>
  mv a0 fun t10 =>
  o1 Tryz.prog (Builtin.len_ #[39] 3 #[t10]) w fun t11 w =>
  C Tryz.prog N.wots_digest #[t11] w fun t12 w =>
  o1 Tryz.prog (Op.unary .not t12) w fun t13 w =>
  br t13 (fun _ =>
  mv (.slice none 0 0) fun t2_1 =>
  k t2_1 w) (fun _ =>
  mv a0 fun t14 =>
  o1 Tryz.prog (Builtin.len_ #[39] 3 #[t14]) w fun t15 w =>
  C Tryz.prog N.wots_Len #[t15] w fun t16 w =>
  o1 Tryz.prog (Instr.makeSlice 259 (.int .i64 0) t16) w fun t17 w =>
  mv t17 fun t3 =>
  mv (.int .i64 0) fun t4 =>
  mv a0 fun t18 =>
  o1 Tryz.prog (Builtin.len_ #[39] 3 #[t18]) w fun t19 w =>
  mv (.int .i64 0) fun t20 =>
  lp [t3, t4, undef, undef, t20, undef] w fun I1 μ1 => ∀ (x1 : Env) (w1 : World), I1 [x1 3, x1 4, x1 6, x1 8, x1 20, x1 31] w1 →
  o1 Tryz.prog (bin .lss 3 (.tmp 20) (.tmp 19) (x1 20) t19) w1 fun t21 w =>
  br t21 (fun _ =>
  o1 Tryz.prog (Instr.indexAt 39 t18 (x1 20)) w fun t22 w =>
  o1 Tryz.prog (Instr.loadAt 5 t22) w fun t23 w =>
  mv t23 fun t6 =>
  mv t6 fun t24 =>
  o1 Tryz.prog (bin .shr 5 (.tmp 24) (.const (.int .u64 4)) t24 (.int .u64 4)) w fun t25 w =>
  o1 Tryz.prog (convert 5 3 t25) w fun t26 w =>
  mv t6 fun t27 =>
  o1 Tryz.prog (bin .and 5 (.tmp 27) (.const (.int .u8 15)) t27 (.int .u8 15)) w fun t28 w =>
  o1 Tryz.prog (convert 5 3 t28) w fun t29 w =>
  o1 Tryz.prog (Instr.build 271 #[(0, t26), (1, t29)]) w fun t30 w =>
  mv (.int .i64 0) fun t31 =>
  lp [(x1 3), (x1 4), (x1 8), t31] w fun I2 μ2 => ∀ (x2 : Env) (w2 : World), I2 [x2 3, x2 4, x2 8, x2 31] w2 →
  o1 Tryz.prog (bin .lss 3 (.tmp 31) (.const (.int .i64 2)) (x2 31) (.int .i64 2)) w2 fun t32 w =>
  br t32 (fun _ =>
  o1 Tryz.prog (Instr.index 271 t30 (x2 31)) w fun t33 w =>
  mv t33 fun t8 =>
  mv (x2 3) fun t34 =>
  mv t8 fun t35 =>
  o1 Tryz.prog (Instr.buildSlice 259 1 #[(0, t35)]) w fun t36 w =>
  ob Tryz.prog (fun _ => Builtin.append_ #[259, 259] 259 #[t34, t36]) w fun t37 w =>
  mv t37 fun t3_1 =>
  mv (x2 4) fun t38 =>
  mv t8 fun t39 =>
  o1 Tryz.prog (bin .sub 3 (.const (.int .i64 15)) (.tmp 39) (.int .i64 15) t39) w fun t40 w =>
  o1 Tryz.prog (bin .add 3 (.tmp 38) (.tmp 40) t38 t40) w fun t41 w =>
  mv t41 fun t4_1 =>
  o1 Tryz.prog (bin .add 3 (.tmp 31) (.const (.int .i64 1)) (x2 31) (.int .i64 1)) w fun t42 w =>
  mv t42 fun t31_1 =>
  I2 [t3_1, t4_1, t8, t31_1] w ∧ μ2 [t3_1, t4_1, t8, t31_1] w < μ2 [x2 3, x2 4, x2 8, x2 31] w2) (fun _ =>
  o1 Tryz.prog (bin .add 3 (.tmp 20) (.const (.int .i64 1)) (x1 20) (.int .i64 1)) w fun t43 w =>
  mv t43 fun t20_1 =>
  I1 [(x2 3), (x2 4), t6, (x2 8), t20_1, (x2 31)] w ∧ μ1 [(x2 3), (x2 4), t6, (x2 8), t20_1, (x2 31)] w < μ1 [x1 3, x1 4, x1 6, x1 8, x1 20, x1 31] w1)) (fun _ =>
  mv (.int .i64 8) fun t9 =>
  lp [(x1 3), t9] w fun I3 μ3 => ∀ (x3 : Env) (w3 : World), I3 [x3 3, x3 9] w3 →
  mv (x3 9) fun t44 =>
  o1 Tryz.prog (bin .geq 3 (.tmp 44) (.const (.int .i64 0)) t44 (.int .i64 0)) w3 fun t45 w =>
  br t45 (fun _ =>
  mv (x3 3) fun t48 =>
  mv (x1 4) fun t49 =>
  mv (x3 9) fun t50 =>
  o1 Tryz.prog (convert 3 185 t50) w fun t51 w =>
  o1 Tryz.prog (bin .shr 3 (.tmp 49) (.tmp 51) t49 t51) w fun t52 w =>
  o1 Tryz.prog (bin .and 3 (.tmp 52) (.const (.int .i64 15)) t52 (.int .i64 15)) w fun t53 w =>
  o1 Tryz.prog (Instr.buildSlice 259 1 #[(0, t53)]) w fun t54 w =>
  ob Tryz.prog (fun _ => Builtin.append_ #[259, 259] 259 #[t48, t54]) w fun t55 w =>
  mv t55 fun t3_2 =>
  mv (x3 9) fun t46 =>
  o1 Tryz.prog (bin .sub 3 (.tmp 46) (.const (.int .i64 4)) t46 (.int .i64 4)) w fun t47 w =>
  mv t47 fun t9_1 =>
  I3 [t3_2, t9_1] w ∧ μ3 [t3_2, t9_1] w < μ3 [x3 3, x3 9] w3) (fun _ =>
  mv (x3 3) fun t56 =>
  mv t56 fun t2_2 =>
  k t2_2 w)))
theorem C.wots_Digits {k : Value → World → Prop} {a0 : Value} {w : World} (h : F.wots_Digits k a0 w) : C Tryz.prog N.wots_Digits #[a0] w k :=
  den_calls (H := { moves := [], vars := [2, 3, 4, 6, 8, 9, 20, 31] }) (args := [a0]) mixed Tryz.func169 (by kernel_rfl) (by kernel_rfl) (by kernel_rfl) h

-- isthmus/wots.Step
def F.wots_Step (k : Value → World → Prop) (a0 a1 a2 a3 a4 : Value) (w : World) : Prop :=
  o1 Tryz.prog (Instr.box 23 a0) w fun t5 w =>
  o1 Tryz.prog (Instr.alloc 23 true (.tuple #[])) w fun t10 w =>
  o1 Tryz.prog (Instr.alloc 272 true (.tuple #[])) w fun t11 w =>
  mv a3 fun t14 =>
  o1 Tryz.prog (Builtin.max_ #[3, 3] 3 #[t14, .int .i64 0]) w fun t15 w =>
  mv t15 fun t12 =>
  lp [t12, undef] w fun I1 μ1 => ∀ (x1 : Env) (w1 : World), I1 [x1 12, x1 13] w1 →
  mv (x1 12) fun t16 =>
  mv a4 fun t17 =>
  o1 Tryz.prog (Builtin.min_ #[3, 3] 3 #[t17, .int .i64 15]) w1 fun t18 w =>
  o1 Tryz.prog (bin .lss 3 (.tmp 16) (.tmp 18) t16 t18) w fun t19 w =>
  br t19 (fun _ =>
  o1 Tryz.prog (Instr.sliceAt 272 t11 none (some (.int .i64 0)) none) w fun t22 w =>
  o1 Tryz.prog (Instr.buildSlice 39 1 #[(0, .int .u8 3)]) w fun t23 w =>
  ob Tryz.prog (fun _ => Builtin.append_ #[39, 39] 39 #[t22, t23]) w fun t24 w =>
  mv a1 fun t25 =>
  C Tryz.prog N.wots_number #[t24, t25] w fun t26 w =>
  mv a2 fun t27 =>
  C Tryz.prog N.wots_number #[t26, t27] w fun t28 w =>
  mv (x1 12) fun t29 =>
  C Tryz.prog N.wots_number #[t28, t29] w fun t30 w =>
  mv t30 fun t13 =>
  mv t13 fun t31 =>
  o1 Tryz.prog (Instr.sliceAt 23 t5 none none none) w fun t32 w =>
  ob Tryz.prog (fun _ => Builtin.append_ #[39, 39] 39 #[t31, t32]) w fun t33 w =>
  C Tryz.prog N.sha_Sum #[t33] w fun t34 w =>
  o0 Tryz.prog (Instr.storeAt 23 t5 t34) w fun _ w =>
  mv (x1 12) fun t20 =>
  o1 Tryz.prog (bin .add 3 (.tmp 20) (.const (.int .i64 1)) t20 (.int .i64 1)) w fun t21 w =>
  mv t21 fun t12_1 =>
  I1 [t12_1, t13] w ∧ μ1 [t12_1, t13] w < μ1 [x1 12, x1 13] w1) (fun _ =>
  o1 Tryz.prog (Instr.loadAt 23 t5) w fun t35 w =>
  o0 Tryz.prog (Instr.storeAt 23 t10 t35) w fun _ w =>
  rc Tryz.prog 23 t10 w fun r0 =>
  k r0 w)
theorem C.wots_Step {k : Value → World → Prop} {a0 a1 a2 a3 a4 : Value} {w : World} (h : F.wots_Step k a0 a1 a2 a3 a4 w) : C Tryz.prog N.wots_Step #[a0, a1, a2, a3, a4] w k :=
  den_calls (H := { moves := [], vars := [12, 13] }) (args := [a0, a1, a2, a3, a4]) mixed Tryz.func170 (by kernel_rfl) (by kernel_rfl) (by kernel_rfl) h

-- isthmus/sha.turns
def F.sha_turns (k : Value → World → Prop) (a0 a1 : Value) (w : World) : Prop :=
  mv (.slice none 0 0) fun t4 =>
  mv (.slice none 0 0) fun t5 =>
  lp [a0, a1, t5, undef, undef] w fun I1 μ1 => ∀ (x1 : Env) (w1 : World), I1 [x1 0, x1 1, x1 5, x1 6, x1 7] w1 →
  mv (x1 1) fun t8 =>
  o1 Tryz.prog (bin .gtr 3 (.tmp 8) (.const (.int .i64 1)) t8 (.int .i64 1)) w1 fun t9 w =>
  br t9 (fun _ =>
  mv (x1 1) fun t10 =>
  C Tryz.prog N.sha_half #[t10] w fun t11 w =>
  mv t11 fun t6 =>
  mv (x1 0) fun t12 =>
  mv t6 fun t13 =>
  o1 Tryz.prog (bin .geq 3 (.tmp 12) (.tmp 13) t12 t13) w fun t14 w =>
  mv t14 fun t7 =>
  mv (x1 5) fun t15 =>
  mv t7 fun t16 =>
  o1 Tryz.prog (Instr.buildSlice 262 1 #[(0, t16)]) w fun t17 w =>
  ob Tryz.prog (fun _ => Builtin.append_ #[262, 262] 262 #[t15, t17]) w fun t18 w =>
  mv t18 fun t5_1 =>
  mv t7 fun t19 =>
  jn (fun x2 => [x2 0, x2 1]) (fun k1 =>
  br t19 (fun _ =>
  mv (x1 0) fun t20 =>
  mv t6 fun t21 =>
  o1 Tryz.prog (bin .sub 3 (.tmp 20) (.tmp 21) t20 t21) w fun t22 w =>
  mv (x1 1) fun t23 =>
  mv t6 fun t24 =>
  o1 Tryz.prog (bin .sub 3 (.tmp 23) (.tmp 24) t23 t24) w fun t25 w =>
  mv t22 fun t0 =>
  mv t25 fun t1 =>
  k1 [t0, t1] w) (fun _ =>
  mv t6 fun t26 =>
  mv t26 fun t1_1 =>
  k1 [(x1 0), t1_1] w)) fun x2 w =>
  I1 [(x2 0), (x2 1), t5_1, t6, t7] w ∧ μ1 [(x2 0), (x2 1), t5_1, t6, t7] w < μ1 [x1 0, x1 1, x1 5, x1 6, x1 7] w1) (fun _ =>
  mv (x1 5) fun t27 =>
  mv t27 fun t4_1 =>
  k t4_1 w)
theorem C.sha_turns {k : Value → World → Prop} {a0 a1 : Value} {w : World} (h : F.sha_turns k a0 a1 w) : C Tryz.prog N.sha_turns #[a0, a1] w k :=
  den_calls (H := { moves := [], vars := [0, 1, 4, 5, 6, 7] }) (args := [a0, a1]) mixed Tryz.func171 (by kernel_rfl) (by kernel_rfl) (by kernel_rfl) h

-- isthmus/isthmusref05.check
def F.isthmusref05_check (k : Value → World → Prop) (a0 a1 : Value) (w : World) : Prop :=
  mv (.bool false) fun t4 =>
  mv a0 fun t5 =>
  o1 Tryz.prog (bin .geq 3 (.tmp 5) (.const (.int .i64 0)) t5 (.int .i64 0)) w fun t6 w =>
  mv t6 fun t7 =>
  gd t7 true (fun k1 => mv a0 fun v => k1 v w) w fun t8 w =>
  gd t7 true (fun k2 => o1 Tryz.prog (bin .lss 3 (.tmp 8) (.const (.int .i64 1024)) t8 (.int .i64 1024)) w k2) w fun t9 w =>
  pk t7 t9 (.bool false) fun t10 =>
  mv t10 fun t11 =>
  gd t11 true (fun k3 => mv a1 fun v => k3 v w) w fun t12 w =>
  gd t11 true (fun k4 => o1 Tryz.prog (bin .geq 3 (.tmp 12) (.const (.int .i64 1)) t12 (.int .i64 1)) w k4) w fun t13 w =>
  pk t11 t13 (.bool false) fun t14 =>
  mv t14 fun t15 =>
  gd t15 true (fun k5 => mv a1 fun v => k5 v w) w fun t16 w =>
  gd t15 true (fun k6 => o1 Tryz.prog (bin .leq 3 (.tmp 16) (.const (.int .i64 32)) t16 (.int .i64 32)) w k6) w fun t17 w =>
  pk t15 t17 (.bool false) fun t18 =>
  mv t18 fun t4_1 =>
  k t4_1 w
theorem C.isthmusref05_check {k : Value → World → Prop} {a0 a1 : Value} {w : World} (h : F.isthmusref05_check k a0 a1 w) : C Tryz.prog N.isthmusref05_check #[a0, a1] w k :=
  den_calls (H := { moves := [], vars := [4] }) (args := [a0, a1]) mixed Tryz.func172 (by kernel_rfl) (by kernel_rfl) (by kernel_rfl) h

-- isthmus/isthmusref05.Digits
def F.isthmusref05_Digits (k : Value → World → Prop) (a0 : Value) (w : World) : Prop :=
  mv (.slice none 0 0) fun t2 =>
  mv a0 fun t8 =>
  o1 Tryz.prog (Builtin.len_ #[39] 3 #[t8]) w fun t9 w =>
  o1 Tryz.prog (bin .lss 3 (.tmp 9) (.const (.int .i64 1)) t9 (.int .i64 1)) w fun t10 w =>
  mv t10 fun t11 =>
  gd t11 false (fun k1 => mv a0 fun v => k1 v w) w fun t12 w =>
  gd t11 false (fun k2 => o1 Tryz.prog (Builtin.len_ #[39] 3 #[t12]) w k2) w fun t13 w =>
  gd t11 false (fun k3 => o1 Tryz.prog (bin .gtr 3 (.tmp 13) (.const (.int .i64 32)) t13 (.int .i64 32)) w k3) w fun t14 w =>
  pk t11 (.bool true) t14 fun t15 =>
  br t15 (fun _ =>
  mv (.slice none 0 0) fun t2_1 =>
  k t2_1 w) (fun _ =>
  mv (.slice none 0 0) fun t3 =>
  mv (.int .i64 0) fun t4 =>
  mv (.int .i64 0) fun t5 =>
  lp [t3, t4, t5, undef, undef] w fun I1 μ1 => ∀ (x1 : Env) (w1 : World), I1 [x1 3, x1 4, x1 5, x1 6, x1 7] w1 →
  mv (x1 5) fun t16 =>
  mv a0 fun t17 =>
  o1 Tryz.prog (Builtin.len_ #[39] 3 #[t17]) w1 fun t18 w =>
  o1 Tryz.prog (bin .lss 3 (.tmp 16) (.tmp 18) t16 t18) w fun t19 w =>
  br t19 (fun _ =>
  mv a0 fun t22 =>
  mv (x1 5) fun t23 =>
  tk Tryz.prog (fun w' => w' = w.drew) (Instr.indexAt 39 t22 t23) fun t24 =>
  tk Tryz.prog (fun w' => w' = w.drew) (Instr.loadAt 5 t24) fun t25 =>
  tk Tryz.prog (fun w' => w' = w.drew) (bin .quo 5 (.tmp 25) (.const (.int .u8 16)) t25 (.int .u8 16)) fun t26 =>
  tk Tryz.prog (fun w' => w' = w.drew) (convert 5 3 t26) fun t27 =>
  mv a0 fun t28 =>
  mv (x1 5) fun t29 =>
  tk Tryz.prog (fun w' => w' = w.drew) (Instr.indexAt 39 t28 t29) fun t30 =>
  tk Tryz.prog (fun w' => w' = w.drew) (Instr.loadAt 5 t30) fun t31 =>
  tk Tryz.prog (fun w' => w' = w.drew) (bin .rem 5 (.tmp 31) (.const (.int .u8 16)) t31 (.int .u8 16)) fun t32 =>
  tk Tryz.prog (fun w' => w' = w.drew) (convert 5 3 t32) fun t33 =>
  mv t27 fun t6 =>
  mv t33 fun t7 =>
  mv (x1 3) fun t34 =>
  mv t6 fun t35 =>
  mv t7 fun t36 =>
  o1 Tryz.prog (Instr.buildSlice 259 2 #[(0, t35), (1, t36)]) w.drew fun t37 w =>
  ob Tryz.prog (fun _ => Builtin.append_ #[259, 259] 259 #[t34, t37]) w fun t38 w =>
  mv t38 fun t3_1 =>
  mv (x1 4) fun t39 =>
  o1 Tryz.prog (bin .add 3 (.tmp 39) (.const (.int .i64 30)) t39 (.int .i64 30)) w fun t40 w =>
  mv t6 fun t41 =>
  o1 Tryz.prog (bin .sub 3 (.tmp 40) (.tmp 41) t40 t41) w fun t42 w =>
  mv t7 fun t43 =>
  o1 Tryz.prog (bin .sub 3 (.tmp 42) (.tmp 43) t42 t43) w fun t44 w =>
  mv t44 fun t4_1 =>
  mv (x1 5) fun t20 =>
  o1 Tryz.prog (bin .add 3 (.tmp 20) (.const (.int .i64 1)) t20 (.int .i64 1)) w fun t21 w =>
  mv t21 fun t5_1 =>
  I1 [t3_1, t4_1, t5_1, t6, t7] w ∧ μ1 [t3_1, t4_1, t5_1, t6, t7] w < μ1 [x1 3, x1 4, x1 5, x1 6, x1 7] w1) (fun _ =>
  mv (x1 3) fun t45 =>
  mv (x1 4) fun t46 =>
  o1 Tryz.prog (bin .quo 3 (.tmp 46) (.const (.int .i64 256)) t46 (.int .i64 256)) w fun t47 w =>
  o1 Tryz.prog (bin .rem 3 (.tmp 47) (.const (.int .i64 16)) t47 (.int .i64 16)) w fun t48 w =>
  mv (x1 4) fun t49 =>
  o1 Tryz.prog (bin .quo 3 (.tmp 49) (.const (.int .i64 16)) t49 (.int .i64 16)) w fun t50 w =>
  o1 Tryz.prog (bin .rem 3 (.tmp 50) (.const (.int .i64 16)) t50 (.int .i64 16)) w fun t51 w =>
  mv (x1 4) fun t52 =>
  o1 Tryz.prog (bin .rem 3 (.tmp 52) (.const (.int .i64 16)) t52 (.int .i64 16)) w fun t53 w =>
  o1 Tryz.prog (Instr.buildSlice 259 3 #[(0, t48), (1, t51), (2, t53)]) w fun t54 w =>
  ob Tryz.prog (fun _ => Builtin.append_ #[259, 259] 259 #[t45, t54]) w fun t55 w =>
  mv t55 fun t2_2 =>
  k t2_2 w))
theorem C.isthmusref05_Digits {k : Value → World → Prop} {a0 : Value} {w : World} (h : F.isthmusref05_Digits k a0 w) : C Tryz.prog N.isthmusref05_Digits #[a0] w k :=
  den_calls (H := { moves := [(8, (.take 0 (.take 1 (.take 2 (.take 3 (.take 4 (.take 5 (.take 6 (.take 7 (.take 8 (.take 9 (.take 10 (.take 11 (.take 12 (.take 13 .fin)))))))))))))))], vars := [2, 3, 4, 5, 6, 7] }) (args := [a0]) mixed Tryz.func173 (by kernel_rfl) (by kernel_rfl) (by kernel_rfl) h

-- isthmus/isthmusref05.Step
def F.isthmusref05_Step (k : Value → World → Prop) (a0 a1 a2 a3 a4 : Value) (w : World) : Prop :=
  o1 Tryz.prog (Instr.box 23 a0) w fun t5 w =>
  o1 Tryz.prog (Instr.alloc 23 true (.tuple #[])) w fun t10 w =>
  mv a3 fun t13 =>
  o1 Tryz.prog (Builtin.max_ #[3, 3] 3 #[t13, .int .i64 0]) w fun t14 w =>
  mv t14 fun t11 =>
  lp [t11, undef] w fun I1 μ1 => ∀ (x1 : Env) (w1 : World), I1 [x1 11, x1 12] w1 →
  mv (x1 11) fun t15 =>
  mv a4 fun t16 =>
  o1 Tryz.prog (bin .lss 3 (.tmp 15) (.tmp 16) t15 t16) w1 fun t17 w =>
  mv t17 fun t18 =>
  gd t18 true (fun k1 => mv (x1 11) fun v => k1 v w) w fun t19 w =>
  gd t18 true (fun k2 => o1 Tryz.prog (bin .lss 3 (.tmp 19) (.const (.int .i64 15)) t19 (.int .i64 15)) w k2) w fun t20 w =>
  pk t18 t20 (.bool false) fun t21 =>
  br t21 (fun _ =>
  o1 Tryz.prog (Instr.buildSlice 39 1 #[(0, .int .u8 3)]) w fun t24 w =>
  mv a1 fun t25 =>
  o1 Tryz.prog (convert 3 105 t25) w fun t26 w =>
  C Tryz.prog N.isthmusref02_Uint #[t24, t26] w fun t27 w =>
  mv a2 fun t28 =>
  o1 Tryz.prog (convert 3 105 t28) w fun t29 w =>
  C Tryz.prog N.isthmusref02_Uint #[t27, t29] w fun t30 w =>
  mv (x1 11) fun t31 =>
  o1 Tryz.prog (convert 3 105 t31) w fun t32 w =>
  C Tryz.prog N.isthmusref02_Uint #[t30, t32] w fun t33 w =>
  mv t33 fun t12 =>
  mv t12 fun t34 =>
  o1 Tryz.prog (Instr.loadAt 23 t5) w fun t35 w =>
  C Tryz.prog N.isthmusref02_Hash #[t34, t35] w fun t36 w =>
  C Tryz.prog N.isthmusref01_Sum #[t36] w fun t37 w =>
  o0 Tryz.prog (Instr.storeAt 23 t5 t37) w fun _ w =>
  mv (x1 11) fun t22 =>
  o1 Tryz.prog (bin .add 3 (.tmp 22) (.const (.int .i64 1)) t22 (.int .i64 1)) w fun t23 w =>
  mv t23 fun t11_1 =>
  I1 [t11_1, t12] w ∧ μ1 [t11_1, t12] w < μ1 [x1 11, x1 12] w1) (fun _ =>
  o1 Tryz.prog (Instr.loadAt 23 t5) w fun t38 w =>
  o0 Tryz.prog (Instr.storeAt 23 t10 t38) w fun _ w =>
  rc Tryz.prog 23 t10 w fun r0 =>
  k r0 w)
theorem C.isthmusref05_Step {k : Value → World → Prop} {a0 a1 a2 a3 a4 : Value} {w : World} (h : F.isthmusref05_Step k a0 a1 a2 a3 a4 w) : C Tryz.prog N.isthmusref05_Step #[a0, a1, a2, a3, a4] w k :=
  den_calls (H := { moves := [], vars := [11, 12] }) (args := [a0, a1, a2, a3, a4]) mixed Tryz.func174 (by kernel_rfl) (by kernel_rfl) (by kernel_rfl) h

-- isthmus/isthmusref01.Steps
def F.isthmusref01_Steps (k : Value → World → Prop) (a0 a1 : Value) (w : World) : Prop :=
  mv (.int .i64 0) fun t4 =>
  mv (.int .i64 0) fun t5 =>
  lp [a0, a1, t5, undef] w fun I1 μ1 => ∀ (x1 : Env) (w1 : World), I1 [x1 0, x1 1, x1 5, x1 6] w1 →
  mv (x1 1) fun t7 =>
  o1 Tryz.prog (bin .gtr 3 (.tmp 7) (.const (.int .i64 1)) t7 (.int .i64 1)) w1 fun t8 w =>
  br t8 (fun _ =>
  mv (x1 1) fun t9 =>
  C Tryz.prog N.isthmusref01_split #[t9] w fun t10 w =>
  mv t10 fun t6 =>
  mv (x1 0) fun t11 =>
  mv t6 fun t12 =>
  o1 Tryz.prog (bin .lss 3 (.tmp 11) (.tmp 12) t11 t12) w fun t13 w =>
  jn (fun x2 => [x2 0, x2 1]) (fun k1 =>
  br t13 (fun _ =>
  mv t6 fun t14 =>
  mv t14 fun t1 =>
  k1 [(x1 0), t1] w) (fun _ =>
  mv (x1 0) fun t15 =>
  mv t6 fun t16 =>
  o1 Tryz.prog (bin .sub 3 (.tmp 15) (.tmp 16) t15 t16) w fun t17 w =>
  mv (x1 1) fun t18 =>
  mv t6 fun t19 =>
  o1 Tryz.prog (bin .sub 3 (.tmp 18) (.tmp 19) t18 t19) w fun t20 w =>
  mv t17 fun t0 =>
  mv t20 fun t1_1 =>
  k1 [t0, t1_1] w)) fun x2 w =>
  mv (x1 5) fun t21 =>
  o1 Tryz.prog (bin .add 3 (.tmp 21) (.const (.int .i64 1)) t21 (.int .i64 1)) w fun t22 w =>
  mv t22 fun t5_1 =>
  I1 [(x2 0), (x2 1), t5_1, t6] w ∧ μ1 [(x2 0), (x2 1), t5_1, t6] w < μ1 [x1 0, x1 1, x1 5, x1 6] w1) (fun _ =>
  mv (x1 5) fun t23 =>
  mv t23 fun t4_1 =>
  k t4_1 w)
theorem C.isthmusref01_Steps {k : Value → World → Prop} {a0 a1 : Value} {w : World} (h : F.isthmusref01_Steps k a0 a1 w) : C Tryz.prog N.isthmusref01_Steps #[a0, a1] w k :=
  den_calls (H := { moves := [], vars := [0, 1, 4, 5, 6] }) (args := [a0, a1]) mixed Tryz.func175 (by kernel_rfl) (by kernel_rfl) (by kernel_rfl) h

-- isthmus/isthmusref01.fold
def F.isthmusref01_fold (k : Value → World → Prop) (a0 a1 a2 a3 : Value) (w : World) : Prop :=
  o1 Tryz.prog (Instr.box 23 a0) w fun t4 w =>
  o1 Tryz.prog (Instr.alloc 23 true (.tuple #[])) w fun t8 w =>
  mv a2 fun t11 =>
  o1 Tryz.prog (bin .eql 3 (.tmp 11) (.const (.int .i64 1)) t11 (.int .i64 1)) w fun t12 w =>
  br t12 (fun _ =>
  o1 Tryz.prog (Instr.loadAt 23 t4) w fun t13 w =>
  o0 Tryz.prog (Instr.storeAt 23 t8 t13) w fun _ w =>
  rc Tryz.prog 23 t8 w fun r0 =>
  k r0 w) (fun _ =>
  mv a2 fun t14 =>
  C Tryz.prog N.isthmusref01_split #[t14] w fun t15 w =>
  mv a3 fun t16 =>
  o1 Tryz.prog (Builtin.len_ #[99] 3 #[t16]) w fun t17 w =>
  o1 Tryz.prog (bin .sub 3 (.tmp 17) (.const (.int .i64 1)) t17 (.int .i64 1)) w fun t18 w =>
  mv t15 fun t9 =>
  mv t18 fun t10 =>
  mv a1 fun t19 =>
  mv t9 fun t20 =>
  o1 Tryz.prog (bin .lss 3 (.tmp 19) (.tmp 20) t19 t20) w fun t21 w =>
  br t21 (fun _ =>
  dr w.drew fun S1 =>
  tk Tryz.prog S1 (Instr.loadAt 23 t4) fun t22 =>
  mv a1 fun t23 =>
  mv t9 fun t24 =>
  mv a3 fun t25 =>
  mv t10 fun t26 =>
  tk Tryz.prog S1 (Instr.sliceAt 99 t25 none (some t26) none) fun t27 =>
  mv a3 fun t29 =>
  mv t10 fun t30 =>
  tk Tryz.prog S1 (Instr.indexAt 99 t29 t30) fun t31 =>
  tk Tryz.prog S1 (Instr.loadAt 23 t31) fun t32 =>
  C Tryz.prog N.isthmusref01_fold #[t22, t23, t24, t27] w.drew fun t28 w =>
  S1 w ∧
  C Tryz.prog N.isthmusref01_Node #[t28, t32] w fun t33 w =>
  S1 w ∧
  o0 Tryz.prog (Instr.storeAt 23 t8 t33) w fun _ w =>
  rc Tryz.prog 23 t8 w fun r0 =>
  k r0 w) (fun _ =>
  dr w.drew fun S2 =>
  mv a3 fun t34 =>
  mv t10 fun t35 =>
  tk Tryz.prog S2 (Instr.indexAt 99 t34 t35) fun t36 =>
  tk Tryz.prog S2 (Instr.loadAt 23 t36) fun t37 =>
  tk Tryz.prog S2 (Instr.loadAt 23 t4) fun t38 =>
  mv a1 fun t39 =>
  mv t9 fun t40 =>
  tk Tryz.prog S2 (bin .sub 3 (.tmp 39) (.tmp 40) t39 t40) fun t41 =>
  mv a2 fun t42 =>
  mv t9 fun t43 =>
  tk Tryz.prog S2 (bin .sub 3 (.tmp 42) (.tmp 43) t42 t43) fun t44 =>
  mv a3 fun t45 =>
  mv t10 fun t46 =>
  tk Tryz.prog S2 (Instr.sliceAt 99 t45 none (some t46) none) fun t47 =>
  C Tryz.prog N.isthmusref01_fold #[t38, t41, t44, t47] w.drew fun t48 w =>
  S2 w ∧
  C Tryz.prog N.isthmusref01_Node #[t37, t48] w fun t49 w =>
  S2 w ∧
  o0 Tryz.prog (Instr.storeAt 23 t8 t49) w fun _ w =>
  rc Tryz.prog 23 t8 w fun r0 =>
  k r0 w))
theorem C.isthmusref01_fold {k : Value → World → Prop} {a0 a1 a2 a3 : Value} {w : World} (h : F.isthmusref01_fold k a0 a1 a2 a3 w) : C Tryz.prog N.isthmusref01_fold #[a0, a1, a2, a3] w k :=
  den_calls (H := { moves := [(5, (.take 0 (.take 1 (.take 2 (.take 3 (.take 4 (.take 5 (.take 7 (.take 8 (.take 9 (.take 10 (.force 6 (.force 11 (.last 12)))))))))))))), (6, (.take 0 (.take 1 (.take 2 (.take 3 (.take 4 (.take 5 (.take 6 (.take 7 (.take 8 (.take 9 (.take 10 (.take 11 (.take 12 (.take 13 (.force 14 (.force 15 (.last 16))))))))))))))))))], vars := [9, 10] }) (args := [a0, a1, a2, a3]) mixed Tryz.func176 (by kernel_rfl) (by kernel_rfl) (by kernel_rfl) h

-- math/bits.Len32
def F.math_bits_Len32 (k : Value → World → Prop) (a0 : Value) (w : World) : Prop :=
  mv (.int .i64 0) fun t2 =>
  mv a0 fun t3 =>
  o1 Tryz.prog (bin .geq 176 (.tmp 3) (.const (.int .u32 65536)) t3 (.int .u32 65536)) w fun t4 w =>
  jn (fun x1 => [x1 0, x1 2]) (fun k1 =>
  br t4 (fun _ =>
  mv a0 fun t5 =>
  o1 Tryz.prog (bin .shr 176 (.tmp 5) (.const (.int .u64 16)) t5 (.int .u64 16)) w fun t6 w =>
  mv t6 fun t0 =>
  mv (.int .i64 16) fun t2_1 =>
  k1 [t0, t2_1] w) (fun _ =>
  k1 [a0, t2] w)) fun x1 w =>
  mv (x1 0) fun t7 =>
  o1 Tryz.prog (bin .geq 176 (.tmp 7) (.const (.int .u32 256)) t7 (.int .u32 256)) w fun t8 w =>
  jn (fun x2 => [x2 0, x2 2]) (fun k2 =>
  br t8 (fun _ =>
  mv (x1 0) fun t9 =>
  o1 Tryz.prog (bin .shr 176 (.tmp 9) (.const (.int .u64 8)) t9 (.int .u64 8)) w fun t10 w =>
  mv t10 fun t0_1 =>
  mv (x1 2) fun t11 =>
  o1 Tryz.prog (bin .add 3 (.tmp 11) (.const (.int .i64 8)) t11 (.int .i64 8)) w fun t12 w =>
  mv t12 fun t2_2 =>
  k2 [t0_1, t2_2] w) (fun _ =>
  k2 [(x1 0), (x1 2)] w)) fun x2 w =>
  mv (x2 2) fun t13 =>
  mv (x2 0) fun t14 =>
  o1 Tryz.prog (convert 176 5 t14) w fun t15 w =>
  o1 Tryz.prog (Instr.index 9 (.string ⟨#[0, 1, 2, 2, 3, 3, 3, 3, 4, 4, 4, 4, 4, 4, 4, 4, 5, 5, 5, 5, 5, 5, 5, 5, 5, 5, 5, 5, 5, 5, 5, 5, 6, 6, 6, 6, 6, 6, 6, 6, 6, 6, 6, 6, 6, 6, 6, 6, 6, 6, 6, 6, 6, 6, 6, 6, 6, 6, 6, 6, 6, 6, 6, 6, 7, 7, 7, 7, 7, 7, 7, 7, 7, 7, 7, 7, 7, 7, 7, 7, 7, 7, 7, 7, 7, 7, 7, 7, 7, 7, 7, 7, 7, 7, 7, 7, 7, 7, 7, 7, 7, 7, 7, 7, 7, 7, 7, 7, 7, 7, 7, 7, 7, 7, 7, 7, 7, 7, 7, 7, 7, 7, 7, 7, 7, 7, 7, 7, 8, 8, 8, 8, 8, 8, 8, 8, 8, 8, 8, 8, 8, 8, 8, 8, 8, 8, 8, 8, 8, 8, 8, 8, 8, 8, 8, 8, 8, 8, 8, 8, 8, 8, 8, 8, 8, 8, 8, 8, 8, 8, 8, 8, 8, 8, 8, 8, 8, 8, 8, 8, 8, 8, 8, 8, 8, 8, 8, 8, 8, 8, 8, 8, 8, 8, 8, 8, 8, 8, 8, 8, 8, 8, 8, 8, 8, 8, 8, 8, 8, 8, 8, 8, 8, 8, 8, 8, 8, 8, 8, 8, 8, 8, 8, 8, 8, 8, 8, 8, 8, 8, 8, 8, 8, 8, 8, 8, 8, 8, 8, 8, 8, 8, 8, 8, 8, 8, 8, 8, 8, 8, 8, 8, 8, 8, 8, 8]⟩) t15) w fun t16 w =>
  o1 Tryz.prog (convert 5 3 t16) w fun t17 w =>
  o1 Tryz.prog (bin .add 3 (.tmp 13) (.tmp 17) t13 t17) w fun t18 w =>
  mv t18 fun t2_3 =>
  k t2_3 w
theorem C.math_bits_Len32 {k : Value → World → Prop} {a0 : Value} {w : World} (h : F.math_bits_Len32 k a0 w) : C Tryz.prog N.math_bits_Len32 #[a0] w k :=
  den_calls (H := { moves := [], vars := [0, 2] }) (args := [a0]) mixed Tryz.func177 (by kernel_rfl) (by kernel_rfl) (by kernel_rfl) h

-- math/bits.Len64
def F.math_bits_Len64 (k : Value → World → Prop) (a0 : Value) (w : World) : Prop :=
  mv (.int .i64 0) fun t2 =>
  mv a0 fun t3 =>
  o1 Tryz.prog (bin .geq 105 (.tmp 3) (.const (.int .u64 4294967296)) t3 (.int .u64 4294967296)) w fun t4 w =>
  jn (fun x1 => [x1 0, x1 2]) (fun k1 =>
  br t4 (fun _ =>
  mv a0 fun t5 =>
  o1 Tryz.prog (bin .shr 105 (.tmp 5) (.const (.int .u64 32)) t5 (.int .u64 32)) w fun t6 w =>
  mv t6 fun t0 =>
  mv (.int .i64 32) fun t2_1 =>
  k1 [t0, t2_1] w) (fun _ =>
  k1 [a0, t2] w)) fun x1 w =>
  mv (x1 0) fun t7 =>
  o1 Tryz.prog (bin .geq 105 (.tmp 7) (.const (.int .u64 65536)) t7 (.int .u64 65536)) w fun t8 w =>
  jn (fun x2 => [x2 0, x2 2]) (fun k2 =>
  br t8 (fun _ =>
  mv (x1 0) fun t9 =>
  o1 Tryz.prog (bin .shr 105 (.tmp 9) (.const (.int .u64 16)) t9 (.int .u64 16)) w fun t10 w =>
  mv t10 fun t0_1 =>
  mv (x1 2) fun t11 =>
  o1 Tryz.prog (bin .add 3 (.tmp 11) (.const (.int .i64 16)) t11 (.int .i64 16)) w fun t12 w =>
  mv t12 fun t2_2 =>
  k2 [t0_1, t2_2] w) (fun _ =>
  k2 [(x1 0), (x1 2)] w)) fun x2 w =>
  mv (x2 0) fun t13 =>
  o1 Tryz.prog (bin .geq 105 (.tmp 13) (.const (.int .u64 256)) t13 (.int .u64 256)) w fun t14 w =>
  jn (fun x3 => [x3 0, x3 2]) (fun k3 =>
  br t14 (fun _ =>
  mv (x2 0) fun t15 =>
  o1 Tryz.prog (bin .shr 105 (.tmp 15) (.const (.int .u64 8)) t15 (.int .u64 8)) w fun t16 w =>
  mv t16 fun t0_2 =>
  mv (x2 2) fun t17 =>
  o1 Tryz.prog (bin .add 3 (.tmp 17) (.const (.int .i64 8)) t17 (.int .i64 8)) w fun t18 w =>
  mv t18 fun t2_3 =>
  k3 [t0_2, t2_3] w) (fun _ =>
  k3 [(x2 0), (x2 2)] w)) fun x3 w =>
  mv (x3 2) fun t19 =>
  mv (x3 0) fun t20 =>
  o1 Tryz.prog (convert 105 5 t20) w fun t21 w =>
  o1 Tryz.prog (Instr.index 9 (.string ⟨#[0, 1, 2, 2, 3, 3, 3, 3, 4, 4, 4, 4, 4, 4, 4, 4, 5, 5, 5, 5, 5, 5, 5, 5, 5, 5, 5, 5, 5, 5, 5, 5, 6, 6, 6, 6, 6, 6, 6, 6, 6, 6, 6, 6, 6, 6, 6, 6, 6, 6, 6, 6, 6, 6, 6, 6, 6, 6, 6, 6, 6, 6, 6, 6, 7, 7, 7, 7, 7, 7, 7, 7, 7, 7, 7, 7, 7, 7, 7, 7, 7, 7, 7, 7, 7, 7, 7, 7, 7, 7, 7, 7, 7, 7, 7, 7, 7, 7, 7, 7, 7, 7, 7, 7, 7, 7, 7, 7, 7, 7, 7, 7, 7, 7, 7, 7, 7, 7, 7, 7, 7, 7, 7, 7, 7, 7, 7, 7, 8, 8, 8, 8, 8, 8, 8, 8, 8, 8, 8, 8, 8, 8, 8, 8, 8, 8, 8, 8, 8, 8, 8, 8, 8, 8, 8, 8, 8, 8, 8, 8, 8, 8, 8, 8, 8, 8, 8, 8, 8, 8, 8, 8, 8, 8, 8, 8, 8, 8, 8, 8, 8, 8, 8, 8, 8, 8, 8, 8, 8, 8, 8, 8, 8, 8, 8, 8, 8, 8, 8, 8, 8, 8, 8, 8, 8, 8, 8, 8, 8, 8, 8, 8, 8, 8, 8, 8, 8, 8, 8, 8, 8, 8, 8, 8, 8, 8, 8, 8, 8, 8, 8, 8, 8, 8, 8, 8, 8, 8, 8, 8, 8, 8, 8, 8, 8, 8, 8, 8, 8, 8, 8, 8, 8, 8, 8, 8]⟩) t21) w fun t22 w =>
  o1 Tryz.prog (convert 5 3 t22) w fun t23 w =>
  o1 Tryz.prog (bin .add 3 (.tmp 19) (.tmp 23) t19 t23) w fun t24 w =>
  mv t24 fun t2_4 =>
  k t2_4 w
theorem C.math_bits_Len64 {k : Value → World → Prop} {a0 : Value} {w : World} (h : F.math_bits_Len64 k a0 w) : C Tryz.prog N.math_bits_Len64 #[a0] w k :=
  den_calls (H := { moves := [], vars := [0, 2] }) (args := [a0]) mixed Tryz.func178 (by kernel_rfl) (by kernel_rfl) (by kernel_rfl) h

-- isthmus/pack.number
def F.pack_number (k : Value → World → Prop) (a0 : Value) (w : World) : Prop :=
  mv (.int .u64 0) fun t2 =>
  mv (.int .i64 0) fun t3 =>
  mv (.int .i64 0) fun t4 =>
  mv (.int .u64 0) fun t5 =>
  mv (.int .i64 0) fun t8 =>
  jn (fun x1 => [x1 2, x1 3, x1 4, x1 5, x1 6, x1 7, x1 8]) (fun k1 =>
  lp [t2, t3, t4, t5, undef, undef, t8] w fun I2 μ2 => ∀ (x2 : Env) (w1 : World), I2 [x2 2, x2 3, x2 4, x2 5, x2 6, x2 7, x2 8] w1 →
  o1 Tryz.prog (bin .lss 3 (.tmp 8) (.const (.int .i64 10)) (x2 8) (.int .i64 10)) w1 fun t9 w =>
  br t9 (fun _ =>
  mv (x2 8) fun t10 =>
  mv t10 fun t6 =>
  mv t6 fun t11 =>
  mv a0 fun t12 =>
  o1 Tryz.prog (Builtin.len_ #[39] 3 #[t12]) w fun t13 w =>
  o1 Tryz.prog (bin .eql 3 (.tmp 11) (.tmp 13) t11 t13) w fun t14 w =>
  br t14 (fun _ =>
  mv (.int .u64 0) fun t2_1 =>
  mv (.int .i64 0) fun t3_1 =>
  mv (.int .i64 12) fun t4_1 =>
  k (.tuple #[t2_1, t3_1, t4_1]) w) (fun _ =>
  mv a0 fun t15 =>
  mv t6 fun t16 =>
  o1 Tryz.prog (Instr.indexAt 39 t15 t16) w fun t17 w =>
  o1 Tryz.prog (Instr.loadAt 5 t17) w fun t18 w =>
  mv t18 fun t7 =>
  mv t6 fun t19 =>
  o1 Tryz.prog (bin .eql 3 (.tmp 19) (.const (.int .i64 9)) t19 (.int .i64 9)) w fun t20 w =>
  mv t20 fun t21 =>
  gd t21 true (fun k2 => mv t7 fun v => k2 v w) w fun t22 w =>
  gd t21 true (fun k3 => o1 Tryz.prog (bin .gtr 5 (.tmp 22) (.const (.int .u8 1)) t22 (.int .u8 1)) w k3) w fun t23 w =>
  pk t21 t23 (.bool false) fun t24 =>
  br t24 (fun _ =>
  k1 [(x2 2), (x2 3), (x2 4), (x2 5), t6, t7, (x2 8)] w) (fun _ =>
  mv (x2 5) fun t25 =>
  mv t7 fun t26 =>
  o1 Tryz.prog (bin .andNot 5 (.tmp 26) (.const (.int .u8 128)) t26 (.int .u8 128)) w fun t27 w =>
  o1 Tryz.prog (convert 5 105 t27) w fun t28 w =>
  mv t6 fun t29 =>
  o1 Tryz.prog (bin .mul 3 (.const (.int .i64 7)) (.tmp 29) (.int .i64 7) t29) w fun t30 w =>
  o1 Tryz.prog (convert 3 185 t30) w fun t31 w =>
  o1 Tryz.prog (bin .shl 105 (.tmp 28) (.tmp 31) t28 t31) w fun t32 w =>
  o1 Tryz.prog (bin .or 105 (.tmp 25) (.tmp 32) t25 t32) w fun t33 w =>
  mv t33 fun t5_1 =>
  mv t7 fun t34 =>
  o1 Tryz.prog (bin .lss 5 (.tmp 34) (.const (.int .u8 128)) t34 (.int .u8 128)) w fun t35 w =>
  br t35 (fun _ =>
  mv t7 fun t36 =>
  o1 Tryz.prog (bin .eql 5 (.tmp 36) (.const (.int .u8 0)) t36 (.int .u8 0)) w fun t37 w =>
  mv t37 fun t38 =>
  gd t38 true (fun k4 => mv t6 fun v => k4 v w) w fun t39 w =>
  gd t38 true (fun k5 => o1 Tryz.prog (bin .gtr 3 (.tmp 39) (.const (.int .i64 0)) t39 (.int .i64 0)) w k5) w fun t40 w =>
  pk t38 t40 (.bool false) fun t41 =>
  br t41 (fun _ =>
  k1 [(x2 2), (x2 3), (x2 4), t5_1, t6, t7, (x2 8)] w) (fun _ =>
  mv t5_1 fun t42 =>
  mv t6 fun t43 =>
  o1 Tryz.prog (bin .add 3 (.tmp 43) (.const (.int .i64 1)) t43 (.int .i64 1)) w fun t44 w =>
  mv t42 fun t2_2 =>
  mv t44 fun t3_2 =>
  mv (.int .i64 0) fun t4_2 =>
  k (.tuple #[t2_2, t3_2, t4_2]) w)) (fun _ =>
  o1 Tryz.prog (bin .add 3 (.tmp 8) (.const (.int .i64 1)) (x2 8) (.int .i64 1)) w fun t45 w =>
  mv t45 fun t8_1 =>
  I2 [(x2 2), (x2 3), (x2 4), t5_1, t6, t7, t8_1] w ∧ μ2 [(x2 2), (x2 3), (x2 4), t5_1, t6, t7, t8_1] w < μ2 [x2 2, x2 3, x2 4, x2 5, x2 6, x2 7, x2 8] w1)))) (fun _ =>
  k1 [(x2 2), (x2 3), (x2 4), (x2 5), (x2 6), (x2 7), (x2 8)] w)) fun x1 w =>
  mv (.int .u64 0) fun t2_3 =>
  mv (.int .i64 0) fun t3_3 =>
  mv (.int .i64 3) fun t4_3 =>
  k (.tuple #[t2_3, t3_3, t4_3]) w
theorem C.pack_number {k : Value → World → Prop} {a0 : Value} {w : World} (h : F.pack_number k a0 w) : C Tryz.prog N.pack_number #[a0] w k :=
  den_calls (H := { moves := [], vars := [2, 3, 4, 5, 6, 7, 8] }) (args := [a0]) mixed Tryz.func179 (by kernel_rfl) (by kernel_rfl) (by kernel_rfl) h

-- isthmus/wots.number
def F.wots_number (k : Value → World → Prop) (a0 a1 : Value) (w : World) : Prop :=
  mv (.slice none 0 0) fun t4 =>
  mv a1 fun t6 =>
  o1 Tryz.prog (convert 3 105 t6) w fun t7 w =>
  mv t7 fun t5 =>
  lp [a0, t5] w fun I1 μ1 => ∀ (x1 : Env) (w1 : World), I1 [x1 0, x1 5] w1 →
  mv (x1 5) fun t8 =>
  o1 Tryz.prog (bin .geq 105 (.tmp 8) (.const (.int .u64 128)) t8 (.int .u64 128)) w1 fun t9 w =>
  br t9 (fun _ =>
  mv (x1 0) fun t12 =>
  mv (x1 5) fun t13 =>
  o1 Tryz.prog (convert 105 5 t13) w fun t14 w =>
  o1 Tryz.prog (bin .or 5 (.tmp 14) (.const (.int .u8 128)) t14 (.int .u8 128)) w fun t15 w =>
  o1 Tryz.prog (Instr.buildSlice 39 1 #[(0, t15)]) w fun t16 w =>
  ob Tryz.prog (fun _ => Builtin.append_ #[39, 39] 39 #[t12, t16]) w fun t17 w =>
  mv t17 fun t0 =>
  mv (x1 5) fun t10 =>
  o1 Tryz.prog (bin .shr 105 (.tmp 10) (.const (.int .u64 7)) t10 (.int .u64 7)) w fun t11 w =>
  mv t11 fun t5_1 =>
  I1 [t0, t5_1] w ∧ μ1 [t0, t5_1] w < μ1 [x1 0, x1 5] w1) (fun _ =>
  mv (x1 0) fun t18 =>
  mv (x1 5) fun t19 =>
  o1 Tryz.prog (convert 105 5 t19) w fun t20 w =>
  o1 Tryz.prog (Instr.buildSlice 39 1 #[(0, t20)]) w fun t21 w =>
  ob Tryz.prog (fun _ => Builtin.append_ #[39, 39] 39 #[t18, t21]) w fun t22 w =>
  mv t22 fun t4_1 =>
  k t4_1 w)
theorem C.wots_number {k : Value → World → Prop} {a0 a1 : Value} {w : World} (h : F.wots_number k a0 a1 w) : C Tryz.prog N.wots_number #[a0, a1] w k :=
  den_calls (H := { moves := [], vars := [0, 4, 5] }) (args := [a0, a1]) mixed Tryz.func180 (by kernel_rfl) (by kernel_rfl) (by kernel_rfl) h

-- (*isthmus/api.Fault).Unwrap
def F.api_Fault_Unwrap (k : Value → World → Prop) (a0 : Value) (w : World) : Prop :=
  mv .nilIface fun t2 =>
  mv a0 fun t3 =>
  nilOk t3 = true ∧ mv t3 fun t4 =>
  o1 Tryz.prog (Instr.fieldAt 173 t4 1) w fun t5 w =>
  o1 Tryz.prog (Instr.loadAt 34 t5) w fun t6 w =>
  mv t6 fun t2_1 =>
  k t2_1 w
theorem C.api_Fault_Unwrap {k : Value → World → Prop} {a0 : Value} {w : World} (h : F.api_Fault_Unwrap k a0 w) : C Tryz.prog N.api_Fault_Unwrap #[a0] w k :=
  den_calls (H := { moves := [], vars := [2] }) (args := [a0]) mixed Tryz.func203 (by kernel_rfl) (by kernel_rfl) (by kernel_rfl) h

-- gosem.cut.vars
end Go.Proofs.YtlfelmikcdmkhaaGreatDoor
