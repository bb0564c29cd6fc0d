/- What each function asks: printed by hoas.py off the loaded program; each is held against the program by the kernel. -/
import Derived.Test.YtlfelmikcdmkhaaGreatDoorN
set_option linter.unusedVariables false
set_option linter.unusedSimpArgs false
set_option linter.unusedSectionVars false
namespace Go.Proofs.YtlfelmikcdmkhaaGreatDoor
open Go Go.Isk
set_option maxRecDepth 100000
-- isthmus/isthmusref02.ReadHash
def F.isthmusref02_ReadHash (k : Value → World → Prop) (a0 : Value) (w : World) : Prop :=
  o1 Tryz.prog (Instr.box 119 a0) w fun t1 w =>
  o1 Tryz.prog (Instr.alloc 119 true (.tuple #[])) w fun t2 w =>
  o1 Tryz.prog (Instr.alloc 23 true (.tuple #[])) w fun t3 w =>
  o1 Tryz.prog (Instr.alloc 23 true (.tuple #[])) w fun t4 w =>
  o1 Tryz.prog (Instr.fieldAt 119 t1 1) w fun t5 w =>
  o1 Tryz.prog (Instr.loadAt 3 t5) w fun t6 w =>
  o1 Tryz.prog (bin .neq 3 (.tmp 6) (.const (.int .i64 0)) t6 (.int .i64 0)) w fun t7 w =>
  br t7 (fun _ =>
  dr w.drew fun S1 =>
  tk Tryz.prog S1 (Instr.loadAt 119 t1) fun t8 =>
  tk Tryz.prog S1 (Instr.loadAt 23 t4) fun t9 =>
  o0 Tryz.prog (Instr.storeAt 119 t2 t8) w.drew fun _ w =>
  S1 w ∧
  o0 Tryz.prog (Instr.storeAt 23 t3 t9) w fun _ w =>
  rc Tryz.prog 119 t2 w fun r0 =>
  rc Tryz.prog 23 t3 w fun r1 =>
  k (.tuple #[r0, r1]) w) (fun _ =>
  o1 Tryz.prog (Instr.fieldAt 119 t1 0) w fun t10 w =>
  o1 Tryz.prog (Instr.loadAt 39 t10) w fun t11 w =>
  o1 Tryz.prog (Builtin.len_ #[39] 3 #[t11]) w fun t12 w =>
  o1 Tryz.prog (bin .lss 3 (.tmp 12) (.const (.int .i64 32)) t12 (.int .i64 32)) w fun t13 w =>
  br t13 (fun _ =>
  dr w.drew fun S2 =>
  tk Tryz.prog S2 (Instr.loadAt 119 t1) fun t14 =>
  tk Tryz.prog S2 (Instr.loadAt 23 t4) fun t16 =>
  C Tryz.prog N.isthmusref02_fail #[t14, .int .i64 12] w.drew fun t15 w =>
  S2 w ∧
  o0 Tryz.prog (Instr.storeAt 119 t2 t15) w fun _ w =>
  S2 w ∧
  o0 Tryz.prog (Instr.storeAt 23 t3 t16) w fun _ w =>
  rc Tryz.prog 119 t2 w fun r0 =>
  rc Tryz.prog 23 t3 w fun r1 =>
  k (.tuple #[r0, r1]) w) (fun _ =>
  dr w.drew fun S3 =>
  tk Tryz.prog S3 (Instr.sliceAt 23 t4 none none none) fun t17 =>
  tk Tryz.prog S3 (Instr.fieldAt 119 t1 0) fun t18 =>
  tk Tryz.prog S3 (Instr.loadAt 39 t18) fun t19 =>
  ob Tryz.prog (fun _ => Builtin.copy_ #[39, 39] 3 #[t17, t19]) w.drew fun t20 w =>
  o1 Tryz.prog (Instr.fieldAt 119 t1 0) w fun t21 w =>
  o1 Tryz.prog (Instr.loadAt 39 t21) w fun t22 w =>
  o1 Tryz.prog (Instr.sliceAt 39 t22 (some (.int .i64 32)) none none) w fun t23 w =>
  o1 Tryz.prog (Instr.fieldAt 119 t1 0) w fun t24 w =>
  o0 Tryz.prog (Instr.storeAt 39 t24 t23) w fun _ w =>
  dr w.drew fun S4 =>
  tk Tryz.prog S4 (Instr.loadAt 119 t1) fun t25 =>
  tk Tryz.prog S4 (Instr.loadAt 23 t4) fun t26 =>
  o0 Tryz.prog (Instr.storeAt 119 t2 t25) w.drew fun _ w =>
  S4 w ∧
  o0 Tryz.prog (Instr.storeAt 23 t3 t26) w fun _ w =>
  rc Tryz.prog 119 t2 w fun r0 =>
  rc Tryz.prog 23 t3 w fun r1 =>
  k (.tuple #[r0, r1]) w))
theorem C.isthmusref02_ReadHash {k : Value → World → Prop} {a0 : Value} {w : World} (h : F.isthmusref02_ReadHash k a0 w) : C Tryz.prog N.isthmusref02_ReadHash #[a0] w k :=
  den_calls (H := { moves := [(3, (.take 0 (.take 1 (.force 2 (.last 3))))), (5, (.take 0 (.take 2 (.force 1 (.force 3 (.last 4)))))), (6, (.take 0 (.take 1 (.take 2 (.last 3))))), (8, (.take 0 (.take 1 (.force 2 (.last 3)))))], vars := [] }) (args := [a0]) mixed Tryz.func134 (by kernel_rfl) (by kernel_rfl) (by kernel_rfl) h

-- isthmus/isthmusref02.ReadBytes
def F.isthmusref02_ReadBytes (k : Value → World → Prop) (a0 a1 : Value) (w : World) : Prop :=
  o1 Tryz.prog (Instr.box 119 a0) w fun t2 w =>
  o1 Tryz.prog (Instr.alloc 119 true (.tuple #[])) w fun t4 w =>
  mv (.slice none 0 0) fun t5 =>
  mv a1 fun t9 =>
  o1 Tryz.prog (bin .lss 3 (.tmp 9) (.const (.int .i64 0)) t9 (.int .i64 0)) w fun t10 w =>
  br t10 (fun _ =>
  o1 Tryz.prog (Instr.loadAt 119 t2) w fun t11 w =>
  C Tryz.prog N.isthmusref02_fail #[t11, .int .i64 1] w fun t12 w =>
  o0 Tryz.prog (Instr.storeAt 119 t4 t12) w fun _ w =>
  mv (.slice none 0 0) fun t5_1 =>
  rc Tryz.prog 119 t4 w fun r0 =>
  k (.tuple #[r0, t5_1]) w) (fun _ =>
  o1 Tryz.prog (Instr.loadAt 119 t2) w fun t14 w =>
  C Tryz.prog N.isthmusref02_ReadUint #[t14, .int .u64 18446744073709551615] w fun t15 w =>
  mv t15 fun t13 =>
  o1 Tryz.prog (Instr.extract t13 0) w fun t16 w =>
  o1 Tryz.prog (Instr.extract t13 1) w fun t17 w =>
  o1 Tryz.prog (Instr.alloc 119 true (.tuple #[])) w fun t6 w =>
  o0 Tryz.prog (Instr.storeAt 119 t6 t16) w fun _ w =>
  mv t17 fun t7 =>
  o1 Tryz.prog (Instr.fieldAt 119 t6 1) w fun t19 w =>
  o1 Tryz.prog (Instr.loadAt 3 t19) w fun t20 w =>
  o1 Tryz.prog (bin .neq 3 (.tmp 20) (.const (.int .i64 0)) t20 (.int .i64 0)) w fun t21 w =>
  mv t21 fun t18 =>
  br t18 (fun _ =>
  o1 Tryz.prog (Instr.loadAt 119 t2) w fun t22 w =>
  o1 Tryz.prog (Instr.fieldAt 119 t6 1) w fun t23 w =>
  o1 Tryz.prog (Instr.loadAt 3 t23) w fun t24 w =>
  C Tryz.prog N.isthmusref02_fail #[t22, t24] w fun t25 w =>
  o0 Tryz.prog (Instr.storeAt 119 t4 t25) w fun _ w =>
  mv (.slice none 0 0) fun t5_2 =>
  rc Tryz.prog 119 t4 w fun r0 =>
  k (.tuple #[r0, t5_2]) w) (fun _ =>
  mv t7 fun t27 =>
  mv a1 fun t28 =>
  o1 Tryz.prog (convert 3 105 t28) w fun t29 w =>
  o1 Tryz.prog (bin .gtr 105 (.tmp 27) (.tmp 29) t27 t29) w fun t30 w =>
  mv t30 fun t26 =>
  br t26 (fun _ =>
  o1 Tryz.prog (Instr.loadAt 119 t2) w fun t31 w =>
  C Tryz.prog N.isthmusref02_fail #[t31, .int .i64 2] w fun t32 w =>
  o0 Tryz.prog (Instr.storeAt 119 t4 t32) w fun _ w =>
  mv (.slice none 0 0) fun t5_3 =>
  rc Tryz.prog 119 t4 w fun r0 =>
  k (.tuple #[r0, t5_3]) w) (fun _ =>
  mv t7 fun t34 =>
  o1 Tryz.prog (Instr.fieldAt 119 t6 0) w fun t35 w =>
  o1 Tryz.prog (Instr.loadAt 39 t35) w fun t36 w =>
  o1 Tryz.prog (Builtin.len_ #[39] 3 #[t36]) w fun t37 w =>
  o1 Tryz.prog (convert 3 105 t37) w fun t38 w =>
  o1 Tryz.prog (bin .gtr 105 (.tmp 34) (.tmp 38) t34 t38) w fun t39 w =>
  mv t39 fun t33 =>
  br t33 (fun _ =>
  o1 Tryz.prog (Instr.loadAt 119 t2) w fun t40 w =>
  C Tryz.prog N.isthmusref02_fail #[t40, .int .i64 12] w fun t41 w =>
  o0 Tryz.prog (Instr.storeAt 119 t4 t41) w fun _ w =>
  mv (.slice none 0 0) fun t5_4 =>
  rc Tryz.prog 119 t4 w fun r0 =>
  k (.tuple #[r0, t5_4]) w) (fun _ =>
  mv (.slice none 0 0) fun t8 =>
  mv t8 fun t42 =>
  o1 Tryz.prog (Instr.fieldAt 119 t6 0) w fun t43 w =>
  o1 Tryz.prog (Instr.loadAt 39 t43) w fun t44 w =>
  mv t7 fun t45 =>
  o1 Tryz.prog (Instr.sliceAt 39 t44 none (some t45) none) w fun t46 w =>
  ob Tryz.prog (fun _ => Builtin.append_ #[39, 39] 39 #[t42, t46]) w fun t47 w =>
  mv t47 fun t8_1 =>
  o1 Tryz.prog (Instr.fieldAt 119 t6 0) w fun t48 w =>
  o1 Tryz.prog (Instr.loadAt 39 t48) w fun t49 w =>
  mv t7 fun t50 =>
  o1 Tryz.prog (Instr.sliceAt 39 t49 (some t50) none none) w fun t51 w =>
  o1 Tryz.prog (Instr.fieldAt 119 t6 0) w fun t52 w =>
  o0 Tryz.prog (Instr.storeAt 39 t52 t51) w fun _ w =>
  o1 Tryz.prog (Instr.loadAt 119 t6) w fun t53 w =>
  mv t8_1 fun t54 =>
  o0 Tryz.prog (Instr.storeAt 119 t4 t53) w fun _ w =>
  mv t54 fun t5_5 =>
  rc Tryz.prog 119 t4 w fun r0 =>
  k (.tuple #[r0, t5_5]) w))))
theorem C.isthmusref02_ReadBytes {k : Value → World → Prop} {a0 a1 : Value} {w : World} (h : F.isthmusref02_ReadBytes k a0 a1 w) : C Tryz.prog N.isthmusref02_ReadBytes #[a0, a1] w k :=
  den_calls (H := { moves := [], vars := [5, 7, 8, 18, 26, 33] }) (args := [a0, a1]) mixed Tryz.func135 (by kernel_rfl) (by kernel_rfl) (by kernel_rfl) h

-- (*isthmus/pack.Reader).Count
def F.pack_Reader_Count (k : Value → World → Prop) (a0 a1 : Value) (w : World) : Prop :=
  mv (.int .i64 0) fun t4 =>
  mv a0 fun t7 =>
  C Tryz.prog N.pack_Reader_live #[t7] w fun t8 w =>
  o1 Tryz.prog (Op.unary .not t8) w fun t9 w =>
  br t9 (fun _ =>
  mv (.int .i64 0) fun t4_1 =>
  k t4_1 w) (fun _ =>
  mv a0 fun t10 =>
  nilOk t10 = true ∧ mv t10 fun t11 =>
  o1 Tryz.prog (Instr.fieldAt 250 t11 0) w fun t12 w =>
  o1 Tryz.prog (Instr.loadAt 39 t12) w fun t13 w =>
  mv t13 fun t5 =>
  mv a0 fun t14 =>
  mv a1 fun t15 =>
  o1 Tryz.prog (Builtin.max_ #[3, 3] 3 #[t15, .int .i64 0]) w fun t16 w =>
  o1 Tryz.prog (convert 3 105 t16) w fun t17 w =>
  C Tryz.prog N.pack_Reader_Uint #[t14, t17] w fun t18 w =>
  mv t18 fun t6 =>
  mv a0 fun t19 =>
  C Tryz.prog N.pack_Reader_live #[t19] w fun t20 w =>
  mv t20 fun t21 =>
  gd t21 true (fun k1 => mv t6 fun v => k1 v w) w fun t22 w =>
  gd t21 true (fun k2 => mv a0 fun v => k2 v w) w fun t23 w =>
  gd t21 true (fun k3 => nilOk t23 = true ∧ mv t23 fun v => k3 v w) w fun t24 w =>
  gd t21 true (fun k4 => o1 Tryz.prog (Instr.fieldAt 250 t24 0) w k4) w fun t25 w =>
  gd t21 true (fun k5 => o1 Tryz.prog (Instr.loadAt 39 t25) w k5) w fun t26 w =>
  gd t21 true (fun k6 => o1 Tryz.prog (Builtin.len_ #[39] 3 #[t26]) w k6) w fun t27 w =>
  gd t21 true (fun k7 => o1 Tryz.prog (convert 3 105 t27) w k7) w fun t28 w =>
  gd t21 true (fun k8 => o1 Tryz.prog (bin .gtr 105 (.tmp 22) (.tmp 28) t22 t28) w k8) w fun t29 w =>
  pk t21 t29 (.bool false) fun t30 =>
  jn (fun x1 => []) (fun k9 =>
  br t30 (fun _ =>
  mv a0 fun t31 =>
  mv t5 fun t32 =>
  nilOk t31 = true ∧ mv t31 fun t33 =>
  o1 Tryz.prog (Instr.fieldAt 250 t33 0) w fun t34 w =>
  o0 Tryz.prog (Instr.storeAt 39 t34 t32) w fun _ w =>
  mv a0 fun t35 =>
  C Tryz.prog N.pack_Reader_fail #[t35, .string ⟨#[99, 111, 117, 110, 116]⟩, .int .i64 2] w fun t36 w =>
  k9 [] w) (fun _ =>
  k9 [] w)) fun x1 w =>
  mv a0 fun t37 =>
  C Tryz.prog N.pack_Reader_live #[t37] w fun t38 w =>
  o1 Tryz.prog (Op.unary .not t38) w fun t39 w =>
  br t39 (fun _ =>
  mv (.int .i64 0) fun t4_2 =>
  k t4_2 w) (fun _ =>
  mv t6 fun t40 =>
  o1 Tryz.prog (convert 105 3 t40) w fun t41 w =>
  mv t41 fun t4_3 =>
  k t4_3 w))
theorem C.pack_Reader_Count {k : Value → World → Prop} {a0 a1 : Value} {w : World} (h : F.pack_Reader_Count k a0 a1 w) : C Tryz.prog N.pack_Reader_Count #[a0, a1] w k :=
  den_calls (H := { moves := [], vars := [4, 5, 6] }) (args := [a0, a1]) mixed Tryz.func136 (by kernel_rfl) (by kernel_rfl) (by kernel_rfl) h

-- isthmus/isthmusref02.ReadCount
def F.isthmusref02_ReadCount (k : Value → World → Prop) (a0 a1 : Value) (w : World) : Prop :=
  o1 Tryz.prog (Instr.box 119 a0) w fun t2 w =>
  o1 Tryz.prog (Instr.alloc 119 true (.tuple #[])) w fun t4 w =>
  mv (.int .i64 0) fun t5 =>
  o1 Tryz.prog (Instr.loadAt 119 t2) w fun t9 w =>
  mv a1 fun t10 =>
  o1 Tryz.prog (Builtin.max_ #[3, 3] 3 #[t10, .int .i64 0]) w fun t11 w =>
  o1 Tryz.prog (convert 3 105 t11) w fun t12 w =>
  C Tryz.prog N.isthmusref02_ReadUint #[t9, t12] w fun t13 w =>
  mv t13 fun t8 =>
  o1 Tryz.prog (Instr.extract t8 0) w fun t14 w =>
  o1 Tryz.prog (Instr.extract t8 1) w fun t15 w =>
  o1 Tryz.prog (Instr.alloc 119 true (.tuple #[])) w fun t6 w =>
  o0 Tryz.prog (Instr.storeAt 119 t6 t14) w fun _ w =>
  mv t15 fun t7 =>
  o1 Tryz.prog (Instr.fieldAt 119 t6 1) w fun t16 w =>
  o1 Tryz.prog (Instr.loadAt 3 t16) w fun t17 w =>
  o1 Tryz.prog (bin .eql 3 (.tmp 17) (.const (.int .i64 0)) t17 (.int .i64 0)) w fun t18 w =>
  mv t18 fun t19 =>
  gd t19 true (fun k1 => mv t7 fun v => k1 v w) w fun t20 w =>
  gd t19 true (fun k2 => o1 Tryz.prog (Instr.fieldAt 119 t6 0) w k2) w fun t21 w =>
  gd t19 true (fun k3 => o1 Tryz.prog (Instr.loadAt 39 t21) w k3) w fun t22 w =>
  gd t19 true (fun k4 => o1 Tryz.prog (Builtin.len_ #[39] 3 #[t22]) w k4) w fun t23 w =>
  gd t19 true (fun k5 => o1 Tryz.prog (convert 3 105 t23) w k5) w fun t24 w =>
  gd t19 true (fun k6 => o1 Tryz.prog (bin .gtr 105 (.tmp 20) (.tmp 24) t20 t24) w k6) w fun t25 w =>
  pk t19 t25 (.bool false) fun t26 =>
  br t26 (fun _ =>
  o1 Tryz.prog (Instr.loadAt 119 t2) w fun t27 w =>
  C Tryz.prog N.isthmusref02_fail #[t27, .int .i64 2] w fun t28 w =>
  o0 Tryz.prog (Instr.storeAt 119 t4 t28) w fun _ w =>
  mv (.int .i64 0) fun t5_1 =>
  rc Tryz.prog 119 t4 w fun r0 =>
  k (.tuple #[r0, t5_1]) w) (fun _ =>
  o1 Tryz.prog (Instr.loadAt 119 t6) w fun t29 w =>
  mv t7 fun t30 =>
  o1 Tryz.prog (convert 105 3 t30) w fun t31 w =>
  o0 Tryz.prog (Instr.storeAt 119 t4 t29) w fun _ w =>
  mv t31 fun t5_2 =>
  rc Tryz.prog 119 t4 w fun r0 =>
  k (.tuple #[r0, t5_2]) w)
theorem C.isthmusref02_ReadCount {k : Value → World → Prop} {a0 a1 : Value} {w : World} (h : F.isthmusref02_ReadCount k a0 a1 w) : C Tryz.prog N.isthmusref02_ReadCount #[a0, a1] w k :=
  den_calls (H := { moves := [], vars := [5, 7] }) (args := [a0, a1]) mixed Tryz.func137 (by kernel_rfl) (by kernel_rfl) (by kernel_rfl) h

-- (*isthmus/pack.Reader).Text
def F.pack_Reader_Text (k : Value → World → Prop) (a0 a1 : Value) (w : World) : Prop :=
  mv (.string ⟨#[]⟩) fun t4 =>
  mv a0 fun t5 =>
  mv a1 fun t6 =>
  C Tryz.prog N.pack_Reader_Bytes #[t5, t6] w fun t7 w =>
  o1 Tryz.prog (convert 39 9 t7) w fun t8 w =>
  mv t8 fun t4_1 =>
  k t4_1 w
theorem C.pack_Reader_Text {k : Value → World → Prop} {a0 a1 : Value} {w : World} (h : F.pack_Reader_Text k a0 a1 w) : C Tryz.prog N.pack_Reader_Text #[a0, a1] w k :=
  den_calls (H := { moves := [], vars := [4] }) (args := [a0, a1]) mixed Tryz.func138 (by kernel_rfl) (by kernel_rfl) (by kernel_rfl) h

-- isthmus/types.encode[isthmus/api.Vote]
-- slices.IndexFunc[[]isthmus/api.Validator,isthmus/api.Validator]
def F.slices_IndexFunc_api_Validator_api_Validator (k : Value → World → Prop) (a0 a1 : Value) (w : World) : Prop :=
  mv (.int .i64 0) fun t4 =>
  mv a0 fun t6 =>
  o1 Tryz.prog (Builtin.len_ #[70] 3 #[t6]) w fun t7 w =>
  mv (.int .i64 0) fun t8 =>
  lp [t4, undef, t8] w fun I1 μ1 => ∀ (x1 : Env) (w1 : World), I1 [x1 4, x1 5, x1 8] w1 →
  o1 Tryz.prog (bin .lss 3 (.tmp 8) (.tmp 7) (x1 8) t7) w1 fun t9 w =>
  br t9 (fun _ =>
  mv (x1 8) fun t10 =>
  mv t10 fun t5 =>
  mv a1 fun t11 =>
  mv a0 fun t12 =>
  mv t5 fun t13 =>
  o1 Tryz.prog (Instr.indexAt 70 t12 t13) w fun t14 w =>
  o1 Tryz.prog (Instr.loadAt 76 t14) w fun t15 w =>
  cv Tryz.prog t11 #[t15] w fun t16 w =>
  br t16 (fun _ =>
  mv t5 fun t17 =>
  mv t17 fun t4_1 =>
  k t4_1 w) (fun _ =>
  o1 Tryz.prog (bin .add 3 (.tmp 8) (.const (.int .i64 1)) (x1 8) (.int .i64 1)) w fun t18 w =>
  mv t18 fun t8_1 =>
  I1 [(x1 4), t5, t8_1] w ∧ μ1 [(x1 4), t5, t8_1] w < μ1 [x1 4, x1 5, x1 8] w1)) (fun _ =>
  mv (.int .i64 (-1)) fun t4_2 =>
  k t4_2 w)
theorem C.slices_IndexFunc_api_Validator_api_Validator {k : Value → World → Prop} {a0 a1 : Value} {w : World} (h : F.slices_IndexFunc_api_Validator_api_Validator k a0 a1 w) : C Tryz.prog N.slices_IndexFunc_api_Validator_api_Validator #[a0, a1] w k :=
  den_calls (H := { moves := [], vars := [4, 5, 8] }) (args := [a0, a1]) mixed Tryz.func140 (by kernel_rfl) (by kernel_rfl) (by kernel_rfl) h

-- isthmus/keys.fault
-- isthmus/keys.read
-- isthmus/wots.Digest
-- isthmus/wots.From
-- isthmus/sha.Fold
-- isthmus/isthmusref06.Parts
-- isthmus/isthmusref05.Digest
-- isthmus/isthmusref05.From
-- isthmus/isthmusref01.Fold
-- (*isthmus/pack.Writer).raw
def F.pack_Writer_raw (k : Value → World → Prop) (a0 a1 : Value) (w : World) : Prop :=
  mv (.pointer none) fun t4 =>
  mv a0 fun t5 =>
  o1 Tryz.prog (bin .neq 142 (.tmp 5) (.const (.pointer none)) t5 (.pointer none)) w fun t6 w =>
  jn (fun x1 => []) (fun k1 =>
  br t6 (fun _ =>
  mv a0 fun t7 =>
  mv a0 fun t8 =>
  nilOk t8 = true ∧ mv t8 fun t9 =>
  o1 Tryz.prog (Instr.fieldAt 209 t9 0) w fun t10 w =>
  o1 Tryz.prog (Instr.loadAt 39 t10) w fun t11 w =>
  mv a1 fun t12 =>
  ob Tryz.prog (fun _ => Builtin.append_ #[39, 39] 39 #[t11, t12]) w fun t13 w =>
  nilOk t7 = true ∧ mv t7 fun t14 =>
  o1 Tryz.prog (Instr.fieldAt 209 t14 0) w fun t15 w =>
  o0 Tryz.prog (Instr.storeAt 39 t15 t13) w fun _ w =>
  k1 [] w) (fun _ =>
  k1 [] w)) fun x1 w =>
  mv a0 fun t16 =>
  mv t16 fun t4_1 =>
  k t4_1 w
theorem C.pack_Writer_raw {k : Value → World → Prop} {a0 a1 : Value} {w : World} (h : F.pack_Writer_raw k a0 a1 w) : C Tryz.prog N.pack_Writer_raw #[a0, a1] w k :=
  den_calls (H := { moves := [], vars := [4] }) (args := [a0, a1]) mixed Tryz.func150 (by kernel_rfl) (by kernel_rfl) (by kernel_rfl) h

-- slices.IndexFunc[[]byte,byte]
def F.slices_IndexFunc_bytes (k : Value → World → Prop) (a0 a1 : Value) (w : World) : Prop :=
  mv (.int .i64 0) fun t4 =>
  mv a0 fun t6 =>
  o1 Tryz.prog (Builtin.len_ #[39] 3 #[t6]) w fun t7 w =>
  mv (.int .i64 0) fun t8 =>
  lp [t4, undef, t8] w fun I1 μ1 => ∀ (x1 : Env) (w1 : World), I1 [x1 4, x1 5, x1 8] w1 →
  o1 Tryz.prog (bin .lss 3 (.tmp 8) (.tmp 7) (x1 8) t7) w1 fun t9 w =>
  br t9 (fun _ =>
  mv (x1 8) fun t10 =>
  mv t10 fun t5 =>
  mv a1 fun t11 =>
  mv a0 fun t12 =>
  mv t5 fun t13 =>
  o1 Tryz.prog (Instr.indexAt 39 t12 t13) w fun t14 w =>
  o1 Tryz.prog (Instr.loadAt 5 t14) w fun t15 w =>
  cv Tryz.prog t11 #[t15] w fun t16 w =>
  br t16 (fun _ =>
  mv t5 fun t17 =>
  mv t17 fun t4_1 =>
  k t4_1 w) (fun _ =>
  o1 Tryz.prog (bin .add 3 (.tmp 8) (.const (.int .i64 1)) (x1 8) (.int .i64 1)) w fun t18 w =>
  mv t18 fun t8_1 =>
  I1 [(x1 4), t5, t8_1] w ∧ μ1 [(x1 4), t5, t8_1] w < μ1 [x1 4, x1 5, x1 8] w1)) (fun _ =>
  mv (.int .i64 (-1)) fun t4_2 =>
  k t4_2 w)
theorem C.slices_IndexFunc_bytes {k : Value → World → Prop} {a0 a1 : Value} {w : World} (h : F.slices_IndexFunc_bytes k a0 a1 w) : C Tryz.prog N.slices_IndexFunc_bytes #[a0, a1] w k :=
  den_calls (H := { moves := [], vars := [4, 5, 8] }) (args := [a0, a1]) mixed Tryz.func154 (by kernel_rfl) (by kernel_rfl) (by kernel_rfl) h

-- math/bits.Len
def F.math_bits_Len (k : Value → World → Prop) (a0 : Value) (w : World) : Prop :=
  mv (.int .i64 0) fun t2 =>
  br (.bool false) (fun _ =>
  mv a0 fun t3 =>
  o1 Tryz.prog (convert 185 176 t3) w fun t4 w =>
  C Tryz.prog N.math_bits_Len32 #[t4] w fun t5 w =>
  mv t5 fun t2_1 =>
  k t2_1 w) (fun _ =>
  mv a0 fun t6 =>
  C Tryz.prog N.math_bits_Len64 #[t6] w fun t7 w =>
  mv t7 fun t2_2 =>
  k t2_2 w)
theorem C.math_bits_Len {k : Value → World → Prop} {a0 : Value} {w : World} (h : F.math_bits_Len k a0 w) : C Tryz.prog N.math_bits_Len #[a0] w k :=
  den_calls (H := { moves := [], vars := [2] }) (args := [a0]) mixed Tryz.func155 (by kernel_rfl) (by kernel_rfl) (by kernel_rfl) h

-- math/bits.RotateLeft32
def F.math_bits_RotateLeft32 (k : Value → World → Prop) (a0 a1 : Value) (w : World) : Prop :=
  mv (.int .u32 0) fun t4 =>
  mv a1 fun t6 =>
  o1 Tryz.prog (convert 3 185 t6) w fun t7 w =>
  o1 Tryz.prog (bin .and 185 (.tmp 7) (.const (.int .u64 31)) t7 (.int .u64 31)) w fun t8 w =>
  mv t8 fun t5 =>
  mv a0 fun t9 =>
  mv t5 fun t10 =>
  o1 Tryz.prog (bin .shl 176 (.tmp 9) (.tmp 10) t9 t10) w fun t11 w =>
  mv a0 fun t12 =>
  mv t5 fun t13 =>
  o1 Tryz.prog (bin .sub 185 (.const (.int .u64 32)) (.tmp 13) (.int .u64 32) t13) w fun t14 w =>
  o1 Tryz.prog (bin .shr 176 (.tmp 12) (.tmp 14) t12 t14) w fun t15 w =>
  o1 Tryz.prog (bin .or 176 (.tmp 11) (.tmp 15) t11 t15) w fun t16 w =>
  mv t16 fun t4_1 =>
  k t4_1 w
theorem C.math_bits_RotateLeft32 {k : Value → World → Prop} {a0 a1 : Value} {w : World} (h : F.math_bits_RotateLeft32 k a0 a1 w) : C Tryz.prog N.math_bits_RotateLeft32 #[a0, a1] w k :=
  den_calls (H := { moves := [], vars := [4, 5] }) (args := [a0, a1]) mixed Tryz.func156 (by kernel_rfl) (by kernel_rfl) (by kernel_rfl) h

-- slices.IndexFunc[[]isthmus/api.Vote,isthmus/api.Vote]
def F.slices_IndexFunc_api_Vote_api_Vote (k : Value → World → Prop) (a0 a1 : Value) (w : World) : Prop :=
  mv (.int .i64 0) fun t4 =>
  mv a0 fun t6 =>
  o1 Tryz.prog (Builtin.len_ #[27] 3 #[t6]) w fun t7 w =>
  mv (.int .i64 0) fun t8 =>
  lp [t4, undef, t8] w fun I1 μ1 => ∀ (x1 : Env) (w1 : World), I1 [x1 4, x1 5, x1 8] w1 →
  o1 Tryz.prog (bin .lss 3 (.tmp 8) (.tmp 7) (x1 8) t7) w1 fun t9 w =>
  br t9 (fun _ =>
  mv (x1 8) fun t10 =>
  mv t10 fun t5 =>
  mv a1 fun t11 =>
  mv a0 fun t12 =>
  mv t5 fun t13 =>
  o1 Tryz.prog (Instr.indexAt 27 t12 t13) w fun t14 w =>
  o1 Tryz.prog (Instr.loadAt 49 t14) w fun t15 w =>
  cv Tryz.prog t11 #[t15] w fun t16 w =>
  br t16 (fun _ =>
  mv t5 fun t17 =>
  mv t17 fun t4_1 =>
  k t4_1 w) (fun _ =>
  o1 Tryz.prog (bin .add 3 (.tmp 8) (.const (.int .i64 1)) (x1 8) (.int .i64 1)) w fun t18 w =>
  mv t18 fun t8_1 =>
  I1 [(x1 4), t5, t8_1] w ∧ μ1 [(x1 4), t5, t8_1] w < μ1 [x1 4, x1 5, x1 8] w1)) (fun _ =>
  mv (.int .i64 (-1)) fun t4_2 =>
  k t4_2 w)
theorem C.slices_IndexFunc_api_Vote_api_Vote {k : Value → World → Prop} {a0 a1 : Value} {w : World} (h : F.slices_IndexFunc_api_Vote_api_Vote k a0 a1 w) : C Tryz.prog N.slices_IndexFunc_api_Vote_api_Vote #[a0, a1] w k :=
  den_calls (H := { moves := [], vars := [4, 5, 8] }) (args := [a0, a1]) mixed Tryz.func157 (by kernel_rfl) (by kernel_rfl) (by kernel_rfl) h

-- (*isthmus/pack.Reader).live
def F.pack_Reader_live (k : Value → World → Prop) (a0 : Value) (w : World) : Prop :=
  mv (.bool false) fun t2 =>
  mv a0 fun t3 =>
  o1 Tryz.prog (bin .neq 192 (.tmp 3) (.const (.pointer none)) t3 (.pointer none)) w fun t4 w =>
  mv t4 fun t5 =>
  gd t5 true (fun k1 => mv a0 fun v => k1 v w) w fun t6 w =>
  gd t5 true (fun k2 => nilOk t6 = true ∧ mv t6 fun v => k2 v w) w fun t7 w =>
  gd t5 true (fun k3 => o1 Tryz.prog (Instr.fieldAt 250 t7 1) w k3) w fun t8 w =>
  gd t5 true (fun k4 => o1 Tryz.prog (Instr.loadAt 34 t8) w k4) w fun t9 w =>
  gd t5 true (fun k5 => o1 Tryz.prog (bin .eql 34 (.tmp 9) (.const .nilIface) t9 .nilIface) w k5) w fun t10 w =>
  pk t5 t10 (.bool false) fun t11 =>
  mv t11 fun t2_1 =>
  k t2_1 w
theorem C.pack_Reader_live {k : Value → World → Prop} {a0 : Value} {w : World} (h : F.pack_Reader_live k a0 w) : C Tryz.prog N.pack_Reader_live #[a0] w k :=
  den_calls (H := { moves := [], vars := [2] }) (args := [a0]) mixed Tryz.func158 (by kernel_rfl) (by kernel_rfl) (by kernel_rfl) h

-- (*isthmus/pack.Reader).Err
def F.pack_Reader_Err (k : Value → World → Prop) (a0 : Value) (w : World) : Prop :=
  mv .nilIface fun t2 =>
  mv a0 fun t3 =>
  o1 Tryz.prog (bin .eql 192 (.tmp 3) (.const (.pointer none)) t3 (.pointer none)) w fun t4 w =>
  br t4 (fun _ =>
  o1 Tryz.prog (Instr.makeInterface 93 (.int .i64 1)) w fun t5 w =>
  mv t5 fun t2_1 =>
  k t2_1 w) (fun _ =>
  mv a0 fun t6 =>
  nilOk t6 = true ∧ mv t6 fun t7 =>
  o1 Tryz.prog (Instr.fieldAt 250 t7 1) w fun t8 w =>
  o1 Tryz.prog (Instr.loadAt 34 t8) w fun t9 w =>
  mv t9 fun t2_2 =>
  k t2_2 w)
theorem C.pack_Reader_Err {k : Value → World → Prop} {a0 : Value} {w : World} (h : F.pack_Reader_Err k a0 w) : C Tryz.prog N.pack_Reader_Err #[a0] w k :=
  den_calls (H := { moves := [], vars := [2] }) (args := [a0]) mixed Tryz.func159 (by kernel_rfl) (by kernel_rfl) (by kernel_rfl) h

-- (*isthmus/pack.Reader).Uint
def F.pack_Reader_Uint (k : Value → World → Prop) (a0 a1 : Value) (w : World) : Prop :=
  mv (.int .u64 0) fun t4 =>
  mv a0 fun t8 =>
  C Tryz.prog N.pack_Reader_live #[t8] w fun t9 w =>
  o1 Tryz.prog (Op.unary .not t9) w fun t10 w =>
  br t10 (fun _ =>
  mv (.int .u64 0) fun t4_1 =>
  k t4_1 w) (fun _ =>
  mv a0 fun t12 =>
  nilOk t12 = true ∧ mv t12 fun t13 =>
  o1 Tryz.prog (Instr.fieldAt 250 t13 0) w fun t14 w =>
  o1 Tryz.prog (Instr.loadAt 39 t14) w fun t15 w =>
  C Tryz.prog N.pack_number #[t15] w fun t16 w =>
  mv t16 fun t11 =>
  o1 Tryz.prog (Instr.extract t11 0) w fun t17 w =>
  o1 Tryz.prog (Instr.extract t11 1) w fun t18 w =>
  o1 Tryz.prog (Instr.extract t11 2) w fun t19 w =>
  mv t17 fun t5 =>
  mv t18 fun t6 =>
  mv t19 fun t7 =>
  mv t7 fun t21 =>
  o1 Tryz.prog (bin .neq 93 (.tmp 21) (.const (.int .i64 0)) t21 (.int .i64 0)) w fun t22 w =>
  mv t22 fun t20 =>
  br t20 (fun _ =>
  mv a0 fun t23 =>
  mv t7 fun t24 =>
  C Tryz.prog N.pack_Reader_fail #[t23, .string ⟨#[110, 117, 109, 98, 101, 114]⟩, t24] w fun t25 w =>
  mv (.int .u64 0) fun t4_2 =>
  k t4_2 w) (fun _ =>
  mv t5 fun t27 =>
  mv a1 fun t28 =>
  o1 Tryz.prog (bin .gtr 105 (.tmp 27) (.tmp 28) t27 t28) w fun t29 w =>
  mv t29 fun t26 =>
  br t26 (fun _ =>
  mv a0 fun t30 =>
  C Tryz.prog N.pack_Reader_fail #[t30, .string ⟨#[110, 117, 109, 98, 101, 114]⟩, .int .i64 4] w fun t31 w =>
  mv (.int .u64 0) fun t4_3 =>
  k t4_3 w) (fun _ =>
  mv a0 fun t32 =>
  mv a0 fun t33 =>
  nilOk t33 = true ∧ mv t33 fun t34 =>
  o1 Tryz.prog (Instr.fieldAt 250 t34 0) w fun t35 w =>
  o1 Tryz.prog (Instr.loadAt 39 t35) w fun t36 w =>
  mv t6 fun t37 =>
  o1 Tryz.prog (Instr.sliceAt 39 t36 (some t37) none none) w fun t38 w =>
  nilOk t32 = true ∧ mv t32 fun t39 =>
  o1 Tryz.prog (Instr.fieldAt 250 t39 0) w fun t40 w =>
  o0 Tryz.prog (Instr.storeAt 39 t40 t38) w fun _ w =>
  mv t5 fun t41 =>
  mv t41 fun t4_4 =>
  k t4_4 w)))
theorem C.pack_Reader_Uint {k : Value → World → Prop} {a0 a1 : Value} {w : World} (h : F.pack_Reader_Uint k a0 a1 w) : C Tryz.prog N.pack_Reader_Uint #[a0, a1] w k :=
  den_calls (H := { moves := [], vars := [4, 5, 6, 7, 20, 26] }) (args := [a0, a1]) mixed Tryz.func160 (by kernel_rfl) (by kernel_rfl) (by kernel_rfl) h

-- (*isthmus/pack.Reader).take
def F.pack_Reader_take (k : Value → World → Prop) (a0 a1 a2 : Value) (w : World) : Prop :=
  mv (.slice none 0 0) fun t6 =>
  mv a0 fun t8 =>
  C Tryz.prog N.pack_Reader_live #[t8] w fun t9 w =>
  o1 Tryz.prog (Op.unary .not t9) w fun t10 w =>
  br t10 (fun _ =>
  mv (.slice none 0 0) fun t6_1 =>
  k t6_1 w) (fun _ =>
  mv a0 fun t11 =>
  nilOk t11 = true ∧ mv t11 fun t12 =>
  o1 Tryz.prog (Instr.fieldAt 250 t12 0) w fun t13 w =>
  o1 Tryz.prog (Instr.loadAt 39 t13) w fun t14 w =>
  o1 Tryz.prog (Builtin.len_ #[39] 3 #[t14]) w fun t15 w =>
  mv a2 fun t16 =>
  o1 Tryz.prog (bin .lss 3 (.tmp 15) (.tmp 16) t15 t16) w fun t17 w =>
  br t17 (fun _ =>
  mv a0 fun t18 =>
  mv a1 fun t19 =>
  C Tryz.prog N.pack_Reader_fail #[t18, t19, .int .i64 12] w fun t20 w =>
  mv (.slice none 0 0) fun t6_2 =>
  k t6_2 w) (fun _ =>
  mv a0 fun t21 =>
  nilOk t21 = true ∧ mv t21 fun t22 =>
  o1 Tryz.prog (Instr.fieldAt 250 t22 0) w fun t23 w =>
  o1 Tryz.prog (Instr.loadAt 39 t23) w fun t24 w =>
  mv a2 fun t25 =>
  o1 Tryz.prog (Instr.sliceAt 39 t24 none (some t25) none) w fun t26 w =>
  ob Tryz.prog (fun _ => Builtin.append_ #[39, 39] 39 #[.slice none 0 0, t26]) w fun t27 w =>
  mv t27 fun t7 =>
  mv a0 fun t28 =>
  mv a0 fun t29 =>
  nilOk t29 = true ∧ mv t29 fun t30 =>
  o1 Tryz.prog (Instr.fieldAt 250 t30 0) w fun t31 w =>
  o1 Tryz.prog (Instr.loadAt 39 t31) w fun t32 w =>
  mv a2 fun t33 =>
  o1 Tryz.prog (Instr.sliceAt 39 t32 (some t33) none none) w fun t34 w =>
  nilOk t28 = true ∧ mv t28 fun t35 =>
  o1 Tryz.prog (Instr.fieldAt 250 t35 0) w fun t36 w =>
  o0 Tryz.prog (Instr.storeAt 39 t36 t34) w fun _ w =>
  mv t7 fun t37 =>
  mv t37 fun t6_3 =>
  k t6_3 w))
theorem C.pack_Reader_take {k : Value → World → Prop} {a0 a1 a2 : Value} {w : World} (h : F.pack_Reader_take k a0 a1 a2 w) : C Tryz.prog N.pack_Reader_take #[a0, a1, a2] w k :=
  den_calls (H := { moves := [], vars := [6, 7] }) (args := [a0, a1, a2]) mixed Tryz.func161 (by kernel_rfl) (by kernel_rfl) (by kernel_rfl) h

-- (*isthmus/pack.Reader).fail
def F.pack_Reader_fail (k : Value → World → Prop) (a0 a1 a2 : Value) (w : World) : Prop :=
  mv a0 fun t6 =>
  o1 Tryz.prog (bin .neq 192 (.tmp 6) (.const (.pointer none)) t6 (.pointer none)) w fun t7 w =>
  mv t7 fun t8 =>
  gd t8 true (fun k1 => mv a0 fun v => k1 v w) w fun t9 w =>
  gd t8 true (fun k2 => nilOk t9 = true ∧ mv t9 fun v => k2 v w) w fun t10 w =>
  gd t8 true (fun k3 => o1 Tryz.prog (Instr.fieldAt 250 t10 1) w k3) w fun t11 w =>
  gd t8 true (fun k4 => o1 Tryz.prog (Instr.loadAt 34 t11) w k4) w fun t12 w =>
  gd t8 true (fun k5 => o1 Tryz.prog (bin .eql 34 (.tmp 12) (.const .nilIface) t12 .nilIface) w k5) w fun t13 w =>
  pk t8 t13 (.bool false) fun t14 =>
  jn (fun x1 => []) (fun k6 =>
  br t14 (fun _ =>
  mv a0 fun t15 =>
  mv a1 fun t16 =>
  mv a2 fun t17 =>
  o1 Tryz.prog (Instr.makeInterface 93 t17) w fun t18 w =>
  o1 Tryz.prog (Instr.build 173 #[(0, t16), (1, t18)]) w fun t19 w =>
  o1 Tryz.prog (Instr.box 173 t19) w fun t20 w =>
  o1 Tryz.prog (Instr.makeInterface 171 t20) w fun t21 w =>
  nilOk t15 = true ∧ mv t15 fun t22 =>
  o1 Tryz.prog (Instr.fieldAt 250 t22 1) w fun t23 w =>
  o0 Tryz.prog (Instr.storeAt 34 t23 t21) w fun _ w =>
  k6 [] w) (fun _ =>
  k6 [] w)) fun x1 w =>
  k (.tuple #[]) w
theorem C.pack_Reader_fail {k : Value → World → Prop} {a0 a1 a2 : Value} {w : World} (h : F.pack_Reader_fail k a0 a1 a2 w) : C Tryz.prog N.pack_Reader_fail #[a0, a1, a2] w k :=
  den_calls (H := { moves := [], vars := [] }) (args := [a0, a1, a2]) mixed Tryz.func162 (by kernel_rfl) (by kernel_rfl) (by kernel_rfl) h

-- isthmus/isthmusref02.ReadUint
def F.isthmusref02_ReadUint (k : Value → World → Prop) (a0 a1 : Value) (w : World) : Prop :=
  o1 Tryz.prog (Instr.box 119 a0) w fun t2 w =>
  o1 Tryz.prog (Instr.alloc 119 true (.tuple #[])) w fun t4 w =>
  mv (.int .u64 0) fun t5 =>
  o1 Tryz.prog (Instr.fieldAt 119 t2 1) w fun t9 w =>
  o1 Tryz.prog (Instr.loadAt 3 t9) w fun t10 w =>
  o1 Tryz.prog (bin .neq 3 (.tmp 10) (.const (.int .i64 0)) t10 (.int .i64 0)) w fun t11 w =>
  br t11 (fun _ =>
  o1 Tryz.prog (Instr.loadAt 119 t2) w fun t12 w =>
  o0 Tryz.prog (Instr.storeAt 119 t4 t12) w fun _ w =>
  mv (.int .u64 0) fun t5_1 =>
  rc Tryz.prog 119 t4 w fun r0 =>
  k (.tuple #[r0, t5_1]) w) (fun _ =>
  mv (.int .i64 0) fun t6 =>
  lp [t6] w fun I1 μ1 => ∀ (x1 : Env) (w1 : World), I1 [x1 6] w1 →
  mv (x1 6) fun t13 =>
  o1 Tryz.prog (Instr.fieldAt 119 t2 0) w1 fun t14 w =>
  o1 Tryz.prog (Instr.loadAt 39 t14) w fun t15 w =>
  o1 Tryz.prog (Builtin.len_ #[39] 3 #[t15]) w fun t16 w =>
  o1 Tryz.prog (bin .lss 3 (.tmp 13) (.tmp 16) t13 t16) w fun t17 w =>
  mv t17 fun t18 =>
  gd t18 true (fun k1 => mv (x1 6) fun v => k1 v w) w fun t19 w =>
  gd t18 true (fun k2 => o1 Tryz.prog (bin .lss 3 (.tmp 19) (.const (.int .i64 10)) t19 (.int .i64 10)) w k2) w fun t20 w =>
  pk t18 t20 (.bool false) fun t21 =>
  mv t21 fun t22 =>
  gd t22 true (fun k3 => o1 Tryz.prog (Instr.fieldAt 119 t2 0) w k3) w fun t23 w =>
  gd t22 true (fun k4 => o1 Tryz.prog (Instr.loadAt 39 t23) w k4) w fun t24 w =>
  gd t22 true (fun k5 => mv (x1 6) fun v => k5 v w) w fun t25 w =>
  gd t22 true (fun k6 => o1 Tryz.prog (Instr.indexAt 39 t24 t25) w k6) w fun t26 w =>
  gd t22 true (fun k7 => o1 Tryz.prog (Instr.loadAt 5 t26) w k7) w fun t27 w =>
  gd t22 true (fun k8 => o1 Tryz.prog (bin .geq 5 (.tmp 27) (.const (.int .u8 128)) t27 (.int .u8 128)) w k8) w fun t28 w =>
  pk t22 t28 (.bool false) fun t29 =>
  br t29 (fun _ =>
  mv (x1 6) fun t30 =>
  o1 Tryz.prog (bin .add 3 (.tmp 30) (.const (.int .i64 1)) t30 (.int .i64 1)) w fun t31 w =>
  mv t31 fun t6_1 =>
  I1 [t6_1] w ∧ μ1 [t6_1] w < μ1 [x1 6] w1) (fun _ =>
  mv (x1 6) fun t33 =>
  o1 Tryz.prog (bin .eql 3 (.tmp 33) (.const (.int .i64 10)) t33 (.int .i64 10)) w fun t34 w =>
  mv t34 fun t32 =>
  br t32 (fun _ =>
  o1 Tryz.prog (Instr.loadAt 119 t2) w fun t35 w =>
  C Tryz.prog N.isthmusref02_fail #[t35, .int .i64 3] w fun t36 w =>
  o0 Tryz.prog (Instr.storeAt 119 t4 t36) w fun _ w =>
  mv (.int .u64 0) fun t5_2 =>
  rc Tryz.prog 119 t4 w fun r0 =>
  k (.tuple #[r0, t5_2]) w) (fun _ =>
  mv (x1 6) fun t38 =>
  o1 Tryz.prog (Instr.fieldAt 119 t2 0) w fun t39 w =>
  o1 Tryz.prog (Instr.loadAt 39 t39) w fun t40 w =>
  o1 Tryz.prog (Builtin.len_ #[39] 3 #[t40]) w fun t41 w =>
  o1 Tryz.prog (bin .eql 3 (.tmp 38) (.tmp 41) t38 t41) w fun t42 w =>
  mv t42 fun t37 =>
  br t37 (fun _ =>
  o1 Tryz.prog (Instr.loadAt 119 t2) w fun t43 w =>
  C Tryz.prog N.isthmusref02_fail #[t43, .int .i64 12] w fun t44 w =>
  o0 Tryz.prog (Instr.storeAt 119 t4 t44) w fun _ w =>
  mv (.int .u64 0) fun t5_3 =>
  rc Tryz.prog 119 t4 w fun r0 =>
  k (.tuple #[r0, t5_3]) w) (fun _ =>
  mv (x1 6) fun t46 =>
  o1 Tryz.prog (bin .eql 3 (.tmp 46) (.const (.int .i64 9)) t46 (.int .i64 9)) w fun t47 w =>
  mv t47 fun t48 =>
  gd t48 true (fun k9 => o1 Tryz.prog (Instr.fieldAt 119 t2 0) w k9) w fun t49 w =>
  gd t48 true (fun k10 => o1 Tryz.prog (Instr.loadAt 39 t49) w k10) w fun t50 w =>
  gd t48 true (fun k11 => mv (x1 6) fun v => k11 v w) w fun t51 w =>
  gd t48 true (fun k12 => o1 Tryz.prog (Instr.indexAt 39 t50 t51) w k12) w fun t52 w =>
  gd t48 true (fun k13 => o1 Tryz.prog (Instr.loadAt 5 t52) w k13) w fun t53 w =>
  gd t48 true (fun k14 => o1 Tryz.prog (bin .gtr 5 (.tmp 53) (.const (.int .u8 1)) t53 (.int .u8 1)) w k14) w fun t54 w =>
  pk t48 t54 (.bool false) fun t55 =>
  mv t55 fun t56 =>
  gd t56 false (fun k15 => mv (x1 6) fun v => k15 v w) w fun t57 w =>
  gd t56 false (fun k16 => o1 Tryz.prog (bin .gtr 3 (.tmp 57) (.const (.int .i64 0)) t57 (.int .i64 0)) w k16) w fun t58 w =>
  gd t56 false (fun k17 => mv t58 fun v => k17 v w) w fun t59 w =>
  gd t59 true (fun k18 => o1 Tryz.prog (Instr.fieldAt 119 t2 0) w k18) w fun t60 w =>
  gd t59 true (fun k19 => o1 Tryz.prog (Instr.loadAt 39 t60) w k19) w fun t61 w =>
  gd t59 true (fun k20 => mv (x1 6) fun v => k20 v w) w fun t62 w =>
  gd t59 true (fun k21 => o1 Tryz.prog (Instr.indexAt 39 t61 t62) w k21) w fun t63 w =>
  gd t59 true (fun k22 => o1 Tryz.prog (Instr.loadAt 5 t63) w k22) w fun t64 w =>
  gd t59 true (fun k23 => o1 Tryz.prog (bin .eql 5 (.tmp 64) (.const (.int .u8 0)) t64 (.int .u8 0)) w k23) w fun t65 w =>
  gd t56 false (fun k24 => pk t59 t65 (.bool false) fun v => k24 v w) w fun t66 w =>
  pk t56 (.bool true) t66 fun t67 =>
  mv t67 fun t45 =>
  br t45 (fun _ =>
  o1 Tryz.prog (Instr.loadAt 119 t2) w fun t68 w =>
  C Tryz.prog N.isthmusref02_fail #[t68, .int .i64 3] w fun t69 w =>
  o0 Tryz.prog (Instr.storeAt 119 t4 t69) w fun _ w =>
  mv (.int .u64 0) fun t5_4 =>
  rc Tryz.prog 119 t4 w fun r0 =>
  k (.tuple #[r0, t5_4]) w) (fun _ =>
  mv (.int .u64 0) fun t7 =>
  mv (x1 6) fun t70 =>
  mv t70 fun t8 =>
  lp [t7, t8] w fun I2 μ2 => ∀ (x2 : Env) (w2 : World), I2 [x2 7, x2 8] w2 →
  mv (x2 8) fun t71 =>
  o1 Tryz.prog (bin .geq 3 (.tmp 71) (.const (.int .i64 0)) t71 (.int .i64 0)) w2 fun t72 w =>
  br t72 (fun _ =>
  mv (x2 7) fun t75 =>
  o1 Tryz.prog (bin .mul 105 (.tmp 75) (.const (.int .u64 128)) t75 (.int .u64 128)) w fun t76 w =>
  o1 Tryz.prog (Instr.fieldAt 119 t2 0) w fun t77 w =>
  o1 Tryz.prog (Instr.loadAt 39 t77) w fun t78 w =>
  mv (x2 8) fun t79 =>
  o1 Tryz.prog (Instr.indexAt 39 t78 t79) w fun t80 w =>
  o1 Tryz.prog (Instr.loadAt 5 t80) w fun t81 w =>
  o1 Tryz.prog (bin .rem 5 (.tmp 81) (.const (.int .u8 128)) t81 (.int .u8 128)) w fun t82 w =>
  o1 Tryz.prog (convert 5 105 t82) w fun t83 w =>
  o1 Tryz.prog (bin .add 105 (.tmp 76) (.tmp 83) t76 t83) w fun t84 w =>
  mv t84 fun t7_1 =>
  mv (x2 8) fun t73 =>
  o1 Tryz.prog (bin .sub 3 (.tmp 73) (.const (.int .i64 1)) t73 (.int .i64 1)) w fun t74 w =>
  mv t74 fun t8_1 =>
  I2 [t7_1, t8_1] w ∧ μ2 [t7_1, t8_1] w < μ2 [x2 7, x2 8] w2) (fun _ =>
  mv (x2 7) fun t85 =>
  mv a1 fun t86 =>
  o1 Tryz.prog (bin .gtr 105 (.tmp 85) (.tmp 86) t85 t86) w fun t87 w =>
  br t87 (fun _ =>
  o1 Tryz.prog (Instr.loadAt 119 t2) w fun t88 w =>
  C Tryz.prog N.isthmusref02_fail #[t88, .int .i64 4] w fun t89 w =>
  o0 Tryz.prog (Instr.storeAt 119 t4 t89) w fun _ w =>
  mv (.int .u64 0) fun t5_5 =>
  rc Tryz.prog 119 t4 w fun r0 =>
  k (.tuple #[r0, t5_5]) w) (fun _ =>
  o1 Tryz.prog (Instr.fieldAt 119 t2 0) w fun t90 w =>
  o1 Tryz.prog (Instr.loadAt 39 t90) w fun t91 w =>
  mv (x1 6) fun t92 =>
  o1 Tryz.prog (bin .add 3 (.tmp 92) (.const (.int .i64 1)) t92 (.int .i64 1)) w fun t93 w =>
  o1 Tryz.prog (Instr.sliceAt 39 t91 (some t93) none none) w fun t94 w =>
  o1 Tryz.prog (Instr.fieldAt 119 t2 0) w fun t95 w =>
  o0 Tryz.prog (Instr.storeAt 39 t95 t94) w fun _ w =>
  o1 Tryz.prog (Instr.loadAt 119 t2) w fun t96 w =>
  mv (x2 7) fun t97 =>
  o0 Tryz.prog (Instr.storeAt 119 t4 t96) w fun _ w =>
  mv t97 fun t5_6 =>
  rc Tryz.prog 119 t4 w fun r0 =>
  k (.tuple #[r0, t5_6]) w)))))))
theorem C.isthmusref02_ReadUint {k : Value → World → Prop} {a0 a1 : Value} {w : World} (h : F.isthmusref02_ReadUint k a0 a1 w) : C Tryz.prog N.isthmusref02_ReadUint #[a0, a1] w k :=
  den_calls (H := { moves := [], vars := [5, 6, 7, 8, 32, 37, 45] }) (args := [a0, a1]) mixed Tryz.func163 (by kernel_rfl) (by kernel_rfl) (by kernel_rfl) h

-- isthmus/isthmusref02.fail
def F.isthmusref02_fail (k : Value → World → Prop) (a0 a1 : Value) (w : World) : Prop :=
  o1 Tryz.prog (Instr.box 119 a0) w fun t2 w =>
  o1 Tryz.prog (Instr.alloc 119 true (.tuple #[])) w fun t4 w =>
  o1 Tryz.prog (Instr.fieldAt 119 t2 1) w fun t5 w =>
  o1 Tryz.prog (Instr.loadAt 3 t5) w fun t6 w =>
  o1 Tryz.prog (bin .eql 3 (.tmp 6) (.const (.int .i64 0)) t6 (.int .i64 0)) w fun t7 w =>
  jn (fun x1 => []) (fun k1 =>
  br t7 (fun _ =>
  mv a1 fun t8 =>
  o1 Tryz.prog (Instr.fieldAt 119 t2 1) w fun t9 w =>
  o0 Tryz.prog (Instr.storeAt 3 t9 t8) w fun _ w =>
  k1 [] w) (fun _ =>
  k1 [] w)) fun x1 w =>
  o1 Tryz.prog (Instr.loadAt 119 t2) w fun t10 w =>
  o0 Tryz.prog (Instr.storeAt 119 t4 t10) w fun _ w =>
  rc Tryz.prog 119 t4 w fun r0 =>
  k r0 w
theorem C.isthmusref02_fail {k : Value → World → Prop} {a0 a1 : Value} {w : World} (h : F.isthmusref02_fail k a0 a1 w) : C Tryz.prog N.isthmusref02_fail #[a0, a1] w k :=
  den_calls (H := { moves := [], vars := [] }) (args := [a0, a1]) mixed Tryz.func164 (by kernel_rfl) (by kernel_rfl) (by kernel_rfl) h

-- isthmus/wots.digest
-- isthmus/wots.fault
-- isthmus/wots.check
-- isthmus/wots.Len
-- isthmus/wots.Digits
-- isthmus/wots.Step
-- isthmus/sha.turns
-- isthmus/isthmusref05.check
-- isthmus/isthmusref05.Digits
-- isthmus/isthmusref05.Step
-- isthmus/isthmusref01.Steps
-- isthmus/isthmusref01.fold
-- math/bits.Len32
def F.math_bits_Len32 (k : Value → World → Prop) (a0 : Value) (w : World) : Prop :=
  mv (.int .i64 0) fun t2 =>
  mv a0 fun t3 =>
  o1 Tryz.prog (bin .geq 176 (.tmp 3) (.const (.int .u32 65536)) t3 (.int .u32 65536)) w fun t4 w =>
  jn (fun x1 => [x1 0, x1 2]) (fun k1 =>
  br t4 (fun _ =>
  mv a0 fun t5 =>
  o1 Tryz.prog (bin .shr 176 (.tmp 5) (.const (.int .u64 16)) t5 (.int .u64 16)) w fun t6 w =>
  mv t6 fun t0 =>
  mv (.int .i64 16) fun t2_1 =>
  k1 [t0, t2_1] w) (fun _ =>
  k1 [a0, t2] w)) fun x1 w =>
  mv (x1 0) fun t7 =>
  o1 Tryz.prog (bin .geq 176 (.tmp 7) (.const (.int .u32 256)) t7 (.int .u32 256)) w fun t8 w =>
  jn (fun x2 => [x2 0, x2 2]) (fun k2 =>
  br t8 (fun _ =>
  mv (x1 0) fun t9 =>
  o1 Tryz.prog (bin .shr 176 (.tmp 9) (.const (.int .u64 8)) t9 (.int .u64 8)) w fun t10 w =>
  mv t10 fun t0_1 =>
  mv (x1 2) fun t11 =>
  o1 Tryz.prog (bin .add 3 (.tmp 11) (.const (.int .i64 8)) t11 (.int .i64 8)) w fun t12 w =>
  mv t12 fun t2_2 =>
  k2 [t0_1, t2_2] w) (fun _ =>
  k2 [(x1 0), (x1 2)] w)) fun x2 w =>
  mv (x2 2) fun t13 =>
  mv (x2 0) fun t14 =>
  o1 Tryz.prog (convert 176 5 t14) w fun t15 w =>
  o1 Tryz.prog (Instr.index 9 (.string ⟨#[0, 1, 2, 2, 3, 3, 3, 3, 4, 4, 4, 4, 4, 4, 4, 4, 5, 5, 5, 5, 5, 5, 5, 5, 5, 5, 5, 5, 5, 5, 5, 5, 6, 6, 6, 6, 6, 6, 6, 6, 6, 6, 6, 6, 6, 6, 6, 6, 6, 6, 6, 6, 6, 6, 6, 6, 6, 6, 6, 6, 6, 6, 6, 6, 7, 7, 7, 7, 7, 7, 7, 7, 7, 7, 7, 7, 7, 7, 7, 7, 7, 7, 7, 7, 7, 7, 7, 7, 7, 7, 7, 7, 7, 7, 7, 7, 7, 7, 7, 7, 7, 7, 7, 7, 7, 7, 7, 7, 7, 7, 7, 7, 7, 7, 7, 7, 7, 7, 7, 7, 7, 7, 7, 7, 7, 7, 7, 7, 8, 8, 8, 8, 8, 8, 8, 8, 8, 8, 8, 8, 8, 8, 8, 8, 8, 8, 8, 8, 8, 8, 8, 8, 8, 8, 8, 8, 8, 8, 8, 8, 8, 8, 8, 8, 8, 8, 8, 8, 8, 8, 8, 8, 8, 8, 8, 8, 8, 8, 8, 8, 8, 8, 8, 8, 8, 8, 8, 8, 8, 8, 8, 8, 8, 8, 8, 8, 8, 8, 8, 8, 8, 8, 8, 8, 8, 8, 8, 8, 8, 8, 8, 8, 8, 8, 8, 8, 8, 8, 8, 8, 8, 8, 8, 8, 8, 8, 8, 8, 8, 8, 8, 8, 8, 8, 8, 8, 8, 8, 8, 8, 8, 8, 8, 8, 8, 8, 8, 8, 8, 8, 8, 8, 8, 8, 8, 8]⟩) t15) w fun t16 w =>
  o1 Tryz.prog (convert 5 3 t16) w fun t17 w =>
  o1 Tryz.prog (bin .add 3 (.tmp 13) (.tmp 17) t13 t17) w fun t18 w =>
  mv t18 fun t2_3 =>
  k t2_3 w
theorem C.math_bits_Len32 {k : Value → World → Prop} {a0 : Value} {w : World} (h : F.math_bits_Len32 k a0 w) : C Tryz.prog N.math_bits_Len32 #[a0] w k :=
  den_calls (H := { moves := [], vars := [0, 2] }) (args := [a0]) mixed Tryz.func177 (by kernel_rfl) (by kernel_rfl) (by kernel_rfl) h

-- math/bits.Len64
def F.math_bits_Len64 (k : Value → World → Prop) (a0 : Value) (w : World) : Prop :=
  mv (.int .i64 0) fun t2 =>
  mv a0 fun t3 =>
  o1 Tryz.prog (bin .geq 105 (.tmp 3) (.const (.int .u64 4294967296)) t3 (.int .u64 4294967296)) w fun t4 w =>
  jn (fun x1 => [x1 0, x1 2]) (fun k1 =>
  br t4 (fun _ =>
  mv a0 fun t5 =>
  o1 Tryz.prog (bin .shr 105 (.tmp 5) (.const (.int .u64 32)) t5 (.int .u64 32)) w fun t6 w =>
  mv t6 fun t0 =>
  mv (.int .i64 32) fun t2_1 =>
  k1 [t0, t2_1] w) (fun _ =>
  k1 [a0, t2] w)) fun x1 w =>
  mv (x1 0) fun t7 =>
  o1 Tryz.prog (bin .geq 105 (.tmp 7) (.const (.int .u64 65536)) t7 (.int .u64 65536)) w fun t8 w =>
  jn (fun x2 => [x2 0, x2 2]) (fun k2 =>
  br t8 (fun _ =>
  mv (x1 0) fun t9 =>
  o1 Tryz.prog (bin .shr 105 (.tmp 9) (.const (.int .u64 16)) t9 (.int .u64 16)) w fun t10 w =>
  mv t10 fun t0_1 =>
  mv (x1 2) fun t11 =>
  o1 Tryz.prog (bin .add 3 (.tmp 11) (.const (.int .i64 16)) t11 (.int .i64 16)) w fun t12 w =>
  mv t12 fun t2_2 =>
  k2 [t0_1, t2_2] w) (fun _ =>
  k2 [(x1 0), (x1 2)] w)) fun x2 w =>
  mv (x2 0) fun t13 =>
  o1 Tryz.prog (bin .geq 105 (.tmp 13) (.const (.int .u64 256)) t13 (.int .u64 256)) w fun t14 w =>
  jn (fun x3 => [x3 0, x3 2]) (fun k3 =>
  br t14 (fun _ =>
  mv (x2 0) fun t15 =>
  o1 Tryz.prog (bin .shr 105 (.tmp 15) (.const (.int .u64 8)) t15 (.int .u64 8)) w fun t16 w =>
  mv t16 fun t0_2 =>
  mv (x2 2) fun t17 =>
  o1 Tryz.prog (bin .add 3 (.tmp 17) (.const (.int .i64 8)) t17 (.int .i64 8)) w fun t18 w =>
  mv t18 fun t2_3 =>
  k3 [t0_2, t2_3] w) (fun _ =>
  k3 [(x2 0), (x2 2)] w)) fun x3 w =>
  mv (x3 2) fun t19 =>
  mv (x3 0) fun t20 =>
  o1 Tryz.prog (convert 105 5 t20) w fun t21 w =>
  o1 Tryz.prog (Instr.index 9 (.string ⟨#[0, 1, 2, 2, 3, 3, 3, 3, 4, 4, 4, 4, 4, 4, 4, 4, 5, 5, 5, 5, 5, 5, 5, 5, 5, 5, 5, 5, 5, 5, 5, 5, 6, 6, 6, 6, 6, 6, 6, 6, 6, 6, 6, 6, 6, 6, 6, 6, 6, 6, 6, 6, 6, 6, 6, 6, 6, 6, 6, 6, 6, 6, 6, 6, 7, 7, 7, 7, 7, 7, 7, 7, 7, 7, 7, 7, 7, 7, 7, 7, 7, 7, 7, 7, 7, 7, 7, 7, 7, 7, 7, 7, 7, 7, 7, 7, 7, 7, 7, 7, 7, 7, 7, 7, 7, 7, 7, 7, 7, 7, 7, 7, 7, 7, 7, 7, 7, 7, 7, 7, 7, 7, 7, 7, 7, 7, 7, 7, 8, 8, 8, 8, 8, 8, 8, 8, 8, 8, 8, 8, 8, 8, 8, 8, 8, 8, 8, 8, 8, 8, 8, 8, 8, 8, 8, 8, 8, 8, 8, 8, 8, 8, 8, 8, 8, 8, 8, 8, 8, 8, 8, 8, 8, 8, 8, 8, 8, 8, 8, 8, 8, 8, 8, 8, 8, 8, 8, 8, 8, 8, 8, 8, 8, 8, 8, 8, 8, 8, 8, 8, 8, 8, 8, 8, 8, 8, 8, 8, 8, 8, 8, 8, 8, 8, 8, 8, 8, 8, 8, 8, 8, 8, 8, 8, 8, 8, 8, 8, 8, 8, 8, 8, 8, 8, 8, 8, 8, 8, 8, 8, 8, 8, 8, 8, 8, 8, 8, 8, 8, 8, 8, 8, 8, 8, 8, 8]⟩) t21) w fun t22 w =>
  o1 Tryz.prog (convert 5 3 t22) w fun t23 w =>
  o1 Tryz.prog (bin .add 3 (.tmp 19) (.tmp 23) t19 t23) w fun t24 w =>
  mv t24 fun t2_4 =>
  k t2_4 w
theorem C.math_bits_Len64 {k : Value → World → Prop} {a0 : Value} {w : World} (h : F.math_bits_Len64 k a0 w) : C Tryz.prog N.math_bits_Len64 #[a0] w k :=
  den_calls (H := { moves := [], vars := [0, 2] }) (args := [a0]) mixed Tryz.func178 (by kernel_rfl) (by kernel_rfl) (by kernel_rfl) h

-- isthmus/pack.number
def F.pack_number (k : Value → World → Prop) (a0 : Value) (w : World) : Prop :=
  mv (.int .u64 0) fun t2 =>
  mv (.int .i64 0) fun t3 =>
  mv (.int .i64 0) fun t4 =>
  mv (.int .u64 0) fun t5 =>
  mv (.int .i64 0) fun t8 =>
  jn (fun x1 => [x1 2, x1 3, x1 4, x1 5, x1 6, x1 7, x1 8]) (fun k1 =>
  lp [t2, t3, t4, t5, undef, undef, t8] w fun I2 μ2 => ∀ (x2 : Env) (w1 : World), I2 [x2 2, x2 3, x2 4, x2 5, x2 6, x2 7, x2 8] w1 →
  o1 Tryz.prog (bin .lss 3 (.tmp 8) (.const (.int .i64 10)) (x2 8) (.int .i64 10)) w1 fun t9 w =>
  br t9 (fun _ =>
  mv (x2 8) fun t10 =>
  mv t10 fun t6 =>
  mv t6 fun t11 =>
  mv a0 fun t12 =>
  o1 Tryz.prog (Builtin.len_ #[39] 3 #[t12]) w fun t13 w =>
  o1 Tryz.prog (bin .eql 3 (.tmp 11) (.tmp 13) t11 t13) w fun t14 w =>
  br t14 (fun _ =>
  mv (.int .u64 0) fun t2_1 =>
  mv (.int .i64 0) fun t3_1 =>
  mv (.int .i64 12) fun t4_1 =>
  k (.tuple #[t2_1, t3_1, t4_1]) w) (fun _ =>
  mv a0 fun t15 =>
  mv t6 fun t16 =>
  o1 Tryz.prog (Instr.indexAt 39 t15 t16) w fun t17 w =>
  o1 Tryz.prog (Instr.loadAt 5 t17) w fun t18 w =>
  mv t18 fun t7 =>
  mv t6 fun t19 =>
  o1 Tryz.prog (bin .eql 3 (.tmp 19) (.const (.int .i64 9)) t19 (.int .i64 9)) w fun t20 w =>
  mv t20 fun t21 =>
  gd t21 true (fun k2 => mv t7 fun v => k2 v w) w fun t22 w =>
  gd t21 true (fun k3 => o1 Tryz.prog (bin .gtr 5 (.tmp 22) (.const (.int .u8 1)) t22 (.int .u8 1)) w k3) w fun t23 w =>
  pk t21 t23 (.bool false) fun t24 =>
  br t24 (fun _ =>
  k1 [(x2 2), (x2 3), (x2 4), (x2 5), t6, t7, (x2 8)] w) (fun _ =>
  mv (x2 5) fun t25 =>
  mv t7 fun t26 =>
  o1 Tryz.prog (bin .andNot 5 (.tmp 26) (.const (.int .u8 128)) t26 (.int .u8 128)) w fun t27 w =>
  o1 Tryz.prog (convert 5 105 t27) w fun t28 w =>
  mv t6 fun t29 =>
  o1 Tryz.prog (bin .mul 3 (.const (.int .i64 7)) (.tmp 29) (.int .i64 7) t29) w fun t30 w =>
  o1 Tryz.prog (convert 3 185 t30) w fun t31 w =>
  o1 Tryz.prog (bin .shl 105 (.tmp 28) (.tmp 31) t28 t31) w fun t32 w =>
  o1 Tryz.prog (bin .or 105 (.tmp 25) (.tmp 32) t25 t32) w fun t33 w =>
  mv t33 fun t5_1 =>
  mv t7 fun t34 =>
  o1 Tryz.prog (bin .lss 5 (.tmp 34) (.const (.int .u8 128)) t34 (.int .u8 128)) w fun t35 w =>
  br t35 (fun _ =>
  mv t7 fun t36 =>
  o1 Tryz.prog (bin .eql 5 (.tmp 36) (.const (.int .u8 0)) t36 (.int .u8 0)) w fun t37 w =>
  mv t37 fun t38 =>
  gd t38 true (fun k4 => mv t6 fun v => k4 v w) w fun t39 w =>
  gd t38 true (fun k5 => o1 Tryz.prog (bin .gtr 3 (.tmp 39) (.const (.int .i64 0)) t39 (.int .i64 0)) w k5) w fun t40 w =>
  pk t38 t40 (.bool false) fun t41 =>
  br t41 (fun _ =>
  k1 [(x2 2), (x2 3), (x2 4), t5_1, t6, t7, (x2 8)] w) (fun _ =>
  mv t5_1 fun t42 =>
  mv t6 fun t43 =>
  o1 Tryz.prog (bin .add 3 (.tmp 43) (.const (.int .i64 1)) t43 (.int .i64 1)) w fun t44 w =>
  mv t42 fun t2_2 =>
  mv t44 fun t3_2 =>
  mv (.int .i64 0) fun t4_2 =>
  k (.tuple #[t2_2, t3_2, t4_2]) w)) (fun _ =>
  o1 Tryz.prog (bin .add 3 (.tmp 8) (.const (.int .i64 1)) (x2 8) (.int .i64 1)) w fun t45 w =>
  mv t45 fun t8_1 =>
  I2 [(x2 2), (x2 3), (x2 4), t5_1, t6, t7, t8_1] w ∧ μ2 [(x2 2), (x2 3), (x2 4), t5_1, t6, t7, t8_1] w < μ2 [x2 2, x2 3, x2 4, x2 5, x2 6, x2 7, x2 8] w1)))) (fun _ =>
  k1 [(x2 2), (x2 3), (x2 4), (x2 5), (x2 6), (x2 7), (x2 8)] w)) fun x1 w =>
  mv (.int .u64 0) fun t2_3 =>
  mv (.int .i64 0) fun t3_3 =>
  mv (.int .i64 3) fun t4_3 =>
  k (.tuple #[t2_3, t3_3, t4_3]) w
theorem C.pack_number {k : Value → World → Prop} {a0 : Value} {w : World} (h : F.pack_number k a0 w) : C Tryz.prog N.pack_number #[a0] w k :=
  den_calls (H := { moves := [], vars := [2, 3, 4, 5, 6, 7, 8] }) (args := [a0]) mixed Tryz.func179 (by kernel_rfl) (by kernel_rfl) (by kernel_rfl) h

-- isthmus/wots.number
-- (*isthmus/api.Fault).Unwrap
def F.api_Fault_Unwrap (k : Value → World → Prop) (a0 : Value) (w : World) : Prop :=
  mv .nilIface fun t2 =>
  mv a0 fun t3 =>
  nilOk t3 = true ∧ mv t3 fun t4 =>
  o1 Tryz.prog (Instr.fieldAt 173 t4 1) w fun t5 w =>
  o1 Tryz.prog (Instr.loadAt 34 t5) w fun t6 w =>
  mv t6 fun t2_1 =>
  k t2_1 w
theorem C.api_Fault_Unwrap {k : Value → World → Prop} {a0 : Value} {w : World} (h : F.api_Fault_Unwrap k a0 w) : C Tryz.prog N.api_Fault_Unwrap #[a0] w k :=
  den_calls (H := { moves := [], vars := [2] }) (args := [a0]) mixed Tryz.func203 (by kernel_rfl) (by kernel_rfl) (by kernel_rfl) h

-- gosem.cut.vars
end Go.Proofs.YtlfelmikcdmkhaaGreatDoor
