/- What each function asks: printed by hoas.py off the loaded program; each is held against the program by the kernel. -/
import Derived.Test.YtbbmgkbinnomgaaGreatDoorN
set_option linter.unusedVariables false
set_option linter.unusedSimpArgs false
set_option linter.unusedSectionVars false
namespace Go.Proofs.YtbbmgkbinnomgaaGreatDoor
open Go Go.Isk
set_option maxRecDepth 100000
-- isthmus/keys.read
def F.keys_read (k : Value → World → Prop) (a0 : Value) (w : World) : Prop :=
  o1 Tryz.prog (Instr.alloc 74 true (.tuple #[])) w fun t2 w =>
  mv .nilIface fun t3 =>
  mv a0 fun t6 =>
  C Tryz.prog N.pack_Read #[t6] w fun t7 w =>
  mv t7 fun t4 =>
  mv t4 fun t8 =>
  C Tryz.prog N.pack_Reader_Uint #[t8, .int .u64 1023] w fun t9 w =>
  o1 Tryz.prog (convert 79 3 t9) w fun t10 w =>
  mv t4 fun t11 =>
  C Tryz.prog N.pack_Reader_Bytes #[t11, .int .i64 4096] w fun t12 w =>
  o1 Tryz.prog (Instr.build 74 #[(0, t10), (1, t12)]) w fun t13 w =>
  o1 Tryz.prog (Instr.alloc 74 true (.tuple #[])) w fun t5 w =>
  o0 Tryz.prog (Instr.storeAt 74 t5 t13) w fun _ w =>
  mv t4 fun t14 =>
  C Tryz.prog N.pack_Reader_Uint #[t14, .int .u64 10] w fun t15 w =>
  mv (.int .u64 0) fun t16 =>
  lp [t16] w fun I1 μ1 => ∀ (x1 : Env) (w1 : World), I1 [x1 16] w1 →
  o1 Tryz.prog (bin .lss 79 (.tmp 16) (.tmp 15) (x1 16) t15) w1 fun t17 w =>
  br t17 (fun _ =>
  dr w.drew fun S1 =>
  tk Tryz.prog S1 (Instr.fieldAt 74 t5 2) fun t18 =>
  tk Tryz.prog S1 (Instr.loadAt 37 t18) fun t19 =>
  mv t4 fun t20 =>
  C Tryz.prog N.pack_Reader_Hash #[t20] w.drew fun t21 w =>
  S1 w ∧
  o1 Tryz.prog (Instr.buildSlice 37 1 #[(0, t21)]) w fun t22 w =>
  S1 w ∧
  ob Tryz.prog (fun _ => Builtin.append_ #[37, 37] 37 #[t19, t22]) w fun t23 w =>
  S1 w ∧
  tk Tryz.prog S1 (Instr.fieldAt 74 t5 2) fun t24 =>
  o0 Tryz.prog (Instr.storeAt 37 t24 t23) w fun _ w =>
  o1 Tryz.prog (bin .add 79 (.tmp 16) (.const (.int .u64 1)) (x1 16) (.int .u64 1)) w fun t25 w =>
  mv t25 fun t16_1 =>
  I1 [t16_1] w ∧ μ1 [t16_1] w < μ1 [x1 16] w1) (fun _ =>
  mv t4 fun t26 =>
  C Tryz.prog N.pack_Reader_Done #[t26] w fun t27 w =>
  o1 Tryz.prog (bin .neq 30 (.tmp 27) (.const .nilIface) t27 .nilIface) w fun t28 w =>
  br t28 (fun _ =>
  o1 Tryz.prog (Instr.build 74 #[]) w fun t29 w =>
  o1 Tryz.prog (Instr.makeInterface 87 (.int .i64 3)) w fun t30 w =>
  C Tryz.prog N.keys_fault #[.string ⟨#[115, 105, 103, 110, 97, 116, 117, 114, 101]⟩, t30] w fun t31 w =>
  o0 Tryz.prog (Instr.storeAt 74 t2 t29) w fun _ w =>
  mv t31 fun t3_1 =>
  rc Tryz.prog 74 t2 w fun r0 =>
  k (.tuple #[r0, t3_1]) w) (fun _ =>
  o1 Tryz.prog (Instr.loadAt 74 t5) w fun t32 w =>
  o0 Tryz.prog (Instr.storeAt 74 t2 t32) w fun _ w =>
  mv .nilIface fun t3_2 =>
  rc Tryz.prog 74 t2 w fun r0 =>
  k (.tuple #[r0, t3_2]) w))
theorem C.keys_read {k : Value → World → Prop} {a0 : Value} {w : World} (h : F.keys_read k a0 w) : C Tryz.prog N.keys_read #[a0] w k :=
  den_calls (H := { moves := [(5, (.take 0 (.take 1 (.take 2 (.force 3 (.force 4 (.force 5 (.take 6 (.last 7)))))))))], vars := [3, 4, 16] }) (args := [a0]) mixed Tryz.func30 (by kernel_rfl) (by kernel_rfl) (by kernel_rfl) h

-- isthmus/isthmusref02.ReadUint
-- isthmus/isthmusref02.ReadBytes
-- isthmus/isthmusref02.ReadHash
-- isthmus/isthmusref02.Done
-- errors.As
def F.errors_As (k : Value → World → Prop) (a0 a1 : Value) (w : World) : Prop :=
  mv (.bool false) fun t4 =>
  mv a0 fun t8 =>
  o1 Tryz.prog (bin .eql 30 (.tmp 8) (.const .nilIface) t8 .nilIface) w fun t9 w =>
  br t9 (fun _ =>
  mv (.bool false) fun t4_1 =>
  k t4_1 w) (fun _ =>
  mv a1 fun t10 =>
  o1 Tryz.prog (bin .eql 20 (.tmp 10) (.const .nilIface) t10 .nilIface) w fun t11 w =>
  jn (fun x1 => []) (fun k1 =>
  br t11 (fun _ =>
  o1 Tryz.prog (Instr.makeInterface 9 (.string ⟨#[101, 114, 114, 111, 114, 115, 58, 32, 116, 97, 114, 103, 101, 116, 32, 99, 97, 110, 110, 111, 116, 32, 98, 101, 32, 110, 105, 108]⟩)) w fun t12 w =>
  False) (fun _ =>
  k1 [] w)) fun x1 w =>
  mv a1 fun t13 =>
  oN Tryz.prog (callFunc N.internal_reflectlite_ValueOf #[t13]) w fun t14 w =>
  o1 Tryz.prog (Instr.alloc 127 true (.tuple #[])) w fun t5 w =>
  o0 Tryz.prog (Instr.storeAt 127 t5 t14) w fun _ w =>
  o1 Tryz.prog (Instr.loadAt 127 t5) w fun t15 w =>
  oN Tryz.prog (callFunc N.internal_reflectlite_Value_Type #[t15]) w fun t16 w =>
  mv t16 fun t6 =>
  mv t6 fun t17 =>
  iv Tryz.prog t17 "Kind" #[] w fun t18 w =>
  o1 Tryz.prog (bin .neq 132 (.tmp 18) (.const (.int .u8 22)) t18 (.int .u8 22)) w fun t19 w =>
  mv t19 fun t20 =>
  gd t20 false (fun k2 => o1 Tryz.prog (Instr.loadAt 127 t5) w k2) w fun t21 w =>
  gd t20 false (fun k3 => oN Tryz.prog (callFunc N.internal_reflectlite_Value_IsNil #[t21]) w k3) w fun t22 w =>
  pk t20 (.bool true) t22 fun t23 =>
  jn (fun x2 => []) (fun k4 =>
  br t23 (fun _ =>
  o1 Tryz.prog (Instr.makeInterface 9 (.string ⟨#[101, 114, 114, 111, 114, 115, 58, 32, 116, 97, 114, 103, 101, 116, 32, 109, 117, 115, 116, 32, 98, 101, 32, 97, 32, 110, 111, 110, 45, 110, 105, 108, 32, 112, 111, 105, 110, 116, 101, 114]⟩)) w fun t24 w =>
  False) (fun _ =>
  k4 [] w)) fun x2 w =>
  mv t6 fun t25 =>
  iv Tryz.prog t25 "Elem" #[] w fun t26 w =>
  mv t26 fun t7 =>
  mv t7 fun t27 =>
  iv Tryz.prog t27 "Kind" #[] w fun t28 w =>
  o1 Tryz.prog (bin .neq 132 (.tmp 28) (.const (.int .u8 20)) t28 (.int .u8 20)) w fun t29 w =>
  mv t29 fun t30 =>
  gd t30 true (fun k5 => mv t7 fun v => k5 v w) w fun t31 w =>
  gd t30 true (fun k6 => o1 Tryz.prog (Instr.loadAt 130 (.pointer (some ⟨0, 0, none⟩))) w k6) w fun t32 w =>
  gd t30 true (fun k7 => iv Tryz.prog t31 "Implements" #[t32] w k7) w fun t33 w =>
  gd t30 true (fun k8 => o1 Tryz.prog (Op.unary .not t33) w k8) w fun t34 w =>
  pk t30 t34 (.bool false) fun t35 =>
  jn (fun x3 => []) (fun k9 =>
  br t35 (fun _ =>
  o1 Tryz.prog (Instr.makeInterface 9 (.string ⟨#[101, 114, 114, 111, 114, 115, 58, 32, 42, 116, 97, 114, 103, 101, 116, 32, 109, 117, 115, 116, 32, 98, 101, 32, 105, 110, 116, 101, 114, 102, 97, 99, 101, 32, 111, 114, 32, 105, 109, 112, 108, 101, 109, 101, 110, 116, 32, 101, 114, 114, 111, 114]⟩)) w fun t36 w =>
  False) (fun _ =>
  k9 [] w)) fun x3 w =>
  mv a0 fun t37 =>
  mv a1 fun t38 =>
  o1 Tryz.prog (Instr.loadAt 127 t5) w fun t39 w =>
  mv t7 fun t40 =>
  C Tryz.prog N.errors_as #[t37, t38, t39, t40] w fun t41 w =>
  mv t41 fun t4_2 =>
  k t4_2 w)
theorem C.errors_As {k : Value → World → Prop} {a0 a1 : Value} {w : World} (h : F.errors_As k a0 a1 w) : C Tryz.prog N.errors_As #[a0, a1] w k :=
  den_calls (H := { moves := [], vars := [4, 6, 7] }) (args := [a0, a1]) mixed Tryz.func35 (by kernel_rfl) (by kernel_rfl) (by kernel_rfl) h

-- isthmus/keys.fault
def F.keys_fault (k : Value → World → Prop) (a0 a1 : Value) (w : World) : Prop :=
  mv .nilIface fun t4 =>
  mv a0 fun t5 =>
  mv a1 fun t6 =>
  o1 Tryz.prog (Instr.build 138 #[(0, t5), (1, t6)]) w fun t7 w =>
  o1 Tryz.prog (Instr.box 138 t7) w fun t8 w =>
  o1 Tryz.prog (Instr.makeInterface 136 t8) w fun t9 w =>
  mv t9 fun t4_1 =>
  k t4_1 w
theorem C.keys_fault {k : Value → World → Prop} {a0 a1 : Value} {w : World} (h : F.keys_fault k a0 a1 w) : C Tryz.prog N.keys_fault #[a0, a1] w k :=
  den_calls (H := { moves := [], vars := [4] }) (args := [a0, a1]) mixed Tryz.func36 (by kernel_rfl) (by kernel_rfl) (by kernel_rfl) h

-- isthmus/wots.Digest
def F.wots_Digest (k : Value → World → Prop) (a0 a1 : Value) (w : World) : Prop :=
  mv (.slice none 0 0) fun t4 =>
  mv .nilIface fun t5 =>
  mv a1 fun t7 =>
  C Tryz.prog N.wots_digest #[t7] w fun t8 w =>
  o1 Tryz.prog (Op.unary .not t8) w fun t9 w =>
  br t9 (fun _ =>
  C Tryz.prog N.wots_fault #[.string ⟨#[100, 105, 103, 101, 115, 116]⟩, .int .i64 1] w fun t10 w =>
  mv (.slice none 0 0) fun t4_1 =>
  mv t10 fun t5_1 =>
  k (.tuple #[t4_1, t5_1]) w) (fun _ =>
  o1 Tryz.prog (Instr.buildSlice 26 1 #[(0, .int .u8 4)]) w fun t11 w =>
  mv a0 fun t12 =>
  ob Tryz.prog (fun _ => Builtin.append_ #[26, 26] 26 #[t11, t12]) w fun t13 w =>
  C Tryz.prog N.sha_Sum #[t13] w fun t14 w =>
  o1 Tryz.prog (Instr.alloc 23 true (.tuple #[])) w fun t6 w =>
  o0 Tryz.prog (Instr.storeAt 23 t6 t14) w fun _ w =>
  mv a1 fun t15 =>
  o1 Tryz.prog (Instr.sliceAt 23 t6 none (some t15) none) w fun t16 w =>
  ob Tryz.prog (fun _ => Builtin.append_ #[26, 26] 26 #[.slice none 0 0, t16]) w fun t17 w =>
  mv t17 fun t4_2 =>
  mv .nilIface fun t5_2 =>
  k (.tuple #[t4_2, t5_2]) w)
theorem C.wots_Digest {k : Value → World → Prop} {a0 a1 : Value} {w : World} (h : F.wots_Digest k a0 a1 w) : C Tryz.prog N.wots_Digest #[a0, a1] w k :=
  den_calls (H := { moves := [], vars := [4, 5] }) (args := [a0, a1]) mixed Tryz.func37 (by kernel_rfl) (by kernel_rfl) (by kernel_rfl) h

-- isthmus/wots.From
def F.wots_From (k : Value → World → Prop) (a0 a1 a2 : Value) (w : World) : Prop :=
  o1 Tryz.prog (Instr.alloc 23 true (.tuple #[])) w fun t6 w =>
  mv .nilIface fun t7 =>
  mv a1 fun t13 =>
  mv a2 fun t14 =>
  o1 Tryz.prog (Builtin.len_ #[26] 3 #[t14]) w fun t15 w =>
  C Tryz.prog N.wots_check #[t13, t15] w fun t16 w =>
  mv t16 fun t8 =>
  mv t8 fun t17 =>
  o1 Tryz.prog (bin .neq 30 (.tmp 17) (.const .nilIface) t17 .nilIface) w fun t18 w =>
  br t18 (fun _ =>
  o1 Tryz.prog (Instr.build 23 #[]) w fun t19 w =>
  mv t8 fun t20 =>
  o0 Tryz.prog (Instr.storeAt 23 t6 t19) w fun _ w =>
  mv t20 fun t7_1 =>
  rc Tryz.prog 23 t6 w fun r0 =>
  k (.tuple #[r0, t7_1]) w) (fun _ =>
  mv a0 fun t21 =>
  o1 Tryz.prog (Builtin.len_ #[26] 3 #[t21]) w fun t22 w =>
  mv a2 fun t23 =>
  o1 Tryz.prog (Builtin.len_ #[26] 3 #[t23]) w fun t24 w =>
  C Tryz.prog N.wots_Len #[t24] w fun t25 w =>
  o1 Tryz.prog (bin .mul 3 (.const (.int .i64 32)) (.tmp 25) (.int .i64 32) t25) w fun t26 w =>
  o1 Tryz.prog (bin .neq 3 (.tmp 22) (.tmp 26) t22 t26) w fun t27 w =>
  br t27 (fun _ =>
  o1 Tryz.prog (Instr.build 23 #[]) w fun t28 w =>
  C Tryz.prog N.wots_fault #[.string ⟨#[115, 105, 103, 110, 97, 116, 117, 114, 101]⟩, .int .i64 2] w fun t29 w =>
  o0 Tryz.prog (Instr.storeAt 23 t6 t28) w fun _ w =>
  mv t29 fun t7_2 =>
  rc Tryz.prog 23 t6 w fun r0 =>
  k (.tuple #[r0, t7_2]) w) (fun _ =>
  mv (.slice none 0 0) fun t9 =>
  mv a2 fun t30 =>
  C Tryz.prog N.wots_Digits #[t30] w fun t31 w =>
  o1 Tryz.prog (Builtin.len_ #[63] 3 #[t31]) w fun t32 w =>
  mv (.int .i64 0) fun t33 =>
  lp [t9, undef, undef, t33] w fun I1 μ1 => ∀ (x1 : Env) (w1 : World), I1 [x1 9, x1 10, x1 11, x1 33] w1 →
  o1 Tryz.prog (bin .lss 3 (.tmp 33) (.tmp 32) (x1 33) t32) w1 fun t34 w =>
  br t34 (fun _ =>
  mv (x1 33) fun t35 =>
  o1 Tryz.prog (Instr.indexAt 63 t31 (x1 33)) w fun t36 w =>
  o1 Tryz.prog (Instr.loadAt 3 t36) w fun t37 w =>
  mv t35 fun t10 =>
  mv t37 fun t11 =>
  mv a0 fun t38 =>
  mv t10 fun t39 =>
  o1 Tryz.prog (bin .mul 3 (.const (.int .i64 32)) (.tmp 39) (.int .i64 32) t39) w fun t40 w =>
  mv t10 fun t41 =>
  o1 Tryz.prog (bin .add 3 (.tmp 41) (.const (.int .i64 1)) t41 (.int .i64 1)) w fun t42 w =>
  o1 Tryz.prog (bin .mul 3 (.const (.int .i64 32)) (.tmp 42) (.int .i64 32) t42) w fun t43 w =>
  o1 Tryz.prog (Instr.sliceAt 26 t38 (some t40) (some t43) none) w fun t44 w =>
  o1 Tryz.prog (Instr.arrayAt 23 t44) w fun t45 w =>
  o1 Tryz.prog (Instr.loadAt 23 t45) w fun t46 w =>
  mv a1 fun t47 =>
  mv t10 fun t48 =>
  mv t11 fun t49 =>
  C Tryz.prog N.wots_Step #[t46, t47, t48, t49, .int .i64 15] w fun t50 w =>
  o1 Tryz.prog (Instr.alloc 23 true (.tuple #[])) w fun t12 w =>
  o0 Tryz.prog (Instr.storeAt 23 t12 t50) w fun _ w =>
  mv (x1 9) fun t51 =>
  o1 Tryz.prog (Instr.sliceAt 23 t12 none none none) w fun t52 w =>
  ob Tryz.prog (fun _ => Builtin.append_ #[26, 26] 26 #[t51, t52]) w fun t53 w =>
  mv t53 fun t9_1 =>
  o1 Tryz.prog (bin .add 3 (.tmp 33) (.const (.int .i64 1)) (x1 33) (.int .i64 1)) w fun t54 w =>
  mv t54 fun t33_1 =>
  I1 [t9_1, t10, t11, t33_1] w ∧ μ1 [t9_1, t10, t11, t33_1] w < μ1 [x1 9, x1 10, x1 11, x1 33] w1) (fun _ =>
  mv (x1 9) fun t55 =>
  C Tryz.prog N.sha_Leaf #[t55] w fun t56 w =>
  o0 Tryz.prog (Instr.storeAt 23 t6 t56) w fun _ w =>
  mv .nilIface fun t7_3 =>
  rc Tryz.prog 23 t6 w fun r0 =>
  k (.tuple #[r0, t7_3]) w)))
theorem C.wots_From {k : Value → World → Prop} {a0 a1 a2 : Value} {w : World} (h : F.wots_From k a0 a1 a2 w) : C Tryz.prog N.wots_From #[a0, a1, a2] w k :=
  den_calls (H := { moves := [], vars := [7, 8, 9, 10, 11, 33] }) (args := [a0, a1, a2]) mixed Tryz.func38 (by kernel_rfl) (by kernel_rfl) (by kernel_rfl) h

-- isthmus/sha.Fold
def F.sha_Fold (k : Value → World → Prop) (a0 a1 a2 a3 : Value) (w : World) : Prop :=
  o1 Tryz.prog (Instr.box 23 a0) w fun t4 w =>
  o1 Tryz.prog (Instr.alloc 23 true (.tuple #[])) w fun t8 w =>
  mv .nilIface fun t9 =>
  mv a1 fun t13 =>
  o1 Tryz.prog (bin .lss 3 (.tmp 13) (.const (.int .i64 0)) t13 (.int .i64 0)) w fun t14 w =>
  mv t14 fun t15 =>
  gd t15 false (fun k1 => mv a1 fun v => k1 v w) w fun t16 w =>
  gd t15 false (fun k2 => mv a2 fun v => k2 v w) w fun t17 w =>
  gd t15 false (fun k3 => o1 Tryz.prog (bin .geq 3 (.tmp 16) (.tmp 17) t16 t17) w k3) w fun t18 w =>
  pk t15 (.bool true) t18 fun t19 =>
  br t19 (fun _ =>
  o1 Tryz.prog (Instr.build 23 #[]) w fun t20 w =>
  o1 Tryz.prog (Instr.makeInterface 87 (.int .i64 1)) w fun t21 w =>
  o1 Tryz.prog (Instr.build 138 #[(0, .string ⟨#[112, 108, 97, 99, 101]⟩), (1, t21)]) w fun t22 w =>
  o1 Tryz.prog (Instr.box 138 t22) w fun t23 w =>
  o1 Tryz.prog (Instr.makeInterface 136 t23) w fun t24 w =>
  o0 Tryz.prog (Instr.storeAt 23 t8 t20) w fun _ w =>
  mv t24 fun t9_1 =>
  rc Tryz.prog 23 t8 w fun r0 =>
  k (.tuple #[r0, t9_1]) w) (fun _ =>
  mv a1 fun t25 =>
  mv a2 fun t26 =>
  C Tryz.prog N.sha_turns #[t25, t26] w fun t27 w =>
  mv t27 fun t10 =>
  mv t10 fun t28 =>
  o1 Tryz.prog (Builtin.len_ #[62] 3 #[t28]) w fun t29 w =>
  mv a3 fun t30 =>
  o1 Tryz.prog (Builtin.len_ #[37] 3 #[t30]) w fun t31 w =>
  o1 Tryz.prog (bin .neq 3 (.tmp 29) (.tmp 31) t29 t31) w fun t32 w =>
  br t32 (fun _ =>
  o1 Tryz.prog (Instr.build 23 #[]) w fun t33 w =>
  o1 Tryz.prog (Instr.makeInterface 87 (.int .i64 2)) w fun t34 w =>
  o1 Tryz.prog (Instr.build 138 #[(0, .string ⟨#[112, 97, 116, 104]⟩), (1, t34)]) w fun t35 w =>
  o1 Tryz.prog (Instr.box 138 t35) w fun t36 w =>
  o1 Tryz.prog (Instr.makeInterface 136 t36) w fun t37 w =>
  o0 Tryz.prog (Instr.storeAt 23 t8 t33) w fun _ w =>
  mv t37 fun t9_2 =>
  rc Tryz.prog 23 t8 w fun r0 =>
  k (.tuple #[r0, t9_2]) w) (fun _ =>
  mv a3 fun t38 =>
  o1 Tryz.prog (Builtin.len_ #[37] 3 #[t38]) w fun t39 w =>
  mv (.int .i64 0) fun t40 =>
  lp [undef, t40] w fun I1 μ1 => ∀ (x1 : Env) (w1 : World), I1 [x1 11, x1 40] w1 →
  o1 Tryz.prog (bin .lss 3 (.tmp 40) (.tmp 39) (x1 40) t39) w1 fun t41 w =>
  br t41 (fun _ =>
  mv (x1 40) fun t42 =>
  o1 Tryz.prog (Instr.indexAt 37 t38 (x1 40)) w fun t43 w =>
  o1 Tryz.prog (Instr.loadAt 23 t43) w fun t44 w =>
  o1 Tryz.prog (Instr.alloc 23 true (.tuple #[])) w fun t12 w =>
  mv t42 fun t11 =>
  o0 Tryz.prog (Instr.storeAt 23 t12 t44) w fun _ w =>
  mv t10 fun t45 =>
  mv t10 fun t46 =>
  o1 Tryz.prog (Builtin.len_ #[62] 3 #[t46]) w fun t47 w =>
  o1 Tryz.prog (bin .sub 3 (.tmp 47) (.const (.int .i64 1)) t47 (.int .i64 1)) w fun t48 w =>
  mv t11 fun t49 =>
  o1 Tryz.prog (bin .sub 3 (.tmp 48) (.tmp 49) t48 t49) w fun t50 w =>
  o1 Tryz.prog (Instr.indexAt 62 t45 t50) w fun t51 w =>
  o1 Tryz.prog (Instr.loadAt 4 t51) w fun t52 w =>
  jn (fun x2 => []) (fun k4 =>
  br t52 (fun _ =>
  o1 Tryz.prog (Instr.loadAt 23 t12) w fun t53 w =>
  o1 Tryz.prog (Instr.loadAt 23 t4) w fun t54 w =>
  C Tryz.prog N.sha_Node #[t53, t54] w fun t55 w =>
  o0 Tryz.prog (Instr.storeAt 23 t4 t55) w fun _ w =>
  k4 [] w) (fun _ =>
  o1 Tryz.prog (Instr.loadAt 23 t4) w fun t56 w =>
  o1 Tryz.prog (Instr.loadAt 23 t12) w fun t57 w =>
  C Tryz.prog N.sha_Node #[t56, t57] w fun t58 w =>
  o0 Tryz.prog (Instr.storeAt 23 t4 t58) w fun _ w =>
  k4 [] w)) fun x2 w =>
  o1 Tryz.prog (bin .add 3 (.tmp 40) (.const (.int .i64 1)) (x1 40) (.int .i64 1)) w fun t59 w =>
  mv t59 fun t40_1 =>
  I1 [t11, t40_1] w ∧ μ1 [t11, t40_1] w < μ1 [x1 11, x1 40] w1) (fun _ =>
  o1 Tryz.prog (Instr.loadAt 23 t4) w fun t60 w =>
  o0 Tryz.prog (Instr.storeAt 23 t8 t60) w fun _ w =>
  mv .nilIface fun t9_3 =>
  rc Tryz.prog 23 t8 w fun r0 =>
  k (.tuple #[r0, t9_3]) w)))
theorem C.sha_Fold {k : Value → World → Prop} {a0 a1 a2 a3 : Value} {w : World} (h : F.sha_Fold k a0 a1 a2 a3 w) : C Tryz.prog N.sha_Fold #[a0, a1, a2, a3] w k :=
  den_calls (H := { moves := [], vars := [9, 10, 11, 40] }) (args := [a0, a1, a2, a3]) mixed Tryz.func39 (by kernel_rfl) (by kernel_rfl) (by kernel_rfl) h

-- isthmus/isthmusref05.Digest
-- isthmus/isthmusref05.From
-- isthmus/isthmusref01.Fold
-- isthmus/isthmuslaw06.small
def F.isthmuslaw06_small (k : Value → World → Prop) (w : World) : Prop :=
  o1 Tryz.prog (Instr.alloc 25 true (.tuple #[])) w fun t0 w =>
  o1 Tryz.prog (Instr.build 25 #[(0, .int .i64 1), (1, .int .i64 1)]) w fun t1 w =>
  o0 Tryz.prog (Instr.storeAt 25 t0 t1) w fun _ w =>
  rc Tryz.prog 25 t0 w fun r0 =>
  k r0 w
theorem C.isthmuslaw06_small {k : Value → World → Prop} {w : World} (h : F.isthmuslaw06_small k  w) : C Tryz.prog N.isthmuslaw06_small #[] w k :=
  den_calls (H := { moves := [], vars := [] }) (args := []) mixed Tryz.func43 (by kernel_rfl) (by kernel_rfl) (by kernel_rfl) h

-- (*isthmus/keys.Signer).count
def F.keys_Signer_count (k : Value → World → Prop) (a0 : Value) (w : World) : Prop :=
  mv .nilIface fun t2 =>
  dr w.drew fun S1 =>
  mv a0 fun t12 =>
  nilOk t12 = true ∧ mv t12 fun t13 =>
  tk Tryz.prog S1 (Instr.fieldAt 100 t13 0) fun t14 =>
  tk Tryz.prog S1 (Instr.loadAt 53 t14) fun t15 =>
  mv a0 fun t16 =>
  nilOk t16 = true ∧ mv t16 fun t17 =>
  tk Tryz.prog S1 (Instr.fieldAt 100 t17 1) fun t18 =>
  tk Tryz.prog S1 (Instr.loadAt 9 t18) fun t19 =>
  C Tryz.prog N.files_FS_Read #[t15, t19] w.drew fun t20 w =>
  S1 w ∧
  mv t20 fun t11 =>
  tk Tryz.prog S1 (Instr.extract t11 0) fun t21 =>
  tk Tryz.prog S1 (Instr.extract t11 1) fun t22 =>
  mv t21 fun t3 =>
  mv t22 fun t4 =>
  mv t4 fun t24 =>
  o1 Tryz.prog (Instr.makeInterface 87 (.int .i64 8)) w fun t25 w =>
  C Tryz.prog N.errors_Is #[t24, t25] w fun t26 w =>
  mv t26 fun t23 =>
  br t23 (fun _ =>
  mv .nilIface fun t2_1 =>
  k t2_1 w) (fun _ =>
  mv t4 fun t28 =>
  o1 Tryz.prog (bin .neq 30 (.tmp 28) (.const .nilIface) t28 .nilIface) w fun t29 w =>
  mv t29 fun t27 =>
  br t27 (fun _ =>
  mv t4 fun t30 =>
  mv t30 fun t2_2 =>
  k t2_2 w) (fun _ =>
  mv t3 fun t32 =>
  C Tryz.prog N.frame_Scan #[t32] w fun t33 w =>
  mv t33 fun t31 =>
  o1 Tryz.prog (Instr.extract t31 0) w fun t34 w =>
  o1 Tryz.prog (Instr.extract t31 1) w fun t35 w =>
  o1 Tryz.prog (Instr.extract t31 2) w fun t36 w =>
  mv t34 fun t5 =>
  mv t35 fun t6 =>
  mv t36 fun t4_1 =>
  mv t4_1 fun t37 =>
  o1 Tryz.prog (bin .neq 30 (.tmp 37) (.const .nilIface) t37 .nilIface) w fun t38 w =>
  mv t38 fun t39 =>
  gd t39 true (fun k1 => mv t4_1 fun v => k1 v w) w fun t40 w =>
  gd t39 true (fun k2 => C Tryz.prog N.frame_Torn #[t40] w k2) w fun t41 w =>
  gd t39 true (fun k3 => o1 Tryz.prog (Op.unary .not t41) w k3) w fun t42 w =>
  pk t39 t42 (.bool false) fun t43 =>
  br t43 (fun _ =>
  o1 Tryz.prog (Instr.makeInterface 87 (.int .i64 14)) w fun t44 w =>
  C Tryz.prog N.keys_fault #[.string ⟨#[99, 111, 117, 110, 116, 101, 114]⟩, t44] w fun t45 w =>
  mv t45 fun t2_3 =>
  k t2_3 w) (fun _ =>
  mv t5 fun t46 =>
  o1 Tryz.prog (Builtin.len_ #[150] 3 #[t46]) w fun t47 w =>
  mv (.int .i64 0) fun t48 =>
  lp [t2, undef, undef, undef, t48] w fun I1 μ1 => ∀ (x1 : Env) (w1 : World), I1 [x1 2, x1 8, x1 9, x1 10, x1 48] w1 →
  o1 Tryz.prog (bin .lss 3 (.tmp 48) (.tmp 47) (x1 48) t47) w1 fun t49 w =>
  br t49 (fun _ =>
  o1 Tryz.prog (Instr.indexAt 150 t46 (x1 48)) w fun t50 w =>
  o1 Tryz.prog (Instr.loadAt 26 t50) w fun t51 w =>
  mv t51 fun t8 =>
  mv t8 fun t52 =>
  C Tryz.prog N.pack_Read #[t52] w fun t53 w =>
  mv t53 fun t9 =>
  mv t9 fun t54 =>
  mv a0 fun t55 =>
  nilOk t55 = true ∧ mv t55 fun t56 =>
  o1 Tryz.prog (Instr.fieldAt 100 t56 4) w fun t57 w =>
  o1 Tryz.prog (Instr.loadAt 37 t57) w fun t58 w =>
  o1 Tryz.prog (Builtin.len_ #[37] 3 #[t58]) w fun t59 w =>
  o1 Tryz.prog (convert 3 79 t59) w fun t60 w =>
  C Tryz.prog N.pack_Reader_Uint #[t54, t60] w fun t61 w =>
  o1 Tryz.prog (convert 79 3 t61) w fun t62 w =>
  mv t62 fun t10 =>
  mv t9 fun t63 =>
  C Tryz.prog N.pack_Reader_Done #[t63] w fun t64 w =>
  o1 Tryz.prog (bin .neq 30 (.tmp 64) (.const .nilIface) t64 .nilIface) w fun t65 w =>
  mv t65 fun t66 =>
  gd t66 false (fun k4 => mv t10 fun v => k4 v w) w fun t67 w =>
  gd t66 false (fun k5 => mv a0 fun v => k5 v w) w fun t68 w =>
  gd t66 false (fun k6 => nilOk t68 = true ∧ mv t68 fun v => k6 v w) w fun t69 w =>
  gd t66 false (fun k7 => o1 Tryz.prog (Instr.fieldAt 100 t69 5) w k7) w fun t70 w =>
  gd t66 false (fun k8 => o1 Tryz.prog (Instr.loadAt 3 t70) w k8) w fun t71 w =>
  gd t66 false (fun k9 => o1 Tryz.prog (bin .leq 3 (.tmp 67) (.tmp 71) t67 t71) w k9) w fun t72 w =>
  pk t66 (.bool true) t72 fun t73 =>
  br t73 (fun _ =>
  o1 Tryz.prog (Instr.makeInterface 87 (.int .i64 14)) w fun t74 w =>
  C Tryz.prog N.keys_fault #[.string ⟨#[99, 111, 117, 110, 116, 101, 114]⟩, t74] w fun t75 w =>
  mv t75 fun t2_4 =>
  k t2_4 w) (fun _ =>
  mv a0 fun t76 =>
  mv t10 fun t77 =>
  nilOk t76 = true ∧ mv t76 fun t78 =>
  o1 Tryz.prog (Instr.fieldAt 100 t78 5) w fun t79 w =>
  o0 Tryz.prog (Instr.storeAt 3 t79 t77) w fun _ w =>
  o1 Tryz.prog (bin .add 3 (.tmp 48) (.const (.int .i64 1)) (x1 48) (.int .i64 1)) w fun t80 w =>
  mv t80 fun t48_1 =>
  I1 [(x1 2), t8, t9, t10, t48_1] w ∧ μ1 [(x1 2), t8, t9, t10, t48_1] w < μ1 [x1 2, x1 8, x1 9, x1 10, x1 48] w1)) (fun _ =>
  mv t4_1 fun t81 =>
  o1 Tryz.prog (bin .neq 30 (.tmp 81) (.const .nilIface) t81 .nilIface) w fun t82 w =>
  br t82 (fun _ =>
  dr w.drew fun S2 =>
  mv a0 fun t83 =>
  nilOk t83 = true ∧ mv t83 fun t84 =>
  tk Tryz.prog S2 (Instr.fieldAt 100 t84 0) fun t85 =>
  tk Tryz.prog S2 (Instr.loadAt 53 t85) fun t86 =>
  mv a0 fun t87 =>
  nilOk t87 = true ∧ mv t87 fun t88 =>
  tk Tryz.prog S2 (Instr.fieldAt 100 t88 1) fun t89 =>
  tk Tryz.prog S2 (Instr.loadAt 9 t89) fun t90 =>
  mv t6 fun t91 =>
  C Tryz.prog N.files_FS_Cut #[t86, t90, t91] w.drew fun t92 w =>
  S2 w ∧
  mv t92 fun t2_5 =>
  k t2_5 w) (fun _ =>
  mv .nilIface fun t2_6 =>
  k t2_6 w)))))
theorem C.keys_Signer_count {k : Value → World → Prop} {a0 : Value} {w : World} (h : F.keys_Signer_count k a0 w) : C Tryz.prog N.keys_Signer_count #[a0] w k :=
  den_calls (H := { moves := [(1, (.take 0 (.take 1 (.take 2 (.take 3 (.take 4 (.take 5 (.take 6 (.take 7 (.force 8 (.take 9 (.take 10 (.take 11 (.take 12 (.take 13 .fin))))))))))))))), (19, (.take 0 (.take 1 (.take 2 (.take 3 (.take 4 (.take 5 (.take 6 (.take 7 (.take 8 (.force 9 (.take 10 .fin))))))))))))], vars := [2, 3, 4, 5, 6, 8, 9, 10, 23, 27, 48] }) (args := [a0]) mixed Tryz.func44 (by kernel_rfl) (by kernel_rfl) (by kernel_rfl) h

-- isthmus/sha.Sum
def F.sha_Sum (k : Value → World → Prop) (a0 : Value) (w : World) : Prop :=
  o1 Tryz.prog (Instr.alloc 23 true (.tuple #[])) w fun t2 w =>
  C Tryz.prog N.sha_start #[] w fun t5 w =>
  mv a0 fun t6 =>
  o1 Tryz.prog (Builtin.len_ #[26] 3 #[t6]) w fun t7 w =>
  o1 Tryz.prog (convert 3 79 t7) w fun t8 w =>
  o1 Tryz.prog (Instr.alloc 157 true (.tuple #[])) w fun t3 w =>
  o0 Tryz.prog (Instr.storeAt 157 t3 t5) w fun _ w =>
  mv t8 fun t4 =>
  lp [a0] w fun I1 μ1 => ∀ (x1 : Env) (w1 : World), I1 [x1 0] w1 →
  mv (x1 0) fun t9 =>
  o1 Tryz.prog (Builtin.len_ #[26] 3 #[t9]) w1 fun t10 w =>
  o1 Tryz.prog (bin .geq 3 (.tmp 10) (.const (.int .i64 64)) t10 (.int .i64 64)) w fun t11 w =>
  br t11 (fun _ =>
  mv (x1 0) fun t12 =>
  o1 Tryz.prog (Instr.sliceAt 26 t12 none (some (.int .i64 64)) none) w fun t13 w =>
  C Tryz.prog N.sha_words_mix #[t3, t13] w fun t14 w =>
  mv (x1 0) fun t15 =>
  o1 Tryz.prog (Instr.sliceAt 26 t15 (some (.int .i64 64)) none none) w fun t16 w =>
  mv t16 fun t0 =>
  I1 [t0] w ∧ μ1 [t0] w < μ1 [x1 0] w1) (fun _ =>
  o1 Tryz.prog (Instr.loadAt 157 t3) w fun t17 w =>
  mv (x1 0) fun t18 =>
  mv t4 fun t19 =>
  C Tryz.prog N.sha_words_end #[t17, t18, t19] w fun t20 w =>
  o0 Tryz.prog (Instr.storeAt 23 t2 t20) w fun _ w =>
  rc Tryz.prog 23 t2 w fun r0 =>
  k r0 w)
theorem C.sha_Sum {k : Value → World → Prop} {a0 : Value} {w : World} (h : F.sha_Sum k a0 w) : C Tryz.prog N.sha_Sum #[a0] w k :=
  den_calls (H := { moves := [], vars := [0, 4] }) (args := [a0]) mixed Tryz.func45 (by kernel_rfl) (by kernel_rfl) (by kernel_rfl) h

-- (*isthmus/keys.Signer).reserve
def F.keys_Signer_reserve (k : Value → World → Prop) (a0 : Value) (w : World) : Prop :=
  mv .nilIface fun t2 =>
  dr w.drew fun S1 =>
  mv a0 fun t8 =>
  nilOk t8 = true ∧ mv t8 fun t9 =>
  tk Tryz.prog S1 (Instr.fieldAt 100 t9 5) fun t10 =>
  tk Tryz.prog S1 (Instr.loadAt 3 t10) fun t11 =>
  tk Tryz.prog S1 (bin .add 3 (.tmp 11) (.const (.int .i64 1)) t11 (.int .i64 1)) fun t12 =>
  tk Tryz.prog S1 (convert 3 79 t12) fun t13 =>
  C Tryz.prog N.pack_New #[] w.drew fun t7 w =>
  S1 w ∧
  C Tryz.prog N.pack_Writer_Uint #[t7, t13] w fun t14 w =>
  S1 w ∧
  C Tryz.prog N.pack_Writer_Done #[t14] w fun t15 w =>
  S1 w ∧
  C Tryz.prog N.frame_Frame #[t15] w fun t16 w =>
  S1 w ∧
  mv t16 fun t6 =>
  tk Tryz.prog S1 (Instr.extract t6 0) fun t17 =>
  tk Tryz.prog S1 (Instr.extract t6 1) fun t18 =>
  mv t17 fun t3 =>
  mv t18 fun t4 =>
  mv t4 fun t19 =>
  o1 Tryz.prog (bin .neq 30 (.tmp 19) (.const .nilIface) t19 .nilIface) w fun t20 w =>
  br t20 (fun _ =>
  mv t4 fun t21 =>
  mv t21 fun t2_1 =>
  k t2_1 w) (fun _ =>
  dr w.drew fun S2 =>
  mv a0 fun t22 =>
  nilOk t22 = true ∧ mv t22 fun t23 =>
  tk Tryz.prog S2 (Instr.fieldAt 100 t23 0) fun t24 =>
  tk Tryz.prog S2 (Instr.loadAt 53 t24) fun t25 =>
  mv a0 fun t26 =>
  nilOk t26 = true ∧ mv t26 fun t27 =>
  tk Tryz.prog S2 (Instr.fieldAt 100 t27 1) fun t28 =>
  tk Tryz.prog S2 (Instr.loadAt 9 t28) fun t29 =>
  mv t3 fun t30 =>
  C Tryz.prog N.files_FS_Append #[t25, t29, t30] w.drew fun t31 w =>
  S2 w ∧
  mv t31 fun t5 =>
  mv t5 fun t32 =>
  o1 Tryz.prog (bin .neq 30 (.tmp 32) (.const .nilIface) t32 .nilIface) w fun t33 w =>
  br t33 (fun _ =>
  mv t5 fun t34 =>
  mv t34 fun t2_2 =>
  k t2_2 w) (fun _ =>
  dr w.drew fun S3 =>
  mv a0 fun t35 =>
  nilOk t35 = true ∧ mv t35 fun t36 =>
  tk Tryz.prog S3 (Instr.fieldAt 100 t36 0) fun t37 =>
  tk Tryz.prog S3 (Instr.loadAt 53 t37) fun t38 =>
  mv a0 fun t39 =>
  nilOk t39 = true ∧ mv t39 fun t40 =>
  tk Tryz.prog S3 (Instr.fieldAt 100 t40 1) fun t41 =>
  tk Tryz.prog S3 (Instr.loadAt 9 t41) fun t42 =>
  C Tryz.prog N.files_FS_Sync #[t38, t42] w.drew fun t43 w =>
  S3 w ∧
  mv t43 fun t2_3 =>
  k t2_3 w))
theorem C.keys_Signer_reserve {k : Value → World → Prop} {a0 : Value} {w : World} (h : F.keys_Signer_reserve k a0 w) : C Tryz.prog N.keys_Signer_reserve #[a0] w k :=
  den_calls (H := { moves := [(1, (.take 1 (.take 2 (.take 3 (.take 4 (.take 5 (.take 6 (.force 0 (.force 7 (.force 8 (.force 9 (.take 10 (.take 11 (.take 12 (.take 13 (.take 14 .fin)))))))))))))))), (4, (.take 0 (.take 1 (.take 2 (.take 3 (.take 4 (.take 5 (.take 6 (.take 7 (.take 8 (.force 9 (.take 10 .fin)))))))))))), (7, (.take 0 (.take 1 (.take 2 (.take 3 (.take 4 (.take 5 (.take 6 (.take 7 (.force 8 (.take 9 .fin)))))))))))], vars := [2, 3, 4, 5] }) (args := [a0]) mixed Tryz.func46 (by kernel_rfl) (by kernel_rfl) (by kernel_rfl) h

-- isthmus/wots.Sign
def F.wots_Sign (k : Value → World → Prop) (a0 a1 a2 : Value) (w : World) : Prop :=
  o1 Tryz.prog (Instr.box 23 a0) w fun t3 w =>
  mv (.slice none 0 0) fun t6 =>
  mv .nilIface fun t7 =>
  mv a1 fun t9 =>
  mv a2 fun t10 =>
  o1 Tryz.prog (Builtin.len_ #[26] 3 #[t10]) w fun t11 w =>
  C Tryz.prog N.wots_check #[t9, t11] w fun t12 w =>
  mv t12 fun t8 =>
  mv t8 fun t13 =>
  o1 Tryz.prog (bin .neq 30 (.tmp 13) (.const .nilIface) t13 .nilIface) w fun t14 w =>
  br t14 (fun _ =>
  mv t8 fun t15 =>
  mv (.slice none 0 0) fun t6_1 =>
  mv t15 fun t7_1 =>
  k (.tuple #[t6_1, t7_1]) w) (fun _ =>
  dr w.drew fun S1 =>
  tk Tryz.prog S1 (Instr.loadAt 23 t3) fun t16 =>
  mv a1 fun t17 =>
  mv a2 fun t18 =>
  C Tryz.prog N.wots_Digits #[t18] w.drew fun t19 w =>
  S1 w ∧
  C Tryz.prog N.wots_chains #[t16, t17, t19] w fun t20 w =>
  S1 w ∧
  mv t20 fun t6_2 =>
  mv .nilIface fun t7_2 =>
  k (.tuple #[t6_2, t7_2]) w)
theorem C.wots_Sign {k : Value → World → Prop} {a0 a1 a2 : Value} {w : World} (h : F.wots_Sign k a0 a1 a2 w) : C Tryz.prog N.wots_Sign #[a0, a1, a2] w k :=
  den_calls (H := { moves := [(4, (.take 0 (.take 1 (.take 2 (.force 3 (.force 4 (.take 5 (.take 6 .fin))))))))], vars := [6, 7, 8] }) (args := [a0, a1, a2]) mixed Tryz.func47 (by kernel_rfl) (by kernel_rfl) (by kernel_rfl) h

-- isthmus/sha.Path
def F.sha_Path (k : Value → World → Prop) (a0 a1 : Value) (w : World) : Prop :=
  mv (.slice none 0 0) fun t4 =>
  mv .nilIface fun t5 =>
  mv a1 fun t11 =>
  o1 Tryz.prog (bin .lss 3 (.tmp 11) (.const (.int .i64 0)) t11 (.int .i64 0)) w fun t12 w =>
  mv t12 fun t13 =>
  gd t13 false (fun k1 => mv a1 fun v => k1 v w) w fun t14 w =>
  gd t13 false (fun k2 => mv a0 fun v => k2 v w) w fun t15 w =>
  gd t13 false (fun k3 => o1 Tryz.prog (Builtin.len_ #[37] 3 #[t15]) w k3) w fun t16 w =>
  gd t13 false (fun k4 => o1 Tryz.prog (bin .geq 3 (.tmp 14) (.tmp 16) t14 t16) w k4) w fun t17 w =>
  pk t13 (.bool true) t17 fun t18 =>
  br t18 (fun _ =>
  o1 Tryz.prog (Instr.makeInterface 87 (.int .i64 1)) w fun t19 w =>
  o1 Tryz.prog (Instr.build 138 #[(0, .string ⟨#[112, 108, 97, 99, 101]⟩), (1, t19)]) w fun t20 w =>
  o1 Tryz.prog (Instr.box 138 t20) w fun t21 w =>
  o1 Tryz.prog (Instr.makeInterface 136 t21) w fun t22 w =>
  mv (.slice none 0 0) fun t4_1 =>
  mv t22 fun t5_1 =>
  k (.tuple #[t4_1, t5_1]) w) (fun _ =>
  mv a0 fun t23 =>
  o1 Tryz.prog (Builtin.len_ #[37] 3 #[t23]) w fun t24 w =>
  o1 Tryz.prog (bin .eql 3 (.tmp 24) (.const (.int .i64 1)) t24 (.int .i64 1)) w fun t25 w =>
  br t25 (fun _ =>
  mv (.slice none 0 0) fun t4_2 =>
  mv .nilIface fun t5_2 =>
  k (.tuple #[t4_2, t5_2]) w) (fun _ =>
  mv a0 fun t26 =>
  o1 Tryz.prog (Builtin.len_ #[37] 3 #[t26]) w fun t27 w =>
  C Tryz.prog N.sha_half #[t27] w fun t28 w =>
  mv t28 fun t6 =>
  mv a0 fun t29 =>
  mv t6 fun t30 =>
  tk Tryz.prog (fun w' => w' = w.drew) (Instr.sliceAt 37 t29 none (some t30) none) fun t31 =>
  mv a0 fun t32 =>
  mv t6 fun t33 =>
  tk Tryz.prog (fun w' => w' = w.drew) (Instr.sliceAt 37 t32 (some t33) none none) fun t34 =>
  mv t31 fun t7 =>
  mv t34 fun t8 =>
  mv a1 fun t35 =>
  mv t6 fun t36 =>
  o1 Tryz.prog (bin .geq 3 (.tmp 35) (.tmp 36) t35 t36) w.drew fun t37 w =>
  jn (fun x1 => [x1 1, x1 7, x1 8]) (fun k5 =>
  br t37 (fun _ =>
  mv t8 fun t38 =>
  mv t7 fun t39 =>
  mv a1 fun t40 =>
  mv t6 fun t41 =>
  o1 Tryz.prog (bin .sub 3 (.tmp 40) (.tmp 41) t40 t41) w fun t42 w =>
  mv t38 fun t7_1 =>
  mv t39 fun t8_1 =>
  mv t42 fun t1 =>
  k5 [t1, t7_1, t8_1] w) (fun _ =>
  k5 [a1, t7, t8] w)) fun x1 w =>
  mv (x1 7) fun t44 =>
  mv (x1 1) fun t45 =>
  C Tryz.prog N.sha_Path #[t44, t45] w fun t46 w =>
  mv t46 fun t43 =>
  o1 Tryz.prog (Instr.extract t43 0) w fun t47 w =>
  o1 Tryz.prog (Instr.extract t43 1) w fun t48 w =>
  mv t47 fun t9 =>
  mv t48 fun t10 =>
  mv t9 fun t49 =>
  mv (x1 8) fun t50 =>
  C Tryz.prog N.sha_Root #[t50] w fun t51 w =>
  o1 Tryz.prog (Instr.buildSlice 37 1 #[(0, t51)]) w fun t52 w =>
  ob Tryz.prog (fun _ => Builtin.append_ #[37, 37] 37 #[t49, t52]) w fun t53 w =>
  mv t10 fun t54 =>
  mv t53 fun t4_3 =>
  mv t54 fun t5_3 =>
  k (.tuple #[t4_3, t5_3]) w))
theorem C.sha_Path {k : Value → World → Prop} {a0 a1 : Value} {w : World} (h : F.sha_Path k a0 a1 w) : C Tryz.prog N.sha_Path #[a0, a1] w k :=
  den_calls (H := { moves := [(6, (.take 0 (.take 1 (.take 2 (.take 3 (.take 4 (.take 5 (.take 6 (.take 7 .fin)))))))))], vars := [1, 4, 5, 6, 7, 8, 9, 10] }) (args := [a0, a1]) mixed Tryz.func48 (by kernel_rfl) (by kernel_rfl) (by kernel_rfl) h

-- (isthmus/keys.signature).bytes
def F.keys_signature_bytes (k : Value → World → Prop) (a0 : Value) (w : World) : Prop :=
  o1 Tryz.prog (Instr.box 74 a0) w fun t1 w =>
  mv (.slice none 0 0) fun t2 =>
  dr w.drew fun S1 =>
  tk Tryz.prog S1 (Instr.fieldAt 74 t1 0) fun t7 =>
  tk Tryz.prog S1 (Instr.loadAt 3 t7) fun t8 =>
  tk Tryz.prog S1 (convert 3 79 t8) fun t9 =>
  tk Tryz.prog S1 (Instr.fieldAt 74 t1 1) fun t11 =>
  tk Tryz.prog S1 (Instr.loadAt 26 t11) fun t12 =>
  tk Tryz.prog S1 (Instr.fieldAt 74 t1 2) fun t14 =>
  tk Tryz.prog S1 (Instr.loadAt 37 t14) fun t15 =>
  tk Tryz.prog S1 (Builtin.len_ #[37] 3 #[t15]) fun t16 =>
  tk Tryz.prog S1 (convert 3 79 t16) fun t17 =>
  C Tryz.prog N.pack_New #[] w.drew fun t6 w =>
  S1 w ∧
  C Tryz.prog N.pack_Writer_Uint #[t6, t9] w fun t10 w =>
  S1 w ∧
  C Tryz.prog N.pack_Writer_Bytes #[t10, t12] w fun t13 w =>
  S1 w ∧
  C Tryz.prog N.pack_Writer_Uint #[t13, t17] w fun t18 w =>
  S1 w ∧
  mv t18 fun t3 =>
  o1 Tryz.prog (Instr.fieldAt 74 t1 2) w fun t19 w =>
  o1 Tryz.prog (Instr.loadAt 37 t19) w fun t20 w =>
  o1 Tryz.prog (Builtin.len_ #[37] 3 #[t20]) w fun t21 w =>
  mv (.int .i64 0) fun t22 =>
  lp [t22] w fun I1 μ1 => ∀ (x1 : Env) (w1 : World), I1 [x1 22] w1 →
  o1 Tryz.prog (bin .lss 3 (.tmp 22) (.tmp 21) (x1 22) t21) w1 fun t23 w =>
  br t23 (fun _ =>
  o1 Tryz.prog (Instr.indexAt 37 t20 (x1 22)) w fun t24 w =>
  o1 Tryz.prog (Instr.loadAt 23 t24) w fun t25 w =>
  o1 Tryz.prog (Instr.alloc 23 true (.tuple #[])) w fun t5 w =>
  o0 Tryz.prog (Instr.storeAt 23 t5 t25) w fun _ w =>
  mv t3 fun t26 =>
  o1 Tryz.prog (Instr.loadAt 23 t5) w fun t27 w =>
  C Tryz.prog N.pack_Writer_Hash #[t26, t27] w fun t28 w =>
  o1 Tryz.prog (bin .add 3 (.tmp 22) (.const (.int .i64 1)) (x1 22) (.int .i64 1)) w fun t29 w =>
  mv t29 fun t22_1 =>
  I1 [t22_1] w ∧ μ1 [t22_1] w < μ1 [x1 22] w1) (fun _ =>
  mv t3 fun t30 =>
  C Tryz.prog N.pack_Writer_Done #[t30] w fun t31 w =>
  mv t31 fun t2_1 =>
  k t2_1 w)
theorem C.keys_signature_bytes {k : Value → World → Prop} {a0 : Value} {w : World} (h : F.keys_signature_bytes k a0 w) : C Tryz.prog N.keys_signature_bytes #[a0] w k :=
  den_calls (H := { moves := [(1, (.take 1 (.take 2 (.take 3 (.take 5 (.take 6 (.take 8 (.take 9 (.take 10 (.take 11 (.force 0 (.force 4 (.force 7 (.force 12 (.take 13 .fin)))))))))))))))], vars := [2, 3, 22] }) (args := [a0]) mixed Tryz.func49 (by kernel_rfl) (by kernel_rfl) (by kernel_rfl) h

-- isthmus/files.fault
def F.files_fault (k : Value → World → Prop) (a0 a1 : Value) (w : World) : Prop :=
  mv .nilIface fun t4 =>
  mv a0 fun t5 =>
  o1 Tryz.prog (bin .add 9 (.const (.string ⟨#[102, 105, 108, 101, 32]⟩)) (.tmp 5) (.string ⟨#[102, 105, 108, 101, 32]⟩) t5) w fun t6 w =>
  mv a1 fun t7 =>
  o1 Tryz.prog (Instr.makeInterface 87 t7) w fun t8 w =>
  o1 Tryz.prog (Instr.build 138 #[(0, t6), (1, t8)]) w fun t9 w =>
  o1 Tryz.prog (Instr.box 138 t9) w fun t10 w =>
  o1 Tryz.prog (Instr.makeInterface 136 t10) w fun t11 w =>
  mv t11 fun t4_1 =>
  k t4_1 w
theorem C.files_fault {k : Value → World → Prop} {a0 a1 : Value} {w : World} (h : F.files_fault k a0 a1 w) : C Tryz.prog N.files_fault #[a0, a1] w k :=
  den_calls (H := { moves := [], vars := [4] }) (args := [a0, a1]) mixed Tryz.func50 (by kernel_rfl) (by kernel_rfl) (by kernel_rfl) h

-- (*isthmus/files.FS).ready
def F.files_FS_ready (k : Value → World → Prop) (a0 a1 : Value) (w : World) : Prop :=
  mv .nilIface fun t4 =>
  mv a1 fun t7 =>
  o1 Tryz.prog (Builtin.len_ #[111] 3 #[t7]) w fun t8 w =>
  mv (.int .i64 0) fun t9 =>
  lp [t4, undef, t9] w fun I1 μ1 => ∀ (x1 : Env) (w1 : World), I1 [x1 4, x1 6, x1 9] w1 →
  o1 Tryz.prog (bin .lss 3 (.tmp 9) (.tmp 8) (x1 9) t8) w1 fun t10 w =>
  br t10 (fun _ =>
  o1 Tryz.prog (Instr.indexAt 111 t7 (x1 9)) w fun t11 w =>
  o1 Tryz.prog (Instr.loadAt 9 t11) w fun t12 w =>
  mv t12 fun t6 =>
  mv a0 fun t13 =>
  o1 Tryz.prog (bin .eql 53 (.tmp 13) (.const (.pointer none)) t13 (.pointer none)) w fun t14 w =>
  mv t14 fun t15 =>
  gd t15 false (fun k1 => mv t6 fun v => k1 v w) w fun t16 w =>
  gd t15 false (fun k2 => C Tryz.prog N.files_named #[t16] w k2) w fun t17 w =>
  gd t15 false (fun k3 => o1 Tryz.prog (Op.unary .not t17) w k3) w fun t18 w =>
  pk t15 (.bool true) t18 fun t19 =>
  br t19 (fun _ =>
  mv t6 fun t20 =>
  C Tryz.prog N.files_fault #[t20, .int .i64 1] w fun t21 w =>
  mv t21 fun t4_1 =>
  k t4_1 w) (fun _ =>
  o1 Tryz.prog (bin .add 3 (.tmp 9) (.const (.int .i64 1)) (x1 9) (.int .i64 1)) w fun t22 w =>
  mv t22 fun t9_1 =>
  I1 [(x1 4), t6, t9_1] w ∧ μ1 [(x1 4), t6, t9_1] w < μ1 [x1 4, x1 6, x1 9] w1)) (fun _ =>
  mv a0 fun t24 =>
  o1 Tryz.prog (bin .eql 53 (.tmp 24) (.const (.pointer none)) t24 (.pointer none)) w fun t25 w =>
  mv t25 fun t23 =>
  br t23 (fun _ =>
  C Tryz.prog N.files_fault #[.string ⟨#[]⟩, .int .i64 1] w fun t26 w =>
  mv t26 fun t4_2 =>
  k t4_2 w) (fun _ =>
  mv a0 fun t28 =>
  nilOk t28 = true ∧ mv t28 fun t29 =>
  o1 Tryz.prog (Instr.fieldAt 104 t29 4) w fun t30 w =>
  o1 Tryz.prog (Instr.loadAt 4 t30) w fun t31 w =>
  mv t31 fun t27 =>
  br t27 (fun _ =>
  C Tryz.prog N.files_fault #[.string ⟨#[]⟩, .int .i64 13] w fun t32 w =>
  mv t32 fun t4_3 =>
  k t4_3 w) (fun _ =>
  mv .nilIface fun t4_4 =>
  k t4_4 w)))
theorem C.files_FS_ready {k : Value → World → Prop} {a0 a1 : Value} {w : World} (h : F.files_FS_ready k a0 a1 w) : C Tryz.prog N.files_FS_ready #[a0, a1] w k :=
  den_calls (H := { moves := [], vars := [4, 6, 9, 23, 27] }) (args := [a0, a1]) mixed Tryz.func51 (by kernel_rfl) (by kernel_rfl) (by kernel_rfl) h

-- (*isthmus/files.FS).List
-- isthmus/wots.Public
def F.wots_Public (k : Value → World → Prop) (a0 a1 a2 : Value) (w : World) : Prop :=
  o1 Tryz.prog (Instr.box 23 a0) w fun t3 w =>
  o1 Tryz.prog (Instr.alloc 23 true (.tuple #[])) w fun t6 w =>
  mv .nilIface fun t7 =>
  mv a1 fun t11 =>
  mv a2 fun t12 =>
  C Tryz.prog N.wots_check #[t11, t12] w fun t13 w =>
  mv t13 fun t8 =>
  mv t8 fun t14 =>
  o1 Tryz.prog (bin .neq 30 (.tmp 14) (.const .nilIface) t14 .nilIface) w fun t15 w =>
  br t15 (fun _ =>
  o1 Tryz.prog (Instr.build 23 #[]) w fun t16 w =>
  mv t8 fun t17 =>
  o0 Tryz.prog (Instr.storeAt 23 t6 t16) w fun _ w =>
  mv t17 fun t7_1 =>
  rc Tryz.prog 23 t6 w fun r0 =>
  k (.tuple #[r0, t7_1]) w) (fun _ =>
  mv a2 fun t18 =>
  C Tryz.prog N.wots_Len #[t18] w fun t19 w =>
  o1 Tryz.prog (Instr.makeSlice 63 t19 t19) w fun t20 w =>
  mv t20 fun t9 =>
  mv t9 fun t21 =>
  o1 Tryz.prog (Builtin.len_ #[63] 3 #[t21]) w fun t22 w =>
  mv (.int .i64 0) fun t23 =>
  lp [undef, t23] w fun I1 μ1 => ∀ (x1 : Env) (w1 : World), I1 [x1 10, x1 23] w1 →
  o1 Tryz.prog (bin .lss 3 (.tmp 23) (.tmp 22) (x1 23) t22) w1 fun t24 w =>
  br t24 (fun _ =>
  mv (x1 23) fun t25 =>
  mv t25 fun t10 =>
  mv t9 fun t26 =>
  mv t10 fun t27 =>
  o1 Tryz.prog (Instr.indexAt 63 t26 t27) w fun t28 w =>
  o0 Tryz.prog (Instr.storeAt 3 t28 (.int .i64 15)) w fun _ w =>
  o1 Tryz.prog (bin .add 3 (.tmp 23) (.const (.int .i64 1)) (x1 23) (.int .i64 1)) w fun t29 w =>
  mv t29 fun t23_1 =>
  I1 [t10, t23_1] w ∧ μ1 [t10, t23_1] w < μ1 [x1 10, x1 23] w1) (fun _ =>
  o1 Tryz.prog (Instr.loadAt 23 t3) w fun t30 w =>
  mv a1 fun t31 =>
  mv t9 fun t32 =>
  C Tryz.prog N.wots_chains #[t30, t31, t32] w fun t33 w =>
  C Tryz.prog N.sha_Leaf #[t33] w fun t34 w =>
  o0 Tryz.prog (Instr.storeAt 23 t6 t34) w fun _ w =>
  mv .nilIface fun t7_2 =>
  rc Tryz.prog 23 t6 w fun r0 =>
  k (.tuple #[r0, t7_2]) w))
theorem C.wots_Public {k : Value → World → Prop} {a0 a1 a2 : Value} {w : World} (h : F.wots_Public k a0 a1 a2 w) : C Tryz.prog N.wots_Public #[a0, a1, a2] w k :=
  den_calls (H := { moves := [], vars := [7, 8, 9, 10, 23] }) (args := [a0, a1, a2]) mixed Tryz.func53 (by kernel_rfl) (by kernel_rfl) (by kernel_rfl) h

-- isthmus/sha.half
def F.sha_half (k : Value → World → Prop) (a0 : Value) (w : World) : Prop :=
  mv (.int .i64 0) fun t2 =>
  mv a0 fun t3 =>
  o1 Tryz.prog (bin .sub 3 (.tmp 3) (.const (.int .i64 1)) t3 (.int .i64 1)) w fun t4 w =>
  o1 Tryz.prog (convert 3 49 t4) w fun t5 w =>
  C Tryz.prog N.math_bits_Len #[t5] w fun t6 w =>
  o1 Tryz.prog (bin .sub 3 (.tmp 6) (.const (.int .i64 1)) t6 (.int .i64 1)) w fun t7 w =>
  o1 Tryz.prog (bin .shl 3 (.const (.int .i64 1)) (.tmp 7) (.int .i64 1) t7) w fun t8 w =>
  mv t8 fun t2_1 =>
  k t2_1 w
theorem C.sha_half {k : Value → World → Prop} {a0 : Value} {w : World} (h : F.sha_half k a0 w) : C Tryz.prog N.sha_half #[a0] w k :=
  den_calls (H := { moves := [], vars := [2] }) (args := [a0]) mixed Tryz.func54 (by kernel_rfl) (by kernel_rfl) (by kernel_rfl) h

-- isthmus/sha.Node
def F.sha_Node (k : Value → World → Prop) (a0 a1 : Value) (w : World) : Prop :=
  o1 Tryz.prog (Instr.box 23 a0) w fun t2 w =>
  o1 Tryz.prog (Instr.box 23 a1) w fun t3 w =>
  o1 Tryz.prog (Instr.alloc 23 true (.tuple #[])) w fun t4 w =>
  dr w.drew fun S1 =>
  tk Tryz.prog S1 (Instr.sliceAt 23 t2 none none none) fun t6 =>
  tk Tryz.prog S1 (Instr.sliceAt 23 t3 none none none) fun t8 =>
  o1 Tryz.prog (Instr.buildSlice 26 1 #[(0, .int .u8 1)]) w.drew fun t5 w =>
  S1 w ∧
  ob Tryz.prog (fun _ => Builtin.append_ #[26, 26] 26 #[t5, t6]) w fun t7 w =>
  S1 w ∧
  ob Tryz.prog (fun _ => Builtin.append_ #[26, 26] 26 #[t7, t8]) w fun t9 w =>
  S1 w ∧
  C Tryz.prog N.sha_Sum #[t9] w fun t10 w =>
  S1 w ∧
  o0 Tryz.prog (Instr.storeAt 23 t4 t10) w fun _ w =>
  rc Tryz.prog 23 t4 w fun r0 =>
  k r0 w
theorem C.sha_Node {k : Value → World → Prop} {a0 a1 : Value} {w : World} (h : F.sha_Node k a0 a1 w) : C Tryz.prog N.sha_Node #[a0, a1] w k :=
  den_calls (H := { moves := [(1, (.take 1 (.take 3 (.force 0 (.force 2 (.force 4 (.force 5 (.last 6))))))))], vars := [] }) (args := [a0, a1]) mixed Tryz.func55 (by kernel_rfl) (by kernel_rfl) (by kernel_rfl) h

-- isthmus/isthmusref01.Sum
-- isthmus/isthmusref01.split
-- isthmus/isthmusref01.Node
-- isthmus/isthmusref05.Public
-- isthmus/pack.Read
def F.pack_Read (k : Value → World → Prop) (a0 : Value) (w : World) : Prop :=
  mv (.pointer none) fun t2 =>
  mv a0 fun t3 =>
  o1 Tryz.prog (Instr.build 181 #[(0, t3)]) w fun t4 w =>
  o1 Tryz.prog (Instr.box 181 t4) w fun t5 w =>
  mv t5 fun t2_1 =>
  k t2_1 w
theorem C.pack_Read {k : Value → World → Prop} {a0 : Value} {w : World} (h : F.pack_Read k a0 w) : C Tryz.prog N.pack_Read #[a0] w k :=
  den_calls (H := { moves := [], vars := [2] }) (args := [a0]) mixed Tryz.func60 (by kernel_rfl) (by kernel_rfl) (by kernel_rfl) h

-- (*isthmus/pack.Reader).Uint
def F.pack_Reader_Uint (k : Value → World → Prop) (a0 a1 : Value) (w : World) : Prop :=
  mv (.int .u64 0) fun t4 =>
  mv a0 fun t8 =>
  C Tryz.prog N.pack_Reader_live #[t8] w fun t9 w =>
  o1 Tryz.prog (Op.unary .not t9) w fun t10 w =>
  br t10 (fun _ =>
  mv (.int .u64 0) fun t4_1 =>
  k t4_1 w) (fun _ =>
  mv a0 fun t12 =>
  nilOk t12 = true ∧ mv t12 fun t13 =>
  o1 Tryz.prog (Instr.fieldAt 181 t13 0) w fun t14 w =>
  o1 Tryz.prog (Instr.loadAt 26 t14) w fun t15 w =>
  C Tryz.prog N.pack_number #[t15] w fun t16 w =>
  mv t16 fun t11 =>
  o1 Tryz.prog (Instr.extract t11 0) w fun t17 w =>
  o1 Tryz.prog (Instr.extract t11 1) w fun t18 w =>
  o1 Tryz.prog (Instr.extract t11 2) w fun t19 w =>
  mv t17 fun t5 =>
  mv t18 fun t6 =>
  mv t19 fun t7 =>
  mv t7 fun t21 =>
  o1 Tryz.prog (bin .neq 87 (.tmp 21) (.const (.int .i64 0)) t21 (.int .i64 0)) w fun t22 w =>
  mv t22 fun t20 =>
  br t20 (fun _ =>
  mv a0 fun t23 =>
  mv t7 fun t24 =>
  C Tryz.prog N.pack_Reader_fail #[t23, .string ⟨#[110, 117, 109, 98, 101, 114]⟩, t24] w fun t25 w =>
  mv (.int .u64 0) fun t4_2 =>
  k t4_2 w) (fun _ =>
  mv t5 fun t27 =>
  mv a1 fun t28 =>
  o1 Tryz.prog (bin .gtr 79 (.tmp 27) (.tmp 28) t27 t28) w fun t29 w =>
  mv t29 fun t26 =>
  br t26 (fun _ =>
  mv a0 fun t30 =>
  C Tryz.prog N.pack_Reader_fail #[t30, .string ⟨#[110, 117, 109, 98, 101, 114]⟩, .int .i64 4] w fun t31 w =>
  mv (.int .u64 0) fun t4_3 =>
  k t4_3 w) (fun _ =>
  mv a0 fun t32 =>
  mv a0 fun t33 =>
  nilOk t33 = true ∧ mv t33 fun t34 =>
  o1 Tryz.prog (Instr.fieldAt 181 t34 0) w fun t35 w =>
  o1 Tryz.prog (Instr.loadAt 26 t35) w fun t36 w =>
  mv t6 fun t37 =>
  o1 Tryz.prog (Instr.sliceAt 26 t36 (some t37) none none) w fun t38 w =>
  nilOk t32 = true ∧ mv t32 fun t39 =>
  o1 Tryz.prog (Instr.fieldAt 181 t39 0) w fun t40 w =>
  o0 Tryz.prog (Instr.storeAt 26 t40 t38) w fun _ w =>
  mv t5 fun t41 =>
  mv t41 fun t4_4 =>
  k t4_4 w)))
theorem C.pack_Reader_Uint {k : Value → World → Prop} {a0 a1 : Value} {w : World} (h : F.pack_Reader_Uint k a0 a1 w) : C Tryz.prog N.pack_Reader_Uint #[a0, a1] w k :=
  den_calls (H := { moves := [], vars := [4, 5, 6, 7, 20, 26] }) (args := [a0, a1]) mixed Tryz.func61 (by kernel_rfl) (by kernel_rfl) (by kernel_rfl) h

-- (*isthmus/pack.Reader).Bytes
def F.pack_Reader_Bytes (k : Value → World → Prop) (a0 a1 : Value) (w : World) : Prop :=
  mv (.slice none 0 0) fun t4 =>
  mv a1 fun t7 =>
  o1 Tryz.prog (bin .lss 3 (.tmp 7) (.const (.int .i64 0)) t7 (.int .i64 0)) w fun t8 w =>
  jn (fun x1 => []) (fun k1 =>
  br t8 (fun _ =>
  mv a0 fun t9 =>
  C Tryz.prog N.pack_Reader_fail #[t9, .string ⟨#[98, 111, 117, 110, 100]⟩, .int .i64 1] w fun t10 w =>
  k1 [] w) (fun _ =>
  k1 [] w)) fun x1 w =>
  mv a0 fun t11 =>
  C Tryz.prog N.pack_Reader_live #[t11] w fun t12 w =>
  o1 Tryz.prog (Op.unary .not t12) w fun t13 w =>
  br t13 (fun _ =>
  mv (.slice none 0 0) fun t4_1 =>
  k t4_1 w) (fun _ =>
  mv a0 fun t14 =>
  nilOk t14 = true ∧ mv t14 fun t15 =>
  o1 Tryz.prog (Instr.fieldAt 181 t15 0) w fun t16 w =>
  o1 Tryz.prog (Instr.loadAt 26 t16) w fun t17 w =>
  mv t17 fun t5 =>
  mv a0 fun t18 =>
  C Tryz.prog N.pack_Reader_Uint #[t18, .int .u64 18446744073709551615] w fun t19 w =>
  mv t19 fun t6 =>
  mv a0 fun t25 =>
  C Tryz.prog N.pack_Reader_live #[t25] w fun t26 w =>
  o1 Tryz.prog (Op.unary .not t26) w fun t27 w =>
  mv t27 fun t24 =>
  br t24 (fun _ =>
  mv (.slice none 0 0) fun t4_2 =>
  k t4_2 w) (fun _ =>
  mv t6 fun t29 =>
  mv a1 fun t30 =>
  o1 Tryz.prog (convert 3 79 t30) w fun t31 w =>
  o1 Tryz.prog (bin .gtr 79 (.tmp 29) (.tmp 31) t29 t31) w fun t32 w =>
  mv t32 fun t28 =>
  jn (fun x2 => [x2 4, x2 35]) (fun k2 =>
  br t28 (fun _ =>
  mv a0 fun t33 =>
  C Tryz.prog N.pack_Reader_fail #[t33, .string ⟨#[108, 101, 110, 103, 116, 104]⟩, .int .i64 2] w fun t34 w =>
  k2 [t4, undef] w) (fun _ =>
  mv t6 fun t36 =>
  mv a0 fun t37 =>
  nilOk t37 = true ∧ mv t37 fun t38 =>
  o1 Tryz.prog (Instr.fieldAt 181 t38 0) w fun t39 w =>
  o1 Tryz.prog (Instr.loadAt 26 t39) w fun t40 w =>
  o1 Tryz.prog (Builtin.len_ #[26] 3 #[t40]) w fun t41 w =>
  o1 Tryz.prog (convert 3 79 t41) w fun t42 w =>
  o1 Tryz.prog (bin .gtr 79 (.tmp 36) (.tmp 42) t36 t42) w fun t43 w =>
  mv t43 fun t35 =>
  br t35 (fun _ =>
  mv a0 fun t44 =>
  C Tryz.prog N.pack_Reader_fail #[t44, .string ⟨#[98, 121, 116, 101, 115]⟩, .int .i64 12] w fun t45 w =>
  k2 [t4, t35] w) (fun _ =>
  mv a0 fun t20 =>
  mv t6 fun t21 =>
  o1 Tryz.prog (convert 79 3 t21) w fun t22 w =>
  C Tryz.prog N.pack_Reader_take #[t20, .string ⟨#[98, 121, 116, 101, 115]⟩, t22] w fun t23 w =>
  mv t23 fun t4_3 =>
  k t4_3 w))) fun x2 w =>
  mv a0 fun t46 =>
  mv t5 fun t47 =>
  nilOk t46 = true ∧ mv t46 fun t48 =>
  o1 Tryz.prog (Instr.fieldAt 181 t48 0) w fun t49 w =>
  o0 Tryz.prog (Instr.storeAt 26 t49 t47) w fun _ w =>
  mv (.slice none 0 0) fun t4_4 =>
  k t4_4 w))
theorem C.pack_Reader_Bytes {k : Value → World → Prop} {a0 a1 : Value} {w : World} (h : F.pack_Reader_Bytes k a0 a1 w) : C Tryz.prog N.pack_Reader_Bytes #[a0, a1] w k :=
  den_calls (H := { moves := [], vars := [4, 5, 6, 24, 28, 35] }) (args := [a0, a1]) mixed Tryz.func62 (by kernel_rfl) (by kernel_rfl) (by kernel_rfl) h

-- (*isthmus/pack.Reader).Hash
def F.pack_Reader_Hash (k : Value → World → Prop) (a0 : Value) (w : World) : Prop :=
  o1 Tryz.prog (Instr.alloc 23 true (.tuple #[])) w fun t2 w =>
  o1 Tryz.prog (Instr.alloc 23 true (.tuple #[])) w fun t3 w =>
  dr w.drew fun S1 =>
  tk Tryz.prog S1 (Instr.sliceAt 23 t3 none none none) fun t4 =>
  mv a0 fun t5 =>
  C Tryz.prog N.pack_Reader_take #[t5, .string ⟨#[115, 117, 109]⟩, .int .i64 32] w.drew fun t6 w =>
  S1 w ∧
  ob Tryz.prog (fun _ => Builtin.copy_ #[26, 26] 3 #[t4, t6]) w fun t7 w =>
  o1 Tryz.prog (Instr.loadAt 23 t3) w fun t8 w =>
  o0 Tryz.prog (Instr.storeAt 23 t2 t8) w fun _ w =>
  rc Tryz.prog 23 t2 w fun r0 =>
  k r0 w
theorem C.pack_Reader_Hash {k : Value → World → Prop} {a0 : Value} {w : World} (h : F.pack_Reader_Hash k a0 w) : C Tryz.prog N.pack_Reader_Hash #[a0] w k :=
  den_calls (H := { moves := [(2, (.take 0 (.take 1 (.force 2 (.last 3)))))], vars := [] }) (args := [a0]) mixed Tryz.func63 (by kernel_rfl) (by kernel_rfl) (by kernel_rfl) h

-- (*isthmus/pack.Reader).Done
def F.pack_Reader_Done (k : Value → World → Prop) (a0 : Value) (w : World) : Prop :=
  mv .nilIface fun t2 =>
  mv a0 fun t3 =>
  C Tryz.prog N.pack_Reader_live #[t3] w fun t4 w =>
  mv t4 fun t5 =>
  gd t5 true (fun k1 => mv a0 fun v => k1 v w) w fun t6 w =>
  gd t5 true (fun k2 => nilOk t6 = true ∧ mv t6 fun v => k2 v w) w fun t7 w =>
  gd t5 true (fun k3 => o1 Tryz.prog (Instr.fieldAt 181 t7 0) w k3) w fun t8 w =>
  gd t5 true (fun k4 => o1 Tryz.prog (Instr.loadAt 26 t8) w k4) w fun t9 w =>
  gd t5 true (fun k5 => o1 Tryz.prog (Builtin.len_ #[26] 3 #[t9]) w k5) w fun t10 w =>
  gd t5 true (fun k6 => o1 Tryz.prog (bin .gtr 3 (.tmp 10) (.const (.int .i64 0)) t10 (.int .i64 0)) w k6) w fun t11 w =>
  pk t5 t11 (.bool false) fun t12 =>
  br t12 (fun _ =>
  o1 Tryz.prog (Instr.makeInterface 87 (.int .i64 3)) w fun t13 w =>
  o1 Tryz.prog (Instr.build 138 #[(0, .string ⟨#[101, 110, 100]⟩), (1, t13)]) w fun t14 w =>
  o1 Tryz.prog (Instr.box 138 t14) w fun t15 w =>
  o1 Tryz.prog (Instr.makeInterface 136 t15) w fun t16 w =>
  mv t16 fun t2_1 =>
  k t2_1 w) (fun _ =>
  mv a0 fun t17 =>
  C Tryz.prog N.pack_Reader_Err #[t17] w fun t18 w =>
  mv t18 fun t2_2 =>
  k t2_2 w)
theorem C.pack_Reader_Done {k : Value → World → Prop} {a0 : Value} {w : World} (h : F.pack_Reader_Done k a0 w) : C Tryz.prog N.pack_Reader_Done #[a0] w k :=
  den_calls (H := { moves := [], vars := [2] }) (args := [a0]) mixed Tryz.func64 (by kernel_rfl) (by kernel_rfl) (by kernel_rfl) h

-- isthmus/isthmusref02.fail
-- errors.as
def F.errors_as (k : Value → World → Prop) (a0 a1 a2 a3 : Value) (w : World) : Prop :=
  o1 Tryz.prog (Instr.box 127 a2) w fun t6 w =>
  mv (.bool false) fun t8 =>
  lp [a0, t8, undef, undef, undef, undef, undef, undef, undef] w fun I1 μ1 => ∀ (x1 : Env) (w1 : World), I1 [x1 0, x1 8, x1 9, x1 10, x1 11, x1 12, x1 14, x1 15, x1 50] w1 →
  mv (x1 0) fun t16 =>
  oN Tryz.prog (callFunc N.internal_reflectlite_TypeOf #[t16]) w1 fun t17 w =>
  mv a3 fun t18 =>
  iv Tryz.prog t17 "AssignableTo" #[t18] w fun t19 w =>
  br t19 (fun _ =>
  o1 Tryz.prog (Instr.loadAt 127 t6) w fun t20 w =>
  oN Tryz.prog (callFunc N.internal_reflectlite_Value_Elem #[t20]) w fun t21 w =>
  mv (x1 0) fun t22 =>
  oN Tryz.prog (callFunc N.internal_reflectlite_ValueOf #[t22]) w fun t23 w =>
  oN Tryz.prog (callFunc N.internal_reflectlite_Value_Set #[t21, t23]) w fun t24 w =>
  mv (.bool true) fun t8_1 =>
  k t8_1 w) (fun _ =>
  mv (x1 0) fun t26 =>
  o1 Tryz.prog (Instr.typeAssert t26 30 192 true) w fun t27 w =>
  mv t27 fun t25 =>
  o1 Tryz.prog (Instr.extract t25 0) w fun t28 w =>
  o1 Tryz.prog (Instr.extract t25 1) w fun t29 w =>
  mv t28 fun t9 =>
  mv t29 fun t10 =>
  mv t10 fun t30 =>
  mv t30 fun t31 =>
  gd t31 true (fun k1 => mv t9 fun v => k1 v w) w fun t32 w =>
  gd t31 true (fun k2 => mv a1 fun v => k2 v w) w fun t33 w =>
  gd t31 true (fun k3 => iv Tryz.prog t32 "As" #[t33] w k3) w fun t34 w =>
  pk t31 t34 (.bool false) fun t35 =>
  br t35 (fun _ =>
  mv (.bool true) fun t8_2 =>
  k t8_2 w) (fun _ =>
  mv (x1 0) fun t36 =>
  o1 Tryz.prog (Instr.typeAssert t36 30 195 true) w fun t37 w =>
  o1 Tryz.prog (Instr.extract t37 1) w fun t38 w =>
  o1 Tryz.prog (Instr.extract t37 0) w fun t39 w =>
  br t38 (fun _ =>
  mv t39 fun t11 =>
  mv t11 fun t40 =>
  iv Tryz.prog t40 "Unwrap" #[] w fun t41 w =>
  mv t41 fun t0 =>
  mv t0 fun t42 =>
  o1 Tryz.prog (bin .eql 30 (.tmp 42) (.const .nilIface) t42 .nilIface) w fun t43 w =>
  br t43 (fun _ =>
  mv (.bool false) fun t8_3 =>
  k t8_3 w) (fun _ =>
  I1 [t0, (x1 8), t9, t10, t11, (x1 12), (x1 14), (x1 15), (x1 50)] w ∧ μ1 [t0, (x1 8), t9, t10, t11, (x1 12), (x1 14), (x1 15), (x1 50)] w < μ1 [x1 0, x1 8, x1 9, x1 10, x1 11, x1 12, x1 14, x1 15, x1 50] w1)) (fun _ =>
  o1 Tryz.prog (Instr.typeAssert t36 30 196 true) w fun t44 w =>
  o1 Tryz.prog (Instr.extract t44 1) w fun t45 w =>
  o1 Tryz.prog (Instr.extract t44 0) w fun t46 w =>
  br t45 (fun _ =>
  mv t46 fun t12 =>
  mv t12 fun t47 =>
  iv Tryz.prog t47 "Unwrap" #[] w fun t48 w =>
  o1 Tryz.prog (Builtin.len_ #[197] 3 #[t48]) w fun t49 w =>
  mv (.int .i64 0) fun t50 =>
  lp [(x1 8), (x1 14), t50] w fun I2 μ2 => ∀ (x2 : Env) (w2 : World), I2 [x2 8, x2 14, x2 50] w2 →
  o1 Tryz.prog (bin .lss 3 (.tmp 50) (.tmp 49) (x2 50) t49) w2 fun t51 w =>
  br t51 (fun _ =>
  jn (fun x3 => [x3 8, x3 14]) (fun k4 =>
  o1 Tryz.prog (Instr.indexAt 197 t48 (x2 50)) w fun t52 w =>
  o1 Tryz.prog (Instr.loadAt 30 t52) w fun t53 w =>
  mv t53 fun t14 =>
  mv t14 fun t54 =>
  o1 Tryz.prog (bin .eql 30 (.tmp 54) (.const .nilIface) t54 .nilIface) w fun t55 w =>
  br t55 (fun _ =>
  k4 [(x2 8), t14] w) (fun _ =>
  mv t14 fun t56 =>
  mv a1 fun t57 =>
  o1 Tryz.prog (Instr.loadAt 127 t6) w fun t58 w =>
  mv a3 fun t59 =>
  C Tryz.prog N.errors_as #[t56, t57, t58, t59] w fun t60 w =>
  br t60 (fun _ =>
  mv (.bool true) fun t8_4 =>
  k t8_4 w) (fun _ =>
  k4 [(x2 8), t14] w))) fun x3 w =>
  o1 Tryz.prog (bin .add 3 (.tmp 50) (.const (.int .i64 1)) (x2 50) (.int .i64 1)) w fun t61 w =>
  mv t61 fun t50_1 =>
  I2 [(x3 8), (x3 14), t50_1] w ∧ μ2 [(x3 8), (x3 14), t50_1] w < μ2 [x2 8, x2 14, x2 50] w2) (fun _ =>
  mv (.bool false) fun t8_5 =>
  k t8_5 w)) (fun _ =>
  mv t36 fun t15 =>
  mv (.bool false) fun t8_6 =>
  k t8_6 w))))
theorem C.errors_as {k : Value → World → Prop} {a0 a1 a2 a3 : Value} {w : World} (h : F.errors_as k a0 a1 a2 a3 w) : C Tryz.prog N.errors_as #[a0, a1, a2, a3] w k :=
  den_calls (H := { moves := [], vars := [0, 8, 9, 10, 11, 12, 14, 15, 50] }) (args := [a0, a1, a2, a3]) mixed Tryz.func69 (by kernel_rfl) (by kernel_rfl) (by kernel_rfl) h

end Go.Proofs.YtbbmgkbinnomgaaGreatDoor
