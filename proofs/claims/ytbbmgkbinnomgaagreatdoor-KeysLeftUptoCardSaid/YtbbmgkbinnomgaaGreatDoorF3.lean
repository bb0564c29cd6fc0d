/- What each function asks: printed by hoas.py off the loaded program; each is held against the program by the kernel. -/
import Derived.Test.YtbbmgkbinnomgaaGreatDoorN
set_option linter.unusedVariables false
set_option linter.unusedSimpArgs false
set_option linter.unusedSectionVars false
namespace Go.Proofs.YtbbmgkbinnomgaaGreatDoor
open Go Go.Isk
set_option maxRecDepth 100000
-- (*isthmus/files.FS).change
def F.files_FS_change (k : Value → World → Prop) (a0 a1 a2 : Value) (w : World) : Prop :=
  mv .nilIface fun t6 =>
  mv a0 fun t11 =>
  mv a1 fun t12 =>
  C Tryz.prog N.files_FS_find #[t11, t12] w fun t13 w =>
  mv t13 fun t10 =>
  o1 Tryz.prog (Instr.extract t10 0) w fun t14 w =>
  o1 Tryz.prog (Instr.extract t10 1) w fun t15 w =>
  o1 Tryz.prog (Instr.alloc 114 true (.tuple #[])) w fun t7 w =>
  o0 Tryz.prog (Instr.storeAt 114 t7 t14) w fun _ w =>
  mv t15 fun t8 =>
  mv t8 fun t16 =>
  o1 Tryz.prog (bin .neq 30 (.tmp 16) (.const .nilIface) t16 .nilIface) w fun t17 w =>
  br t17 (fun _ =>
  mv t8 fun t18 =>
  mv t18 fun t6_1 =>
  k t6_1 w) (fun _ =>
  mv a0 fun t19 =>
  C Tryz.prog N.files_FS_step #[t19] w fun t20 w =>
  mv t20 fun t9 =>
  mv t9 fun t21 =>
  o1 Tryz.prog (bin .neq 30 (.tmp 21) (.const .nilIface) t21 .nilIface) w fun t22 w =>
  br t22 (fun _ =>
  mv t9 fun t23 =>
  mv t23 fun t6_2 =>
  k t6_2 w) (fun _ =>
  mv a2 fun t24 =>
  o1 Tryz.prog (Instr.loadAt 114 t7) w fun t25 w =>
  cv Tryz.prog t24 #[t25] w fun t26 w =>
  mv .nilIface fun t6_3 =>
  k t6_3 w))
theorem C.files_FS_change {k : Value → World → Prop} {a0 a1 a2 : Value} {w : World} (h : F.files_FS_change k a0 a1 a2 w) : C Tryz.prog N.files_FS_change #[a0, a1, a2] w k :=
  den_calls (H := { moves := [], vars := [6, 8, 9] }) (args := [a0, a1, a2]) mixed Tryz.func123 (by kernel_rfl) (by kernel_rfl) (by kernel_rfl) h

-- (*isthmus/files.FS).Cut$1
-- math/bits.RotateLeft32
def F.math_bits_RotateLeft32 (k : Value → World → Prop) (a0 a1 : Value) (w : World) : Prop :=
  mv (.int .u32 0) fun t4 =>
  mv a1 fun t6 =>
  o1 Tryz.prog (convert 3 49 t6) w fun t7 w =>
  o1 Tryz.prog (bin .and 49 (.tmp 7) (.const (.int .u64 31)) t7 (.int .u64 31)) w fun t8 w =>
  mv t8 fun t5 =>
  mv a0 fun t9 =>
  mv t5 fun t10 =>
  o1 Tryz.prog (bin .shl 155 (.tmp 9) (.tmp 10) t9 t10) w fun t11 w =>
  mv a0 fun t12 =>
  mv t5 fun t13 =>
  o1 Tryz.prog (bin .sub 49 (.const (.int .u64 32)) (.tmp 13) (.int .u64 32) t13) w fun t14 w =>
  o1 Tryz.prog (bin .shr 155 (.tmp 12) (.tmp 14) t12 t14) w fun t15 w =>
  o1 Tryz.prog (bin .or 155 (.tmp 11) (.tmp 15) t11 t15) w fun t16 w =>
  mv t16 fun t4_1 =>
  k t4_1 w
theorem C.math_bits_RotateLeft32 {k : Value → World → Prop} {a0 a1 : Value} {w : World} (h : F.math_bits_RotateLeft32 k a0 a1 w) : C Tryz.prog N.math_bits_RotateLeft32 #[a0, a1] w k :=
  den_calls (H := { moves := [], vars := [4, 5] }) (args := [a0, a1]) mixed Tryz.func125 (by kernel_rfl) (by kernel_rfl) (by kernel_rfl) h

-- isthmus/frame.fault
-- isthmus/frame.sealed
def F.frame_sealed (k : Value → World → Prop) (a0 a1 : Value) (w : World) : Prop :=
  mv (.slice none 0 0) fun t4 =>
  mv a0 fun t5 =>
  mv a1 fun t6 =>
  ob Tryz.prog (fun _ => Builtin.append_ #[26, 26] 26 #[t5, t6]) w fun t7 w =>
  mv a1 fun t8 =>
  C Tryz.prog N.frame_Sum #[t8] w fun t9 w =>
  C Tryz.prog N.frame_put #[t7, t9] w fun t10 w =>
  mv t10 fun t4_1 =>
  k t4_1 w
theorem C.frame_sealed {k : Value → World → Prop} {a0 a1 : Value} {w : World} (h : F.frame_sealed k a0 a1 w) : C Tryz.prog N.frame_sealed #[a0, a1] w k :=
  den_calls (H := { moves := [], vars := [4] }) (args := [a0, a1]) mixed Tryz.func127 (by kernel_rfl) (by kernel_rfl) (by kernel_rfl) h

-- isthmus/frame.put
def F.frame_put (k : Value → World → Prop) (a0 a1 : Value) (w : World) : Prop :=
  mv (.slice none 0 0) fun t4 =>
  mv a0 fun t5 =>
  mv a1 fun t6 =>
  o1 Tryz.prog (bin .shr 155 (.tmp 6) (.const (.int .u64 24)) t6 (.int .u64 24)) w fun t7 w =>
  o1 Tryz.prog (convert 155 5 t7) w fun t8 w =>
  mv a1 fun t9 =>
  o1 Tryz.prog (bin .shr 155 (.tmp 9) (.const (.int .u64 16)) t9 (.int .u64 16)) w fun t10 w =>
  o1 Tryz.prog (convert 155 5 t10) w fun t11 w =>
  mv a1 fun t12 =>
  o1 Tryz.prog (bin .shr 155 (.tmp 12) (.const (.int .u64 8)) t12 (.int .u64 8)) w fun t13 w =>
  o1 Tryz.prog (convert 155 5 t13) w fun t14 w =>
  mv a1 fun t15 =>
  o1 Tryz.prog (convert 155 5 t15) w fun t16 w =>
  o1 Tryz.prog (Instr.buildSlice 26 4 #[(0, t8), (1, t11), (2, t14), (3, t16)]) w fun t17 w =>
  ob Tryz.prog (fun _ => Builtin.append_ #[26, 26] 26 #[t5, t17]) w fun t18 w =>
  mv t18 fun t4_1 =>
  k t4_1 w
theorem C.frame_put {k : Value → World → Prop} {a0 a1 : Value} {w : World} (h : F.frame_put k a0 a1 w) : C Tryz.prog N.frame_put #[a0, a1] w k :=
  den_calls (H := { moves := [], vars := [4] }) (args := [a0, a1]) mixed Tryz.func128 (by kernel_rfl) (by kernel_rfl) (by kernel_rfl) h

-- (*isthmus/files.FS).step
def F.files_FS_step (k : Value → World → Prop) (a0 : Value) (w : World) : Prop :=
  mv .nilIface fun t2 =>
  mv a0 fun t3 =>
  nilOk t3 = true ∧ mv t3 fun t4 =>
  o1 Tryz.prog (Instr.fieldAt 104 t4 2) w fun t5 w =>
  o1 Tryz.prog (Instr.loadAt 4 t5) w fun t6 w =>
  mv t6 fun t7 =>
  gd t7 true (fun k1 => mv a0 fun v => k1 v w) w fun t8 w =>
  gd t7 true (fun k2 => nilOk t8 = true ∧ mv t8 fun v => k2 v w) w fun t9 w =>
  gd t7 true (fun k3 => o1 Tryz.prog (Instr.fieldAt 104 t9 3) w k3) w fun t10 w =>
  gd t7 true (fun k4 => o1 Tryz.prog (Instr.loadAt 3 t10) w k4) w fun t11 w =>
  gd t7 true (fun k5 => o1 Tryz.prog (bin .eql 3 (.tmp 11) (.const (.int .i64 0)) t11 (.int .i64 0)) w k5) w fun t12 w =>
  pk t7 t12 (.bool false) fun t13 =>
  br t13 (fun _ =>
  mv a0 fun t14 =>
  nilOk t14 = true ∧ mv t14 fun t15 =>
  o1 Tryz.prog (Instr.fieldAt 104 t15 4) w fun t16 w =>
  o0 Tryz.prog (Instr.storeAt 4 t16 (.bool true)) w fun _ w =>
  C Tryz.prog N.files_fault #[.string ⟨#[]⟩, .int .i64 13] w fun t17 w =>
  mv t17 fun t2_1 =>
  k t2_1 w) (fun _ =>
  mv a0 fun t18 =>
  nilOk t18 = true ∧ mv t18 fun t19 =>
  o1 Tryz.prog (Instr.fieldAt 104 t19 3) w fun t20 w =>
  o1 Tryz.prog (Instr.loadAt 3 t20) w fun t21 w =>
  o1 Tryz.prog (bin .sub 3 (.tmp 21) (.const (.int .i64 1)) t21 (.int .i64 1)) w fun t22 w =>
  nilOk t18 = true ∧ mv t18 fun t23 =>
  o1 Tryz.prog (Instr.fieldAt 104 t23 3) w fun t24 w =>
  o0 Tryz.prog (Instr.storeAt 3 t24 t22) w fun _ w =>
  mv a0 fun t25 =>
  nilOk t25 = true ∧ mv t25 fun t26 =>
  o1 Tryz.prog (Instr.fieldAt 104 t26 1) w fun t27 w =>
  o1 Tryz.prog (Instr.loadAt 3 t27) w fun t28 w =>
  o1 Tryz.prog (bin .add 3 (.tmp 28) (.const (.int .i64 1)) t28 (.int .i64 1)) w fun t29 w =>
  nilOk t25 = true ∧ mv t25 fun t30 =>
  o1 Tryz.prog (Instr.fieldAt 104 t30 1) w fun t31 w =>
  o0 Tryz.prog (Instr.storeAt 3 t31 t29) w fun _ w =>
  mv .nilIface fun t2_2 =>
  k t2_2 w)
theorem C.files_FS_step {k : Value → World → Prop} {a0 : Value} {w : World} (h : F.files_FS_step k a0 w) : C Tryz.prog N.files_FS_step #[a0] w k :=
  den_calls (H := { moves := [], vars := [2] }) (args := [a0]) mixed Tryz.func129 (by kernel_rfl) (by kernel_rfl) (by kernel_rfl) h

-- (*isthmus/files.FS).Sync$1
def F.files_FS_Sync_1 (k : Value → World → Prop) (a0 a1 a2 : Value) (w : World) : Prop :=
  o1 Tryz.prog (Instr.box 114 a0) w fun t3 w =>
  dr w.drew fun S1 =>
  tk Tryz.prog S1 (Instr.loadAt 53 a1) fun t4 =>
  nilOk t4 = true ∧ mv t4 fun t5 =>
  tk Tryz.prog S1 (Instr.fieldAt 104 t5 0) fun t6 =>
  tk Tryz.prog S1 (Instr.loadAt 102 t6) fun t7 =>
  tk Tryz.prog S1 (Instr.loadAt 9 a2) fun t8 =>
  tk Tryz.prog S1 (Instr.fieldAt 114 t3 0) fun t9 =>
  tk Tryz.prog S1 (Instr.loadAt 26 t9) fun t10 =>
  tk Tryz.prog S1 (Instr.fieldAt 114 t3 0) fun t11 =>
  tk Tryz.prog S1 (Instr.loadAt 26 t11) fun t12 =>
  tk Tryz.prog S1 (Builtin.len_ #[26] 3 #[t12]) fun t13 =>
  tk Tryz.prog S1 (Instr.build 114 #[(0, t10), (1, t13)]) fun t14 =>
  o0 Tryz.prog (Instr.mapUpdate 102 t7 t8 t14) w.drew fun _ w =>
  k (.tuple #[]) w
theorem C.files_FS_Sync_1 {k : Value → World → Prop} {a0 a1 a2 : Value} {w : World} (h : F.files_FS_Sync_1 k a0 a1 a2 w) : C Tryz.prog N.files_FS_Sync_1 #[a0, a1, a2] w k :=
  den_calls (H := { moves := [(1, (.take 0 (.take 1 (.take 2 (.take 3 (.take 4 (.take 5 (.take 6 (.take 7 (.take 8 (.take 9 (.take 10 (.last 11)))))))))))))], vars := [] }) (args := [a0, a1, a2]) mixed Tryz.func130 (by kernel_rfl) (by kernel_rfl) (by kernel_rfl) h

-- isthmus/wots.first
def F.wots_first (k : Value → World → Prop) (a0 a1 a2 : Value) (w : World) : Prop :=
  o1 Tryz.prog (Instr.box 23 a0) w fun t3 w =>
  o1 Tryz.prog (Instr.alloc 23 true (.tuple #[])) w fun t6 w =>
  dr w.drew fun S1 =>
  tk Tryz.prog S1 (Instr.loadAt 23 t3) fun t9 =>
  mv a1 fun t11 =>
  tk Tryz.prog S1 (convert 3 79 t11) fun t12 =>
  mv a2 fun t14 =>
  tk Tryz.prog S1 (convert 3 79 t14) fun t15 =>
  C Tryz.prog N.pack_New #[] w.drew fun t8 w =>
  S1 w ∧
  C Tryz.prog N.pack_Writer_Hash #[t8, t9] w fun t10 w =>
  S1 w ∧
  C Tryz.prog N.pack_Writer_Uint #[t10, t12] w fun t13 w =>
  S1 w ∧
  C Tryz.prog N.pack_Writer_Uint #[t13, t15] w fun t16 w =>
  S1 w ∧
  mv t16 fun t7 =>
  o1 Tryz.prog (Instr.buildSlice 26 1 #[(0, .int .u8 2)]) w fun t17 w =>
  mv t7 fun t18 =>
  C Tryz.prog N.pack_Writer_Done #[t18] w fun t19 w =>
  ob Tryz.prog (fun _ => Builtin.append_ #[26, 26] 26 #[t17, t19]) w fun t20 w =>
  C Tryz.prog N.sha_Sum #[t20] w fun t21 w =>
  o0 Tryz.prog (Instr.storeAt 23 t6 t21) w fun _ w =>
  rc Tryz.prog 23 t6 w fun r0 =>
  k r0 w
theorem C.wots_first {k : Value → World → Prop} {a0 a1 a2 : Value} {w : World} (h : F.wots_first k a0 a1 a2 w) : C Tryz.prog N.wots_first #[a0, a1, a2] w k :=
  den_calls (H := { moves := [(1, (.take 1 (.take 3 (.take 4 (.take 6 (.take 7 (.force 0 (.force 2 (.force 5 (.force 8 (.take 9 .fin)))))))))))], vars := [7] }) (args := [a0, a1, a2]) mixed Tryz.func131 (by kernel_rfl) (by kernel_rfl) (by kernel_rfl) h

-- (*isthmus/pack.Writer).raw
def F.pack_Writer_raw (k : Value → World → Prop) (a0 a1 : Value) (w : World) : Prop :=
  mv (.pointer none) fun t4 =>
  mv a0 fun t5 =>
  o1 Tryz.prog (bin .neq 161 (.tmp 5) (.const (.pointer none)) t5 (.pointer none)) w fun t6 w =>
  jn (fun x1 => []) (fun k1 =>
  br t6 (fun _ =>
  mv a0 fun t7 =>
  mv a0 fun t8 =>
  nilOk t8 = true ∧ mv t8 fun t9 =>
  o1 Tryz.prog (Instr.fieldAt 217 t9 0) w fun t10 w =>
  o1 Tryz.prog (Instr.loadAt 26 t10) w fun t11 w =>
  mv a1 fun t12 =>
  ob Tryz.prog (fun _ => Builtin.append_ #[26, 26] 26 #[t11, t12]) w fun t13 w =>
  nilOk t7 = true ∧ mv t7 fun t14 =>
  o1 Tryz.prog (Instr.fieldAt 217 t14 0) w fun t15 w =>
  o0 Tryz.prog (Instr.storeAt 26 t15 t13) w fun _ w =>
  k1 [] w) (fun _ =>
  k1 [] w)) fun x1 w =>
  mv a0 fun t16 =>
  mv t16 fun t4_1 =>
  k t4_1 w
theorem C.pack_Writer_raw {k : Value → World → Prop} {a0 a1 : Value} {w : World} (h : F.pack_Writer_raw k a0 a1 w) : C Tryz.prog N.pack_Writer_raw #[a0, a1] w k :=
  den_calls (H := { moves := [], vars := [4] }) (args := [a0, a1]) mixed Tryz.func132 (by kernel_rfl) (by kernel_rfl) (by kernel_rfl) h

-- slices.ContainsFunc[[]byte,byte]
def F.slices_ContainsFunc_bytes (k : Value → World → Prop) (a0 a1 : Value) (w : World) : Prop :=
  mv (.bool false) fun t4 =>
  mv a0 fun t5 =>
  mv a1 fun t6 =>
  C Tryz.prog N.slices_IndexFunc_bytes #[t5, t6] w fun t7 w =>
  o1 Tryz.prog (bin .geq 3 (.tmp 7) (.const (.int .i64 0)) t7 (.int .i64 0)) w fun t8 w =>
  mv t8 fun t4_1 =>
  k t4_1 w
theorem C.slices_ContainsFunc_bytes {k : Value → World → Prop} {a0 a1 : Value} {w : World} (h : F.slices_ContainsFunc_bytes k a0 a1 w) : C Tryz.prog N.slices_ContainsFunc_bytes #[a0, a1] w k :=
  den_calls (H := { moves := [], vars := [4] }) (args := [a0, a1]) mixed Tryz.func133 (by kernel_rfl) (by kernel_rfl) (by kernel_rfl) h

-- isthmus/files.named$1
def F.files_named_1 (k : Value → World → Prop) (a0 : Value) (w : World) : Prop :=
  mv (.bool false) fun t2 =>
  mv a0 fun t3 =>
  o1 Tryz.prog (bin .lss 5 (.tmp 3) (.const (.int .u8 33)) t3 (.int .u8 33)) w fun t4 w =>
  mv t4 fun t5 =>
  gd t5 false (fun k1 => mv a0 fun v => k1 v w) w fun t6 w =>
  gd t5 false (fun k2 => o1 Tryz.prog (bin .gtr 5 (.tmp 6) (.const (.int .u8 126)) t6 (.int .u8 126)) w k2) w fun t7 w =>
  pk t5 (.bool true) t7 fun t8 =>
  mv t8 fun t2_1 =>
  k t2_1 w
theorem C.files_named_1 {k : Value → World → Prop} {a0 : Value} {w : World} (h : F.files_named_1 k a0 w) : C Tryz.prog N.files_named_1 #[a0] w k :=
  den_calls (H := { moves := [], vars := [2] }) (args := [a0]) mixed Tryz.func134 (by kernel_rfl) (by kernel_rfl) (by kernel_rfl) h

-- slices.Collect[string]
-- slices.Sort[[]string,string]
-- maps.Keys[map[string]isthmus/files.file,string,isthmus/files.file]$1
-- math/bits.Len32
-- math/bits.Len64
def F.math_bits_Len64 (k : Value → World → Prop) (a0 : Value) (w : World) : Prop :=
  mv (.int .i64 0) fun t2 =>
  mv a0 fun t3 =>
  o1 Tryz.prog (bin .geq 79 (.tmp 3) (.const (.int .u64 4294967296)) t3 (.int .u64 4294967296)) w fun t4 w =>
  jn (fun x1 => [x1 0, x1 2]) (fun k1 =>
  br t4 (fun _ =>
  mv a0 fun t5 =>
  o1 Tryz.prog (bin .shr 79 (.tmp 5) (.const (.int .u64 32)) t5 (.int .u64 32)) w fun t6 w =>
  mv t6 fun t0 =>
  mv (.int .i64 32) fun t2_1 =>
  k1 [t0, t2_1] w) (fun _ =>
  k1 [a0, t2] w)) fun x1 w =>
  mv (x1 0) fun t7 =>
  o1 Tryz.prog (bin .geq 79 (.tmp 7) (.const (.int .u64 65536)) t7 (.int .u64 65536)) w fun t8 w =>
  jn (fun x2 => [x2 0, x2 2]) (fun k2 =>
  br t8 (fun _ =>
  mv (x1 0) fun t9 =>
  o1 Tryz.prog (bin .shr 79 (.tmp 9) (.const (.int .u64 16)) t9 (.int .u64 16)) w fun t10 w =>
  mv t10 fun t0_1 =>
  mv (x1 2) fun t11 =>
  o1 Tryz.prog (bin .add 3 (.tmp 11) (.const (.int .i64 16)) t11 (.int .i64 16)) w fun t12 w =>
  mv t12 fun t2_2 =>
  k2 [t0_1, t2_2] w) (fun _ =>
  k2 [(x1 0), (x1 2)] w)) fun x2 w =>
  mv (x2 0) fun t13 =>
  o1 Tryz.prog (bin .geq 79 (.tmp 13) (.const (.int .u64 256)) t13 (.int .u64 256)) w fun t14 w =>
  jn (fun x3 => [x3 0, x3 2]) (fun k3 =>
  br t14 (fun _ =>
  mv (x2 0) fun t15 =>
  o1 Tryz.prog (bin .shr 79 (.tmp 15) (.const (.int .u64 8)) t15 (.int .u64 8)) w fun t16 w =>
  mv t16 fun t0_2 =>
  mv (x2 2) fun t17 =>
  o1 Tryz.prog (bin .add 3 (.tmp 17) (.const (.int .i64 8)) t17 (.int .i64 8)) w fun t18 w =>
  mv t18 fun t2_3 =>
  k3 [t0_2, t2_3] w) (fun _ =>
  k3 [(x2 0), (x2 2)] w)) fun x3 w =>
  mv (x3 2) fun t19 =>
  mv (x3 0) fun t20 =>
  o1 Tryz.prog (convert 79 5 t20) w fun t21 w =>
  o1 Tryz.prog (Instr.index 9 (.string ⟨#[0, 1, 2, 2, 3, 3, 3, 3, 4, 4, 4, 4, 4, 4, 4, 4, 5, 5, 5, 5, 5, 5, 5, 5, 5, 5, 5, 5, 5, 5, 5, 5, 6, 6, 6, 6, 6, 6, 6, 6, 6, 6, 6, 6, 6, 6, 6, 6, 6, 6, 6, 6, 6, 6, 6, 6, 6, 6, 6, 6, 6, 6, 6, 6, 7, 7, 7, 7, 7, 7, 7, 7, 7, 7, 7, 7, 7, 7, 7, 7, 7, 7, 7, 7, 7, 7, 7, 7, 7, 7, 7, 7, 7, 7, 7, 7, 7, 7, 7, 7, 7, 7, 7, 7, 7, 7, 7, 7, 7, 7, 7, 7, 7, 7, 7, 7, 7, 7, 7, 7, 7, 7, 7, 7, 7, 7, 7, 7, 8, 8, 8, 8, 8, 8, 8, 8, 8, 8, 8, 8, 8, 8, 8, 8, 8, 8, 8, 8, 8, 8, 8, 8, 8, 8, 8, 8, 8, 8, 8, 8, 8, 8, 8, 8, 8, 8, 8, 8, 8, 8, 8, 8, 8, 8, 8, 8, 8, 8, 8, 8, 8, 8, 8, 8, 8, 8, 8, 8, 8, 8, 8, 8, 8, 8, 8, 8, 8, 8, 8, 8, 8, 8, 8, 8, 8, 8, 8, 8, 8, 8, 8, 8, 8, 8, 8, 8, 8, 8, 8, 8, 8, 8, 8, 8, 8, 8, 8, 8, 8, 8, 8, 8, 8, 8, 8, 8, 8, 8, 8, 8, 8, 8, 8, 8, 8, 8, 8, 8, 8, 8, 8, 8, 8, 8, 8, 8]⟩) t21) w fun t22 w =>
  o1 Tryz.prog (convert 5 3 t22) w fun t23 w =>
  o1 Tryz.prog (bin .add 3 (.tmp 19) (.tmp 23) t19 t23) w fun t24 w =>
  mv t24 fun t2_4 =>
  k t2_4 w
theorem C.math_bits_Len64 {k : Value → World → Prop} {a0 : Value} {w : World} (h : F.math_bits_Len64 k a0 w) : C Tryz.prog N.math_bits_Len64 #[a0] w k :=
  den_calls (H := { moves := [], vars := [0, 2] }) (args := [a0]) mixed Tryz.func139 (by kernel_rfl) (by kernel_rfl) (by kernel_rfl) h

-- isthmus/frame.get
-- isthmus/frame.open
-- isthmus/frame.Sum
def F.frame_Sum (k : Value → World → Prop) (a0 : Value) (w : World) : Prop :=
  mv (.int .u32 0) fun t2 =>
  mv (.int .u32 4294967295) fun t3 =>
  mv a0 fun t6 =>
  o1 Tryz.prog (Builtin.len_ #[26] 3 #[t6]) w fun t7 w =>
  mv (.int .i64 0) fun t8 =>
  lp [t3, undef, t8, undef] w fun I1 μ1 => ∀ (x1 : Env) (w1 : World), I1 [x1 3, x1 5, x1 8, x1 16] w1 →
  o1 Tryz.prog (bin .lss 3 (.tmp 8) (.tmp 7) (x1 8) t7) w1 fun t9 w =>
  br t9 (fun _ =>
  o1 Tryz.prog (Instr.indexAt 26 t6 (x1 8)) w fun t10 w =>
  o1 Tryz.prog (Instr.loadAt 5 t10) w fun t11 w =>
  mv t11 fun t5 =>
  mv (x1 3) fun t12 =>
  mv t5 fun t13 =>
  o1 Tryz.prog (convert 5 155 t13) w fun t14 w =>
  o1 Tryz.prog (bin .xor 155 (.tmp 12) (.tmp 14) t12 t14) w fun t15 w =>
  mv t15 fun t3_1 =>
  mv (.int .i64 0) fun t16 =>
  lp [t3_1, t16] w fun I2 μ2 => ∀ (x2 : Env) (w2 : World), I2 [x2 3, x2 16] w2 →
  o1 Tryz.prog (bin .lss 3 (.tmp 16) (.const (.int .i64 8)) (x2 16) (.int .i64 8)) w2 fun t17 w =>
  br t17 (fun _ =>
  mv (x2 3) fun t18 =>
  o1 Tryz.prog (bin .shr 155 (.tmp 18) (.const (.int .u64 1)) t18 (.int .u64 1)) w fun t19 w =>
  mv (x2 3) fun t20 =>
  o1 Tryz.prog (bin .and 155 (.tmp 20) (.const (.int .u32 1)) t20 (.int .u32 1)) w fun t21 w =>
  o1 Tryz.prog (Op.unary .neg t21) w fun t22 w =>
  o1 Tryz.prog (bin .and 155 (.const (.int .u32 3988292384)) (.tmp 22) (.int .u32 3988292384) t22) w fun t23 w =>
  o1 Tryz.prog (bin .xor 155 (.tmp 19) (.tmp 23) t19 t23) w fun t24 w =>
  mv t24 fun t3_2 =>
  o1 Tryz.prog (bin .add 3 (.tmp 16) (.const (.int .i64 1)) (x2 16) (.int .i64 1)) w fun t25 w =>
  mv t25 fun t16_1 =>
  I2 [t3_2, t16_1] w ∧ μ2 [t3_2, t16_1] w < μ2 [x2 3, x2 16] w2) (fun _ =>
  o1 Tryz.prog (bin .add 3 (.tmp 8) (.const (.int .i64 1)) (x1 8) (.int .i64 1)) w fun t26 w =>
  mv t26 fun t8_1 =>
  I1 [(x2 3), t5, t8_1, (x2 16)] w ∧ μ1 [(x2 3), t5, t8_1, (x2 16)] w < μ1 [x1 3, x1 5, x1 8, x1 16] w1)) (fun _ =>
  mv (x1 3) fun t27 =>
  o1 Tryz.prog (Op.unary .xor t27) w fun t28 w =>
  mv t28 fun t2_1 =>
  k t2_1 w)
theorem C.frame_Sum {k : Value → World → Prop} {a0 : Value} {w : World} (h : F.frame_Sum k a0 w) : C Tryz.prog N.frame_Sum #[a0] w k :=
  den_calls (H := { moves := [], vars := [2, 3, 5, 8, 16] }) (args := [a0]) mixed Tryz.func142 (by kernel_rfl) (by kernel_rfl) (by kernel_rfl) h

-- slices.IndexFunc[[]byte,byte]
def F.slices_IndexFunc_bytes (k : Value → World → Prop) (a0 a1 : Value) (w : World) : Prop :=
  mv (.int .i64 0) fun t4 =>
  mv a0 fun t6 =>
  o1 Tryz.prog (Builtin.len_ #[26] 3 #[t6]) w fun t7 w =>
  mv (.int .i64 0) fun t8 =>
  lp [t4, undef, t8] w fun I1 μ1 => ∀ (x1 : Env) (w1 : World), I1 [x1 4, x1 5, x1 8] w1 →
  o1 Tryz.prog (bin .lss 3 (.tmp 8) (.tmp 7) (x1 8) t7) w1 fun t9 w =>
  br t9 (fun _ =>
  mv (x1 8) fun t10 =>
  mv t10 fun t5 =>
  mv a1 fun t11 =>
  mv a0 fun t12 =>
  mv t5 fun t13 =>
  o1 Tryz.prog (Instr.indexAt 26 t12 t13) w fun t14 w =>
  o1 Tryz.prog (Instr.loadAt 5 t14) w fun t15 w =>
  cv Tryz.prog t11 #[t15] w fun t16 w =>
  br t16 (fun _ =>
  mv t5 fun t17 =>
  mv t17 fun t4_1 =>
  k t4_1 w) (fun _ =>
  o1 Tryz.prog (bin .add 3 (.tmp 8) (.const (.int .i64 1)) (x1 8) (.int .i64 1)) w fun t18 w =>
  mv t18 fun t8_1 =>
  I1 [(x1 4), t5, t8_1] w ∧ μ1 [(x1 4), t5, t8_1] w < μ1 [x1 4, x1 5, x1 8] w1)) (fun _ =>
  mv (.int .i64 (-1)) fun t4_2 =>
  k t4_2 w)
theorem C.slices_IndexFunc_bytes {k : Value → World → Prop} {a0 a1 : Value} {w : World} (h : F.slices_IndexFunc_bytes k a0 a1 w) : C Tryz.prog N.slices_IndexFunc_bytes #[a0, a1] w k :=
  den_calls (H := { moves := [], vars := [4, 5, 8] }) (args := [a0, a1]) mixed Tryz.func143 (by kernel_rfl) (by kernel_rfl) (by kernel_rfl) h

-- slices.pdqsortOrdered[string]
-- slices.insertionSortOrdered[string]
-- slices.heapSortOrdered[string]
-- slices.breakPatternsOrdered[string]
-- slices.choosePivotOrdered[string]
-- slices.reverseRangeOrdered[string]
-- slices.partialInsertionSortOrdered[string]
-- cmp.Less[string]
-- slices.partitionEqualOrdered[string]
-- slices.partitionOrdered[string]
-- slices.siftDownOrdered[string]
-- slices.nextPowerOfTwo
-- (*slices.xorshift).Next
-- slices.medianAdjacentOrdered[string]
-- slices.medianOrdered[string]
-- cmp.isNaN[string]
-- slices.order2Ordered[string]
-- (*isthmus/api.Fault).Unwrap
def F.api_Fault_Unwrap (k : Value → World → Prop) (a0 : Value) (w : World) : Prop :=
  mv .nilIface fun t2 =>
  mv a0 fun t3 =>
  nilOk t3 = true ∧ mv t3 fun t4 =>
  o1 Tryz.prog (Instr.fieldAt 138 t4 1) w fun t5 w =>
  o1 Tryz.prog (Instr.loadAt 30 t5) w fun t6 w =>
  mv t6 fun t2_1 =>
  k t2_1 w
theorem C.api_Fault_Unwrap {k : Value → World → Prop} {a0 : Value} {w : World} (h : F.api_Fault_Unwrap k a0 w) : C Tryz.prog N.api_Fault_Unwrap #[a0] w k :=
  den_calls (H := { moves := [], vars := [2] }) (args := [a0]) mixed Tryz.func185 (by kernel_rfl) (by kernel_rfl) (by kernel_rfl) h

-- gosem.cut.vars
end Go.Proofs.YtbbmgkbinnomgaaGreatDoor
